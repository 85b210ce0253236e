/- Texts of the claim, joined: The walks of batch sp1 and others. -/
import Derived.Test.YtcpjomkcdlggaaaGreatH53
import Derived.Test.YtcpjomkcdlggaaaGreatPart24
import Derived.Test.YtcpjomkcdlggaaaGreatPart22
import Derived.Test.YtcpjomkcdlggaaaGreatChecked
import Derived.Test.YtcpjomkcdlggaaaGreatH35
import Derived.Test.YtcpjomkcdlggaaaGreatPart36
import Derived.Test.YtcpjomkcdlggaaaGreatPart38
import Derived.Test.YtcpjomkcdlggaaaGreatPart39
import Derived.Test.YtcpjomkcdlggaaaGreatPart40
import Derived.Test.YtcpjomkcdlggaaaGreatPart27
import Derived.Test.YtcpjomkcdlggaaaGreatPart42
import Derived.Test.YtcpjomkcdlggaaaGreatH41
import Derived.Test.YtcpjomkcdlggaaaGreatPart21
import Derived.Test.YtcpjomkcdlggaaaGreatPart41
import Derived.Test.YtcpjomkcdlggaaaGreatH45
import Derived.Test.YtcpjomkcdlggaaaGreatPart20
import Derived.Test.YtcpjomkcdlggaaaGreatH36
namespace Go.Proofs.YtcpjomkcdlggaaaGreat
set_option linter.all false
open Go.H
open IntKind (i64)
set_option maxRecDepth 10000
set_option maxHeartbeats 0
theorem L0h(h:Hp)(csp0:List Value)(p0:z0)(rp0:L1.R h csp0 p0)(ap1:Option Addr)(np1 cp1:Nat)(p1:H0)(rp1:I0.R h [.slice ap1 np1 cp1] p1)(r:H0×Bool)(hM0:I03 p0 p1=some r):
  Tr Tryz.prog 133 #[.agg csp0.toArray,.slice ap1 np1 cp1] h λv h'=>∃(a0:Option Addr) (n0 c0:Nat),v = .tuple #[.slice a0 n0 c0,.bool r.2]/\New I0 h h' [.slice a0 n0 c0] r.1:=by
 obtain⟨p0_0,p0_1,ap0_2,np0_2,cp0_2,p0_2,rfl,rfl,ip0_0,ip0_1,rp0_2⟩:=W0 rp0
 obtain⟨rfl,lp0_2⟩:=Sl.len rp0_2
 obtain⟨rfl,lp1⟩:=Sl.len rp1
 unfold I03 at hM0
 dsimp only at hM0
 refine E4 (args:=[.agg #[.int .i64 p0_0,.int .i64 p0_1,.slice ap0_2 p0_2.length cp0_2],.slice ap1 p1.length cp1]) (fn:=Tryz.f133) rfl ?_
 refine trM hM0 (v04 _ ap1 p1.length cp1 p1 rp1) ?_
 rintro x1 hM0 v3 k2 ⟨ax1,nx1,cx1,rfl,wx1⟩
 have sx1:Sub h k2:=wx1.sub
 have rx1:=wx1.r
 obtain⟨rfl,lx1⟩:=Sl.len rx1
 refine trV hM0 (q04 _ _ _ (C0 ip0_0 ip0_1 (M0.mono sx1 rp0_2)) _ _ _ _ rx1) λx4 hM0=>?_
 refine ifB hM0 (λhc5 hM0=>?_) λhc5 hM0=>?_
 ·intro v6 k7 f8
  obtain⟨az9,cz9,rfl,rz9,sz9,lz9⟩:=Y0.out (r:=Wp.int.toRp) f8 (F2.up (r:=Wp.int.toRp) sx1 (show F2 (Wp.int.R h) ([]:List (List Value)) ([]:H0) from trivial))
  obtain rfl:=oJ hM0
  exact⟨az9,(([]:H0)).length,cz9,rfl,(New.from (Y0.newPlain (r:=Wp.int) f8 (F2.up (r:=Wp.int.toRp) sx1 (show F2 (Wp.int.R h) ([]:List (List Value)) ([]:H0) from trivial)) (n05 _)) sx1)⟩
 ·refine trM hM0 (z09 _ _ _ (C0 ip0_0 ip0_1 (M0.mono sx1 rp0_2))) ?_
  rintro x10 hM0 v12 k11 ⟨ax10,nx10,cx10,rfl,rx10,sx10⟩
  obtain⟨rfl,lx10⟩:=Sl.len rx10
  obtain⟨X13,hLX13,hM0⟩:=B0 hM0
  refine eX { vars:=[9,10],boxes:=[],owns:=[0],fuel:=true } (eX (λvs os h'=>∃ u14 u15 wu16 u16,vs.tail = [.int .i64 u14,.int .i64 u15]/\os = [wu16]/\Sub k11 h'/\F0 u14/\F0 u15/\F2 (Wp.int.R h') wu16 u16/\r8 x1 p0_0 p0_1 p0_2 x10 (N1 vs) u14 u15 u16=some X13) (eX (λ_ _=>0) (aI (eX P0 ⟨0,0,[],([]:H0),rfl,rfl,(Sub.refl _),(by decide),(by decide),(F2.up (r:=Wp.int.toRp) (sx1.trans sx10) (show F2 (Wp.int.R h) ([]:List (List Value)) ([]:H0) from trivial)),hLX13⟩) ?_)))
  rintro _ _ wu16 m18 k17 ⟨u14,u15,zzu16,u16,⟨⟩,⟨⟩,sX13,iu14,iu15,fu16,hM1⟩
  replace hM1:r8 x1 p0_0 p0_1 p0_2 x10 m18 u14 u15 u16=some X13:=hM1
  obtain _|m18:=m18
  ·cases hM1
  rw[r8.eq_2]at hM1
  refine ifB hM1 (λhc19 hM1=>?_) λhc19 hM1=>?_
  ·refine Or.inl (aI (aI (by kernel_rfl) (by kernel_rfl)) ?_)
   refine ldI hM1 (I0.mono (sx10.trans sX13) rx1) λx20 ix20 hM1=>?_
   obtain⟨x21,gx21,hM1⟩:=B0 hM1
   refine eX (.int .i64 x21) (aI (W6 _ _ _ (C0 ip0_0 ip0_1 (M0.mono ((sx1.trans sx10).trans sX13) rp0_2)) _ iu14 _ ix20 _  gx21) ?_)
   obtain⟨q22,gq22,hM1⟩:=B0 hM1
   have ix21:F0 x21:=K0 gq22
   obtain⟨X23,hLX23,hM1⟩:=B0 hM1
   refine eX { vars:=[12],boxes:=[],owns:=[0],fuel:=true } (eX (λvs os h'=>∃ u24 wu25 u25,vs.tail = [.int .i64 u24]/\os = [wu25]/\Sub k17 h'/\F0 u24/\F2 (Wp.int.R h') wu25 u25/\o5 x10 x1 u15 u14 x21 (N1 vs) u24 u25=some X23) (eX (λ_ _=>0) (aI (eX P0 ⟨0,wu16,u16,rfl,rfl,(Sub.refl _),(by decide),fu16,hLX23⟩) ?_)))
   rintro _ wu25 m27 k26 ⟨u24,zzu25,u25,⟨⟩,⟨⟩,sX23,iu24,fu25,hM2⟩
   replace hM2:o5 x10 x1 u15 u14 x21 m27 u24 u25=some X23:=hM2
   obtain _|m27:=m27
   ·cases hM2
   rw[o5.eq_2]at hM2
   refine ifB hM2 (λhc28 hM2=>?_) λhc28 hM2=>?_
   ·refine Or.inl (aI (aI (by kernel_rfl) (by kernel_rfl)) ?_)
    refine ldI hM2 (I0.mono ((sx10.trans sX13).trans sX23) rx1) λx29 ix29 hM2=>?_
    obtain⟨x30,gx30,hM2⟩:=B0 hM2
    obtain⟨csx30,ex30,rx30⟩:=Sl.getG (r:=J1.toRp) (M0.mono (sX13.trans sX23) rx10) gx30 (by decide) (Y0a k26)
    refine aI (λq=>(ex30 q).1) ?_
    obtain⟨x30_0,x30_1,x30_2,rfl,rfl,ix30_0,ix30_1,ix30_2⟩:=C2 rx30
    try dsimp only at hM2
    refine eX _ (aI (λq=>(ex30 q).2) ?_)
    refine ldG hM2 (I0.mono ((sx10.trans sX13).trans sX23) rx1) λx31 ix31 hM2=>?_
    refine eX (eqE (x30_0,x30_1,x30_2) (u14,x31,x21)) (aI (λ_=>(k0b _ _ _ rfl _ _ _ _ _ _)) ?_)
    refine ifB hM2 (λhc32 hM2=>?_) λhc32 hM2=>?_
    ·obtain⟨q33,gq33,hM2⟩:=B0 hM2
     refine aI (M1 gq33 (by first|rw[F2.length fu25,F2.length (show F2 (Wp.int.R k26) ([[.int .i64 (IntKind.i64.wrap (u24+1))]]:List (List Value)) [(IntKind.i64.wrap (u24+1))] from⟨⟨rfl,(J0 _)⟩,trivial⟩)]|exact congrArg (·+1) (F2.length fu25))) ?_
     refine Or.inl (aI (aI (by kernel_rfl) (by kernel_rfl)) ?_)
     refine ldI hM2 (I0.mono ((sx10.trans sX13).trans sX23) rx1) λx34 ix34 hM2=>?_
     obtain⟨x35,gx35,hM2⟩:=B0 hM2
     obtain⟨csx35,ex35,rx35⟩:=Sl.getG (r:=J1.toRp) (M0.mono (sX13.trans sX23) rx10) gx35 (by decide) (Y0a k26)
     refine aI (λq=>(ex35 q).1) ?_
     obtain⟨x35_0,x35_1,x35_2,rfl,rfl,ix35_0,ix35_1,ix35_2⟩:=C2 rx35
     try dsimp only at hM2
     refine eX _ (aI (λq=>(ex35 q).2) ?_)
     refine ldG hM2 (I0.mono ((sx10.trans sX13).trans sX23) rx1) λx36 ix36 hM2=>?_
     refine eX (eqE (x35_0,x35_1,x35_2) (x21,(IntKind.i64.wrap (0-x36)),u14)) (aI (λ_=>(k0b _ _ _ rfl _ _ _ _ _ _)) ?_)
     refine ifB hM2 (λhc37 hM2=>?_) λhc37 hM2=>?_
     ·obtain⟨q38,gq38,hM2⟩:=B0 hM2
      refine aI (M1 gq38 (by first|rw[F2.length (F2.append fu25 (show F2 (Wp.int.R k26) ([[.int .i64 (IntKind.i64.wrap (u24+1))]]:List (List Value)) [(IntKind.i64.wrap (u24+1))] from⟨⟨rfl,(J0 _)⟩,trivial⟩)),F2.length (show F2 (Wp.int.R k26) ([[.int .i64 (IntKind.i64.wrap ((IntKind.i64.wrap (0-u24))-1))]]:List (List Value)) [(IntKind.i64.wrap ((IntKind.i64.wrap (0-u24))-1))] from⟨⟨rfl,(J0 _)⟩,trivial⟩)]|exact congrArg (·+1) (F2.length (F2.append fu25 (show F2 (Wp.int.R k26) ([[.int .i64 (IntKind.i64.wrap (u24+1))]]:List (List Value)) [(IntKind.i64.wrap (u24+1))] from⟨⟨rfl,(J0 _)⟩,trivial⟩))))) ?_
      exact V1 m27 ⟨(IntKind.i64.wrap (u24+1)),((wu25++([[.int .i64 (IntKind.i64.wrap (u24+1))]]:List (List Value)))++([[.int .i64 (IntKind.i64.wrap ((IntKind.i64.wrap (0-u24))-1))]]:List (List Value))),((u25 ++ [(IntKind.i64.wrap (u24+1))]) ++ [(IntKind.i64.wrap ((IntKind.i64.wrap (0-u24))-1))]),rfl,rfl,sX23,(J0 _),(F2.append (F2.append fu25 (show F2 (Wp.int.R k26) ([[.int .i64 (IntKind.i64.wrap (u24+1))]]:List (List Value)) [(IntKind.i64.wrap (u24+1))] from⟨⟨rfl,(J0 _)⟩,trivial⟩)) (show F2 (Wp.int.R k26) ([[.int .i64 (IntKind.i64.wrap ((IntKind.i64.wrap (0-u24))-1))]]:List (List Value)) [(IntKind.i64.wrap ((IntKind.i64.wrap (0-u24))-1))] from⟨⟨rfl,(J0 _)⟩,trivial⟩)),hM2⟩
     ·exact V1 m27 ⟨(IntKind.i64.wrap (u24+1)),(wu25++([[.int .i64 (IntKind.i64.wrap (u24+1))]]:List (List Value))),(u25 ++ [(IntKind.i64.wrap (u24+1))]),rfl,rfl,sX23,(J0 _),(F2.append fu25 (show F2 (Wp.int.R k26) ([[.int .i64 (IntKind.i64.wrap (u24+1))]]:List (List Value)) [(IntKind.i64.wrap (u24+1))] from⟨⟨rfl,(J0 _)⟩,trivial⟩)),hM2⟩
    ·refine Or.inl (aI (aI (by kernel_rfl) (by kernel_rfl)) ?_)
     refine ldI hM2 (I0.mono ((sx10.trans sX13).trans sX23) rx1) λx39 ix39 hM2=>?_
     obtain⟨x40,gx40,hM2⟩:=B0 hM2
     obtain⟨csx40,ex40,rx40⟩:=Sl.getG (r:=J1.toRp) (M0.mono (sX13.trans sX23) rx10) gx40 (by decide) (Y0a k26)
     refine aI (λq=>(ex40 q).1) ?_
     obtain⟨x40_0,x40_1,x40_2,rfl,rfl,ix40_0,ix40_1,ix40_2⟩:=C2 rx40
     try dsimp only at hM2
     refine eX _ (aI (λq=>(ex40 q).2) ?_)
     refine ldG hM2 (I0.mono ((sx10.trans sX13).trans sX23) rx1) λx41 ix41 hM2=>?_
     refine eX (eqE (x40_0,x40_1,x40_2) (x21,(IntKind.i64.wrap (0-x41)),u14)) (aI (λ_=>(k0b _ _ _ rfl _ _ _ _ _ _)) ?_)
     refine ifB hM2 (λhc42 hM2=>?_) λhc42 hM2=>?_
     ·obtain⟨q43,gq43,hM2⟩:=B0 hM2
      refine aI (M1 gq43 (by first|rw[F2.length fu25,F2.length (show F2 (Wp.int.R k26) ([[.int .i64 (IntKind.i64.wrap ((IntKind.i64.wrap (0-u24))-1))]]:List (List Value)) [(IntKind.i64.wrap ((IntKind.i64.wrap (0-u24))-1))] from⟨⟨rfl,(J0 _)⟩,trivial⟩)]|exact congrArg (·+1) (F2.length fu25))) ?_
      exact V1 m27 ⟨(IntKind.i64.wrap (u24+1)),(wu25++([[.int .i64 (IntKind.i64.wrap ((IntKind.i64.wrap (0-u24))-1))]]:List (List Value))),(u25 ++ [(IntKind.i64.wrap ((IntKind.i64.wrap (0-u24))-1))]),rfl,rfl,sX23,(J0 _),(F2.append fu25 (show F2 (Wp.int.R k26) ([[.int .i64 (IntKind.i64.wrap ((IntKind.i64.wrap (0-u24))-1))]]:List (List Value)) [(IntKind.i64.wrap ((IntKind.i64.wrap (0-u24))-1))] from⟨⟨rfl,(J0 _)⟩,trivial⟩)),hM2⟩
     ·exact V1 m27 ⟨(IntKind.i64.wrap (u24+1)),wu25,u25,rfl,rfl,sX23,(J0 _),fu25,hM2⟩
   ·obtain rfl:=oJ hM2
    try dsimp only[Q0,T0]at hM1
    exact V1 m18 ⟨x21,(IntKind.i64.wrap (u15+1)),wu25,u25,rfl,rfl,(sX13.trans sX23),ix21,(J0 _),fu25,hM1⟩
  ·obtain rfl:=oJ hM1
   try dsimp only[Q0,T0]at hM0
   refine Or.inl ?_
   intro v48 k49 f50
   obtain⟨az51,cz51,rfl,rz51,sz51,lz51⟩:=Y0.out (r:=Wp.int.toRp) f50 fu16
   refine trM hM0 (v04 _ az51 u16.length cz51 u16 rz51) ?_
   rintro x52 hM0 v54 k53 ⟨ax52,nx52,cx52,rfl,wx52⟩
   have sx52:Sub k49 k53:=wx52.sub
   have rx52:=wx52.r
   obtain⟨rfl,lx52⟩:=Sl.len rx52
   obtain rfl:=oJ hM0
   exact⟨ax52,x52.length,cx52,rfl,(New.from wx52 (((sx1.trans sx10).trans sX13).trans sz51))⟩
def a0l(h:Hp)(csp0:List Value)(p0:z0)(rp0:L1.R h csp0 p0)(ap1:Option Addr)(np1 cp1:Nat)(p1:H0)(rp1:I0.R h [.slice ap1 np1 cp1] p1)(r:z0×Bool)(hM0:U04 p0 p1=some r):
  Tr Tryz.prog 196 #[.agg csp0.toArray,.slice ap1 np1 cp1] h λv h'=>∃(cs0:List Value),v = .tuple #[.agg cs0.toArray,.bool r.2]/\L1.R h' cs0 r.1/\Sub h h':=by
 obtain⟨p0_0,p0_1,ap0_2,cp0_2,p0_2,rfl,rfl,ip0_0,ip0_1,rp0_2,lp0_2⟩:=opG rp0
 obtain⟨rfl,lp1⟩:=sL rp1
 unfold U04 at hM0
 dsimp only at hM0
 refine wk Tryz.f196 ?_
 refine trV hM0 (A09 _ _ _ (C0 ip0_0 ip0_1 rp0_2) 0 (by decide) _ _ _ _ rp1) λx1 hM0=>?_
 obtain⟨q2,gq2,hM0⟩:=B0 hM0
 have ix1:F0 x1:=K0 gq2
 refine ifB hM0 (λhc3 hM0=>?_) λhc3 hM0=>?_
 ·refine trM hM0 (G5 _ _ _ (C0 ip0_0 ip0_1 rp0_2)) ?_
  rintro x4 hM0 v6 k5 ⟨csx4,rfl,wx4⟩
  have sx4:Sub h k5:=wx4.sub
  have rx4:=wx4.r
  obtain⟨x4_0,x4_1,ax4_2,cx4_2,x4_2,rfl,rfl,ix4_0,ix4_1,rx4_2,lx4_2⟩:=opG rx4
  try dsimp only at hM0
  cases hM0
  exact⟨_,rfl,(C0 ix4_0 ix4_1 rx4_2),sx4⟩
 ·refine w4 ?_
  obtain⟨x7,gx7,hM0⟩:=B0 hM0
  refine fS I0 x7 ?_ ?_
  ·intro k8 s9
   obtain⟨qx7,vsx7,ex7,fx7⟩:=Sl.cutI (r:=Wp.int.toRp) (I0.mono s9 rp1) gx7
   refine aI qx7 (eX vsx7 (aI ex7 ?_))
   intro v hv _
   obtain⟨a,c,rfl,r⟩:=fx7 v hv
   exact aI t6 (aI sr ⟨a,c,rfl,r,(sL r).2⟩)
  obtain⟨x10,gx10,hM0⟩:=B0 hM0
  obtain⟨x10_0,x10_1⟩:=x10
  try dsimp only at hM0
  obtain⟨q11,gq11,hM0⟩:=B0 hM0
  have ix10_0:F0 x10_0:=K0 gq11
  refine pm (.val (.tuple #[iV x10_0,.bool x10_1])) ?_ ?_
  ·intro k12 s13
   rintro _ ⟨az14,cz14,rfl,rz14,lz14⟩
   exact Tr.val (O07 _ _ _ (C0 ip0_0 ip0_1 (M0.mono s13 rp0_2)) 0 (by decide) _ _ _ _ rz14 _ gx10) r3
  refine pm (.val (iV x10_0)) ?_ ?_
  ·intro k15 s16
   exact r3
  refine pm (.val (.bool x10_1)) ?_ ?_
  ·intro k17 s18
   exact r3
  intro k19 s20
  rintro _ _
  refine trM hM0 (E0a _ _ _ (C0 ip0_0 ip0_1 (M0.mono s20 rp0_2))) ?_
  rintro x21 hM0 v23 k22 ⟨csx21_0,rfl,rx21_0,sx21⟩
  obtain⟨x21_0,x21_1⟩:=x21
  dsimp only at hM0 rx21_0
  obtain⟨x21_0_0,x21_0_1,ax21_0_2,cx21_0_2,x21_0_2,rfl,rfl,ix21_0_0,ix21_0_1,rx21_0_2,lx21_0_2⟩:=opG rx21_0
  try dsimp only at hM0
  refine ifB hM0 (λhc24 hM0=>?_) λhc24 hM0=>?_
  ·cases hM0
   exact⟨_,rfl,(C0 (by decide) (by decide) (E0d J1 k22)),(s20.trans sx21)⟩
  ·refine w5 12 ?_
   obtain⟨x25,gx25,hM0⟩:=B0 hM0
   refine fS I0 x25 ?_ ?_
   ·intro k26 s27
    obtain⟨qx25,vsx25,ex25,fx25⟩:=Sl.cutI (r:=Wp.int.toRp) (I0.mono ((s20.trans sx21).trans s27) rp1) gx25
    refine aI qx25 (eX vsx25 (aI ex25 ?_))
    intro v hv _
    obtain⟨a,c,rfl,r⟩:=fx25 v hv
    exact aI t6 (aI sr ⟨a,c,rfl,r,(sL r).2⟩)
   obtain⟨x28,gx28,hM0⟩:=B0 hM0
   obtain⟨x28_0,x28_1⟩:=x28
   try dsimp only at hM0
   obtain⟨x28_0_0,x28_0_1,x28_0_2⟩:=x28_0
   try dsimp only at hM0
   refine Or.inr (eX (λv hh=>∃(ux28_0:Value),v = .tuple #[ux28_0,.bool x28_1]/\(λv hh=>∃(ax28_0_2:Option Addr) (cx28_0_2:Nat),v = .agg #[iV x28_0_0,iV x28_0_1,.slice ax28_0_2 x28_0_2.length cx28_0_2]/\F0 x28_0_0/\F0 x28_0_1/\M0.R hh [.slice ax28_0_2 x28_0_2.length cx28_0_2] x28_0_2/\x28_0_2.length<=9223372036854775807) ux28_0 hh) (aI (λv h1 h2 sb q=>by obtain⟨ux28_0,e,fux28_0⟩:=q;exact⟨ux28_0,e,(by obtain⟨ax28_0_2,cx28_0_2,e,f0,f1,f2,f3⟩:=fux28_0;exact⟨ax28_0_2,cx28_0_2,e,f0,f1,M0.mono sb f2,f3⟩)⟩) (aI ?_ ?_)))
   ·intro k29 s30
    rintro _ ⟨az31,cz31,rfl,rz31,lz31⟩
    refine Tr.mono (U08 _ _ _ (C0 ix21_0_0 ix21_0_1 (M0.mono s30 rx21_0_2)) _ ix10_0 _ _ _ _ rz31 _ ip0_1 _ gx28) ?_
    rintro _ kk ⟨csx28_0,rfl,rx28_0,sb⟩
    obtain⟨yx28_0_0,yx28_0_1,ayx28_0_2,cyx28_0_2,yx28_0_2,rfl,ey,iyx28_0_0,iyx28_0_1,ryx28_0_2,lyx28_0_2⟩:=opG rx28_0
    cases ey
    exact aI t6 (aI sb ⟨(.agg #[iV x28_0_0,iV x28_0_1,.slice ayx28_0_2 x28_0_2.length cyx28_0_2]),rfl,⟨ayx28_0_2,cyx28_0_2,rfl,iyx28_0_0,iyx28_0_1,ryx28_0_2,lyx28_0_2⟩⟩)
   refine Or.inr (eX (λv hh=>∃(ux28_0:Value),v = .tuple #[ux28_0,.bool x28_1]/\(λv hh=>∃(ax28_0_2:Option Addr) (cx28_0_2:Nat),v = .agg #[iV x28_0_0,iV x28_0_1,.slice ax28_0_2 x28_0_2.length cx28_0_2]/\F0 x28_0_0/\F0 x28_0_1/\M0.R hh [.slice ax28_0_2 x28_0_2.length cx28_0_2] x28_0_2/\x28_0_2.length<=9223372036854775807) ux28_0 hh) (aI (λv h1 h2 sb q=>by obtain⟨ux28_0,e,fux28_0⟩:=q;exact⟨ux28_0,e,(by obtain⟨ax28_0_2,cx28_0_2,e,f0,f1,f2,f3⟩:=fux28_0;exact⟨ax28_0_2,cx28_0_2,e,f0,f1,M0.mono sb f2,f3⟩)⟩) (aI ?_ ?_)))
   ·intro k32 s33
    rintro _ ⟨_,rfl,⟨az34p02,cz34p02,rfl,iz34p00,iz34p01,rz34p02,lz34p02⟩⟩
    exact aI t6 (aI sr ⟨(.agg #[iV x28_0_0,iV x28_0_1,.slice az34p02 x28_0_2.length cz34p02]),rfl,⟨az34p02,cz34p02,rfl,iz34p00,iz34p01,rz34p02,lz34p02⟩⟩)
   refine Or.inr (eX (λv hh=>∃(ax28_0_2:Option Addr) (cx28_0_2:Nat),v = .agg #[iV x28_0_0,iV x28_0_1,.slice ax28_0_2 x28_0_2.length cx28_0_2]/\F0 x28_0_0/\F0 x28_0_1/\M0.R hh [.slice ax28_0_2 x28_0_2.length cx28_0_2] x28_0_2/\x28_0_2.length<=9223372036854775807) (aI (λv h1 h2 sb q=>by obtain⟨ax28_0_2,cx28_0_2,e,f0,f1,f2,f3⟩:=q;exact⟨ax28_0_2,cx28_0_2,e,f0,f1,M0.mono sb f2,f3⟩) (aI ?_ ?_)))
   ·intro k35 s36
    rintro _ ⟨_,rfl,⟨az37p02,cz37p02,rfl,iz37p00,iz37p01,rz37p02,lz37p02⟩⟩
    exact aI t6 (aI sr ⟨az37p02,cz37p02,rfl,iz37p00,iz37p01,rz37p02,lz37p02⟩)
   refine pm (.val (.bool x28_1)) ?_ ?_
   ·intro k38 s39
    rintro _ ⟨_,rfl,⟨az40p02,cz40p02,rfl,iz40p00,iz40p01,rz40p02,lz40p02⟩⟩
    exact r3
   intro k41 s42
   rintro _ ⟨az432,cz432,rfl,iz430,iz431,rz432,lz432⟩
   rintro _ _
   rintro _ _
   rintro _ _
   cases hM0
   exact⟨_,rfl,(C0 iz430 iz431 rz432),((s20.trans sx21).trans s42)⟩
def Z0c(h:Hp)(csp0:List Value)(p0:z0)(rp0:L1.R h csp0 p0)(r:z0×Bool)(hM0:b00 p0=some r):
  Tr Tryz.prog 197 #[.agg csp0.toArray] h λv h'=>∃(cs0:List Value),v = .tuple #[.agg cs0.toArray,.bool r.2]/\L1.R h' cs0 r.1/\Sub h h':=by
 obtain⟨p0_0,p0_1,ap0_2,cp0_2,p0_2,rfl,rfl,ip0_0,ip0_1,rp0_2,lp0_2⟩:=opG rp0
 unfold b00 at hM0
 dsimp only at hM0
 refine wk Tryz.f197 ?_
 refine trV hM0 (F7 _ _ _ (C0 ip0_0 ip0_1 rp0_2)) λx1 hM0=>?_
 refine ifB hM0 (λhc2 hM0=>?_) λhc2 hM0=>?_
 ·cases hM0
  exact⟨_,rfl,(C0 (by decide) (by decide) (E0d J1 h)),sr⟩
 ·refine trM hM0 (G5 _ _ _ (C0 ip0_0 ip0_1 rp0_2)) ?_
  rintro x3 hM0 v5 k4 ⟨csx3,rfl,wx3⟩
  have sx3:Sub h k4:=wx3.sub
  have rx3:=wx3.r
  obtain⟨x3_0,x3_1,ax3_2,cx3_2,x3_2,rfl,rfl,ix3_0,ix3_1,rx3_2,lx3_2⟩:=opG rx3
  try dsimp only at hM0
  obtain⟨X6,hLX6,hM0⟩:=B0 hM0
  refine eX { vars:=[5],boxes:=[2] } (eX (λvs os h'=>∃ u7 u8 u9 au10 nu10 cu10 u10,vs.tail = [iV u7,iV u8,iV u9,.slice au10 nu10 cu10]/\os = []/\Sub k4 h'/\F0 u7/\F0 u8/\F0 u9/\M0.R h' [.slice au10 nu10 cu10] u10/\T5 p0_0 p0_1 p0_2 (N1 vs) u7 u8 u9 u10=some X6) (eX (λ_ _=>0) (aI (eX P0 ⟨_,_,_,_,_,_,_,rfl,rfl,sr,(by decide),ix3_0,ix3_1,rx3_2,hLX6⟩) ?_)))
  rintro _ _ _ _ m12 k11 ⟨u7,u8,u9,au10,nu10,cu10,u10,⟨⟩,⟨⟩,sX6,iu7,iu8,iu9,ru10,hM1⟩
  replace hM1:T5 p0_0 p0_1 p0_2 m12 u7 u8 u9 u10=some X6:=hM1
  obtain _|m12:=m12
  ·cases hM1
  rw[T5.eq_2]at hM1
  obtain⟨rfl,lu10⟩:=sL ru10
  refine ifB hM1 (λhc13 hM1=>?_) λhc13 hM1=>?_
  ·obtain⟨X14,hLX14,hM1⟩:=B0 hM1
   refine eX { vars:=[8],owns:=[0,1] } (eX (λvs os h'=>∃ u15 wu16 u16 wu17 u17,vs.tail = [iV u15]/\os = [wu16,wu17]/\Sub k11 h'/\F0 u15/\F2 (Wp.int.R h') wu16 u16/\F2 (Wp.int.R h') wu17 u17/\R3 p0_1 p0_0 p0_2 u7 (N1 vs) u15 u16 u17=some X14) (eX (λ_ _=>0) (aI (eX P0 ⟨_,_,_,_,_,rfl,rfl,sr,(by decide),(show F2 (Wp.int.R k11) ([]:LV) ([]:H0) from trivial),(show F2 (Wp.int.R k11) ([]:LV) ([]:H0) from trivial),hLX14⟩) ?_)))
   rintro _ wu16 wu17 m19 k18 ⟨u15,zzu16,u16,zzu17,u17,⟨⟩,⟨⟩,sX14,iu15,fu16,fu17,hM2⟩
   replace hM2:R3 p0_1 p0_0 p0_2 u7 m19 u15 u16 u17=some X14:=hM2
   obtain _|m19:=m19
   ·cases hM2
   rw[R3.eq_2]at hM2
   refine ifB hM2 (λhc20 hM2=>?_) λhc20 hM2=>?_
   ·refine trV hM2 (W6 _ _ _ (C0 ip0_0 ip0_1 (M0.mono ((sx3.trans sX6).trans sX14) rp0_2)) _ iu15 _ iu7) λx21 hM2=>?_
    obtain⟨q22,gq22,hM2⟩:=B0 hM2
    have ix21:F0 x21:=K0 gq22
    refine ifB hM2 (λhc23 hM2=>?_) λhc23 hM2=>?_
    ·obtain⟨q24,gq24,hM2⟩:=B0 hM2
     refine aI (M1 gq24 (by first|rw[fL fu16,fL (show F2 (Wp.int.R k18) ([[iV u15]]:LV) [u15] from⟨⟨rfl,iu15⟩,trivial⟩)]|exact congrArg (·+1) (fL fu16))) ?_
     refine trV hM2 (W6 _ _ _ (C0 ip0_0 ip0_1 (M0.mono ((sx3.trans sX6).trans sX14) rp0_2)) _ iu15 (i64.wrap (0-u7)) (J0 _)) λx25 hM2=>?_
     obtain⟨q26,gq26,hM2⟩:=B0 hM2
     have ix25:F0 x25:=K0 gq26
     refine ifB hM2 (λhc27 hM2=>?_) λhc27 hM2=>?_
     ·obtain⟨q28,gq28,hM2⟩:=B0 hM2
      refine aI (M1 gq28 (by first|rw[fL fu17,fL (show F2 (Wp.int.R k18) ([[iV u15]]:LV) [u15] from⟨⟨rfl,iu15⟩,trivial⟩)]|exact congrArg (·+1) (fL fu17))) ?_
      exact V1 m19 ⟨_,_,_,_,_,rfl,rfl,sX14,(J0 _),(fA fu16 (show F2 (Wp.int.R k18) ([[iV u15]]:LV) [u15] from⟨⟨rfl,iu15⟩,trivial⟩)),(fA fu17 (show F2 (Wp.int.R k18) ([[iV u15]]:LV) [u15] from⟨⟨rfl,iu15⟩,trivial⟩)),hM2⟩
     ·exact V1 m19 ⟨_,_,_,_,_,rfl,rfl,sX14,(J0 _),(fA fu16 (show F2 (Wp.int.R k18) ([[iV u15]]:LV) [u15] from⟨⟨rfl,iu15⟩,trivial⟩)),fu17,hM2⟩
    ·refine trV hM2 (W6 _ _ _ (C0 ip0_0 ip0_1 (M0.mono ((sx3.trans sX6).trans sX14) rp0_2)) _ iu15 (i64.wrap (0-u7)) (J0 _)) λx29 hM2=>?_
     obtain⟨q30,gq30,hM2⟩:=B0 hM2
     have ix29:F0 x29:=K0 gq30
     refine ifB hM2 (λhc31 hM2=>?_) λhc31 hM2=>?_
     ·obtain⟨q32,gq32,hM2⟩:=B0 hM2
      refine aI (M1 gq32 (by first|rw[fL fu17,fL (show F2 (Wp.int.R k18) ([[iV u15]]:LV) [u15] from⟨⟨rfl,iu15⟩,trivial⟩)]|exact congrArg (·+1) (fL fu17))) ?_
      exact V1 m19 ⟨_,_,_,_,_,rfl,rfl,sX14,(J0 _),fu16,(fA fu17 (show F2 (Wp.int.R k18) ([[iV u15]]:LV) [u15] from⟨⟨rfl,iu15⟩,trivial⟩)),hM2⟩
     ·exact V1 m19 ⟨_,_,_,_,_,rfl,rfl,sX14,(J0 _),fu16,fu17,hM2⟩
   ·cases hM2
    try dsimp only[Q0,T0]at hM1
    obtain⟨X33,hLX33,hM1⟩:=B0 hM1
    refine eX { vars:=[9],boxes:=[2] } (eX (λvs os h'=>∃ u34 u35 u36 au37 nu37 cu37 u37,vs.tail = [iV u34,iV u35,iV u36,.slice au37 nu37 cu37]/\os = []/\Sub k18 h'/\F0 u34/\F0 u35/\F0 u36/\M0.R h' [.slice au37 nu37 cu37] u37/\S5 u16 u17 u7 (N1 vs) u34 u35 u36 u37=some X33) (eX (λ_ _=>0) (aI (eX P0 ⟨_,_,_,_,_,_,_,rfl,rfl,sr,(by decide),iu8,iu9,(M0.mono sX14 ru10),hLX33⟩) ?_)))
    rintro _ _ _ _ m39 k38 ⟨u34,u35,u36,au37,nu37,cu37,u37,⟨⟩,⟨⟩,sX33,iu34,iu35,iu36,ru37,hM2⟩
    replace hM2:S5 u16 u17 u7 m39 u34 u35 u36 u37=some X33:=hM2
    obtain _|m39:=m39
    ·cases hM2
    rw[S5.eq_2]at hM2
    obtain⟨rfl,lu37⟩:=sL ru37
    obtain⟨m40,gm40,hM2⟩:=B0 hM2
    obtain rfl:wu16.length=m40:=(fL (F2.up (r:=Wp.int.toRp) sX33 fu16)).trans (oJ gm40)
    obtain⟨q41,gq41,hM2⟩:=B0 hM2
    refine ifB hM2 (λhc42 hM2=>?_) λhc42 hM2=>?_
    ·refine w5 12 ?_
     obtain⟨x43,gx43,hM2⟩:=B0 hM2
     obtain⟨bx43,csx43,ex43,rx43⟩:=L3 (F2.up (r:=Wp.int.toRp) sX33 fu16) gx43
     obtain⟨rfl,ix43⟩:=rx43
     refine Or.inl ?_
     apply eX
     refine aI ?_ ?_
     ·intro k44 s45
      exact aI bx43 r3
     refine pm (.val (iV x43)) ?_ ?_
     ·intro k46 s47
      exact eX _ (aI ex43 r3)
     obtain⟨x48,gx48,hM2⟩:=B0 hM2
     obtain⟨bx48,csx48,ex48,rx48⟩:=L3 (F2.up (r:=Wp.int.toRp) sX33 fu17) gx48
     obtain⟨rfl,ix48⟩:=rx48
     refine Or.inl ?_
     apply eX
     refine aI ?_ ?_
     ·intro k49 s50
      exact aI bx48 r3
     refine pm (.val (iV x48)) ?_ ?_
     ·intro k51 s52
      exact eX _ (aI ex48 r3)
     refine pm (.agg [.val (iV x43),.val (iV u7),.val (iV x48)]) ?_ ?_
     ·intro k53 s54
      exact r3
     intro k55 s56
     refine trM hM2 (a02 _ _ _ _ _ (M0.mono s56 ru37) _ _ (U1 ix43 iu7 ix48)) ?_
     rintro x57 hM2 v59 k58 ⟨ax57,nx57,cx57,rfl,wx57⟩
     have sx57:Sub k55 k58:=wx57.sub
     have rx57:=wx57.r
     obtain⟨rfl,lx57⟩:=sL rx57
     exact V1 m39 ⟨_,_,_,_,_,_,_,rfl,rfl,((sX33.trans s56).trans sx57),(J0 _),iu35,iu36,rx57,hM2⟩
    ·cases hM2
     try dsimp only[Q0,T0]at hM1
     exact V1 m12 ⟨_,_,_,_,_,_,_,rfl,rfl,((sX6.trans sX14).trans sX33),(J0 _),iu35,iu36,ru37,hM1⟩
  ·cases hM1
   try dsimp only[Q0,T0]at hM0
   cases hM0
   exact⟨_,rfl,(C0 iu8 iu9 ru10),(sx3.trans sX6)⟩
def a0d(h:Hp)(csp0:List Value)(p0:z0)(rp0:L1.R h csp0 p0)(ap1:Option Addr)(np1 cp1:Nat)(p1:O1)(rp1:T1.R h [.slice ap1 np1 cp1] p1)(r:z0×Bool)(hM0:c00 p0 p1=some r):
  Tr Tryz.prog 177 #[.agg csp0.toArray,.slice ap1 np1 cp1] h λv h'=>∃(cs0:List Value),v = .tuple #[.agg cs0.toArray,.bool r.2]/\New L1 h h' cs0 r.1:=by
 obtain⟨p0_0,p0_1,ap0_2,cp0_2,p0_2,rfl,rfl,ip0_0,ip0_1,rp0_2,lp0_2⟩:=opG rp0
 obtain⟨rfl,lp1⟩:=sL rp1
 unfold c00 at hM0
 dsimp only at hM0
 refine wk Tryz.f177 ?_
 refine trM hM0 (G5 _ _ _ (C0 ip0_0 ip0_1 rp0_2)) ?_
 rintro x1 hM0 v3 k2 ⟨csx1,rfl,wx1⟩
 have sx1:Sub h k2:=wx1.sub
 have rx1:=wx1.r
 obtain⟨x1_0,x1_1,ax1_2,cx1_2,x1_2,rfl,rfl,ix1_0,ix1_1,rx1_2,lx1_2⟩:=opG rx1
 try dsimp only at hM0
 have we4:=nD (nD (wx1))
 refine trV hM0 (Y6 _ _ _ (C0 ip0_0 ip0_1 (M0.mono sx1 rp0_2))) λx5 hM0=>?_
 refine ifB hM0 (λhc6 hM0=>?_) λhc6 hM0=>?_
 ·cases hM0
  exact⟨_,rfl,(nP (nI (show F0 (0) from(by decide))) (nP (nI (show F0 (0) from(by decide))) ((New.nilSlice (r:=J1)).mono sx1)))⟩
 ·obtain⟨X7,hLX7,hM0⟩:=B0 hM0
  refine eX { vars:=[7],boxes:=[2] } (eX (λvs os h'=>∃ u8 u9 u10 au11 nu11 cu11 u11,vs.tail = [iV u8,iV u9,iV u10,.slice au11 nu11 cu11]/\os = []/\Sub k2 h'/\F0 u8/\F0 u9/\F0 u10/\M0.R h' [.slice au11 nu11 cu11] u11/\U5 p1 p0_0 p0_1 p0_2 (N1 vs) u8 u9 u10 u11=some X7) (eX (λ_ _=>0) (aI (eX P0 ⟨_,_,_,_,_,_,_,rfl,rfl,sr,(by decide),ix1_0,ix1_1,rx1_2,hLX7⟩) ?_)))
  rintro _ _ _ _ m13 k12 ⟨u8,u9,u10,au11,nu11,cu11,u11,⟨⟩,⟨⟩,sX7,iu8,iu9,iu10,ru11,hM1⟩
  replace hM1:U5 p1 p0_0 p0_1 p0_2 m13 u8 u9 u10 u11=some X7:=hM1
  obtain _|m13:=m13
  ·cases hM1
  rw[U5.eq_2]at hM1
  obtain⟨rfl,lu11⟩:=sL ru11
  refine ifB hM1 (λhc14 hM1=>?_) λhc14 hM1=>?_
  ·refine w1 ?_
   refine ld hM1 (T1.mono (sx1.trans sX7) rp1) λx15 csx15 rx15 hM1=>?_
   obtain⟨ax15,cx15,rfl,lx15⟩:=slL rx15
   obtain⟨x16,gx16,hM1⟩:=B0 hM1
   refine eX (.bool x16) (aI (f02 _ _ ip0_0 _ _ _ _ rx15 _  gx16) ?_)
   obtain⟨x17,gx17,hM1⟩:=B0 hM1
   obtain⟨csx17,ex17,rx17⟩:=Sl.getG (r:=I0.toRp) (T1.mono (sx1.trans sX7) rp1) gx17 (by decide) (l0z Wp.int k12)
   refine aI (λq=>(ex17 q).1) ?_
   obtain⟨ax17,cx17,rfl,lx17⟩:=slL rx17
   refine eX _ (aI (λq=>(ex17 q).2) ?_)
   refine trG hM1 (λq=>q04 _ _ _ (C0 ip0_0 ip0_1 (M0.mono (sx1.trans sX7) rp0_2)) _ _ _ _ rx17) λx18 hM1=>?_
   refine ifB hM1 (λhc19 hM1=>?_) λhc19 hM1=>?_
   ·cases hM1
    try dsimp only[P2,l3]at hM0
    cases hM0
    exact⟨_,rfl,(nP (nI (show F0 (0) from(by decide))) (nP (nI (show F0 (0) from(by decide))) ((New.nilSlice (r:=J1)).mono (sx1.trans sX7))))⟩
   ·refine w5 10 ?_
    obtain⟨x20,gx20,hM1⟩:=B0 hM1
    obtain⟨bx20,csx20,ex20,rx20⟩:=Sl.getI (r:=I0.toRp) (T1.mono (sx1.trans sX7) rp1) gx20 (by decide)
    obtain⟨ax20,cx20,rfl,lx20⟩:=slL rx20
    refine pm (.hel (.slice ap1 p1.length cp1) u8 1 0) ?_ ?_
    ·intro k21 s22
     exact aI bx20 r3
    refine pm (.val (.slice ax20 x20.length cx20)) ?_ ?_
    ·intro k23 s24
     exact eX _ (aI (O8.up s24 ex20) r3)
    obtain⟨x25,gx25,hM1⟩:=B0 hM1
    obtain⟨x25_0,x25_1⟩:=x25
    try dsimp only at hM1
    obtain⟨x25_0_0,x25_0_1,x25_0_2⟩:=x25_0
    try dsimp only at hM1
    refine Or.inr (eX (λv hh=>∃(ux25_0:Value),v = .tuple #[ux25_0,.bool x25_1]/\(λv hh=>∃(ax25_0_2:Option Addr) (cx25_0_2:Nat),v = .agg #[iV x25_0_0,iV x25_0_1,.slice ax25_0_2 x25_0_2.length cx25_0_2]/\F0 x25_0_0/\F0 x25_0_1/\M0.R hh [.slice ax25_0_2 x25_0_2.length cx25_0_2] x25_0_2/\x25_0_2.length<=9223372036854775807) ux25_0 hh) (aI (λv h1 h2 sb q=>by obtain⟨ux25_0,e,fux25_0⟩:=q;exact⟨ux25_0,e,(by obtain⟨ax25_0_2,cx25_0_2,e,f0,f1,f2,f3⟩:=fux25_0;exact⟨ax25_0_2,cx25_0_2,e,f0,f1,M0.mono sb f2,f3⟩)⟩) (aI ?_ ?_)))
    ·intro k26 s27
     refine Tr.mono (a0l _ _ _ (C0 iu9 iu10 (M0.mono s27 ru11)) _ _ _ _ (I0.mono s27 rx20) _ gx25) ?_
     rintro _ kk ⟨csx25_0,rfl,rx25_0,sb⟩
     obtain⟨yx25_0_0,yx25_0_1,ayx25_0_2,cyx25_0_2,yx25_0_2,rfl,ey,iyx25_0_0,iyx25_0_1,ryx25_0_2,lyx25_0_2⟩:=opG rx25_0
     cases ey
     exact aI t6 (aI sb ⟨(.agg #[iV x25_0_0,iV x25_0_1,.slice ayx25_0_2 x25_0_2.length cyx25_0_2]),rfl,⟨ayx25_0_2,cyx25_0_2,rfl,iyx25_0_0,iyx25_0_1,ryx25_0_2,lyx25_0_2⟩⟩)
    refine Or.inr (eX (λv hh=>∃(ux25_0:Value),v = .tuple #[ux25_0,.bool x25_1]/\(λv hh=>∃(ax25_0_2:Option Addr) (cx25_0_2:Nat),v = .agg #[iV x25_0_0,iV x25_0_1,.slice ax25_0_2 x25_0_2.length cx25_0_2]/\F0 x25_0_0/\F0 x25_0_1/\M0.R hh [.slice ax25_0_2 x25_0_2.length cx25_0_2] x25_0_2/\x25_0_2.length<=9223372036854775807) ux25_0 hh) (aI (λv h1 h2 sb q=>by obtain⟨ux25_0,e,fux25_0⟩:=q;exact⟨ux25_0,e,(by obtain⟨ax25_0_2,cx25_0_2,e,f0,f1,f2,f3⟩:=fux25_0;exact⟨ax25_0_2,cx25_0_2,e,f0,f1,M0.mono sb f2,f3⟩)⟩) (aI ?_ ?_)))
    ·intro k28 s29
     rintro _ ⟨_,rfl,⟨az30p02,cz30p02,rfl,iz30p00,iz30p01,rz30p02,lz30p02⟩⟩
     exact aI t6 (aI sr ⟨(.agg #[iV x25_0_0,iV x25_0_1,.slice az30p02 x25_0_2.length cz30p02]),rfl,⟨az30p02,cz30p02,rfl,iz30p00,iz30p01,rz30p02,lz30p02⟩⟩)
    refine Or.inr (eX (λv hh=>∃(ax25_0_2:Option Addr) (cx25_0_2:Nat),v = .agg #[iV x25_0_0,iV x25_0_1,.slice ax25_0_2 x25_0_2.length cx25_0_2]/\F0 x25_0_0/\F0 x25_0_1/\M0.R hh [.slice ax25_0_2 x25_0_2.length cx25_0_2] x25_0_2/\x25_0_2.length<=9223372036854775807) (aI (λv h1 h2 sb q=>by obtain⟨ax25_0_2,cx25_0_2,e,f0,f1,f2,f3⟩:=q;exact⟨ax25_0_2,cx25_0_2,e,f0,f1,M0.mono sb f2,f3⟩) (aI ?_ ?_)))
    ·intro k31 s32
     rintro _ ⟨_,rfl,⟨az33p02,cz33p02,rfl,iz33p00,iz33p01,rz33p02,lz33p02⟩⟩
     exact aI t6 (aI sr ⟨az33p02,cz33p02,rfl,iz33p00,iz33p01,rz33p02,lz33p02⟩)
    refine pm (.val (.bool x25_1)) ?_ ?_
    ·intro k34 s35
     rintro _ ⟨_,rfl,⟨az36p02,cz36p02,rfl,iz36p00,iz36p01,rz36p02,lz36p02⟩⟩
     exact r3
    intro k37 s38
    rintro _ ⟨az392,cz392,rfl,iz390,iz391,rz392,lz392⟩
    rintro _ _
    rintro _ _
    refine ifB hM1 (λhc40 hM1=>?_) λhc40 hM1=>?_
    ·cases hM1
     try dsimp only[P2,l3]at hM0
     cases hM0
     exact⟨_,rfl,(nP (nI (show F0 (0) from(by decide))) (nP (nI (show F0 (0) from(by decide))) ((New.nilSlice (r:=J1)).mono ((sx1.trans sX7).trans s38))))⟩
    ·exact V1 m13 ⟨_,_,_,_,_,_,_,rfl,rfl,(sX7.trans s38),(J0 _),iz390,iz391,rz392,hM1⟩
  ·cases hM1
   try dsimp only[Q0,T0]at hM0
   refine trM hM0 (Z0c _ _ _ (C0 iu9 iu10 ru11)) ?_
   rintro x41 hM0 v43 k42 ⟨csx41_0,rfl,rx41_0,sx41⟩
   obtain⟨x41_0,x41_1⟩:=x41
   dsimp only at hM0 rx41_0
   obtain⟨x41_0_0,x41_0_1,ax41_0_2,cx41_0_2,x41_0_2,rfl,rfl,ix41_0_0,ix41_0_1,rx41_0_2,lx41_0_2⟩:=opG rx41_0
   try dsimp only at hM0
   refine ifB hM0 (λhc44 hM0=>?_) λhc44 hM0=>?_
   ·cases hM0
    exact⟨_,rfl,(nP (nI (show F0 (0) from(by decide))) (nP (nI (show F0 (0) from(by decide))) ((New.nilSlice (r:=J1)).mono ((sx1.trans sX7).trans sx41))))⟩
   ·refine trM hM0 (k05 _ _ _ (C0 ix41_0_0 ix41_0_1 rx41_0_2)) ?_
    rintro x45 hM0 v47 k46 ⟨csx45,rfl,wx45⟩
    have sx45:Sub k42 k46:=wx45.sub
    have rx45:=wx45.r
    obtain⟨x45_0,x45_1,ax45_2,cx45_2,x45_2,rfl,rfl,ix45_0,ix45_1,rx45_2,lx45_2⟩:=opG rx45
    try dsimp only at hM0
    have we48:=nD (nD (wx45))
    cases hM0
    exact⟨_,rfl,(nP (nI ix45_0) (nP (nI ix45_1) (New.from we48 ((sx1.trans sX7).trans sx41))))⟩
def M0d(h:Hp)(g:List Value)(j:z0)(u:L1.R h g j)(d:Option Addr)(i e:Nat)(b:H0)(k:I0.R h [.slice d i e] b)(r:z0×Bool)(a:T8 j b=some r):
  Tr Tryz.prog 134 #[.agg g.toArray,.slice d i e] h λv h'=>∃(f:List Value),v = .tuple #[.agg f.toArray,.bool r.2]/\New L1 h h' f r.1:=by
 obtain⟨N,O,C,F,P,rfl,rfl,m,o,w,J⟩:=opG u
 obtain⟨rfl,K⟩:=sL k
 unfold T8 at a
 dsimp only at a
 refine wk Tryz.f134 ?_
 refine Or.inl ?_
 intro T s f3
 obtain⟨E,I,rfl,y,l,M⟩:=Y0.out (r:=I0.toRp) f3 (show F2 (I0.R h) ([[.slice d b.length e]]:LV) [b] from⟨k,trivial⟩)
 refine trM a (a0d _ _ _ (C0 m o (M0.mono l w)) _ _ _ _ y) ?_
 rintro A a U t ⟨G,rfl,c⟩
 obtain⟨V,Z⟩:=A
 dsimp only at a c
 have S:Sub s t:=c.sub
 have x:=c.r
 obtain⟨W,X,D,H,Y,rfl,rfl,p,q,Q,L⟩:=opG x
 try dsimp only at a
 have z:=nD (nD (c))
 cases a
 exact⟨_,rfl,(nP (nI p) (nP (nI q) (New.from z l)))⟩
def U0i(h:Hp)(u:List Value)(x:z0)(T:L1.R h u x)(f:Option Addr)(w g:Nat)(e:H0)(o:I0.R h [.slice f w g] e)(r:z0×Bool)(a:o04 x e=some r):
  Tr Tryz.prog 135 #[.agg u.toArray,.slice f w g] h λv h'=>∃(t:List Value),v = .tuple #[.agg t.toArray,.bool r.2]/\New L1 h h' t r.1:=by
 obtain⟨b,c,j,k,d,rfl,rfl,i,l,m,ah⟩:=opG T
 obtain⟨rfl,ai⟩:=sL o
 unfold o04 at a
 dsimp only at a
 refine wk Tryz.f135 ?_
 refine trV a (Y6 _ [iV b,iV c,.slice j d.length k] (b,c,d) (C0 i l m)) λav a=>?_
 refine trG a (λq=>f02 _ b i f e.length g e o) λaA a=>?_
 refine ifB a (λH a=>?_) λH a=>?_
 ·cases a
  exact⟨_,rfl,(nP (nI (show F0 (0) from(by decide))) (nP (nI (show F0 (0) from(by decide))) ((New.nilSlice (r:=J1)).mono sr)))⟩
 ·refine ifB a (λI a=>?_) λI a=>?_
  ·refine trM a (G5 _ [iV b,iV c,.slice j d.length k] (b,c,d) (C0 i l m)) ?_
   rintro aB a au S ⟨ad,rfl,s⟩
   have ap:Sub h S:=s.sub
   have V:=s.r
   obtain⟨aC,aD,ab,ag,aF,rfl,rfl,L,M,an,ak⟩:=opG V
   try dsimp only at a
   have Y:=nD (nD (s))
   cases a
   exact⟨_,rfl,(nP (nI L) (nP (nI M) Y))⟩
  ·refine trM a (w0b _ [iV b,iV c,.slice j d.length k] (b,c,d) (C0 i l m) f e.length g e o) ?_
   rintro Z a aq P ⟨ae,rfl,y,z⟩
   obtain⟨aG,aH⟩:=Z
   dsimp only at a y
   obtain⟨A,C,E,F,D,rfl,rfl,N,O,W,al⟩:=opG y
   try dsimp only at a
   refine ifB a (λG a=>?_) λG a=>?_
   ·cases a
    exact⟨_,rfl,(nP (nI (show F0 (0) from(by decide))) (nP (nI (show F0 (0) from(by decide))) ((New.nilSlice (r:=J1)).mono z)))⟩
   ·refine trM a (k05 _ [iV A,iV C,.slice E D.length F] (A,C,D) (C0 N O W)) ?_
    rintro aw a ar Q ⟨ac,rfl,p⟩
    have ao:Sub P Q:=p.sub
    have U:=p.r
    obtain⟨ax,ay,aa,af,az,rfl,rfl,J,K,am,aj⟩:=opG U
    try dsimp only at a
    have X:=nD (nD (p))
    cases a
    exact⟨_,rfl,(nP (nI J) (nP (nI K) (New.from X z)))⟩
def V0i(h:Hp)(g:Int)(E:F0 g)(i:Int)(F:F0 i)(d:Option Addr)(s e:Nat)(c:O1)(w:T1.R h [.slice d s e] c)(l:Option Addr)(t m:Nat)(u:H0)(x:I0.R h [.slice l t m] u)(r:P1)(a:P05 g i c u=some r):
  Tr Tryz.prog 132 #[iV g,iV i,.slice d s e,.slice l t m] h λv h'=>∃(o:List Value),v = .agg o.toArray/\New Y1 h h' o r:=by
 obtain⟨rfl,Q⟩:=sL w
 obtain⟨rfl,S⟩:=sL x
 unfold P05 at a
 refine wk Tryz.f132 ?_
 refine trM a (X0c _ d c.length e c w) ?_
 rintro aa a Y b ⟨L,V,N,rfl,k⟩
 have j:Sub h b:=k.sub
 have G:=k.r
 obtain⟨rfl,T⟩:=sL G
 obtain⟨H,A,f⟩:=Sl.rows (r:=Wp.int.toRp) (I0.mono j x)
 refine eX H (aI A ?_)
 obtain⟨W,D,a⟩:=B0 a
 refine aI (M1 D (by first|rw[fL (show F2 (Wp.int.R b) ([]:LV) ([]:H0) from trivial),fL f]|exact congrArg (·+1) (fL (show F2 (Wp.int.R b) ([]:LV) ([]:H0) from trivial)))) ?_
 intro Z P p
 obtain⟨M,O,rfl,X,y,U⟩:=Y0.out (r:=Wp.int.toRp) p (fA (show F2 (Wp.int.R b) ([]:LV) ([]:H0) from trivial) f)
 cases a
 obtain⟨J,z,C,_⟩:=k
 obtain⟨K,I,q,_⟩:=(Y0.newPlain (r:=Wp.int) p (fA (show F2 (Wp.int.R b) ([]:LV) ([]:H0) from trivial) f) (n05 _))
 exact⟨_,rfl,(NB.fin (NB.pair (NB.int E) (NB.pair (NB.int F) (NB.pair (NB.mk z y C sr) (NB.pair (NB.mk I sr q j) (NB.pair (NB.nil (r:=Wp.int)) (NB.pair (NB.pair (NB.int (by decide)) (NB.pair (NB.int (by decide)) (NB.nil (r:=J1)) NB.d0) NB.d0) (NB.int (by decide)) NB.de) NB.d0) (NB.da NB.de (NB.da (NB.da NB.de (NB.da NB.de NB.de)) NB.de))) (NB.da (NB.dl z sr q) (NB.da NB.de (NB.da (NB.da NB.de (NB.da NB.de NB.de)) NB.de)))) NB.d0) NB.d0) (j.trans y))⟩
def b0l(h:Hp)(I:Int)(ak:F0 I)(w:Int)(H:F0 w)(F:Option Addr)(P G:Nat)(x:O1)(J:T1.R h [.slice F P G] x)(s:Option Addr)(Q t:Nat)(g:H0)(p:I0.R h [.slice s Q t] g)(r:P1×Bool)(a:F06 I w x g=some r):
  Tr Tryz.prog 58 #[iV I,iV w,.slice F P G,.slice s Q t] h λv h'=>∃(K:List Value),v = .tuple #[.agg K.toArray,.bool r.2]/\New Y1 h h' K r.1:=by
 obtain⟨rfl,bq⟩:=sL J
 obtain⟨rfl,br⟩:=sL p
 unfold F06 at a
 refine wk Tryz.f58 ?_
 refine trM a (V0i _ _ ak _ H _ _ _ _ J _ _ _ _ p) ?_
 rintro bY a bV O ⟨a5,rfl,j⟩
 have l:Sub h O:=j.sub
 have aw:=j.r
 obtain⟨b7,b8,a0,bE,bd,ca,a1,bG,be,cb,a2,bH,bf,cc,cd,ce,a3,bI,bg,cf,cg,rfl,rfl,bi,bj,az,aA,aB,bk,bl,aC,bm⟩:=Y2 aw
 obtain⟨rfl,bu⟩:=sL az
 obtain⟨rfl,bv⟩:=sL aA
 obtain⟨rfl,bx⟩:=sL aB
 obtain⟨rfl,bz⟩:=sL aC
 try dsimp only at a
 refine trM a (J06 _ w H F x.length G x (T1.mono l J)) ?_
 rintro aV a bX u ⟨ba,rfl,E⟩
 obtain⟨co,cq⟩:=aV
 dsimp only at a E
 have i:Sub O u:=E.sub
 have aH:=E.r
 obtain⟨b,c,m,o,d,rfl,rfl,e,f,k,bC⟩:=opG aH
 try dsimp only at a
 have y:=nD (nD (E))
 refine trG a (λq=>f02 _ w H s g.length t g (I0.mono (l.trans i) p)) λcr a=>?_
 refine ifB a (λai a=>?_) λai a=>?_
 ·cases a
  exact⟨_,rfl,(NB.fin (NB.pair (NB.int (by decide)) (NB.pair (NB.int (by decide)) (NB.pair (NB.nil (r:=I0)) (NB.pair (NB.nil (r:=Wp.int)) (NB.pair (NB.nil (r:=Wp.int)) (NB.pair (NB.pair (NB.int (by decide)) (NB.pair (NB.int (by decide)) (NB.nil (r:=J1)) NB.d0) NB.d0) (NB.int (by decide)) NB.de) NB.d0) NB.d0) NB.d0) NB.d0) NB.d0) (l.trans i))⟩
 ·refine ifB a (λac a=>?_) λac a=>?_
  ·refine trM a (L0h _ [iV b,iV c,.slice m d.length o] (b,c,d) (C0 e f k) s g.length t g (I0.mono (l.trans i) p)) ?_
   rintro aO a bR aq ⟨aY,bD,bb,rfl,z⟩
   obtain⟨bZ,b0⟩:=aO
   dsimp only at a z
   have bO:Sub u aq:=z.sub
   have ax:=z.r
   obtain⟨rfl,bs⟩:=sL ax
   cases a
   exact⟨_,rfl,(clP (clG j sr e f y) sr z)⟩
  ·refine ifB a (λad a=>?_) λad a=>?_
   ·refine trM a (M0d _ [iV b,iV c,.slice m d.length o] (b,c,d) (C0 e f k) s g.length t g (I0.mono (l.trans i) p)) ?_
    rintro aP a bS ar ⟨a6,rfl,A⟩
    obtain⟨b1,b6⟩:=aP
    dsimp only at a A
    have bP:Sub u ar:=A.sub
    have ay:=A.r
    obtain⟨b2,b3,aZ,bc,b5,rfl,rfl,al,am,bM,bt⟩:=opG ay
    try dsimp only at a
    have aL:=nD (nD (A))
    cases a
    exact⟨_,rfl,(clG j i al am aL)⟩
   ·refine ifB a (λae a=>?_) λae a=>?_
    ·refine trM a (U0i _ _ _ (C0 e f k) _ _ _ _ (I0.mono (l.trans i) p)) ?_
     rintro aQ a bU au ⟨a7,rfl,C⟩
     obtain⟨ch,ci⟩:=aQ
     dsimp only at a C
     have aK:Sub u au:=C.sub
     have aD:=C.r
     obtain⟨T,U,W,X,V,rfl,rfl,L,M,aF,bA⟩:=opG aD
     try dsimp only at a
     have aM:=nD (nD (C))
     refine w5 7 ?_
     obtain⟨aR,ab,a⟩:=B0 a
     refine pm (.val (.bool aR)) ?_ ?_
     ·intro bo S aj
      exact Tr.val (Z03 _ [iV b,iV c,.slice m d.length o] (b,c,d) (C0 e f (M0.mono (aK.trans S) k)) [iV T,iV U,.slice W V.length X] (T,U,V) (C0 L M (M0.mono S aF)) _ (Z3 ab aj)) r3
     intro bp aJ
     cases a
     exact⟨_,rfl,(New.mono (clG j i L M aM) aJ)⟩
    ·refine ifB a (λaf a=>?_) λaf a=>?_
     ·refine trM a (E05 _ [iV b,iV c,.slice m d.length o] (b,c,d) (C0 e f k) s g.length t g (I0.mono (l.trans i) p)) ?_
      rintro aS a bW av ⟨a8,rfl,D⟩
      obtain⟨cj,cn⟩:=aS
      dsimp only at a D
      have bQ:Sub u av:=D.sub
      have aG:=D.r
      obtain⟨ck,cl,a4,bh,cm,rfl,rfl,an,ao,bN,bB⟩:=opG aG
      try dsimp only at a
      have aN:=nD (nD (D))
      cases a
      exact⟨_,rfl,(clG j i an ao aN)⟩
     ·refine ifB a (λag a=>?_) λag a=>?_
      ·refine trV a (P09 _ [iV b,iV c,.slice m d.length o] (b,c,d) (C0 e f k)) λaU a=>?_
       obtain⟨bJ,Y,a⟩:=B0 a
       have N:F0 aU:=K0 Y
       refine w3 ?_
       refine aI ?_ trivial
       refine trV a (P09 _ [iV b,iV c,.slice m d.length o] (b,c,d) (C0 e f k)) λaW a=>?_
       obtain⟨bK,Z,a⟩:=B0 a
       have bn:F0 aW:=K0 Z
       refine aI (by first|exact trivial|exact rfl) ?_
       refine aI ?_ ?_
       ·skip
        refine aI (by first|exact trivial|exact rfl) ?_
        refine aI ?_ trivial
        refine aI (by first|exact trivial|exact rfl) ?_
        refine aI ?_ trivial
        refine aI (by first|exact trivial|exact rfl) ?_
        cases a
        exact⟨_,rfl,(clN (clG j sr e f y) N)⟩
       refine aI ?_ ?_
       ·skip
        refine aI (by first|exact trivial|exact rfl) ?_
        refine aI ?_ trivial
        refine aI (by first|exact trivial|exact rfl) ?_
        refine aI ?_ trivial
        refine aI (by first|exact trivial|exact rfl) ?_
        cases a
        exact⟨_,rfl,(clN (clG j sr e f y) N)⟩
       exact trivial
      ·refine ifB a (λah a=>?_) λah a=>?_
       ·refine trV a (Q0c _ [iV b,iV c,.slice m d.length o] (b,c,d) (C0 e f k)) λaX a=>?_
        obtain⟨bL,aa,a⟩:=B0 a
        have ap:F0 aX:=K0 aa
        refine w3 ?_
        refine aI ?_ trivial
        refine aI (by first|exact trivial|exact rfl) ?_
        cases a
        exact⟨_,rfl,(clN (clG j sr e f y) ap)⟩
       ·cases a
        exact⟨_,rfl,(NB.fin (NB.pair (NB.int (by decide)) (NB.pair (NB.int (by decide)) (NB.pair (NB.nil (r:=I0)) (NB.pair (NB.nil (r:=Wp.int)) (NB.pair (NB.nil (r:=Wp.int)) (NB.pair (NB.pair (NB.int (by decide)) (NB.pair (NB.int (by decide)) (NB.nil (r:=J1)) NB.d0) NB.d0) (NB.int (by decide)) NB.de) NB.d0) NB.d0) NB.d0) NB.d0) NB.d0) (l.trans i))⟩
def M0h(h:Hp)(c:Int)(t:F0 c)(d:Int)(u:F0 d)(e:Option Addr)(k g:Nat)(m:O1)(p:T1.R h [.slice e k g] m)(f:Option Addr)(l i:Nat)(o:H0)(q:I0.R h [.slice f l i] o)(r:P1×Bool)(a:J03 c d m o=some r):
  Tr Tryz.prog 8 #[iV c,iV d,.slice e k g,.slice f l i] h λv h'=>∃(j:List Value),v = .tuple #[.agg j.toArray,.bool r.2]/\New Y1 h h' j r.1:=by
 obtain⟨rfl,U⟩:=sL p
 obtain⟨rfl,V⟩:=sL q
 unfold J03 at a
 refine wk Tryz.f8 ?_
 refine trM a (b0l _ _ t _ u _ _ _ _ p _ _ _ _ q) ?_
 rintro E a ae w ⟨J,rfl,b⟩
 obtain⟨af,ap⟩:=E
 dsimp only at a b
 have D:Sub h w:=b.sub
 have x:=b.r
 obtain⟨ag,ah,F,aa,K,ai,G,ab,L,aj,H,ac,M,ak,al,am,I,ad,N,an,ao,rfl,rfl,O,P,y,z,A,Q,S,C,T⟩:=Y2 x
 obtain⟨rfl,W⟩:=sL y
 obtain⟨rfl,X⟩:=sL z
 obtain⟨rfl,Y⟩:=sL A
 obtain⟨rfl,Z⟩:=sL C
 try dsimp only at a
 refine ifB a (λs a=>?_) λs a=>?_
 ·cases a
  exact⟨_,rfl,(NB.fin (NB.pair (NB.int (by decide)) (NB.pair (NB.int (by decide)) (NB.pair (NB.nil (r:=I0)) (NB.pair (NB.nil (r:=Wp.int)) (NB.pair (NB.nil (r:=Wp.int)) (NB.pair (NB.pair (NB.int (by decide)) (NB.pair (NB.int (by decide)) (NB.nil (r:=J1)) NB.d0) NB.d0) (NB.int (by decide)) NB.de) NB.d0) NB.d0) NB.d0) NB.d0) NB.d0) D)⟩
 ·cases a
  exact⟨_,rfl,b⟩
def s0i(h:Hp)(c:Nat)(d:Value)(i:TypeId)(e:List Int)(q:Int×Int)(J:x00 h c d e q)(l:Int)(ah:F0 l)(s:Int)(aw:F0 s)(r:H0×(Int×Int))(b:I04 e q l s=some r):
  Tr Tryz.prog 113 #[ptr c 0,iV l,iV s] (h.set c (o06 d q i)) λv h'=>∃(A:Option Addr) (F C:Nat) (o:Hp),v = .slice A F C/\New I0 h o [.slice A F C] r.1/\Sub h o/\x00 o c d e r.2/\h'=o.set c (o06 d r.2 i):=by
 unfold I04 at b
 refine wk Tryz.f113 ?_
 obtain⟨an,X,b⟩:=B0 b
 obtain⟨H,ar⟩:=an
 try dsimp only at b
 refine Tr.mono (Y5 _ c d i e q J (i64.wrap (s+1)) (J0 _) _ X) ?_
 rintro _ _ ⟨rfl,L,rfl⟩
 obtain⟨aH,W,b⟩:=B0 b
 have ai:F0 H:=K0 W
 obtain⟨z,ab,b⟩:=B0 b
 refine eX { vars:=[8],owns:=[0] } (eX (λvs os ag=>∃(m:Int) (x:LV) (j:List Int) (u8:Int×Int) (h':Hp),vs.tail = [iV m]/\os = [x]/\ag=h'.set c (o06 d u8 i)/\Sub h h'/\F0 m/\F2 (Wp.int.R h') x j/\x00 h' c d e u8/\f00 e l (N1 vs) m j u8=some z) (eX (λ_ _=>0) ?_))
 refine aI (eX P0 ⟨H,[],([]:H0),ar,h,rfl,rfl,rfl,sr,ai,(show F2 (Wp.int.R h) ([]:LV) ([]:H0) from trivial),L,ab⟩) ?_
 rintro aL x k _ ⟨m,aP,j,u8,p,P,O,rfl,t,ax,g,u,a⟩
 cases P
 cases O
 replace a:f00 e l k m j u8=some z:=a
 obtain _|k:=k
 ·cases a
 rw[f00.eq_2]at a
 refine ifB a (λac a=>?_) λac a=>?_
 ·obtain⟨ao,Y,a⟩:=B0 a
  obtain⟨f,ap⟩:=ao
  try dsimp only at a
  refine Tr.mono (Y5 _ c d i e u8 u _ ah _ Y) ?_
  rintro _ _ ⟨rfl,K,rfl⟩
  obtain⟨aD,T,a⟩:=B0 a
  have ay:F0 f:=K0 T
  obtain⟨aq,Z,a⟩:=B0 a
  obtain⟨aM,aN⟩:=aq
  try dsimp only at a
  refine Tr.mono (h02 _ c d i e ap K 2 (by decide) _ Z) ?_
  rintro _ _ ⟨rfl,D,rfl⟩
  refine ifB a (λad a=>?_) λad a=>?_
  ·obtain⟨aF,U,a⟩:=B0 a
   refine aI (M1 U (by first|rw[fL g,fL (show F2 (Wp.int.R p) ([[iV (i64.wrap (0-(i64.wrap (1+f))))]]:LV) [(i64.wrap (0-(i64.wrap (1+f))))] from⟨⟨rfl,(J0 _)⟩,trivial⟩)]|exact congrArg (·+1) (fL g))) ?_
   exact V1 k ⟨_,_,_,_,_,rfl,rfl,rfl,t,(J0 _),(fA g (show F2 (Wp.int.R p) ([[iV (i64.wrap (0-(i64.wrap (1+f))))]]:LV) [(i64.wrap (0-(i64.wrap (1+f))))] from⟨⟨rfl,(J0 _)⟩,trivial⟩)),D,a⟩
  ·obtain⟨aG,V,a⟩:=B0 a
   refine aI (M1 V (by first|rw[fL g,fL (show F2 (Wp.int.R p) ([[iV (i64.wrap (1+f))]]:LV) [(i64.wrap (1+f))] from⟨⟨rfl,(J0 _)⟩,trivial⟩)]|exact congrArg (·+1) (fL g))) ?_
   exact V1 k ⟨_,_,_,_,_,rfl,rfl,rfl,t,(J0 _),(fA g (show F2 (Wp.int.R p) ([[iV (i64.wrap (1+f))]]:LV) [(i64.wrap (1+f))] from⟨⟨rfl,(J0 _)⟩,trivial⟩)),D,a⟩
 ·cases a
  try dsimp only[Q0,T0]at b
  refine Or.inl ?_
  intro aJ az Q
  obtain⟨aj,S,ae,rfl⟩:=Y0.beside u.no Q
  obtain⟨I,N,rfl,am,w,aB⟩:=Y0.out (r:=Wp.int.toRp) S g
  have E:=u.mono w ae
  obtain⟨aO,aa,b⟩:=B0 b
  refine Tr.beside E.no (v04 _ I j.length N j am _  aa) ?_
  rintro aK ak ⟨au,aC,av,rfl,y⟩ af
  have G:Sub aj ak:=y.sub
  have al:=y.r
  have M:=E.mono G af
  obtain⟨rfl,aA⟩:=sL al
  cases b
  exact⟨_,_,_,_,rfl,(New.from y (t.trans w)),((t.trans w).trans G),M,rfl⟩
def b0d(h:Hp)(c:Nat)(d:Value)(j:TypeId)(e:List Int)(p:Int×Int)(L:x00 h c d e p)(g:Int)(ad:F0 g)(r:O1×(Int×Int))(b:s03 e p g=some r):
  Tr Tryz.prog 112 #[ptr c 0,iV g] (h.set c (o06 d p j)) λv h'=>∃(z:Option Addr) (H C:Nat) (m:Hp),v = .slice z H C/\New T1 h m [.slice z H C] r.1/\Sub h m/\x00 m c d e r.2/\h'=m.set c (o06 d r.2 j):=by
 unfold s03 at b
 refine wk Tryz.f112 ?_
 obtain⟨aj,X,b⟩:=B0 b
 obtain⟨K,al⟩:=aj
 try dsimp only at b
 refine Tr.mono (Y5 _ c d j e p L 4 (by decide) _ X) ?_
 rintro _ _ ⟨rfl,O,rfl⟩
 obtain⟨az,V,b⟩:=B0 b
 have ae:F0 K:=K0 V
 obtain⟨y,Z,b⟩:=B0 b
 refine eX { vars:=[6],owns:=[0] } (eX (λvs os ac=>∃(k:Int) (s:LV) (f:List H0) (u8:Int×Int) (h':Hp),vs.tail = [iV k]/\os = [s]/\ac=h'.set c (o06 d u8 j)/\Sub h h'/\F0 k/\F2 (I0.R h') s f/\(∃ Bs,F3 (I0.W h') s f Bs/\R4 h Bs.flatten)/\x00 h' c d e u8/\L9 e g (N1 vs) k f u8=some y) (eX (λ_ _=>0) ?_))
 refine aI (eX P0 ⟨K,[],([]:O1),al,h,rfl,rfl,rfl,sr,ae,(show F2 (I0.R h) ([]:LV) ([]:O1) from trivial),⟨_,(show F3 (I0.W h) [] [] [] from trivial),(R4.nil h)⟩,O,Z⟩) ?_
 rintro aB s o _ ⟨k,aD,f,u8,au,Q,P,rfl,q,aq,l,⟨ao,x,F⟩,u,a⟩
 cases Q
 cases P
 replace a:L9 e g o k f u8=some y:=a
 obtain _|o:=o
 ·cases a
 rw[L9.eq_2]at a
 refine ifB a (λaa a=>?_) λaa a=>?_
 ·obtain⟨ak,Y,a⟩:=B0 a
  obtain⟨t,aC⟩:=ak
  try dsimp only at a
  refine Tr.mono (s0i _ c d j e u8 u _ ad 5 (by decide) _ Y) ?_
  rintro _ _ ⟨A,ax,D,G,rfl,J,i,M,rfl⟩
  have w:=J.r
  obtain⟨rfl,av⟩:=sL w
  obtain⟨ay,U,a⟩:=B0 a
  refine aI (M1 U (by first|rw[fL (F2.up (r:=I0.toRp) i l),fL (show F2 (I0.R G) ([[.slice A t.length D]]:LV) [t] from⟨w,trivial⟩)]|exact congrArg (·+1) (fL (F2.up (r:=I0.toRp) i l)))) ?_
  obtain⟨am,ai,T,_⟩:=J
  exact V1 o ⟨_,_,_,_,_,rfl,rfl,rfl,(q.trans i),(J0 _),(fA (F2.up (r:=I0.toRp) i l) (show F2 (I0.R G) ([[.slice A t.length D]]:LV) [t] from⟨w,trivial⟩)),⟨_,(F3.snoc ai (X0h x i)),(E08 x q F T)⟩,M,a⟩
 ·cases a
  try dsimp only[Q0,T0]at b
  intro ah ar S
  obtain⟨af,E,ab,rfl⟩:=Y0.beside u.no S
  have ag:New (Wp.slice I0) h af [ah] f:=(Y0.fresh (r:=I0) E x q F)
  obtain⟨an,ap,rfl,aA,I,aw⟩:=Y0.out (r:=I0.toRp) E l
  have N:=u.mono I ab
  cases b
  exact⟨_,_,_,_,rfl,ag,(q.trans I),N,rfl⟩
def f0o(h:Hp)(b:Nat)(c:Value)(g:TypeId)(d:List Int)(f:Int×Int)(l:x00 h b c d f)(r:z0×(Int×Int))(a:G06 d f=some r):
  Tr Tryz.prog 142 #[ptr b 0] (h.set b (o06 c f g)) λv h'=>∃(o:List Value) (e:Hp),v = .agg o.toArray/\New L1 h e o r.1/\Sub h e/\x00 e b c d r.2/\h'=e.set b (o06 c r.2 g):=by
 unfold G06 at a
 refine wk Tryz.f142 ?_
 refine Or.inl ?_
 intro aj ab f3
 obtain⟨ac,E,K,rfl⟩:=Y0.beside l.no f3
 obtain⟨x,D,rfl,Q,j,af⟩:=Y0.out (r:=Wp.int.toRp) E (show F2 (Wp.int.R h) ([[iV 1],[iV 2],[iV 2],[iV 2],[iV 2],[iV 3]]:LV) [1,2,2,2,2,3] from⟨⟨rfl,(by decide)⟩,⟨⟨rfl,(by decide)⟩,⟨⟨rfl,(by decide)⟩,⟨⟨rfl,(by decide)⟩,⟨⟨rfl,(by decide)⟩,⟨⟨rfl,(by decide)⟩,trivial⟩⟩⟩⟩⟩⟩)
 have A:=l.mono j K
 obtain⟨W,I,a⟩:=B0 a
 obtain⟨k,X⟩:=W
 try dsimp only at a
 refine Tr.mono (H0a _ b c g d f A x ([1,2,2,2,2,3]).length D [1,2,2,2,2,3] Q _ I) ?_
 rintro _ _ ⟨rfl,y,rfl⟩
 obtain⟨ah,F,a⟩:=B0 a
 have p:F0 k:=K0 F
 obtain⟨U,G,a⟩:=B0 a
 obtain⟨u,al⟩:=U
 try dsimp only at a
 refine Tr.mono (b0d _ b c g d X y k p _ G) ?_
 rintro _ _ ⟨w,ag,C,N,rfl,T,s,m,rfl⟩
 have q:=T.r
 obtain⟨rfl,ad⟩:=sL q
 obtain⟨V,H,a⟩:=B0 a
 refine Tr.beside m.no (J06 _ k p w u.length C u q _  H) ?_
 rintro ak O ⟨Z,rfl,i⟩ J
 obtain⟨am,aq⟩:=V
 dsimp only at a i
 have t:Sub N O:=i.sub
 have P:=i.r
 have z:=m.mono t J
 obtain⟨an,ao,Y,aa,ap,rfl,rfl,L,M,ai,ae⟩:=opG P
 try dsimp only at a
 have S:=nD (nD (i))
 cases a
 exact⟨_,_,rfl,(nP (nI L) (nP (nI M) (New.from S (j.trans s)))),((j.trans s).trans t),z,rfl⟩
def c0l(h:Hp)(c:Nat)(d:Value)(f:TypeId)(e:List Int)(y:Int×Int)(ap:x00 h c d e y)(r:Int×Int×O1×H0×(Int×Int))(a:W04 e y=some r):
  Tr Tryz.prog 45 #[ptr c 0] (h.set c (o06 d y f)) λv h'=>∃(I:Option Addr) (ad O:Nat) (J:Option Addr) (ae P:Nat) (p:Hp),v = .tuple #[iV r.1,iV r.2.1,.slice I ad O,.slice J ae P]/\T1.R p [.slice I ad O] r.2.2.1/\I0.R p [.slice J ae P] r.2.2.2.1/\Sub h p/\x00 p c d e r.2.2.2.2/\h'=p.set c (o06 d r.2.2.2.2 f):=by
 unfold W04 at a
 refine wk Tryz.f45 ?_
 obtain⟨bu,aQ,a⟩:=B0 a
 obtain⟨bG,bH⟩:=bu
 try dsimp only at a
 refine Tr.mono (Y5 _ c d f e y ap 6 (by decide) _ aQ) ?_
 rintro _ _ ⟨rfl,S,rfl⟩
 obtain⟨cU,aN,a⟩:=B0 a
 have ca:F0 bG:=K0 aN
 refine Or.inl ?_
 intro c6 cq aH
 obtain⟨cw,aJ,bi,rfl⟩:=Y0.beside S.no aH
 obtain⟨ak,aB,rfl,bl,j,cL⟩:=Y0.out (r:=Wp.int.toRp) aJ (show F2 (Wp.int.R h) ([[iV 1],[iV 2],[iV 2],[iV 2],[iV 3]]:LV) [1,2,2,2,3] from⟨⟨rfl,(by decide)⟩,⟨⟨rfl,(by decide)⟩,⟨⟨rfl,(by decide)⟩,⟨⟨rfl,(by decide)⟩,⟨⟨rfl,(by decide)⟩,trivial⟩⟩⟩⟩⟩)
 have ar:=S.mono j bi
 obtain⟨bB,aU,a⟩:=B0 a
 obtain⟨C,bC⟩:=bB
 try dsimp only at a
 refine Tr.mono (H0a _ c d f e bH ar ak ([1,2,2,2,3]).length aB [1,2,2,2,3] bl _ aU) ?_
 rintro _ _ ⟨rfl,au,rfl⟩
 obtain⟨cS,aM,a⟩:=B0 a
 have ac:F0 C:=K0 aM
 obtain⟨bD,aV,a⟩:=B0 a
 obtain⟨i,bE⟩:=bD
 try dsimp only at a
 refine Tr.mono (b0d _ c d f e bC au C ac _ aV) ?_
 rintro _ _ ⟨u,cM,x,ce,rfl,bs,k,av,rfl⟩
 have g:=bs.r
 obtain⟨rfl,cC⟩:=sL g
 obtain⟨bI,aW,a⟩:=B0 a
 obtain⟨dc,D⟩:=bI
 try dsimp only at a
 refine Tr.mono (s0i _ c d f e bE av C ac 4 (by decide) _ aW) ?_
 rintro _ _ ⟨bX,cN,b5,cf,rfl,bt,b,o,rfl⟩
 have q:=bt.r
 obtain⟨rfl,cD⟩:=sL q
 refine ifB a (λbc a=>?_) λbc a=>?_
 ·obtain⟨bJ,aX,a⟩:=B0 a
  obtain⟨dd,aj⟩:=bJ
  try dsimp only at a
  refine Tr.mono (h02 _ c d f e D o 2 (by decide) _ aX) ?_
  rintro _ _ ⟨rfl,w,rfl⟩
  refine ifB a (λbd a=>?_) λbd a=>?_
  ·refine w5 9 ?_
   obtain⟨E,aY,a⟩:=B0 a
   obtain⟨al,b0,aC,af⟩:=Sl.getI (r:=I0.toRp) (T1.mono b g) aY (by decide)
   obtain⟨K,Y,rfl,cE⟩:=slL af
   refine pm (.hel (.slice u i.length x) 0 1 0) ?_ ?_
   ·intro cg cX
    exact aI al r3
   refine pm (.val (.slice K E.length Y)) ?_ ?_
   ·intro ch bm
    exact eX _ (aI (O8.up ((Sub.set w.no).trans bm) aC) r3)
   refine pm (.val (iV ((i.length:Nat):Int))) ?_ ?_
   ·intro ci cY
    exact r3
   refine pm (.val (iV (i64.wrap (((i.length:Nat):Int)-1)))) ?_ ?_
   ·intro cj cZ
    exact r3
   obtain⟨F,aZ,a⟩:=B0 a
   obtain⟨am,b1,aD,ag⟩:=Sl.getI (r:=I0.toRp) (T1.mono b g) aZ (by decide)
   obtain⟨L,Z,rfl,cG⟩:=slL ag
   refine pm (.hel (.slice u i.length x) (i64.wrap (((i.length:Nat):Int)-1)) 1 0) ?_ ?_
   ·intro ck c0
    exact aI am r3
   refine pm (.val (.slice L F.length Z)) ?_ ?_
   ·intro cl bn
    exact eX _ (aI (O8.up ((Sub.set w.no).trans bn) aD) r3)
   intro cm bo
   obtain⟨cn,rfl,l,T⟩:=w.grow bo
   obtain⟨df,a0,a⟩:=B0 a
   refine Tr.beside T.no (d03 _ K E.length Y E (I0.mono l af) L F.length Z F (I0.mono l ag) _  a0) ?_
   rintro c5 co ⟨bY,cO,b6,rfl,z,s⟩ bj
   have aw:=T.mono s bj
   obtain⟨rfl,cH⟩:=sL z
   obtain⟨bK,a1,a⟩:=B0 a
   obtain⟨dg,bL⟩:=bK
   try dsimp only at a
   refine Tr.mono (h02 _ c d f e aj aw 16 (by decide) _ a1) ?_
   rintro _ _ ⟨rfl,U,rfl⟩
   refine ifB a (λbe a=>?_) λbe a=>?_
   ·obtain⟨bM,a2,a⟩:=B0 a
    obtain⟨bN,dh⟩:=bM
    try dsimp only at a
    refine Tr.mono (Y5 _ c d f e bL U 9 (by decide) _ a2) ?_
    rintro _ _ ⟨rfl,ax,rfl⟩
    obtain⟨cV,aO,a⟩:=B0 a
    have cb:F0 bN:=K0 aO
    cases a
    exact⟨_,_,_,_,_,_,_,rfl,(T1.mono ((b.trans l).trans s) g),z,((((j.trans k).trans b).trans l).trans s),ax,rfl⟩
   ·cases a
    exact⟨_,_,_,_,_,_,_,rfl,(T1.mono ((b.trans l).trans s) g),z,((((j.trans k).trans b).trans l).trans s),U,rfl⟩
  ·obtain⟨bO,a3,a⟩:=B0 a
   obtain⟨di,bP⟩:=bO
   try dsimp only at a
   refine Tr.mono (h02 _ c d f e aj w 16 (by decide) _ a3) ?_
   rintro _ _ ⟨rfl,V,rfl⟩
   refine ifB a (λbf a=>?_) λbf a=>?_
   ·obtain⟨bQ,a4,a⟩:=B0 a
    obtain⟨bR,dj⟩:=bQ
    try dsimp only at a
    refine Tr.mono (Y5 _ c d f e bP V 9 (by decide) _ a4) ?_
    rintro _ _ ⟨rfl,ay,rfl⟩
    obtain⟨cW,aP,a⟩:=B0 a
    have cc:F0 bR:=K0 aP
    cases a
    exact⟨_,_,_,_,_,_,_,rfl,(T1.mono b g),q,((j.trans k).trans b),ay,rfl⟩
   ·cases a
    exact⟨_,_,_,_,_,_,_,rfl,(T1.mono b g),q,((j.trans k).trans b),V,rfl⟩
 ·refine ifB a (λbg a=>?_) λbg a=>?_
  ·refine w5 9 ?_
   obtain⟨G,a5,a⟩:=B0 a
   obtain⟨an,b2,aF,ah⟩:=Sl.getI (r:=I0.toRp) (T1.mono b g) a5 (by decide)
   obtain⟨M,aa,rfl,cI⟩:=slL ah
   refine pm (.hel (.slice u i.length x) 0 1 0) ?_ ?_
   ·intro cr c1
    exact aI an r3
   refine pm (.val (.slice M G.length aa)) ?_ ?_
   ·intro cs bp
    exact eX _ (aI (O8.up ((Sub.set o.no).trans bp) aF) r3)
   refine pm (.val (iV ((i.length:Nat):Int))) ?_ ?_
   ·intro ct c2
    exact r3
   refine pm (.val (iV (i64.wrap (((i.length:Nat):Int)-1)))) ?_ ?_
   ·intro cu c3
    exact r3
   obtain⟨H,a6,a⟩:=B0 a
   obtain⟨ao,b3,aG,ai⟩:=Sl.getI (r:=I0.toRp) (T1.mono b g) a6 (by decide)
   obtain⟨N,ab,rfl,cJ⟩:=slL ai
   refine pm (.hel (.slice u i.length x) (i64.wrap (((i.length:Nat):Int)-1)) 1 0) ?_ ?_
   ·intro cv c4
    exact aI ao r3
   refine pm (.val (.slice N H.length ab)) ?_ ?_
   ·intro cx bq
    exact eX _ (aI (O8.up ((Sub.set o.no).trans bq) aG) r3)
   intro cy br
   obtain⟨cz,rfl,m,W⟩:=o.grow br
   obtain⟨dk,a7,a⟩:=B0 a
   refine Tr.beside W.no (d03 _ M G.length aa G (I0.mono m ah) N H.length ab H (I0.mono m ai) _  a7) ?_
   rintro c7 cA ⟨bZ,cP,b7,rfl,A,t⟩ bk
   have az:=W.mono t bk
   obtain⟨rfl,cK⟩:=sL A
   obtain⟨bS,a8,a⟩:=B0 a
   obtain⟨dm,bU⟩:=bS
   try dsimp only at a
   refine Tr.mono (h02 _ c d f e D az 16 (by decide) _ a8) ?_
   rintro _ _ ⟨rfl,X,rfl⟩
   refine ifB a (λbh a=>?_) λbh a=>?_
   ·obtain⟨bV,ba,a⟩:=B0 a
    obtain⟨bW,dn⟩:=bV
    try dsimp only at a
    refine Tr.mono (Y5 _ c d f e bU X 9 (by decide) _ ba) ?_
    rintro _ _ ⟨rfl,aA,rfl⟩
    obtain⟨cQ,aK,a⟩:=B0 a
    have cd:F0 bW:=K0 aK
    cases a
    exact⟨_,_,_,_,_,_,_,rfl,(T1.mono ((b.trans m).trans t) g),A,((((j.trans k).trans b).trans m).trans t),aA,rfl⟩
   ·cases a
    exact⟨_,_,_,_,_,_,_,rfl,(T1.mono ((b.trans m).trans t) g),A,((((j.trans k).trans b).trans m).trans t),X,rfl⟩
  ·obtain⟨bv,aR,a⟩:=B0 a
   obtain⟨c8,bx⟩:=bv
   try dsimp only at a
   refine Tr.mono (h02 _ c d f e D o 16 (by decide) _ aR) ?_
   rintro _ _ ⟨rfl,Q,rfl⟩
   refine ifB a (λbb a=>?_) λbb a=>?_
   ·obtain⟨bz,aS,a⟩:=B0 a
    obtain⟨bA,db⟩:=bz
    try dsimp only at a
    refine Tr.mono (Y5 _ c d f e bx Q 9 (by decide) _ aS) ?_
    rintro _ _ ⟨rfl,aq,rfl⟩
    obtain⟨cR,aL,a⟩:=B0 a
    have b8:F0 bA:=K0 aL
    cases a
    exact⟨_,_,_,_,_,_,_,rfl,(T1.mono b g),q,((j.trans k).trans b),aq,rfl⟩
   ·cases a
    exact⟨_,_,_,_,_,_,_,rfl,(T1.mono b g),q,((j.trans k).trans b),Q,rfl⟩
def A0b(h:Hp)(d:Nat)(e:Value)(j:TypeId)(f:List Int)(l:Int×Int)(s:x00 h d e f l)(r:P1×(Int×Int))(a:Q02 f l=some r):
  Tr Tryz.prog 70 #[ptr d 0] (h.set d (o06 e l j)) λv h'=>∃(y:List Value) (k:Hp),v = .agg y.toArray/\New Y1 h k y r.1/\Sub h k/\x00 k d e f r.2/\h'=k.set d (o06 e r.2 j):=by
 unfold Q02 at a
 refine wk Tryz.f70 ?_
 obtain⟨aK,ac,a⟩:=B0 a
 obtain⟨F,G,H,I,aN⟩:=aK
 try dsimp only at a
 refine Tr.mono (c0l _ d e j f l s _ ac) ?_
 rintro _ _ ⟨K,bs,Q,L,bt,S,au,rfl,A,C,b,x,rfl⟩
 obtain⟨bJ,aa,a⟩:=B0 a
 have ao:F0 F:=K0 aa
 obtain⟨bK,ab,a⟩:=B0 a
 have ap:F0 G:=K0 ab
 obtain⟨rfl,bj⟩:=sL A
 obtain⟨rfl,bk⟩:=sL C
 obtain⟨aP,af,a⟩:=B0 a
 refine Tr.beside x.no (M0h _ F ao G ap K H.length Q H A L I.length S I C _  af) ?_
 rintro bN i ⟨aX,rfl,g⟩ an
 obtain⟨bW,b7⟩:=aP
 dsimp only at a g
 have o:Sub au i:=g.sub
 have ay:=g.r
 have M:=x.mono o an
 obtain⟨bX,bY,aR,bu,aZ,bZ,aS,bv,a0,b0,aU,bx,a1,b1,b2,b3,aV,bz,a2,b5,b6,rfl,rfl,bb,bc,az,aA,aB,bd,be,aC,bf⟩:=Y2 ay
 obtain⟨rfl,bm⟩:=sL az
 obtain⟨rfl,bn⟩:=sL aA
 obtain⟨rfl,bo⟩:=sL aB
 obtain⟨rfl,bp⟩:=sL aC
 try dsimp only at a
 obtain⟨aL,ad,a⟩:=B0 a
 obtain⟨aM,u⟩:=aL
 try dsimp only at a
 refine Tr.mono (Y5 _ d e j f aN M 6 (by decide) _ ad) ?_
 rintro _ _ ⟨rfl,c,rfl⟩
 obtain⟨bG,X,a⟩:=B0 a
 have ba:F0 aM:=K0 X
 refine ifB a (λai a=>?_) λai a=>?_
 ·cases a
  exact⟨_,_,rfl,(New.from (clN g (J0 _)) b),(b.trans o),c,rfl⟩
 ·refine ifB a (λaj a=>?_) λaj a=>?_
  ·obtain⟨a8,m,bM,t,w⟩:=j0t g
   rcases New.two t with⟨rfl,rfl,rfl⟩|⟨a5,bC,rfl⟩
   ·skip
    refine Or.inr ?_
    obtain⟨bH,Y,a⟩:=B0 a
    refine aI (aI rfl (n0q Y (fL (show F2 (Wp.int.R i) ([[iV 1]]:LV) [1] from⟨⟨rfl,(by decide)⟩,trivial⟩)))) ?_
    intro bO bh ag
    obtain⟨av,V,al,rfl⟩:=h0o.beside c.no ag
    obtain⟨p,a6,bD,bA,a3,rfl⟩:=New.appN (r:=Wp.int) t sr (F3.ofPlain (n05 _) (show F2 (Wp.int.R i) ([[iV 1]]:LV) [1] from⟨⟨rfl,(by decide)⟩,trivial⟩)) R4.ofPlain V
    have aD:=p.r
    obtain⟨T,bq⟩:=sL aD
    subst T
    have N:x00 av d e f u:=⟨al,Sl.mono (r:=Rp.u8) ((b.trans m).trans p.sub) (s.rd),c.pl,c.nm⟩
    cases a
    exact⟨_,_,rfl,(New.from (w _ _ _ p) b),((b.trans m).trans p.sub),N,rfl⟩
   ·skip
    obtain⟨bI,Z,a⟩:=B0 a
    obtain⟨aH,D,z,J⟩:=New.app t sr
    refine eX aH (aI (t0i.setB c.no D) (aI (M1 Z (by first|rw[z,fL (show F2 (Wp.int.R i) ([[iV 1]]:LV) [1] from⟨⟨rfl,(by decide)⟩,trivial⟩)]|(rw[z];rfl))) ?_))
    intro bP bi ah
    obtain⟨aw,W,am,rfl⟩:=d0l.beside c.no D ah
    obtain⟨q,a7,bE,bB,a4,rfl⟩:=J _ _ _ _ _ (F3.ofPlain (n05 _) (show F2 (Wp.int.R i) ([[iV 1]]:LV) [1] from⟨⟨rfl,(by decide)⟩,trivial⟩)) R4.ofPlain W
    have aF:=q.r
    obtain⟨U,br⟩:=sL aF
    subst U
    have O:x00 aw d e f u:=⟨am,Sl.mono (r:=Rp.u8) ((b.trans m).trans q.sub) (s.rd),c.pl,c.nm⟩
    cases a
    exact⟨_,_,rfl,(New.from (w _ _ _ q) b),((b.trans m).trans q.sub),O,rfl⟩
  ·refine ifB a (λak a=>?_) λak a=>?_
   ·obtain⟨aO,ae,a⟩:=B0 a
    obtain⟨bQ,bV⟩:=aO
    try dsimp only at a
    refine Tr.mono (f0o _ d e j f u c _ ae) ?_
    rintro _ _ ⟨aW,bg,rfl,E,aG,P,rfl⟩
    have ax:=E.r
    obtain⟨bR,bS,aQ,aY,bU,rfl,rfl,aq,ar,bL,bl⟩:=opG ax
    try dsimp only at a
    have aJ:=nD (nD (E))
    cases a
    exact⟨_,_,rfl,(New.from (clG g sr aq ar aJ) b),((b.trans o).trans aG),P,rfl⟩
   ·cases a
    exact⟨_,_,rfl,(New.from g b),(b.trans o),c,rfl⟩
end Go.Proofs.YtcpjomkcdlggaaaGreat
