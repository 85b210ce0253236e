/- Texts of the claim, joined: The walks of batch sp1 and others. -/
import Derived.Test.YthakcafglempaaaGreatH53
import Derived.Test.YthakcafglempaaaGreatPart27
import Derived.Test.YthakcafglempaaaGreatPart25
import Derived.Test.YthakcafglempaaaGreatChecked
import Derived.Test.YthakcafglempaaaGreatH35
import Derived.Test.YthakcafglempaaaGreatPart39
import Derived.Test.YthakcafglempaaaGreatPart41
import Derived.Test.YthakcafglempaaaGreatPart42
import Derived.Test.YthakcafglempaaaGreatPart23
import Derived.Test.YthakcafglempaaaGreatH36
import Derived.Test.YthakcafglempaaaGreatPart24
import Derived.Test.YthakcafglempaaaGreatPart30
import Derived.Test.YthakcafglempaaaGreatH41
namespace Go.Proofs.YthakcafglempaaaGreat
set_option linter.all false
open Go.H
open IntKind (i64)
set_option maxRecDepth 10000
set_option maxHeartbeats 0
theorem o0a(h:Hp)(csp0:List Value)(p0:j0)(rp0:F1.R h csp0 p0)(ap1:Option Addr)(np1 cp1:Nat)(p1:I0)(rp1:J0.R h [.slice ap1 np1 cp1] p1)(r:I0×Bool)(hM0:V01 p0 p1=some r): Tr Tryz.prog 25 #[.agg csp0.toArray,.slice ap1 np1 cp1] h λv h'=>∃(a0:Option Addr) (n0 c0:Nat),v = .tuple #[.slice a0 n0 c0,.bool r.2]/\New J0 h h' [.slice a0 n0 c0] r.1:=by
 obtain⟨p0_0,p0_1,ap0_2,np0_2,cp0_2,p0_2,rfl,rfl,ip0_0,ip0_1,rp0_2⟩:=Z0 rp0;obtain⟨rfl,lp0_2⟩:=Sl.len rp0_2;obtain⟨rfl,lp1⟩:=Sl.len rp1;unfold V01 at hM0;dsimp only at hM0;refine j5 (args:=[.agg #[.int .i64 p0_0,.int .i64 p0_1,.slice ap0_2 p0_2.length cp0_2],.slice ap1 p1.length cp1]) (fn:=Tryz.f25) rfl ?_;refine trM hM0 (G06 _ ap1 p1.length cp1 p1 rp1) ?_;rintro x1 hM0 v3 k2 ⟨ax1,nx1,cx1,rfl,wx1⟩;have sx1:Sub h k2:=wx1.sub;have rx1:=wx1.r;obtain⟨rfl,lx1⟩:=Sl.len rx1;refine trV hM0 (v05 _ _ _ (D0 ip0_0 ip0_1 (N0.mono sx1 rp0_2)) _ _ _ _ rx1) λx4 hM0=>?_;refine ifB hM0 (λhc5 hM0=>?_) λhc5 hM0=>?_;·intro v6 k7 f8;obtain⟨az9,cz9,rfl,rz9,sz9,lz9⟩:=Y0.out (r:=Wp.int.toRp) f8 (F2.up (r:=Wp.int.toRp) sx1 (show F2 (Wp.int.R h) ([]:List (List Value)) ([]:I0) from trivial));obtain rfl:=oJ hM0;exact⟨az9,(([]:I0)).length,cz9,rfl,(New.from (Y0.newPlain (r:=Wp.int) f8 (F2.up (r:=Wp.int.toRp) sx1 (show F2 (Wp.int.R h) ([]:List (List Value)) ([]:I0) from trivial)) (B07 _)) sx1)⟩
 refine trM hM0 (b0g _ _ _ (D0 ip0_0 ip0_1 (N0.mono sx1 rp0_2))) ?_;rintro x10 hM0 v12 k11 ⟨ax10,nx10,cx10,rfl,rx10,sx10⟩;obtain⟨rfl,lx10⟩:=Sl.len rx10;obtain⟨X13,hLX13,hM0⟩:=B0 hM0;refine eX { vars:=[9,10],boxes:=[],owns:=[0],fuel:=true } (eX (λvs os h'=>∃ u14 u15 wu16 u16,vs.tail = [.int .i64 u14,.int .i64 u15]/\os = [wu16]/\Sub k11 h'/\H0 u14/\H0 u15/\F2 (Wp.int.R h') wu16 u16/\p8 x1 p0_0 p0_1 p0_2 x10 (E1 vs) u14 u15 u16=some X13) (eX (λ_ _=>0) (aI (eX P0 ⟨0,0,[],([]:I0),rfl,rfl,(Sub.refl _),(by decide),(by decide),(F2.up (r:=Wp.int.toRp) (sx1.trans sx10) (show F2 (Wp.int.R h) ([]:List (List Value)) ([]:I0) from trivial)),hLX13⟩) ?_)));rintro _ _ wu16 m18 k17 ⟨u14,u15,zzu16,u16,⟨⟩,⟨⟩,sX13,iu14,iu15,fu16,hM1⟩;replace hM1:p8 x1 p0_0 p0_1 p0_2 x10 m18 u14 u15 u16=some X13:=hM1;obtain _|m18:=m18;·cases hM1
 rw[p8.eq_2]at hM1;refine ifB hM1 (λhc19 hM1=>?_) λhc19 hM1=>?_
 ·refine Or.inl (aI (aI (by kernel_rfl) (by kernel_rfl)) ?_);refine ldI hM1 (J0.mono (sx10.trans sX13) rx1) λx20 ix20 hM1=>?_;obtain⟨x21,gx21,hM1⟩:=B0 hM1;refine eX (.int .i64 x21) (aI (b9 _ _ _ (D0 ip0_0 ip0_1 (N0.mono ((sx1.trans sx10).trans sX13) rp0_2)) _ iu14 _ ix20 _  gx21) ?_);obtain⟨q22,gq22,hM1⟩:=B0 hM1;have ix21:H0 x21:=F0 gq22;obtain⟨X23,hLX23,hM1⟩:=B0 hM1;refine eX { vars:=[12],boxes:=[],owns:=[0],fuel:=true } (eX (λvs os h'=>∃ u24 wu25 u25,vs.tail = [.int .i64 u24]/\os = [wu25]/\Sub k17 h'/\H0 u24/\F2 (Wp.int.R h') wu25 u25/\Z4 x10 x1 u15 u14 x21 (E1 vs) u24 u25=some X23) (eX (λ_ _=>0) (aI (eX P0 ⟨0,wu16,u16,rfl,rfl,(Sub.refl _),(by decide),fu16,hLX23⟩) ?_)));rintro _ wu25 m27 k26 ⟨u24,zzu25,u25,⟨⟩,⟨⟩,sX23,iu24,fu25,hM2⟩;replace hM2:Z4 x10 x1 u15 u14 x21 m27 u24 u25=some X23:=hM2;obtain _|m27:=m27;·cases hM2
  rw[Z4.eq_2]at hM2;refine ifB hM2 (λhc28 hM2=>?_) λhc28 hM2=>?_
  ·refine Or.inl (aI (aI (by kernel_rfl) (by kernel_rfl)) ?_);refine ldI hM2 (J0.mono ((sx10.trans sX13).trans sX23) rx1) λx29 ix29 hM2=>?_;obtain⟨x30,gx30,hM2⟩:=B0 hM2;obtain⟨csx30,ex30,rx30⟩:=Sl.getG (r:=C1.toRp) (N0.mono (sX13.trans sX23) rx10) gx30 (by decide) (Q0b k26);refine aI (λq=>(ex30 q).1) ?_;obtain⟨x30_0,x30_1,x30_2,rfl,rfl,ix30_0,ix30_1,ix30_2⟩:=Q1 rx30;try dsimp only at hM2
   refine eX _ (aI (λq=>(ex30 q).2) ?_);refine ldG hM2 (J0.mono ((sx10.trans sX13).trans sX23) rx1) λx31 ix31 hM2=>?_;refine eX (eqE (x30_0,x30_1,x30_2) (u14,x31,x21)) (aI (λ_=>(j0d _ _ _ rfl _ _ _ _ _ _)) ?_);refine ifB hM2 (λhc32 hM2=>?_) λhc32 hM2=>?_
   ·obtain⟨q33,gq33,hM2⟩:=B0 hM2;refine aI (G1 gq33 (by first|rw[F2.length fu25,F2.length (show F2 (Wp.int.R k26) ([[.int .i64 (IntKind.i64.wrap (u24+1))]]:List (List Value)) [(IntKind.i64.wrap (u24+1))] from⟨⟨rfl,(M0 _)⟩,trivial⟩)]|exact congrArg (·+1) (F2.length fu25))) ?_;refine Or.inl (aI (aI (by kernel_rfl) (by kernel_rfl)) ?_);refine ldI hM2 (J0.mono ((sx10.trans sX13).trans sX23) rx1) λx34 ix34 hM2=>?_;obtain⟨x35,gx35,hM2⟩:=B0 hM2;obtain⟨csx35,ex35,rx35⟩:=Sl.getG (r:=C1.toRp) (N0.mono (sX13.trans sX23) rx10) gx35 (by decide) (Q0b k26);refine aI (λq=>(ex35 q).1) ?_;obtain⟨x35_0,x35_1,x35_2,rfl,rfl,ix35_0,ix35_1,ix35_2⟩:=Q1 rx35;try dsimp only at hM2
    refine eX _ (aI (λq=>(ex35 q).2) ?_);refine ldG hM2 (J0.mono ((sx10.trans sX13).trans sX23) rx1) λx36 ix36 hM2=>?_;refine eX (eqE (x35_0,x35_1,x35_2) (x21,(IntKind.i64.wrap (0-x36)),u14)) (aI (λ_=>(j0d _ _ _ rfl _ _ _ _ _ _)) ?_);refine ifB hM2 (λhc37 hM2=>?_) λhc37 hM2=>?_;·obtain⟨q38,gq38,hM2⟩:=B0 hM2;refine aI (G1 gq38 (by first|rw[F2.length (F2.append fu25 (show F2 (Wp.int.R k26) ([[.int .i64 (IntKind.i64.wrap (u24+1))]]:List (List Value)) [(IntKind.i64.wrap (u24+1))] from⟨⟨rfl,(M0 _)⟩,trivial⟩)),F2.length (show F2 (Wp.int.R k26) ([[.int .i64 (IntKind.i64.wrap ((IntKind.i64.wrap (0-u24))-1))]]:List (List Value)) [(IntKind.i64.wrap ((IntKind.i64.wrap (0-u24))-1))] from⟨⟨rfl,(M0 _)⟩,trivial⟩)]|exact congrArg (·+1) (F2.length (F2.append fu25 (show F2 (Wp.int.R k26) ([[.int .i64 (IntKind.i64.wrap (u24+1))]]:List (List Value)) [(IntKind.i64.wrap (u24+1))] from⟨⟨rfl,(M0 _)⟩,trivial⟩))))) ?_;exact P1 m27 ⟨(IntKind.i64.wrap (u24+1)),((wu25++([[.int .i64 (IntKind.i64.wrap (u24+1))]]:List (List Value)))++([[.int .i64 (IntKind.i64.wrap ((IntKind.i64.wrap (0-u24))-1))]]:List (List Value))),((u25 ++ [(IntKind.i64.wrap (u24+1))]) ++ [(IntKind.i64.wrap ((IntKind.i64.wrap (0-u24))-1))]),rfl,rfl,sX23,(M0 _),(F2.append (F2.append fu25 (show F2 (Wp.int.R k26) ([[.int .i64 (IntKind.i64.wrap (u24+1))]]:List (List Value)) [(IntKind.i64.wrap (u24+1))] from⟨⟨rfl,(M0 _)⟩,trivial⟩)) (show F2 (Wp.int.R k26) ([[.int .i64 (IntKind.i64.wrap ((IntKind.i64.wrap (0-u24))-1))]]:List (List Value)) [(IntKind.i64.wrap ((IntKind.i64.wrap (0-u24))-1))] from⟨⟨rfl,(M0 _)⟩,trivial⟩)),hM2⟩
    exact P1 m27 ⟨(IntKind.i64.wrap (u24+1)),(wu25++([[.int .i64 (IntKind.i64.wrap (u24+1))]]:List (List Value))),(u25 ++ [(IntKind.i64.wrap (u24+1))]),rfl,rfl,sX23,(M0 _),(F2.append fu25 (show F2 (Wp.int.R k26) ([[.int .i64 (IntKind.i64.wrap (u24+1))]]:List (List Value)) [(IntKind.i64.wrap (u24+1))] from⟨⟨rfl,(M0 _)⟩,trivial⟩)),hM2⟩
   refine Or.inl (aI (aI (by kernel_rfl) (by kernel_rfl)) ?_);refine ldI hM2 (J0.mono ((sx10.trans sX13).trans sX23) rx1) λx39 ix39 hM2=>?_;obtain⟨x40,gx40,hM2⟩:=B0 hM2;obtain⟨csx40,ex40,rx40⟩:=Sl.getG (r:=C1.toRp) (N0.mono (sX13.trans sX23) rx10) gx40 (by decide) (Q0b k26);refine aI (λq=>(ex40 q).1) ?_;obtain⟨x40_0,x40_1,x40_2,rfl,rfl,ix40_0,ix40_1,ix40_2⟩:=Q1 rx40;try dsimp only at hM2
   refine eX _ (aI (λq=>(ex40 q).2) ?_);refine ldG hM2 (J0.mono ((sx10.trans sX13).trans sX23) rx1) λx41 ix41 hM2=>?_;refine eX (eqE (x40_0,x40_1,x40_2) (x21,(IntKind.i64.wrap (0-x41)),u14)) (aI (λ_=>(j0d _ _ _ rfl _ _ _ _ _ _)) ?_);refine ifB hM2 (λhc42 hM2=>?_) λhc42 hM2=>?_;·obtain⟨q43,gq43,hM2⟩:=B0 hM2;refine aI (G1 gq43 (by first|rw[F2.length fu25,F2.length (show F2 (Wp.int.R k26) ([[.int .i64 (IntKind.i64.wrap ((IntKind.i64.wrap (0-u24))-1))]]:List (List Value)) [(IntKind.i64.wrap ((IntKind.i64.wrap (0-u24))-1))] from⟨⟨rfl,(M0 _)⟩,trivial⟩)]|exact congrArg (·+1) (F2.length fu25))) ?_;exact P1 m27 ⟨(IntKind.i64.wrap (u24+1)),(wu25++([[.int .i64 (IntKind.i64.wrap ((IntKind.i64.wrap (0-u24))-1))]]:List (List Value))),(u25 ++ [(IntKind.i64.wrap ((IntKind.i64.wrap (0-u24))-1))]),rfl,rfl,sX23,(M0 _),(F2.append fu25 (show F2 (Wp.int.R k26) ([[.int .i64 (IntKind.i64.wrap ((IntKind.i64.wrap (0-u24))-1))]]:List (List Value)) [(IntKind.i64.wrap ((IntKind.i64.wrap (0-u24))-1))] from⟨⟨rfl,(M0 _)⟩,trivial⟩)),hM2⟩
   exact P1 m27 ⟨(IntKind.i64.wrap (u24+1)),wu25,u25,rfl,rfl,sX23,(M0 _),fu25,hM2⟩
  obtain rfl:=oJ hM2;try dsimp only[S0,U0]at hM1
  exact P1 m18 ⟨x21,(IntKind.i64.wrap (u15+1)),wu25,u25,rfl,rfl,(sX13.trans sX23),ix21,(M0 _),fu25,hM1⟩
 obtain rfl:=oJ hM1;try dsimp only[S0,U0]at hM0
 refine Or.inl ?_;intro v48 k49 f50;obtain⟨az51,cz51,rfl,rz51,sz51,lz51⟩:=Y0.out (r:=Wp.int.toRp) f50 fu16;refine trM hM0 (G06 _ az51 u16.length cz51 u16 rz51) ?_;rintro x52 hM0 v54 k53 ⟨ax52,nx52,cx52,rfl,wx52⟩;have sx52:Sub k49 k53:=wx52.sub;have rx52:=wx52.r;obtain⟨rfl,lx52⟩:=Sl.len rx52;obtain rfl:=oJ hM0;exact⟨ax52,x52.length,cx52,rfl,(New.from wx52 (((sx1.trans sx10).trans sX13).trans sz51))⟩
def M0k(h:Hp)(csp0:List Value)(p0:j0)(rp0:F1.R h csp0 p0)(ap1:Option Addr)(np1 cp1:Nat)(p1:I0)(rp1:J0.R h [.slice ap1 np1 cp1] p1)(r:j0×Bool)(hM0:D04 p0 p1=some r): Tr Tryz.prog 88 #[.agg csp0.toArray,.slice ap1 np1 cp1] h λv h'=>∃(cs0:List Value),v = .tuple #[.agg cs0.toArray,.bool r.2]/\F1.R h' cs0 r.1/\Sub h h':=by
 obtain⟨p0_0,p0_1,ap0_2,cp0_2,p0_2,rfl,rfl,ip0_0,ip0_1,rp0_2,lp0_2⟩:=opG rp0;obtain⟨rfl,lp1⟩:=sL rp1;unfold D04 at hM0;dsimp only at hM0;refine wk Tryz.f88 ?_;refine trV hM0 (c0g _ _ _ (D0 ip0_0 ip0_1 rp0_2) 0 (by decide) _ _ _ _ rp1) λx1 hM0=>?_;obtain⟨q2,gq2,hM0⟩:=B0 hM0;have ix1:H0 x1:=F0 gq2;refine ifB hM0 (λhc3 hM0=>?_) λhc3 hM0=>?_
 ·refine trM hM0 (z8 _ _ _ (D0 ip0_0 ip0_1 rp0_2)) ?_;rintro x4 hM0 v6 k5 ⟨csx4,rfl,wx4⟩;have sx4:Sub h k5:=wx4.sub;have rx4:=wx4.r;obtain⟨x4_0,x4_1,ax4_2,cx4_2,x4_2,rfl,rfl,ix4_0,ix4_1,rx4_2,lx4_2⟩:=opG rx4;try dsimp only at hM0
  cases hM0;exact⟨_,rfl,(D0 ix4_0 ix4_1 rx4_2),sx4⟩
 refine w4 ?_;obtain⟨x7,gx7,hM0⟩:=B0 hM0;refine fS J0 x7 ?_ ?_;·intro k8 s9;obtain⟨qx7,vsx7,ex7,fx7⟩:=Sl.cutI (r:=Wp.int.toRp) (J0.mono s9 rp1) gx7;refine aI qx7 (eX vsx7 (aI ex7 ?_));intro v hv _;obtain⟨a,c,rfl,r⟩:=fx7 v hv;exact aI E6 (aI sr ⟨a,c,rfl,r,(sL r).2⟩)
 obtain⟨x10,gx10,hM0⟩:=B0 hM0;obtain⟨x10_0,x10_1⟩:=x10;try dsimp only at hM0
 obtain⟨q11,gq11,hM0⟩:=B0 hM0;have ix10_0:H0 x10_0:=F0 gq11;refine pm (.val (.tuple #[iV x10_0,.bool x10_1])) ?_ ?_;·intro k12 s13;rintro _ ⟨az14,cz14,rfl,rz14,lz14⟩;exact Tr.val (u05 _ _ _ (D0 ip0_0 ip0_1 (N0.mono s13 rp0_2)) 0 (by decide) _ _ _ _ rz14 _ gx10) r3
 refine pm (.val (iV x10_0)) ?_ ?_;·intro k15 s16;exact r3
 refine pm (.val (.bool x10_1)) ?_ ?_;·intro k17 s18;exact r3
 intro k19 s20;rintro _ _;refine trM hM0 (i0h _ _ _ (D0 ip0_0 ip0_1 (N0.mono s20 rp0_2))) ?_;rintro x21 hM0 v23 k22 ⟨csx21_0,rfl,rx21_0,sx21⟩;obtain⟨x21_0,x21_1⟩:=x21;dsimp only at hM0 rx21_0;obtain⟨x21_0_0,x21_0_1,ax21_0_2,cx21_0_2,x21_0_2,rfl,rfl,ix21_0_0,ix21_0_1,rx21_0_2,lx21_0_2⟩:=opG rx21_0;try dsimp only at hM0
 refine ifB hM0 (λhc24 hM0=>?_) λhc24 hM0=>?_;·cases hM0;exact⟨_,rfl,(D0 (by decide) (by decide) (z09 C1 k22)),(s20.trans sx21)⟩
 refine w5 12 ?_;obtain⟨x25,gx25,hM0⟩:=B0 hM0;refine fS J0 x25 ?_ ?_;·intro k26 s27;obtain⟨qx25,vsx25,ex25,fx25⟩:=Sl.cutI (r:=Wp.int.toRp) (J0.mono ((s20.trans sx21).trans s27) rp1) gx25;refine aI qx25 (eX vsx25 (aI ex25 ?_));intro v hv _;obtain⟨a,c,rfl,r⟩:=fx25 v hv;exact aI E6 (aI sr ⟨a,c,rfl,r,(sL r).2⟩)
 obtain⟨x28,gx28,hM0⟩:=B0 hM0;obtain⟨x28_0,x28_1⟩:=x28;try dsimp only at hM0
 obtain⟨x28_0_0,x28_0_1,x28_0_2⟩:=x28_0;try dsimp only at hM0
 refine Or.inr (eX (λv hh=>∃(ux28_0:Value),v = .tuple #[ux28_0,.bool x28_1]/\(λv hh=>∃(ax28_0_2:Option Addr) (cx28_0_2:Nat),v = .agg #[iV x28_0_0,iV x28_0_1,.slice ax28_0_2 x28_0_2.length cx28_0_2]/\H0 x28_0_0/\H0 x28_0_1/\N0.R hh [.slice ax28_0_2 x28_0_2.length cx28_0_2] x28_0_2/\x28_0_2.length<=9223372036854775807) ux28_0 hh) (aI (λv h1 h2 sb q=>by obtain⟨ux28_0,e,fux28_0⟩:=q;exact⟨ux28_0,e,(by obtain⟨ax28_0_2,cx28_0_2,e,f0,f1,f2,f3⟩:=fux28_0;exact⟨ax28_0_2,cx28_0_2,e,f0,f1,N0.mono sb f2,f3⟩)⟩) (aI ?_ ?_)));·intro k29 s30;rintro _ ⟨az31,cz31,rfl,rz31,lz31⟩;refine Tr.mono (p0c _ _ _ (D0 ix21_0_0 ix21_0_1 (N0.mono s30 rx21_0_2)) _ ix10_0 _ _ _ _ rz31 _ ip0_1 _ gx28) ?_;rintro _ kk ⟨csx28_0,rfl,rx28_0,sb⟩;obtain⟨yx28_0_0,yx28_0_1,ayx28_0_2,cyx28_0_2,yx28_0_2,rfl,ey,iyx28_0_0,iyx28_0_1,ryx28_0_2,lyx28_0_2⟩:=opG rx28_0;cases ey;exact aI E6 (aI sb ⟨(.agg #[iV x28_0_0,iV x28_0_1,.slice ayx28_0_2 x28_0_2.length cyx28_0_2]),rfl,⟨ayx28_0_2,cyx28_0_2,rfl,iyx28_0_0,iyx28_0_1,ryx28_0_2,lyx28_0_2⟩⟩)
 refine Or.inr (eX (λv hh=>∃(ux28_0:Value),v = .tuple #[ux28_0,.bool x28_1]/\(λv hh=>∃(ax28_0_2:Option Addr) (cx28_0_2:Nat),v = .agg #[iV x28_0_0,iV x28_0_1,.slice ax28_0_2 x28_0_2.length cx28_0_2]/\H0 x28_0_0/\H0 x28_0_1/\N0.R hh [.slice ax28_0_2 x28_0_2.length cx28_0_2] x28_0_2/\x28_0_2.length<=9223372036854775807) ux28_0 hh) (aI (λv h1 h2 sb q=>by obtain⟨ux28_0,e,fux28_0⟩:=q;exact⟨ux28_0,e,(by obtain⟨ax28_0_2,cx28_0_2,e,f0,f1,f2,f3⟩:=fux28_0;exact⟨ax28_0_2,cx28_0_2,e,f0,f1,N0.mono sb f2,f3⟩)⟩) (aI ?_ ?_)));·intro k32 s33;rintro _ ⟨_,rfl,⟨az34p02,cz34p02,rfl,iz34p00,iz34p01,rz34p02,lz34p02⟩⟩;exact aI E6 (aI sr ⟨(.agg #[iV x28_0_0,iV x28_0_1,.slice az34p02 x28_0_2.length cz34p02]),rfl,⟨az34p02,cz34p02,rfl,iz34p00,iz34p01,rz34p02,lz34p02⟩⟩)
 refine Or.inr (eX (λv hh=>∃(ax28_0_2:Option Addr) (cx28_0_2:Nat),v = .agg #[iV x28_0_0,iV x28_0_1,.slice ax28_0_2 x28_0_2.length cx28_0_2]/\H0 x28_0_0/\H0 x28_0_1/\N0.R hh [.slice ax28_0_2 x28_0_2.length cx28_0_2] x28_0_2/\x28_0_2.length<=9223372036854775807) (aI (λv h1 h2 sb q=>by obtain⟨ax28_0_2,cx28_0_2,e,f0,f1,f2,f3⟩:=q;exact⟨ax28_0_2,cx28_0_2,e,f0,f1,N0.mono sb f2,f3⟩) (aI ?_ ?_)));·intro k35 s36;rintro _ ⟨_,rfl,⟨az37p02,cz37p02,rfl,iz37p00,iz37p01,rz37p02,lz37p02⟩⟩;exact aI E6 (aI sr ⟨az37p02,cz37p02,rfl,iz37p00,iz37p01,rz37p02,lz37p02⟩)
 refine pm (.val (.bool x28_1)) ?_ ?_;·intro k38 s39;rintro _ ⟨_,rfl,⟨az40p02,cz40p02,rfl,iz40p00,iz40p01,rz40p02,lz40p02⟩⟩;exact r3
 intro k41 s42;rintro _ ⟨az432,cz432,rfl,iz430,iz431,rz432,lz432⟩;rintro _ _;rintro _ _;rintro _ _;cases hM0;exact⟨_,rfl,(D0 iz430 iz431 rz432),((s20.trans sx21).trans s42)⟩
def r0c(h:Hp)(csp0:List Value)(p0:j0)(rp0:F1.R h csp0 p0)(r:j0×Bool)(hM0:Y9 p0=some r): Tr Tryz.prog 89 #[.agg csp0.toArray] h λv h'=>∃(cs0:List Value),v = .tuple #[.agg cs0.toArray,.bool r.2]/\F1.R h' cs0 r.1/\Sub h h':=by
 obtain⟨p0_0,p0_1,ap0_2,cp0_2,p0_2,rfl,rfl,ip0_0,ip0_1,rp0_2,lp0_2⟩:=opG rp0;unfold Y9 at hM0;dsimp only at hM0;refine wk Tryz.f89 ?_;refine trV hM0 (B01 _ _ _ (D0 ip0_0 ip0_1 rp0_2)) λx1 hM0=>?_;refine ifB hM0 (λhc2 hM0=>?_) λhc2 hM0=>?_;·cases hM0;exact⟨_,rfl,(D0 (by decide) (by decide) (z09 C1 h)),sr⟩
 refine trM hM0 (z8 _ _ _ (D0 ip0_0 ip0_1 rp0_2)) ?_;rintro x3 hM0 v5 k4 ⟨csx3,rfl,wx3⟩;have sx3:Sub h k4:=wx3.sub;have rx3:=wx3.r;obtain⟨x3_0,x3_1,ax3_2,cx3_2,x3_2,rfl,rfl,ix3_0,ix3_1,rx3_2,lx3_2⟩:=opG rx3;try dsimp only at hM0
 obtain⟨X6,hLX6,hM0⟩:=B0 hM0;refine eX { vars:=[5],boxes:=[2] } (eX (λvs os h'=>∃ u7 u8 u9 au10 nu10 cu10 u10,vs.tail = [iV u7,iV u8,iV u9,.slice au10 nu10 cu10]/\os = []/\Sub k4 h'/\H0 u7/\H0 u8/\H0 u9/\N0.R h' [.slice au10 nu10 cu10] u10/\N5 p0_0 p0_1 p0_2 (E1 vs) u7 u8 u9 u10=some X6) (eX (λ_ _=>0) (aI (eX P0 ⟨_,_,_,_,_,_,_,rfl,rfl,sr,(by decide),ix3_0,ix3_1,rx3_2,hLX6⟩) ?_)));rintro _ _ _ _ m12 k11 ⟨u7,u8,u9,au10,nu10,cu10,u10,⟨⟩,⟨⟩,sX6,iu7,iu8,iu9,ru10,hM1⟩;replace hM1:N5 p0_0 p0_1 p0_2 m12 u7 u8 u9 u10=some X6:=hM1;obtain _|m12:=m12;·cases hM1
 rw[N5.eq_2]at hM1;obtain⟨rfl,lu10⟩:=sL ru10;refine ifB hM1 (λhc13 hM1=>?_) λhc13 hM1=>?_
 ·obtain⟨X14,hLX14,hM1⟩:=B0 hM1;refine eX { vars:=[8],owns:=[0,1] } (eX (λvs os h'=>∃ u15 wu16 u16 wu17 u17,vs.tail = [iV u15]/\os = [wu16,wu17]/\Sub k11 h'/\H0 u15/\F2 (Wp.int.R h') wu16 u16/\F2 (Wp.int.R h') wu17 u17/\P3 p0_1 p0_0 p0_2 u7 (E1 vs) u15 u16 u17=some X14) (eX (λ_ _=>0) (aI (eX P0 ⟨_,_,_,_,_,rfl,rfl,sr,(by decide),(show F2 (Wp.int.R k11) ([]:LV) ([]:I0) from trivial),(show F2 (Wp.int.R k11) ([]:LV) ([]:I0) from trivial),hLX14⟩) ?_)));rintro _ wu16 wu17 m19 k18 ⟨u15,zzu16,u16,zzu17,u17,⟨⟩,⟨⟩,sX14,iu15,fu16,fu17,hM2⟩;replace hM2:P3 p0_1 p0_0 p0_2 u7 m19 u15 u16 u17=some X14:=hM2;obtain _|m19:=m19;·cases hM2
  rw[P3.eq_2]at hM2;refine ifB hM2 (λhc20 hM2=>?_) λhc20 hM2=>?_
  ·refine trV hM2 (b9 _ _ _ (D0 ip0_0 ip0_1 (N0.mono ((sx3.trans sX6).trans sX14) rp0_2)) _ iu15 _ iu7) λx21 hM2=>?_;obtain⟨q22,gq22,hM2⟩:=B0 hM2;have ix21:H0 x21:=F0 gq22;refine ifB hM2 (λhc23 hM2=>?_) λhc23 hM2=>?_
   ·obtain⟨q24,gq24,hM2⟩:=B0 hM2;refine aI (G1 gq24 (by first|rw[fL fu16,fL (show F2 (Wp.int.R k18) ([[iV u15]]:LV) [u15] from⟨⟨rfl,iu15⟩,trivial⟩)]|exact congrArg (·+1) (fL fu16))) ?_;refine trV hM2 (b9 _ _ _ (D0 ip0_0 ip0_1 (N0.mono ((sx3.trans sX6).trans sX14) rp0_2)) _ iu15 (i64.wrap (0-u7)) (M0 _)) λx25 hM2=>?_;obtain⟨q26,gq26,hM2⟩:=B0 hM2;have ix25:H0 x25:=F0 gq26;refine ifB hM2 (λhc27 hM2=>?_) λhc27 hM2=>?_;·obtain⟨q28,gq28,hM2⟩:=B0 hM2;refine aI (G1 gq28 (by first|rw[fL fu17,fL (show F2 (Wp.int.R k18) ([[iV u15]]:LV) [u15] from⟨⟨rfl,iu15⟩,trivial⟩)]|exact congrArg (·+1) (fL fu17))) ?_;exact P1 m19 ⟨_,_,_,_,_,rfl,rfl,sX14,(M0 _),(fA fu16 (show F2 (Wp.int.R k18) ([[iV u15]]:LV) [u15] from⟨⟨rfl,iu15⟩,trivial⟩)),(fA fu17 (show F2 (Wp.int.R k18) ([[iV u15]]:LV) [u15] from⟨⟨rfl,iu15⟩,trivial⟩)),hM2⟩
    exact P1 m19 ⟨_,_,_,_,_,rfl,rfl,sX14,(M0 _),(fA fu16 (show F2 (Wp.int.R k18) ([[iV u15]]:LV) [u15] from⟨⟨rfl,iu15⟩,trivial⟩)),fu17,hM2⟩
   refine trV hM2 (b9 _ _ _ (D0 ip0_0 ip0_1 (N0.mono ((sx3.trans sX6).trans sX14) rp0_2)) _ iu15 (i64.wrap (0-u7)) (M0 _)) λx29 hM2=>?_;obtain⟨q30,gq30,hM2⟩:=B0 hM2;have ix29:H0 x29:=F0 gq30;refine ifB hM2 (λhc31 hM2=>?_) λhc31 hM2=>?_;·obtain⟨q32,gq32,hM2⟩:=B0 hM2;refine aI (G1 gq32 (by first|rw[fL fu17,fL (show F2 (Wp.int.R k18) ([[iV u15]]:LV) [u15] from⟨⟨rfl,iu15⟩,trivial⟩)]|exact congrArg (·+1) (fL fu17))) ?_;exact P1 m19 ⟨_,_,_,_,_,rfl,rfl,sX14,(M0 _),fu16,(fA fu17 (show F2 (Wp.int.R k18) ([[iV u15]]:LV) [u15] from⟨⟨rfl,iu15⟩,trivial⟩)),hM2⟩
   exact P1 m19 ⟨_,_,_,_,_,rfl,rfl,sX14,(M0 _),fu16,fu17,hM2⟩
  cases hM2;try dsimp only[S0,U0]at hM1
  obtain⟨X33,hLX33,hM1⟩:=B0 hM1;refine eX { vars:=[9],boxes:=[2] } (eX (λvs os h'=>∃ u34 u35 u36 au37 nu37 cu37 u37,vs.tail = [iV u34,iV u35,iV u36,.slice au37 nu37 cu37]/\os = []/\Sub k18 h'/\H0 u34/\H0 u35/\H0 u36/\N0.R h' [.slice au37 nu37 cu37] u37/\M5 u16 u17 u7 (E1 vs) u34 u35 u36 u37=some X33) (eX (λ_ _=>0) (aI (eX P0 ⟨_,_,_,_,_,_,_,rfl,rfl,sr,(by decide),iu8,iu9,(N0.mono sX14 ru10),hLX33⟩) ?_)));rintro _ _ _ _ m39 k38 ⟨u34,u35,u36,au37,nu37,cu37,u37,⟨⟩,⟨⟩,sX33,iu34,iu35,iu36,ru37,hM2⟩;replace hM2:M5 u16 u17 u7 m39 u34 u35 u36 u37=some X33:=hM2;obtain _|m39:=m39;·cases hM2
  rw[M5.eq_2]at hM2;obtain⟨rfl,lu37⟩:=sL ru37;obtain⟨m40,gm40,hM2⟩:=B0 hM2;obtain rfl:wu16.length=m40:=(fL (F2.up (r:=Wp.int.toRp) sX33 fu16)).trans (oJ gm40);obtain⟨q41,gq41,hM2⟩:=B0 hM2;refine ifB hM2 (λhc42 hM2=>?_) λhc42 hM2=>?_
  ·refine w5 12 ?_;obtain⟨x43,gx43,hM2⟩:=B0 hM2;obtain⟨bx43,csx43,ex43,rx43⟩:=S3 (F2.up (r:=Wp.int.toRp) sX33 fu16) gx43;obtain⟨rfl,ix43⟩:=rx43;refine Or.inl ?_;apply eX;refine aI ?_ ?_;·intro k44 s45;exact aI bx43 r3
   refine pm (.val (iV x43)) ?_ ?_;·intro k46 s47;exact eX _ (aI ex43 r3)
   obtain⟨x48,gx48,hM2⟩:=B0 hM2;obtain⟨bx48,csx48,ex48,rx48⟩:=S3 (F2.up (r:=Wp.int.toRp) sX33 fu17) gx48;obtain⟨rfl,ix48⟩:=rx48;refine Or.inl ?_;apply eX;refine aI ?_ ?_;·intro k49 s50;exact aI bx48 r3
   refine pm (.val (iV x48)) ?_ ?_;·intro k51 s52;exact eX _ (aI ex48 r3)
   refine pm (.agg [.val (iV x43),.val (iV u7),.val (iV x48)]) ?_ ?_;·intro k53 s54;exact r3
   intro k55 s56;refine trM hM2 (L01 _ _ _ _ _ (N0.mono s56 ru37) _ _ (N1 ix43 iu7 ix48)) ?_;rintro x57 hM2 v59 k58 ⟨ax57,nx57,cx57,rfl,wx57⟩;have sx57:Sub k55 k58:=wx57.sub;have rx57:=wx57.r;obtain⟨rfl,lx57⟩:=sL rx57;exact P1 m39 ⟨_,_,_,_,_,_,_,rfl,rfl,((sX33.trans s56).trans sx57),(M0 _),iu35,iu36,rx57,hM2⟩
  cases hM2;try dsimp only[S0,U0]at hM1
  exact P1 m12 ⟨_,_,_,_,_,_,_,rfl,rfl,((sX6.trans sX14).trans sX33),(M0 _),iu35,iu36,ru37,hM1⟩
 cases hM1;try dsimp only[S0,U0]at hM0
 cases hM0;exact⟨_,rfl,(D0 iu8 iu9 ru10),(sx3.trans sX6)⟩
def s0c(h:Hp)(csp0:List Value)(p0:j0)(rp0:F1.R h csp0 p0)(ap1:Option Addr)(np1 cp1:Nat)(p1:M1)(rp1:T1.R h [.slice ap1 np1 cp1] p1)(r:j0×Bool)(hM0:Z9 p0 p1=some r): Tr Tryz.prog 51 #[.agg csp0.toArray,.slice ap1 np1 cp1] h λv h'=>∃(cs0:List Value),v = .tuple #[.agg cs0.toArray,.bool r.2]/\New F1 h h' cs0 r.1:=by
 obtain⟨p0_0,p0_1,ap0_2,cp0_2,p0_2,rfl,rfl,ip0_0,ip0_1,rp0_2,lp0_2⟩:=opG rp0;obtain⟨rfl,lp1⟩:=sL rp1;unfold Z9 at hM0;dsimp only at hM0;refine wk Tryz.f51 ?_;refine trM hM0 (z8 _ _ _ (D0 ip0_0 ip0_1 rp0_2)) ?_;rintro x1 hM0 v3 k2 ⟨csx1,rfl,wx1⟩;have sx1:Sub h k2:=wx1.sub;have rx1:=wx1.r;obtain⟨x1_0,x1_1,ax1_2,cx1_2,x1_2,rfl,rfl,ix1_0,ix1_1,rx1_2,lx1_2⟩:=opG rx1;try dsimp only at hM0
 have we4:=nD (nD (wx1));refine trV hM0 (m04 _ _ _ (D0 ip0_0 ip0_1 (N0.mono sx1 rp0_2))) λx5 hM0=>?_;refine ifB hM0 (λhc6 hM0=>?_) λhc6 hM0=>?_;·cases hM0;exact⟨_,rfl,(nP (nI (show H0 (0) from(by decide))) (nP (nI (show H0 (0) from(by decide))) ((New.nilSlice (r:=C1)).mono sx1)))⟩
 obtain⟨X7,hLX7,hM0⟩:=B0 hM0;refine eX { vars:=[7],boxes:=[2] } (eX (λvs os h'=>∃ u8 u9 u10 au11 nu11 cu11 u11,vs.tail = [iV u8,iV u9,iV u10,.slice au11 nu11 cu11]/\os = []/\Sub k2 h'/\H0 u8/\H0 u9/\H0 u10/\N0.R h' [.slice au11 nu11 cu11] u11/\O5 p1 p0_0 p0_1 p0_2 (E1 vs) u8 u9 u10 u11=some X7) (eX (λ_ _=>0) (aI (eX P0 ⟨_,_,_,_,_,_,_,rfl,rfl,sr,(by decide),ix1_0,ix1_1,rx1_2,hLX7⟩) ?_)));rintro _ _ _ _ m13 k12 ⟨u8,u9,u10,au11,nu11,cu11,u11,⟨⟩,⟨⟩,sX7,iu8,iu9,iu10,ru11,hM1⟩;replace hM1:O5 p1 p0_0 p0_1 p0_2 m13 u8 u9 u10 u11=some X7:=hM1;obtain _|m13:=m13;·cases hM1
 rw[O5.eq_2]at hM1;obtain⟨rfl,lu11⟩:=sL ru11;refine ifB hM1 (λhc14 hM1=>?_) λhc14 hM1=>?_
 ·refine w1 ?_;refine ld hM1 (T1.mono (sx1.trans sX7) rp1) λx15 csx15 rx15 hM1=>?_;obtain⟨ax15,cx15,rfl,lx15⟩:=slL rx15;obtain⟨x16,gx16,hM1⟩:=B0 hM1;refine eX (.bool x16) (aI (K02 _ _ ip0_0 _ _ _ _ rx15 _  gx16) ?_);obtain⟨x17,gx17,hM1⟩:=B0 hM1;obtain⟨csx17,ex17,rx17⟩:=Sl.getG (r:=J0.toRp) (T1.mono (sx1.trans sX7) rp1) gx17 (by decide) (v0A Wp.int k12);refine aI (λq=>(ex17 q).1) ?_;obtain⟨ax17,cx17,rfl,lx17⟩:=slL rx17;refine eX _ (aI (λq=>(ex17 q).2) ?_);refine trG hM1 (λq=>v05 _ _ _ (D0 ip0_0 ip0_1 (N0.mono (sx1.trans sX7) rp0_2)) _ _ _ _ rx17) λx18 hM1=>?_;refine ifB hM1 (λhc19 hM1=>?_) λhc19 hM1=>?_
  ·cases hM1;try dsimp only[M2,P2]at hM0
   cases hM0;exact⟨_,rfl,(nP (nI (show H0 (0) from(by decide))) (nP (nI (show H0 (0) from(by decide))) ((New.nilSlice (r:=C1)).mono (sx1.trans sX7))))⟩
  refine w5 10 ?_;obtain⟨x20,gx20,hM1⟩:=B0 hM1;obtain⟨bx20,csx20,ex20,rx20⟩:=Sl.getI (r:=J0.toRp) (T1.mono (sx1.trans sX7) rp1) gx20 (by decide);obtain⟨ax20,cx20,rfl,lx20⟩:=slL rx20;refine pm (.hel (.slice ap1 p1.length cp1) u8 1 0) ?_ ?_;·intro k21 s22;exact aI bx20 r3
  refine pm (.val (.slice ax20 x20.length cx20)) ?_ ?_;·intro k23 s24;exact eX _ (aI (T7.up s24 ex20) r3)
  obtain⟨x25,gx25,hM1⟩:=B0 hM1;obtain⟨x25_0,x25_1⟩:=x25;try dsimp only at hM1
  obtain⟨x25_0_0,x25_0_1,x25_0_2⟩:=x25_0;try dsimp only at hM1
  refine Or.inr (eX (λv hh=>∃(ux25_0:Value),v = .tuple #[ux25_0,.bool x25_1]/\(λv hh=>∃(ax25_0_2:Option Addr) (cx25_0_2:Nat),v = .agg #[iV x25_0_0,iV x25_0_1,.slice ax25_0_2 x25_0_2.length cx25_0_2]/\H0 x25_0_0/\H0 x25_0_1/\N0.R hh [.slice ax25_0_2 x25_0_2.length cx25_0_2] x25_0_2/\x25_0_2.length<=9223372036854775807) ux25_0 hh) (aI (λv h1 h2 sb q=>by obtain⟨ux25_0,e,fux25_0⟩:=q;exact⟨ux25_0,e,(by obtain⟨ax25_0_2,cx25_0_2,e,f0,f1,f2,f3⟩:=fux25_0;exact⟨ax25_0_2,cx25_0_2,e,f0,f1,N0.mono sb f2,f3⟩)⟩) (aI ?_ ?_)));·intro k26 s27;refine Tr.mono (M0k _ _ _ (D0 iu9 iu10 (N0.mono s27 ru11)) _ _ _ _ (J0.mono s27 rx20) _ gx25) ?_;rintro _ kk ⟨csx25_0,rfl,rx25_0,sb⟩;obtain⟨yx25_0_0,yx25_0_1,ayx25_0_2,cyx25_0_2,yx25_0_2,rfl,ey,iyx25_0_0,iyx25_0_1,ryx25_0_2,lyx25_0_2⟩:=opG rx25_0;cases ey;exact aI E6 (aI sb ⟨(.agg #[iV x25_0_0,iV x25_0_1,.slice ayx25_0_2 x25_0_2.length cyx25_0_2]),rfl,⟨ayx25_0_2,cyx25_0_2,rfl,iyx25_0_0,iyx25_0_1,ryx25_0_2,lyx25_0_2⟩⟩)
  refine Or.inr (eX (λv hh=>∃(ux25_0:Value),v = .tuple #[ux25_0,.bool x25_1]/\(λv hh=>∃(ax25_0_2:Option Addr) (cx25_0_2:Nat),v = .agg #[iV x25_0_0,iV x25_0_1,.slice ax25_0_2 x25_0_2.length cx25_0_2]/\H0 x25_0_0/\H0 x25_0_1/\N0.R hh [.slice ax25_0_2 x25_0_2.length cx25_0_2] x25_0_2/\x25_0_2.length<=9223372036854775807) ux25_0 hh) (aI (λv h1 h2 sb q=>by obtain⟨ux25_0,e,fux25_0⟩:=q;exact⟨ux25_0,e,(by obtain⟨ax25_0_2,cx25_0_2,e,f0,f1,f2,f3⟩:=fux25_0;exact⟨ax25_0_2,cx25_0_2,e,f0,f1,N0.mono sb f2,f3⟩)⟩) (aI ?_ ?_)));·intro k28 s29;rintro _ ⟨_,rfl,⟨az30p02,cz30p02,rfl,iz30p00,iz30p01,rz30p02,lz30p02⟩⟩;exact aI E6 (aI sr ⟨(.agg #[iV x25_0_0,iV x25_0_1,.slice az30p02 x25_0_2.length cz30p02]),rfl,⟨az30p02,cz30p02,rfl,iz30p00,iz30p01,rz30p02,lz30p02⟩⟩)
  refine Or.inr (eX (λv hh=>∃(ax25_0_2:Option Addr) (cx25_0_2:Nat),v = .agg #[iV x25_0_0,iV x25_0_1,.slice ax25_0_2 x25_0_2.length cx25_0_2]/\H0 x25_0_0/\H0 x25_0_1/\N0.R hh [.slice ax25_0_2 x25_0_2.length cx25_0_2] x25_0_2/\x25_0_2.length<=9223372036854775807) (aI (λv h1 h2 sb q=>by obtain⟨ax25_0_2,cx25_0_2,e,f0,f1,f2,f3⟩:=q;exact⟨ax25_0_2,cx25_0_2,e,f0,f1,N0.mono sb f2,f3⟩) (aI ?_ ?_)));·intro k31 s32;rintro _ ⟨_,rfl,⟨az33p02,cz33p02,rfl,iz33p00,iz33p01,rz33p02,lz33p02⟩⟩;exact aI E6 (aI sr ⟨az33p02,cz33p02,rfl,iz33p00,iz33p01,rz33p02,lz33p02⟩)
  refine pm (.val (.bool x25_1)) ?_ ?_;·intro k34 s35;rintro _ ⟨_,rfl,⟨az36p02,cz36p02,rfl,iz36p00,iz36p01,rz36p02,lz36p02⟩⟩;exact r3
  intro k37 s38;rintro _ ⟨az392,cz392,rfl,iz390,iz391,rz392,lz392⟩;rintro _ _;rintro _ _;refine ifB hM1 (λhc40 hM1=>?_) λhc40 hM1=>?_
  ·cases hM1;try dsimp only[M2,P2]at hM0
   cases hM0;exact⟨_,rfl,(nP (nI (show H0 (0) from(by decide))) (nP (nI (show H0 (0) from(by decide))) ((New.nilSlice (r:=C1)).mono ((sx1.trans sX7).trans s38))))⟩
  exact P1 m13 ⟨_,_,_,_,_,_,_,rfl,rfl,(sX7.trans s38),(M0 _),iz390,iz391,rz392,hM1⟩
 cases hM1;try dsimp only[S0,U0]at hM0
 refine trM hM0 (r0c _ _ _ (D0 iu9 iu10 ru11)) ?_;rintro x41 hM0 v43 k42 ⟨csx41_0,rfl,rx41_0,sx41⟩;obtain⟨x41_0,x41_1⟩:=x41;dsimp only at hM0 rx41_0;obtain⟨x41_0_0,x41_0_1,ax41_0_2,cx41_0_2,x41_0_2,rfl,rfl,ix41_0_0,ix41_0_1,rx41_0_2,lx41_0_2⟩:=opG rx41_0;try dsimp only at hM0
 refine ifB hM0 (λhc44 hM0=>?_) λhc44 hM0=>?_;·cases hM0;exact⟨_,rfl,(nP (nI (show H0 (0) from(by decide))) (nP (nI (show H0 (0) from(by decide))) ((New.nilSlice (r:=C1)).mono ((sx1.trans sX7).trans sx41))))⟩
 refine trM hM0 (n0a _ _ _ (D0 ix41_0_0 ix41_0_1 rx41_0_2)) ?_;rintro x45 hM0 v47 k46 ⟨csx45,rfl,wx45⟩;have sx45:Sub k42 k46:=wx45.sub;have rx45:=wx45.r;obtain⟨x45_0,x45_1,ax45_2,cx45_2,x45_2,rfl,rfl,ix45_0,ix45_1,rx45_2,lx45_2⟩:=opG rx45;try dsimp only at hM0
 have we48:=nD (nD (wx45));cases hM0;exact⟨_,rfl,(nP (nI ix45_0) (nP (nI ix45_1) (New.from we48 ((sx1.trans sX7).trans sx41))))⟩
def o0d(h:Hp)(g:List Value)(j:j0)(t:F1.R h g j)(d:Option Addr)(i e:Nat)(b:I0)(k:J0.R h [.slice d i e] b)(r:j0×Bool)(a:L8 j b=some r): Tr Tryz.prog 27 #[.agg g.toArray,.slice d i e] h λv h'=>∃(f:List Value),v = .tuple #[.agg f.toArray,.bool r.2]/\New F1 h h' f r.1:=by
 obtain⟨M,N,A,E,O,rfl,rfl,m,n,u,I⟩:=opG t;obtain⟨rfl,J⟩:=sL k;unfold L8 at a;dsimp only at a;refine wk Tryz.f27 ?_;refine Or.inl ?_;intro S q f3;obtain⟨D,H,rfl,x,l,L⟩:=Y0.out (r:=J0.toRp) f3 (show F2 (J0.R h) ([[.slice d b.length e]]:LV) [b] from⟨k,trivial⟩);refine trM a (s0c _ _ _ (D0 m n (N0.mono l u)) _ _ _ _ x) ?_;rintro z a T s ⟨F,rfl,c⟩;obtain⟨U,Y⟩:=z;dsimp only at a c;have Q:Sub q s:=c.sub;have w:=c.r;obtain⟨V,W,C,G,X,rfl,rfl,o,p,P,K⟩:=opG w;try dsimp only at a
 have y:=nD (nD (c));cases a;exact⟨_,rfl,(nP (nI o) (nP (nI p) (New.from y l)))⟩
def i0i(h:Hp)(d:Int)(C:H0 d)(e:Int)(D:H0 e)(i:Option Addr)(p k:Nat)(p2:M1)(t:T1.R h [.slice i p k] p2)(j:Option Addr)(q l:Nat)(s:I0)(u:J0.R h [.slice j q l] s)(r:j6)(a:t05 d e p2 s=some r): Tr Tryz.prog 42 #[iV d,iV e,.slice i p k,.slice j q l] h λv h'=>∃(m:List Value),v = .agg m.toArray/\New S4 h h' m r:=by obtain⟨rfl,O⟩:=sL t;obtain⟨rfl,P⟩:=sL u;unfold t05 at a;refine wk Tryz.f42 ?_;refine trM a (N0k _ _ _ _ _ t) ?_;rintro Y a W b ⟨J,T,L,rfl,g⟩;have f:Sub h b:=g.sub;have E:=g.r;obtain⟨rfl,Q⟩:=sL E;obtain⟨F,y,c⟩:=Sl.rows (r:=Wp.int.toRp) (J0.mono f u);refine eX F (aI y ?_);obtain⟨U,A,a⟩:=B0 a;refine aI (G1 A (by first|rw[fL (show F2 (Wp.int.R b) ([]:LV) ([]:I0) from trivial),fL c]|exact congrArg (·+1) (fL (show F2 (Wp.int.R b) ([]:LV) ([]:I0) from trivial)))) ?_;intro X N n;obtain⟨K,M,rfl,V,w,S⟩:=Y0.out (r:=Wp.int.toRp) n (fA (show F2 (Wp.int.R b) ([]:LV) ([]:I0) from trivial) c);cases a;obtain⟨H,x,z,_⟩:=g;obtain⟨I,G,o,_⟩:=(Y0.newPlain (r:=Wp.int) n (fA (show F2 (Wp.int.R b) ([]:LV) ([]:I0) from trivial) c) (B07 _));exact⟨_,rfl,(NB.fin (NB.pair (NB.int C) (NB.pair (NB.int D) (NB.pair (NB.mk x w z sr) (NB.pair (NB.mk G sr o f) (NB.pair (NB.nil (r:=Wp.int)) (NB.pair (NB.pair (NB.int oD) (NB.pair (NB.int oD) (NB.nil (r:=C1)) NB.d0) NB.d0) (NB.int oD) NB.de) NB.d0) (NB.da NB.de (NB.da (NB.da NB.de (NB.da NB.de NB.de)) NB.de))) (NB.da (NB.dl x sr o) (NB.da NB.de (NB.da (NB.da NB.de (NB.da NB.de NB.de)) NB.de)))) NB.d0) NB.d0) (f.trans w))⟩
def O0k(h:Hp)(g:Int)(E:H0 g)(i:Int)(f:H0 i)(m:Option Addr)(y o:Nat)(p2:M1)(j:T1.R h [.slice m y o] p2)(n:Option Addr)(z p:Nat)(A:I0)(b:J0.R h [.slice n z p] A)(r:j6×Bool)(a:r06 g i p2 A=some r): Tr Tryz.prog 22 #[iV g,iV i,.slice m y o,.slice n z p] h λv h'=>∃(s:List Value),v = .tuple #[.agg s.toArray,.bool r.2]/\New S4 h h' s r.1:=by
 obtain⟨rfl,al⟩:=sL j;obtain⟨rfl,am⟩:=sL b;unfold r06 at a;refine wk Tryz.f22 ?_;refine trM a (i0i _ _ E _ f _ _ _ _ j _ _ _ _ b) ?_;rintro aF a aC w ⟨Y,rfl,l⟩;have c:Sub h w:=l.sub;have G:=l.r;obtain⟨aJ,aK,T,aw,ab,aL,U,ax,ac,aM,V,ay,ad,aN,aO,aP,W,az,ae,aQ,aR,rfl,rfl,ag,ah,I,J,K,ai,aj,L,ak⟩:=p01 G;obtain⟨rfl,ao⟩:=sL I;obtain⟨rfl,ap⟩:=sL J;obtain⟨rfl,aq⟩:=sL K;obtain⟨rfl,ar⟩:=sL L;try dsimp only at a
 refine trM a (p09 _ _ f _ _ _ _ (T1.mono c j)) ?_;rintro Q a aD x ⟨Z,rfl,e⟩;obtain⟨aS,aX⟩:=Q;dsimp only at a e;have k:Sub w x:=e.sub;have M:=e.r;obtain⟨aU,aV,X,af,aW,rfl,rfl,t,u,N,au⟩:=opG M;try dsimp only at a
 have O:=nD (nD (e));refine trG a (λq=>K02 _ _ f _ _ _ _ (J0.mono (c.trans k) b)) λaY a=>?_;refine ifB a (λD a=>?_) λD a=>?_;·cases a;exact⟨_,rfl,(NB.fin (NB.pair (NB.int oD) (NB.pair (NB.int oD) (NB.pair (NB.nil (r:=J0)) (NB.pair (NB.nil (r:=Wp.int)) (NB.pair (NB.nil (r:=Wp.int)) (NB.pair (NB.pair (NB.int oD) (NB.pair (NB.int oD) (NB.nil (r:=C1)) NB.d0) NB.d0) (NB.int oD) NB.de) NB.d0) NB.d0) NB.d0) NB.d0) NB.d0) (c.trans k))⟩
 refine ifB a (λC a=>?_) λC a=>?_;·refine trM a (o0a _ _ _ (D0 t u N) _ _ _ _ (J0.mono (c.trans k) b)) ?_;rintro P a aB F ⟨S,av,aa,rfl,d⟩;obtain⟨aG,aH⟩:=P;dsimp only at a d;have aA:Sub x F:=d.sub;have H:=d.r;obtain⟨rfl,an⟩:=sL H;cases a;exact⟨_,rfl,(clP (clG l sr t u O) sr d)⟩
 cases a
def k0h(h:Hp)(c:Int)(q:H0 c)(d:Int)(s:H0 d)(e:Option Addr)(k g:Nat)(p2:M1)(n:T1.R h [.slice e k g] p2)(f:Option Addr)(l i:Nat)(m:I0)(o:J0.R h [.slice f l i] m)(r:j6×Bool)(a:l03 c d p2 m=some r): Tr Tryz.prog 11 #[iV c,iV d,.slice e k g,.slice f l i] h λv h'=>∃(j:List Value),v = .tuple #[.agg j.toArray,.bool r.2]/\New S4 h h' j r.1:=by
 obtain⟨rfl,S⟩:=sL n;obtain⟨rfl,T⟩:=sL o;unfold l03 at a;refine wk Tryz.f11 ?_;refine trM a (O0k _ _ q _ s _ _ _ _ n _ _ _ _ o) ?_;rintro C a ac t ⟨H,rfl,b⟩;obtain⟨ad,an⟩:=C;dsimp only at a b;have A:Sub h t:=b.sub;have u:=b.r;obtain⟨ae,af,D,Y,I,ag,E,Z,J,ah,F,aa,K,ai,aj,ak,G,ab,L,al,am,rfl,rfl,M,N,w,x,y,O,P,z,Q⟩:=p01 u;obtain⟨rfl,U⟩:=sL w;obtain⟨rfl,V⟩:=sL x;obtain⟨rfl,W⟩:=sL y;obtain⟨rfl,X⟩:=sL z;try dsimp only at a
 refine ifB a (λp a=>?_) λp a=>?_;·cases a;exact⟨_,rfl,(NB.fin (NB.pair (NB.int oD) (NB.pair (NB.int oD) (NB.pair (NB.nil (r:=J0)) (NB.pair (NB.nil (r:=Wp.int)) (NB.pair (NB.nil (r:=Wp.int)) (NB.pair (NB.pair (NB.int oD) (NB.pair (NB.int oD) (NB.nil (r:=C1)) NB.d0) NB.d0) (NB.int oD) NB.de) NB.d0) NB.d0) NB.d0) NB.d0) NB.d0) A)⟩
 cases a;exact⟨_,rfl,b⟩
def t0c(h:Hp)(x:List Value)(z:j0)(V:F1.R h x z)(u:Option Addr)(y w:Nat)(E:I0)(F:J0.R h [.slice u y w] E)(r:Int)(a:n03 z E=some r): Tr Tryz.prog 29 #[.agg x.toArray,.slice u y w] h λv h'=>v=iV r/\h'=h:=by
 obtain⟨A,C,aa,ae,D,rfl,rfl,i,l,m,al⟩:=opG V;obtain⟨rfl,am⟩:=sL F;unfold n03 at a;dsimp only at a;refine wkF Tryz.f29 ?_;refine trM a (m01 _ _ _ _ _ F) ?_;rintro az a ax ak ⟨ab,aq,af,rfl,n,c⟩;obtain⟨rfl,an⟩:=sL n;refine trV a (m04 _ _ _ (D0 i l (N0.mono c m))) λaC a=>?_;refine trG a (λq=>K02 _ _ i _ _ _ _ n) λaD a=>?_;refine ifB a (λP a=>?_) λP a=>?_;·cases a;exact aI rfl c
 refine trM a (d0g _ _ _ _ _ n) ?_;rintro Z a ay U ⟨ac,ar,ag,ad,au,ah,rfl,o,p,e⟩;obtain⟨G,aF⟩:=Z;dsimp only at a o p;obtain⟨rfl,ao⟩:=sL o;obtain⟨rfl,ap⟩:=sL p;obtain⟨W,J,a⟩:=B0 a;obtain⟨s,aA⟩:=W;try dsimp only at a
 refine Tr.val (u05 _ _ _ (D0 i l (N0.mono (c.trans e) m)) 0 oD _ _ _ _ p _  J) ?_;obtain⟨av,H,a⟩:=B0 a;have S:H0 s:=F0 H;refine ifB a (λM a=>?_) λM a=>?_;·cases a;exact aI rfl (c.trans e)
 obtain⟨t,L,a⟩:=B0 a;refine eX { vars:=[8,9,11] } (eX (λvs os h'=>∃ f k g,vs.tail = [iV f,.bool k,iV g]/\os = []/\Sub U h'/\H0 f/\H0 g/\z7 C A D G s (E1 vs) f k g=some t) (eX (λ_ _=>0) (aI (eX P0 ⟨_,_,_,rfl,rfl,sr,S,oD,L⟩) ?_)));rintro _ _ _ j aj ⟨f,k,g,⟨⟩,⟨⟩,d,Q,ai,b⟩;replace b:z7 C A D G s j f k g=some t:=b;obtain _|j:=j;·cases b
 rw[z7.eq_2]at b;refine ifB b (λN b=>?_) λN b=>?_
 ·obtain⟨X,K,b⟩:=B0 b;obtain⟨Y,aB⟩:=X;try dsimp only at b
  refine Tr.val (u05 _ _ _ (D0 i l (N0.mono ((c.trans e).trans d) m)) _ Q _ _ _ _ (J0.mono d o) _  K) ?_;obtain⟨aw,I,b⟩:=B0 b;have T:H0 Y:=F0 I;refine ifB b (λO b=>?_) λO b=>?_
  ·cases b;try dsimp only[M2,P2]at a
   cases a;exact aI rfl ((c.trans e).trans d)
  exact P1 j ⟨_,_,_,rfl,rfl,d,T,(M0 _),b⟩
 cases b;try dsimp only[S0,U0]at a
 cases a;exact aI rfl ((c.trans e).trans d)
def e0g(h:Hp)(m:List Value)(p:j0)(aa:F1.R h m p)(k:Option Addr)(o l:Nat)(s:I0)(e:J0.R h [.slice k o l] s)(r:BA)(a:s00 p s=some r): Tr Tryz.prog 12 #[.agg m.toArray,.slice k o l] h λv h'=>v = .string r/\h'=h:=by
 obtain⟨aD,aF,ak,an,aG,rfl,rfl,d,f,g,ay⟩:=opG aa;obtain⟨rfl,az⟩:=sL e;unfold s00 at a;dsimp only at a;refine wkF Tryz.f12 ?_;refine trV a (m04 _ _ _ (D0 d f g)) λaZ a=>?_;refine trG a (λq=>K02 _ _ d _ _ _ _ e) λa5 a=>?_;refine ifB a (λM a=>?_) λM a=>?_;·cases a;exact aI rfl sr
 refine trM a (o0a _ _ _ (D0 d f g) _ _ _ _ e) ?_;rintro ai a aY n ⟨am,aC,aq,rfl,j⟩;obtain⟨a6,ba⟩:=ai;dsimp only at a j;have b:Sub h n:=j.sub;have t:=j.r;obtain⟨rfl,aB⟩:=sL t;refine ifB a (λN a=>?_) λN a=>?_;·refine trV a (t07 _ _ _ _ _ t) λaj a=>?_;obtain⟨aV,I,a⟩:=B0 a;have ax:aj.size<=9223372036854775807:=F0 I;obtain⟨aH,u,a⟩:=B0 a;have S:=F0 u;refine aI S ?_;cases a;exact aI rfl b
 refine trM a (o0d _ _ _ (D0 d f (N0.mono b g)) _ _ _ _ (J0.mono b e)) ?_;rintro ac a aX Z ⟨ao,rfl,i⟩;obtain⟨a0,a4⟩:=ac;dsimp only at a i;have c:Sub n Z:=i.sub;have ab:=i.r;obtain⟨a1,a2,al,ap,a3,rfl,rfl,ar,O,aW,aA⟩:=opG ab;try dsimp only at a
 refine ifB a (λJ a=>?_) λJ a=>?_
 ·obtain⟨aJ,w,a⟩:=B0 a;have T:=F0 w;refine aI T ?_;refine trV a (K6 _ _ O) λad a=>?_;obtain⟨aK,x,a⟩:=B0 a;have au:ad.size<=9223372036854775807:=F0 x;obtain⟨aL,y,a⟩:=B0 a;have U:=F0 y;refine aI U ?_;refine trV a (t0c _ _ _ (D0 d f (N0.mono (b.trans c) g)) _ _ _ _ (J0.mono (b.trans c) e)) λae a=>?_;obtain⟨aM,z,a⟩:=B0 a;have P:H0 ae:=F0 z;refine ifB a (λK a=>?_) λK a=>?_;·obtain⟨aN,A,a⟩:=B0 a;have V:=F0 A;refine aI V ?_;refine trV a (K6 _ _ P) λaf a=>?_;obtain⟨aO,C,a⟩:=B0 a;have av:af.size<=9223372036854775807:=F0 C;obtain⟨aP,D,a⟩:=B0 a;have W:=F0 D;refine aI W ?_;cases a;exact aI rfl (b.trans c)
  cases a;exact aI rfl (b.trans c)
 refine trV a (t0c _ _ _ (D0 d f (N0.mono (b.trans c) g)) _ _ _ _ (J0.mono (b.trans c) e)) λag a=>?_;obtain⟨aQ,E,a⟩:=B0 a;have Q:H0 ag:=F0 E;refine ifB a (λL a=>?_) λL a=>?_;·obtain⟨aR,F,a⟩:=B0 a;have X:=F0 F;refine aI X ?_;refine trV a (K6 _ _ Q) λah a=>?_;obtain⟨aS,G,a⟩:=B0 a;have aw:ah.size<=9223372036854775807:=F0 G;obtain⟨aU,H,a⟩:=B0 a;have Y:=F0 H;refine aI Y ?_;cases a;exact aI rfl (b.trans c)
 cases a;exact aI rfl (b.trans c)
theorem p0a(h:Hp)(csp0:List Value)(p0:j0)(rp0:F1.R h csp0 p0)(r:j0×I0)(hM0:O9 p0=some r): Tr Tryz.prog 172 #[.agg csp0.toArray] h λv h'=>∃(cs0:List Value) (a1:Option Addr) (n1 c1:Nat),v = .tuple #[.agg cs0.toArray,.slice a1 n1 c1]/\New F1 h h' cs0 r.1/\J0.R h' [.slice a1 n1 c1] r.2:=by
 obtain⟨p0_0,p0_1,ap0_2,np0_2,cp0_2,p0_2,rfl,rfl,ip0_0,ip0_1,rp0_2⟩:=Z0 rp0;obtain⟨rfl,lp0_2⟩:=Sl.len rp0_2;unfold O9 at hM0;dsimp only at hM0;refine j5 (args:=[.agg #[.int .i64 p0_0,.int .i64 p0_1,.slice ap0_2 p0_2.length cp0_2]]) (fn:=Tryz.f172) rfl ?_;refine trM hM0 (F5 _ _ _ (D0 ip0_0 ip0_1 rp0_2)) ?_;rintro x1 hM0 v3 k2 ⟨gx1_2,nx1_2,cx1_2,rfl,wx1⟩;have sx1:Sub h k2:=wx1.sub;have rx1:=wx1.r;obtain⟨x1_0,x1_1,x1_2⟩:=x1;dsimp only at hM0 wx1 rx1;obtain⟨_,_,_,_,_,_,ecx1,exx1,ix1_0,ix1_1,rx1_2⟩:=Z0 rx1;cases ecx1;cases exx1;obtain⟨rfl,lx1_2⟩:=Sl.len rx1_2;try dsimp only at hM0
 have we4:=New.sndI (New.sndI (wx1));refine trV hM0 (n01 _ _ _ (D0 ip0_0 ip0_1 (N0.mono sx1 rp0_2))) λx5 hM0=>?_;refine ifB hM0 (λhc6 hM0=>?_) λhc6 hM0=>?_;·intro v7 k8 f9;obtain⟨az10,cz10,rfl,rz10,sz10,lz10⟩:=Y0.out (r:=Wp.int.toRp) f9 (show F2 (Wp.int.R k2) ([]:List (List Value)) ([]:I0) from trivial);obtain rfl:=oJ hM0;exact⟨([.int .i64 x1_0,.int .i64 x1_1,.slice (some ⟨gx1_2,0,none⟩) x1_2.length cx1_2]),az10,(([]:I0)).length,cz10,rfl,(New.pair (New.int ix1_0) (New.pair (New.int ix1_1) (New.mono we4 sz10))),rz10⟩
 obtain⟨X11,hLX11,hM0⟩:=B0 hM0;refine eX { vars:=[6],boxes:=[],owns:=[0],fuel:=true } (eX (λvs os h'=>∃ u12 wu13 u13,vs.tail = [.int .i64 u12]/\os = [wu13]/\Sub k2 h'/\H0 u12/\F2 (Wp.int.R h') wu13 u13/\d8 p0_1 (E1 vs) u12 u13=some X11) (eX (λ_ _=>0) (aI (eX P0 ⟨0,[],([]:I0),rfl,rfl,(Sub.refl _),(by decide),(show F2 (Wp.int.R k2) ([]:List (List Value)) ([]:I0) from trivial),hLX11⟩) ?_)));rintro _ wu13 m15 k14 ⟨u12,zzu13,u13,⟨⟩,⟨⟩,sX11,iu12,fu13,hM1⟩;replace hM1:d8 p0_1 m15 u12 u13=some X11:=hM1;obtain _|m15:=m15;·cases hM1
 rw[d8.eq_2]at hM1;refine ifB hM1 (λhc16 hM1=>?_) λhc16 hM1=>?_;·obtain⟨q17,gq17,hM1⟩:=B0 hM1;refine aI (G1 gq17 (by first|rw[F2.length fu13,F2.length (show F2 (Wp.int.R k14) ([[.int .i64 u12]]:List (List Value)) [u12] from⟨⟨rfl,iu12⟩,trivial⟩)]|exact congrArg (·+1) (F2.length fu13))) ?_;exact P1 m15 ⟨(IntKind.i64.wrap (u12+1)),(wu13++([[.int .i64 u12]]:List (List Value))),(u13 ++ [u12]),rfl,rfl,sX11,(M0 _),(F2.append fu13 (show F2 (Wp.int.R k14) ([[.int .i64 u12]]:List (List Value)) [u12] from⟨⟨rfl,iu12⟩,trivial⟩)),hM1⟩
 obtain rfl:=oJ hM1;try dsimp only[S0,U0]at hM0
 obtain⟨X22,hLX22,hM0⟩:=B0 hM0;refine eX { vars:=[5],boxes:=[2],owns:=[],fuel:=true,pubs:=[5] } (eX (λvs os h'=>∃(au23:Option Addr) (nu23 cu23:Nat) (u23:I0) (u24:Int) (u25:Int) (au26:Option Addr) (nu26 cu26:Nat) (u26:T0),vs.tail = [.slice au23 nu23 cu23,.int .i64 u24,.int .i64 u25,.slice au26 nu26 cu26]/\os = []/\Sub h h'/\New J0 h h' [.slice au23 nu23 cu23] u23/\H0 u24/\H0 u25/\New N0 h h' [.slice au26 nu26 cu26] u26/\g7 (E1 vs) u23 u24 u25 u26=some X22) (eX (λ_ _=>0) ?_));intro v18 k19 f20;obtain⟨az21,cz21,rfl,rz21,sz21,lz21⟩:=Y0.out (r:=Wp.int.toRp) f20 fu13;refine aI (eX P0 ⟨az21,u13.length,cz21,u13,x1_0,x1_1,(some ⟨gx1_2,0,none⟩),x1_2.length,cx1_2,x1_2,rfl,rfl,((sx1.trans sX11).trans sz21),(New.from (Y0.newPlain (r:=Wp.int) f20 fu13 (B07 _)) (sx1.trans sX11)),ix1_0,ix1_1,(New.mono we4 (sX11.trans sz21)),hLX22⟩) ?_;rintro _ _ _ _ m28 k27 ⟨au23,nu23,cu23,u23,u24,u25,au26,nu26,cu26,u26,⟨⟩,⟨⟩,sX22,wwu23,iu24,iu25,wwu26,hM1⟩;replace hM1:g7 m28 u23 u24 u25 u26=some X22:=hM1;obtain _|m28:=m28;·cases hM1
 rw[g7.eq_2]at hM1;have ru23:=wwu23.r;obtain⟨rfl,lu23⟩:=Sl.len ru23;have ru26:=wwu26.r;obtain⟨rfl,lu26⟩:=Sl.len ru26;refine trM hM1 (p0d _ _ _ (D0 iu24 iu25 ru26) 0 (by decide)) ?_;rintro x29 hM1 v31 k30 ⟨ax29,nx29,cx29,rfl,rx29,sx29⟩;obtain⟨rfl,lx29⟩:=Sl.len rx29;obtain⟨X32,hLX32,hM1⟩:=B0 hM1;refine eX { vars:=[8,9],boxes:=[],owns:=[],fuel:=true } (eX (λvs os h'=>∃ u33 u34,vs.tail = [.int .i64 u33,.int .i64 u34]/\os = []/\Sub k30 h'/\H0 u33/\H0 u34/\Y4 u25 u24 u26 x29 (E1 vs) u33 u34=some X32) (eX (λ_ _=>0) (aI (eX P0 ⟨0,1,rfl,rfl,(Sub.refl _),(by decide),(by decide),hLX32⟩) ?_)));rintro _ _ m36 k35 ⟨u33,u34,⟨⟩,⟨⟩,sX32,iu33,iu34,hM2⟩;replace hM2:Y4 u25 u24 u26 x29 m36 u33 u34=some X32:=hM2;obtain _|m36:=m36;·cases hM2
 rw[Y4.eq_2]at hM2;refine ifB hM2 (λhc37 hM2=>?_) λhc37 hM2=>?_
 ·refine trV hM2 (j0i _ _ _ (D0 iu24 iu25 (N0.mono (sx29.trans sX32) ru26)) _ iu34) λx38 hM2=>?_;obtain⟨q39,gq39,hM2⟩:=B0 hM2;have ix38:H0 x38:=F0 gq39;obtain⟨x40,gx40,hM2⟩:=B0 hM2;obtain⟨csx40,ex40,rx40⟩:=Sl.getG (r:=Wp.bool.toRp) ((Wp.slice Wp.bool).mono sX32 rx29) gx40 (by decide) (i0z k35);refine aI (λq=>(ex40 q).1) ?_;obtain rfl:=rx40;refine eX _ (aI (λq=>(ex40 q).2) ?_);refine ifB hM2 (λhc41 hM2=>?_) λhc41 hM2=>?_;·exact P1 m36 ⟨u34,(IntKind.i64.wrap (u34+1)),rfl,rfl,sX32,iu34,(M0 _),hM2⟩
  exact P1 m36 ⟨u33,(IntKind.i64.wrap (u34+1)),rfl,rfl,sX32,iu33,(M0 _),hM2⟩
 obtain rfl:=oJ hM2;try dsimp only[S0,U0]at hM1
 refine ifB hM1 (λhc42 hM1=>?_) λhc42 hM1=>?_
 ·obtain rfl:=oJ hM1;try dsimp only[M2,P2]at hM0
  obtain rfl:=oJ hM0;exact⟨([.int .i64 u24,.int .i64 u25,.slice au26 u26.length cu26]),au23,u23.length,cu23,rfl,(New.pair (New.int iu24) (New.pair (New.int iu25) (New.mono wwu26 (sx29.trans sX32)))),(J0.mono (sx29.trans sX32) ru23)⟩
 obtain⟨X43,hLX43,hM1⟩:=B0 hM1;refine eX { vars:=[11],boxes:=[],owns:=[1],fuel:=true } (eX (λvs os h'=>∃ u44 wu45 u45,vs.tail = [.int .i64 u44]/\os = [wu45]/\Sub k35 h'/\H0 u44/\F2 (Wp.int.R h') wu45 u45/\d7 u25 u33 (E1 vs) u44 u45=some X43) (eX (λ_ _=>0) (aI (eX P0 ⟨0,[],([]:I0),rfl,rfl,(Sub.refl _),(by decide),(show F2 (Wp.int.R k35) ([]:List (List Value)) ([]:I0) from trivial),hLX43⟩) ?_)));rintro _ wu45 m47 k46 ⟨u44,zzu45,u45,⟨⟩,⟨⟩,sX43,iu44,fu45,hM2⟩;replace hM2:d7 u25 u33 m47 u44 u45=some X43:=hM2;obtain _|m47:=m47;·cases hM2
 rw[d7.eq_2]at hM2;refine ifB hM2 (λhc48 hM2=>?_) λhc48 hM2=>?_
 ·refine ifB hM2 (λhc49 hM2=>?_) λhc49 hM2=>?_;·obtain⟨q50,gq50,hM2⟩:=B0 hM2;refine aI (G1 gq50 (by first|rw[F2.length fu45,F2.length (show F2 (Wp.int.R k46) ([[.int .i64 u44]]:List (List Value)) [u44] from⟨⟨rfl,iu44⟩,trivial⟩)]|exact congrArg (·+1) (F2.length fu45))) ?_;exact P1 m47 ⟨(IntKind.i64.wrap (u44+1)),(wu45++([[.int .i64 u44]]:List (List Value))),(u45 ++ [u44]),rfl,rfl,sX43,(M0 _),(F2.append fu45 (show F2 (Wp.int.R k46) ([[.int .i64 u44]]:List (List Value)) [u44] from⟨⟨rfl,iu44⟩,trivial⟩)),hM2⟩
  exact P1 m47 ⟨(IntKind.i64.wrap (u44+1)),wu45,u45,rfl,rfl,sX43,(M0 _),fu45,hM2⟩
 obtain rfl:=oJ hM2;try dsimp only[S0,U0]at hM1
 refine Or.inl ?_;intro v51 k52 f53;obtain⟨az54,cz54,rfl,rz54,sz54,lz54⟩:=Y0.out (r:=Wp.int.toRp) f53 fu45;refine trM hM1 (S0h _ _ _ (D0 iu24 iu25 (N0.mono (((sx29.trans sX32).trans sX43).trans sz54) ru26)) _ _ _ _ rz54) ?_;rintro x55 hM1 v57 k56 ⟨csx55,rfl,wx55⟩;have sx55:Sub k52 k56:=wx55.sub;have rx55:=wx55.r;obtain⟨x55_0,x55_1,ax55_2,nx55_2,cx55_2,x55_2,rfl,rfl,ix55_0,ix55_1,rx55_2⟩:=Z0 rx55;obtain⟨rfl,lx55_2⟩:=Sl.len rx55_2;try dsimp only at hM1
 have we58:=New.sndI (New.sndI (wx55));obtain⟨x75,gx75,hM1⟩:=B0 hM1;obtain⟨x76,gx76,hM1⟩:=B0 hM1;obtain⟨q77,gq77,hM1⟩:=B0 hM1;obtain⟨qaz78,baz78,eaz78,gz78,oz78,Az78,Cz78,usz78,vsz78,eqz78,qbz78,bbz78,lcz78,mcz78,rxz78,sxz78,luz78,lvz78,apz78⟩:=New.drop wwu23 ((((sx29.trans sX32).trans sX43).trans sz54).trans sx55) gx75 gx76 (X0w lu23 gx75 gx76);subst eqz78;refine Or.inr (Or.inr (Or.inr (Or.inr (eX 7 (aI (aI (by kernel_rfl) (by kernel_rfl)) ?_)))));refine Or.inl (eX (.val (.slice (some ⟨gz78,oz78,none⟩) x75.length cu23)) (aI ?_ ?_));·intro hh sb;obtain⟨vs,e⟩:=eaz78 hh sb;exact aI baz78 (eX vs (aI e (λv _ hv=>aI (congrArg AV.val (qaz78 v hv)) (aI rfl rfl))))
 refine Or.inl (eX (.val (.int .i64 (IntKind.i64.wrap (u33+1)))) (aI ?_ ?_));·intro k73 s74;exact aI rfl (aI rfl rfl)
 refine Or.inl (eX (.val (.slice Az78 x76.length Cz78)) (aI ?_ ?_));·intro hh sb;obtain⟨vs,e⟩:=eaz78 hh sb;exact aI bbz78 (eX vs (aI e (λv _ hv=>aI (congrArg AV.val (qbz78 v hv)) (aI rfl rfl))))
 intro k79 s80;clear rxz78 sxz78 luz78 lvz78 apz78;obtain⟨_,_,_,gyz78,oyz78,Ayz78,Cyz78,usz78,vsz78,eqz78,qyz78,_,_,_,rxz78,sxz78,luz78,lvz78,apz78⟩:=New.drop wwu23 ((((((sx29.trans sX32).trans sX43).trans sz54).trans sx55).trans s80)) gx75 gx76 (X0w lu23 gx75 gx76);cases eqz78;obtain⟨v0z78,hvz78⟩:=S0k.ex _ _ _ _ _ _;have hqz78:=(qyz78 v0z78 hvz78).symm.trans (qbz78 v0z78 hvz78);cases hqz78;refine eX vsz78 (aI sxz78 (eX usz78 (aI rxz78 (aI (G1 gq77 (by rw[luz78,lvz78])) ?_))));intro vz78 kz78 happz78;obtain⟨wz78,⟨az78,nz78,cz78,rfl⟩,kpz78⟩:=apz78 _ _ happz78;have rz78:=wz78.r;obtain⟨ez78,lz78⟩:=Sl.len rz78;subst ez78;have wy81:=kpz78 C1.slice _ _ _ (New.mono we58 s80) (((sx29.trans sX32).trans sX43).trans sz54);exact P1 m28 ⟨az78,(x75++x76).length,cz78,(x75++x76),x55_0,x55_1,ax55_2,x55_2.length,cx55_2,x55_2,rfl,rfl,wz78.sub,wz78,ix55_0,ix55_1,wy81,hM1⟩
def m00(h:Hp)(n:List Value)(o:j0)(N:F1.R h n o)(r:Bool)(a:d6 o=some r): Tr Tryz.prog 113 #[.agg n.toArray] h λv h'=>v = .bool r/\h'=h:=by
 obtain⟨aA,M,aa,ae,aB,rfl,rfl,d,f,g,av⟩:=opG N;unfold d6 at a;dsimp only at a;refine wkF Tryz.f113 ?_;refine trV a (s02 _ _ _ (D0 d f g)) λaG a=>?_;refine ifB a (λE a=>?_) λE a=>?_;·cases a;exact aI rfl sr
 refine trM a (p0a _ _ _ (D0 d f g)) ?_;rintro X a aF K ⟨af,ac,az,ai,rfl,m,p⟩;obtain⟨aH,aL⟩:=X;dsimp only at a m p;have l:Sub h K:=m.sub;have O:=m.r;obtain⟨aJ,Y,ab,ah,aK,rfl,rfl,am,an,aC,aw⟩:=opG O;try dsimp only at a
 obtain⟨rfl,ax⟩:=sL p;refine w4 ?_;refine pm (.val (.bool (decide (Y=M)))) ?_ ?_;·intro aq aD;exact r3
 obtain⟨Z,D,a⟩:=B0 a;obtain⟨t,u,i⟩:=Z;try dsimp only at a
 refine Or.inr (eX (λv F=>∃(b:Option Addr) (c:Nat),v = .agg #[iV t,iV u,.slice b i.length c]/\H0 t/\H0 u/\N0.R F [.slice b i.length c] i/\i.length<=9223372036854775807) (aI (λv ak al k q=>by obtain⟨b,c,e,z,A,f2,f3⟩:=q;exact⟨b,c,e,z,A,N0.mono k f2,f3⟩) (aI ?_ ?_)));·intro ar T j;refine Tr.mono (H06 _ _ _ (D0 d f (N0.mono (l.trans T) g)) _ (N7 D j)) ?_;rintro _ au ⟨ag,rfl,s⟩;have k:=s.sub;have P:=s.r;obtain⟨aM,aN,w,x,aO,rfl,y,G,H,Q,L⟩:=opG P;cases y;exact aI E6 (aI k ⟨w,x,rfl,G,H,Q,L⟩)
 obtain⟨W,C,a⟩:=B0 a;refine pm (.val (.bool W)) ?_ ?_;·intro ao U j;rintro _ ⟨ad,aj,rfl,I,J,S,ay⟩;exact Tr.val (G05 _ _ _ (D0 I J S) _ _ (D0 d f (N0.mono (l.trans U) g)) _ (N7 C j)) r3
 intro ap V;cases a;exact aI rfl (l.trans V)
def l0h(h:Hp)(i:List Value)(k:E3)(G:c05.R h i k)(r:Bool)(b:Z02 k=some r): Tr Tryz.prog 153 #[.agg i.toArray] h λv h'=>v = .bool r/\h'=h:=by
 obtain⟨l,L,ab,O,m,rfl,rfl,A,f⟩:=s03 G;obtain⟨rfl,Y⟩:=sL f;unfold Z02 at b;dsimp only at b;refine wkF Tryz.f153 ?_;refine trV b (U3 _ _ A 1 oD 3 oD) λae b=>?_;refine ifB b (λy b=>?_) λy b=>?_;·cases b;exact aI rfl sr
 obtain⟨g,w,b⟩:=B0 b;refine eX { vars:=[18] } (eX (λvs os h'=>∃ d,vs.tail = [iV d]/\os = []/\Sub h h'/\H0 d/\g8 m l (E1 vs) d=some g) (eX (λ_ _=>0) (aI (eX P0 ⟨_,rfl,rfl,sr,oD,w⟩) ?_)));rintro _ e F ⟨d,⟨⟩,⟨⟩,c,U,a⟩;replace a:g8 m l e d=some g:=a;obtain _|e:=e;·cases a
 rw[g8.eq_2]at a;refine ifB a (λz a=>?_) λz a=>?_
 ·obtain⟨al,t,a⟩:=B0 a;obtain⟨o,Q,p,J⟩:=Sl.getI (r:=g00.toRp) (Z2.mono c f) t oD;refine aI o ?_;obtain⟨am,an,ao,N,ad,T,ap,rfl,rfl,C,D,E,n⟩:=a08 J;obtain⟨rfl,aa⟩:=sL n;try dsimp only at a
  refine eX _ (aI p ?_);refine w1 ?_;obtain⟨K,u,a⟩:=B0 a;refine eX (.bool K) (aI (T0d _ _ C _  u) ?_);obtain⟨af,s,a⟩:=B0 a;obtain⟨P,j,H⟩:=Sl.getG (r:=g00.toRp) (Z2.mono c f) s oD (s0s F);refine aI (λq=>(j q).1) ?_;obtain⟨ag,ah,ai,M,ac,S,aj,rfl,rfl,V,W,X,I⟩:=a08 H;obtain⟨rfl,Z⟩:=sL I;try dsimp only at a
  refine eX _ (aI (λq=>(j q).2) ?_);refine trG a (λq=>m00 _ _ _ (D0 D E n)) λak a=>?_;refine ifB a (λx a=>?_) λx a=>?_
  ·cases a;try dsimp only[M2,P2]at b
   cases b;exact aI rfl c
  exact P1 e ⟨_,rfl,rfl,c,(M0 _),a⟩
 cases a;try dsimp only[S0,U0]at b
 cases b;exact aI rfl c
def E0e(h:Hp)(A:List Value)(H:E3)(ad:c05.R h A H)(r:E3)(b:h02 H=some r): Tr Tryz.prog 152 #[.agg A.toArray] h λv h'=>∃(z:List Value),v = .agg z.toArray/\New c05 h h' z r:=by
 obtain⟨aC,ak,az,ao,I,rfl,rfl,X,J⟩:=s03 ad;obtain⟨rfl,av⟩:=sL J;unfold h02 at b;dsimp only at b;refine wk Tryz.f152 ?_;obtain⟨y,U,b⟩:=B0 b;refine eX { vars:=[12],boxes:=[2],owns:=[0],nilsB:=[(2,1,129,4,56)] } (eX (λvs os h'=>∃ e f k c,vs.tail = [iV e,iV f]/\os = [k]/\Sub h h'/\H0 e/\H0 f/\F2 (g00.R h') k c/\(∃ Bs,F3 (g00.W h') k c Bs/\G4 h Bs.flatten)/\Y6 I (E1 vs) e f c=some y) (eX (λ_ _=>0) (aI (eX P0 ⟨_,_,_,_,rfl,rfl,sr,oD,X,(show F2 (g00.R h) [] [] from trivial),⟨_,(show F3 (g00.W h) [] [] [] from trivial),(G4.nil h)⟩,U⟩) ?_)));rintro _ _ k i ab ⟨e,f,aN,c,⟨⟩,⟨⟩,j,au,G,g,⟨an,x,E⟩,a⟩;replace a:Y6 I i e f c=some y:=a;obtain _|i:=i;·cases a
 rw[Y6.eq_2]at a;refine ifB a (λV a=>?_) λV a=>?_
 ·obtain⟨aJ,T,a⟩:=B0 a;obtain⟨M,ap,O,ae⟩:=Sl.getI (r:=g00.toRp) (Z2.mono j J) T oD;refine aI M ?_;obtain⟨m,aK,aL,al,aA,aq,aM,rfl,rfl,q,Y,Z,K⟩:=a08 ae;obtain⟨rfl,aw⟩:=sL K;try dsimp only at a
  refine eX _ (aI O ?_);refine w3 ?_;refine aI ?_ trivial;refine trM a (F5 _ _ _ (D0 Y Z K)) ?_;rintro ai a aH u ⟨F,aB,C,rfl,l⟩;have d:Sub ab u:=l.sub;have L:=l.r;obtain⟨n,o,p⟩:=ai;dsimp only at a l L;obtain⟨_,_,_,_,_,_,N,P,s,t,w⟩:=Z0 L;cases N;cases P;obtain⟨rfl,ax⟩:=sL w;try dsimp only at a
  have ah:=nD (nD (l));refine aI (by first|exact trivial|exact rfl) ?_;refine aI ?_ trivial;refine aI (by first|exact trivial|exact rfl) ?_;refine aI ?_ trivial;refine aI (by first|exact trivial|exact rfl) ?_;refine aI ?_ trivial;obtain⟨aD,S,a⟩:=B0 a;refine aI (G1 S (by first|rw[fL (F2.up (r:=g00.toRp) d g),fL (show F2 (g00.R u) ([[.string m,iV n,iV o,.slice (some ⟨F,0,none⟩) p.length C]]:LV) [(m,(n,o,p))] from⟨(B08 q s t w),trivial⟩)]|exact congrArg (·+1) (fL (F2.up (r:=g00.toRp) d g)))) ?_;obtain⟨aj,ag,Q,_⟩:=(nP (New.str q) (nP (nI s) (nP (nI t) ah)));refine aI (by first|exact trivial|exact rfl) ?_;refine aI ?_ trivial;refine aI (by first|exact trivial|exact rfl) ?_;exact P1 i ⟨_,_,_,_,rfl,rfl,(j.trans d),(M0 _),G,(fA (F2.up (r:=g00.toRp) d g) (show F2 (g00.R u) ([[.string m,iV n,iV o,.slice (some ⟨F,0,none⟩) p.length C]]:LV) [(m,(n,o,p))] from⟨(B08 q s t w),trivial⟩)),⟨_,(F3.snoc ag (k0f x d)),(z08 x j E Q)⟩,a⟩
 cases a;try dsimp only[S0,U0]at b
 intro af aa D;have ac:New (Wp.slice g00) h aa [af] c:=(Y0.fresh (r:=g00) D x j E);obtain⟨am,ar,rfl,aF,aG,ay⟩:=Y0.out (r:=g00.toRp) D g;cases b;exact⟨_,rfl,(nP (nI G) ac)⟩
def M07(h:Hp)(i:List Value)(j:E3)(t:c05.R h i j)(c:BA)(E:c.size<=9223372036854775807)(r:Int)(b:w00 j c=some r): Tr Tryz.prog 108 #[.agg i.toArray,.string c] h λv h'=>v=iV r/\h'=h:=by
 obtain⟨O,x,M,z,k,rfl,rfl,D,l⟩:=s03 t;obtain⟨rfl,K⟩:=sL l;unfold w00 at b;dsimp only at b;refine wkF Tryz.f108 ?_;obtain⟨g,p,b⟩:=B0 b;refine eX { vars:=[10] } (eX (λvs os h'=>∃ d,vs.tail = [iV d]/\os = []/\Sub h h'/\H0 d/\p6 k c (E1 vs) d=some g) (eX (λ_ _=>0) (aI (eX P0 ⟨_,rfl,rfl,sr,oD,p⟩) ?_)));rintro _ e J ⟨d,⟨⟩,⟨⟩,f,F,a⟩;replace a:p6 k c e d=some g:=a;obtain _|e:=e;·cases a
 rw[p6.eq_2]at a;refine ifB a (λq a=>?_) λq a=>?_
 ·obtain⟨P,o,a⟩:=B0 a;obtain⟨m,A,n,u⟩:=Sl.getI (r:=g00.toRp) (Z2.mono f l) o oD;refine aI m ?_;obtain⟨Q,S,T,y,N,C,U,rfl,rfl,G,H,I,w⟩:=a08 u;obtain⟨rfl,L⟩:=sL w;try dsimp only at a
  refine eX _ (aI n ?_);refine ifB a (λs a=>?_) λs a=>?_
  ·cases a;try dsimp only[M2,P2]at b
   cases b;exact aI rfl f
  exact P1 e ⟨_,rfl,rfl,f,(M0 _),a⟩
 cases a;try dsimp only[S0,U0]at b
 cases b;exact aI rfl f
theorem k0i(h:Hp)(csp0:List Value)(p0:E3)(rp0:c05.R h csp0 p0)(p1:ByteArray)(ip1:p1.size<=9223372036854775807)(csp2:List Value)(p2:j0)(rp2:F1.R h csp2 p2)(r:E3×Bool)(hM0:G00 p0 p1 p2=some r):
  Tr Tryz.prog 100 #[.agg csp0.toArray,.string p1,.agg csp2.toArray] h λv h'=>∃(cs0:List Value),v = .tuple #[.agg cs0.toArray,.bool r.2]/\New c05 h h' cs0 r.1:=by
 obtain⟨p0_0,ap0_1,np0_1,cp0_1,p0_1,rfl,rfl,ip0_0,rp0_1⟩:=s03 rp0
 obtain⟨rfl,lp0_1⟩:=Sl.len rp0_1
 obtain⟨p2_0,p2_1,ap2_2,np2_2,cp2_2,p2_2,rfl,rfl,ip2_0,ip2_1,rp2_2⟩:=Z0 rp2
 obtain⟨rfl,lp2_2⟩:=Sl.len rp2_2
 unfold G00 at hM0
 dsimp only at hM0
 refine j5 (args:=[.agg #[.int .i64 p0_0,.slice ap0_1 p0_1.length cp0_1],.string p1,.agg #[.int .i64 p2_0,.int .i64 p2_1,.slice ap2_2 p2_2.length cp2_2]]) (fn:=Tryz.f100) rfl ?_
 refine trM hM0 (E0e _ _ _ (u02 ip0_0 rp0_1)) ?_
 rintro x1 hM0 v3 k2 ⟨csx1,rfl,wx1⟩
 have sx1:Sub h k2:=wx1.sub
 have rx1:=wx1.r
 obtain⟨x1_0,ax1_1,nx1_1,cx1_1,x1_1,rfl,rfl,ix1_0,rx1_1⟩:=s03 rx1
 obtain⟨rfl,lx1_1⟩:=Sl.len rx1_1
 try dsimp only at hM0
 have we4:=New.sndI (wx1)
 refine trV hM0 (l0h _ _ _ (u02 ip0_0 (Z2.mono sx1 rp0_1))) λx5 hM0=>?_
 refine trG hM0 (λq=>T0d _ _ ip1) λx6 hM0=>?_
 refine trG hM0 (λq=>m00 _ _ _ (D0 ip2_0 ip2_1 (N0.mono sx1 rp2_2))) λx7 hM0=>?_
 refine ifB hM0 (λhc8 hM0=>?_) λhc8 hM0=>?_
 ·obtain rfl:=oJ hM0
  exact⟨([.int .i64 x1_0,.slice ax1_1 x1_1.length cx1_1]),rfl,(New.pair (New.int ix1_0) we4)⟩
 ·refine trM hM0 (F5 _ _ _ (D0 ip2_0 ip2_1 (N0.mono sx1 rp2_2))) ?_
  rintro x9 hM0 v11 k10 ⟨gx9_2,nx9_2,cx9_2,rfl,wx9⟩
  have sx9:Sub k2 k10:=wx9.sub
  have rx9:=wx9.r
  obtain⟨x9_0,x9_1,x9_2⟩:=x9
  dsimp only at hM0 wx9 rx9
  obtain⟨_,_,_,_,_,_,ecx9,exx9,ix9_0,ix9_1,rx9_2⟩:=Z0 rx9
  cases ecx9
  cases exx9
  obtain⟨rfl,lx9_2⟩:=Sl.len rx9_2
  try dsimp only at hM0
  have we12:=New.sndI (New.sndI (wx9))
  refine trV hM0 (M07 _ _ _ (u02 ip0_0 (Z2.mono (sx1.trans sx9) rp0_1)) _ ip1) λx13 hM0=>?_
  obtain⟨q14,gq14,hM0⟩:=B0 hM0
  have ix13:H0 x13:=F0 gq14
  refine ifB hM0 (λhc15 hM0=>?_) λhc15 hM0=>?_
  ·cases hM0
  ·refine ifB hM0 (λhc16 hM0=>?_) λhc16 hM0=>?_
   ·obtain rfl:=oJ hM0
    exact⟨([.int .i64 x1_0,.slice ax1_1 x1_1.length cx1_1]),rfl,(New.pair (New.int ix1_0) (New.mono we4 sx9))⟩
   ·obtain⟨X17,hLX17,hM0⟩:=B0 hM0
    refine eX { vars:=[11],boxes:=[],owns:=[],fuel:=true } (eX (λvs os h'=>∃ u18,vs.tail = [.int .i64 u18]/\os = []/\Sub k10 h'/\H0 u18/\Z8 x1_1 p1 (E1 vs) u18=some X17) (eX (λ_ _=>0) (aI (eX P0 ⟨0,rfl,rfl,(Sub.refl _),(by decide),hLX17⟩) ?_)))
    rintro _ m20 k19 ⟨u18,⟨⟩,⟨⟩,sX17,iu18,hM1⟩
    replace hM1:Z8 x1_1 p1 m20 u18=some X17:=hM1
    obtain _|m20:=m20
    ·cases hM1
    rw[Z8.eq_2]at hM1
    obtain⟨x21,gx21,hM1⟩:=B0 hM1
    obtain⟨csx21,ex21,rx21⟩:=Sl.getG (r:=g00.toRp) (Z2.mono (sx9.trans sX17) rx1_1) gx21 (by decide) (s0s k19)
    refine aI (λq=>(ex21 q).1) ?_
    obtain⟨x21_0,x21_1,x21_2,ax21_3,nx21_3,cx21_3,x21_3,rfl,rfl,ix21_0,ix21_1,ix21_2,rx21_3⟩:=a08 rx21
    obtain⟨rfl,lx21_3⟩:=Sl.len rx21_3
    try dsimp only at hM1
    refine eX _ (aI (λq=>(ex21 q).2) ?_)
    refine ifB hM1 (λhc22 hM1=>?_) λhc22 hM1=>?_
    ·exact P1 m20 ⟨(IntKind.i64.wrap (u18+1)),rfl,rfl,sX17,(M0 _),hM1⟩
    ·obtain rfl:=oJ hM1
     try dsimp only[S0,U0]at hM0
     rcases New.two we4 with⟨rfl,rfl,rfl⟩|⟨gz23,oz23,rfl⟩
     ·skip
      refine Or.inr ?_
      obtain⟨q24,gq24,hM0⟩:=B0 hM0
      obtain⟨Bz25,wbz25,fbz25,_⟩:=(New.pair (New.str ip1) (New.pair (New.int ix9_0) (New.pair (New.int ix9_1) (New.mono we12 sX17))))
      refine aI (aI rfl (Y0w gq24 (F2.length (show F2 (g00.R k19) ([[.string p1,.int .i64 x9_0,.int .i64 x9_1,.slice (some ⟨gx9_2,0,none⟩) x9_2.length cx9_2]]:List (List Value)) [(p1,(x9_0,x9_1,x9_2))] from⟨(B08 ip1 ix9_0 ix9_1 (N0.mono sX17 rx9_2)),trivial⟩)))) ?_
      intro vz25 kz25 happz25
      obtain⟨wz25,gz25,oz25,nz25,cz25,rfl⟩:=New.appN (r:=g00) we4 (sx9.trans sX17) (show F3 (g00.W k19) ([[.string p1,.int .i64 x9_0,.int .i64 x9_1,.slice (some ⟨gx9_2,0,none⟩) x9_2.length cx9_2]]:List (List Value)) [(p1,(x9_0,x9_1,x9_2))] [Bz25] from⟨wbz25,trivial⟩) (G4.older (Sub.refl _) fbz25) happz25
      have rz25:=wz25.r
      obtain⟨ez25,lz25⟩:=Sl.len rz25
      subst ez25
      obtain⟨X26,hLX26,hM0⟩:=B0 hM0
      refine eX { vars:=[12],boxes:=[],owns:=[],fuel:=true } (eX (λvs os h'=>∃ u27,vs.tail = [.int .i64 u27]/\os = []/\Sub kz25 h'/\H0 u27/\S7 u18 (E1 vs) u27=some X26) (eX (λ_ _=>0) (aI (eX P0 ⟨(IntKind.i64.wrap ((((([]:T5) ++ [(p1,(x9_0,x9_1,x9_2))]).length:Nat):Int)-1)),rfl,rfl,(Sub.refl _),(M0 _),hLX26⟩) ?_)))
      rintro _ m29 k28 ⟨u27,⟨⟩,⟨⟩,sX26,iu27,hM1⟩
      replace hM1:S7 u18 m29 u27=some X26:=hM1
      obtain _|m29:=m29
      ·cases hM1
      rw[S7.eq_2]at hM1
      refine ifB hM1 (λhc30 hM1=>?_) λhc30 hM1=>?_
      ·cases hM1
      ·obtain rfl:=oJ hM1
       try dsimp only[S0,U0]at hM0
       obtain rfl:=oJ hM0
       exact⟨([.int .i64 x1_0,.slice (some ⟨gz25,oz25,none⟩) (([]:T5) ++ [(p1,(x9_0,x9_1,x9_2))]).length cz25]),rfl,(New.pair (New.int ix1_0) (New.mono wz25 sX26))⟩
     ·skip
      obtain⟨q34,gq34,hM0⟩:=B0 hM0
      obtain⟨Bz35,wbz35,fbz35,_⟩:=(New.pair (New.str ip1) (New.pair (New.int ix9_0) (New.pair (New.int ix9_1) (New.mono we12 sX17))))
      obtain⟨vsz35,rxz35,lnz35,apz35⟩:=New.app we4 (sx9.trans sX17)
      refine eX vsz35 (aI rxz35 (aI (G1 gq34 (by first|rw[lnz35,F2.length (show F2 (g00.R k19) ([[.string p1,.int .i64 x9_0,.int .i64 x9_1,.slice (some ⟨gx9_2,0,none⟩) x9_2.length cx9_2]]:List (List Value)) [(p1,(x9_0,x9_1,x9_2))] from⟨(B08 ip1 ix9_0 ix9_1 (N0.mono sX17 rx9_2)),trivial⟩)]|(rw[lnz35];rfl))) ?_))
      intro vz35 kz35 happz35
      obtain⟨wz35,gz35,oz35,nz35,cz35,rfl⟩:=apz35 ([[.string p1,.int .i64 x9_0,.int .i64 x9_1,.slice (some ⟨gx9_2,0,none⟩) x9_2.length cx9_2]]:List (List Value)) [(p1,(x9_0,x9_1,x9_2))] [Bz35] _ _ (show F3 (g00.W k19) ([[.string p1,.int .i64 x9_0,.int .i64 x9_1,.slice (some ⟨gx9_2,0,none⟩) x9_2.length cx9_2]]:List (List Value)) [(p1,(x9_0,x9_1,x9_2))] [Bz35] from⟨wbz35,trivial⟩) (G4.older (Sub.refl _) fbz35) happz35
      have rz35:=wz35.r
      obtain⟨ez35,lz35⟩:=Sl.len rz35
      subst ez35
      obtain⟨X36,hLX36,hM0⟩:=B0 hM0
      refine eX { vars:=[12],boxes:=[],owns:=[],fuel:=true } (eX (λvs os h'=>∃ u37,vs.tail = [.int .i64 u37]/\os = []/\Sub kz35 h'/\H0 u37/\S7 u18 (E1 vs) u37=some X36) (eX (λ_ _=>0) (aI (eX P0 ⟨(IntKind.i64.wrap ((((x1_1 ++ [(p1,(x9_0,x9_1,x9_2))]).length:Nat):Int)-1)),rfl,rfl,(Sub.refl _),(M0 _),hLX36⟩) ?_)))
      rintro _ m39 k38 ⟨u37,⟨⟩,⟨⟩,sX36,iu37,hM1⟩
      replace hM1:S7 u18 m39 u37=some X36:=hM1
      obtain _|m39:=m39
      ·cases hM1
      rw[S7.eq_2]at hM1
      refine ifB hM1 (λhc40 hM1=>?_) λhc40 hM1=>?_
      ·cases hM1
      ·obtain rfl:=oJ hM1
       try dsimp only[S0,U0]at hM0
       obtain rfl:=oJ hM0
       exact⟨([.int .i64 x1_0,.slice (some ⟨gz35,oz35,none⟩) (x1_1 ++ [(p1,(x9_0,x9_1,x9_2))]).length cz35]),rfl,(New.pair (New.int ix1_0) (New.mono wz35 sX36))⟩
def G0e(h:Hp)(b:Int)(d:H0 b)(r:T3×Bool)(a:F03 b=some r): Tr Tryz.prog 57 #[iV b] h λv h'=>∃(c:List Value),v = .tuple #[.agg c.toArray,.bool r.2]/\New L04 h h' c r.1:=by
 unfold F03 at a;refine wk Tryz.f57 ?_;refine trV a (U3 _ _ d 1 oD 3 oD) λf a=>?_;refine ifB a (λe a=>?_) λe a=>?_;·cases a;exact⟨_,rfl,(nP (nI (show H0 (0) from(oD))) ((New.nilSlice (r:=S4)).mono sr))⟩
 cases a;exact⟨_,rfl,(nP (nI d) ((New.nilSlice (r:=S4)).mono sr))⟩
end Go.Proofs.YthakcafglempaaaGreat
