/- Texts of the claim, joined: The walks of batch sp1 and others. -/
import Derived.Test.YthkpbcnhdhfifaaGreatH53
import Derived.Test.YthkpbcnhdhfifaaGreatPart24
import Derived.Test.YthkpbcnhdhfifaaGreatPart23
import Derived.Test.YthkpbcnhdhfifaaGreatChecked
import Derived.Test.YthkpbcnhdhfifaaGreatH35
import Derived.Test.YthkpbcnhdhfifaaGreatPart37
import Derived.Test.YthkpbcnhdhfifaaGreatPart39
import Derived.Test.YthkpbcnhdhfifaaGreatPart40
import Derived.Test.YthkpbcnhdhfifaaGreatPart41
import Derived.Test.YthkpbcnhdhfifaaGreatPart27
import Derived.Test.YthkpbcnhdhfifaaGreatH41
import Derived.Test.YthkpbcnhdhfifaaGreatPart42
namespace Go.Proofs.YthkpbcnhdhfifaaGreat
set_option linter.all false
open Go.H
open IntKind (i64)
set_option maxRecDepth 10000
set_option maxHeartbeats 0
theorem t0i(h:Hp)(csp0:List Value)(p0:B0)(rp0:I1.R h csp0 p0)(ap1:Option Addr)(np1 cp1:Nat)(p1:J0)(rp1:K0.R h [.slice ap1 np1 cp1] p1)(r:J0×Bool)(hM0:Y03 p0 p1=some r): Tr Tryz.prog 133 #[.agg csp0.toArray,.slice ap1 np1 cp1] h λv h'=>∃(a0:Option Addr) (n0 c0:Nat),v = .tuple #[.slice a0 n0 c0,.bool r.2]/\New K0 h h' [.slice a0 n0 c0] r.1:=by
 obtain⟨p0_0,p0_1,ap0_2,np0_2,cp0_2,p0_2,rfl,rfl,ip0_0,ip0_1,rp0_2⟩:=Z0 rp0;obtain⟨rfl,lp0_2⟩:=Sl.len rp0_2;obtain⟨rfl,lp1⟩:=Sl.len rp1;unfold Y03 at hM0;dsimp only at hM0;refine V4 (args:=[.agg #[.int .i64 p0_0,.int .i64 p0_1,.slice ap0_2 p0_2.length cp0_2],.slice ap1 p1.length cp1]) (fn:=Tryz.f133) rfl ?_;refine trM hM0 (P04 _ ap1 p1.length cp1 p1 rp1) ?_;rintro x1 hM0 v3 k2 ⟨ax1,nx1,cx1,rfl,wx1⟩;have sx1:Sub h k2:=wx1.sub;have rx1:=wx1.r;obtain⟨rfl,lx1⟩:=Sl.len rx1;refine trV hM0 (R00 _ _ _ (C0 ip0_0 ip0_1 (M0.mono sx1 rp0_2)) _ _ _ _ rx1) λx4 hM0=>?_;refine ifB hM0 (λhc5 hM0=>?_) λhc5 hM0=>?_;·intro v6 k7 f8;obtain⟨az9,cz9,rfl,rz9,sz9,lz9⟩:=C1.out (r:=Wp.int.toRp) f8 (F2.up (r:=Wp.int.toRp) sx1 (show F2 (Wp.int.R h) ([]:List (List Value)) ([]:J0) from trivial));obtain rfl:=oJ hM0;exact⟨az9,(([]:J0)).length,cz9,rfl,(New.from (C1.newPlain (r:=Wp.int) f8 (F2.up (r:=Wp.int.toRp) sx1 (show F2 (Wp.int.R h) ([]:List (List Value)) ([]:J0) from trivial)) (M05 _)) sx1)⟩
 refine trM hM0 (V09 _ _ _ (C0 ip0_0 ip0_1 (M0.mono sx1 rp0_2))) ?_;rintro x10 hM0 v12 k11 ⟨ax10,nx10,cx10,rfl,rx10,sx10⟩;obtain⟨rfl,lx10⟩:=Sl.len rx10;obtain⟨X13,hLX13,hM0⟩:=D0 hM0;refine eX { vars:=[9,10],boxes:=[],owns:=[0],fuel:=true } (eX (λvs os h'=>∃ u14 u15 wu16 u16,vs.tail = [.int .i64 u14,.int .i64 u15]/\os = [wu16]/\Sub k11 h'/\I0 u14/\I0 u15/\F2 (Wp.int.R h') wu16 u16/\F8 x1 p0_0 p0_1 p0_2 x10 (P1 vs) u14 u15 u16=some X13) (eX (λ_ _=>0) (aI (eX U0 ⟨0,0,[],([]:J0),rfl,rfl,(Sub.refl _),(by decide),(by decide),(F2.up (r:=Wp.int.toRp) (sx1.trans sx10) (show F2 (Wp.int.R h) ([]:List (List Value)) ([]:J0) from trivial)),hLX13⟩) ?_)));rintro _ _ wu16 m18 k17 ⟨u14,u15,zzu16,u16,⟨⟩,⟨⟩,sX13,iu14,iu15,fu16,hM1⟩;replace hM1:F8 x1 p0_0 p0_1 p0_2 x10 m18 u14 u15 u16=some X13:=hM1;obtain _|m18:=m18;·cases hM1
 rw[F8.eq_2]at hM1;refine ifB hM1 (λhc19 hM1=>?_) λhc19 hM1=>?_
 ·refine Or.inl (aI (aI (by kernel_rfl) (by kernel_rfl)) ?_);refine ldI hM1 (K0.mono (sx10.trans sX13) rx1) λx20 ix20 hM1=>?_;obtain⟨x21,gx21,hM1⟩:=D0 hM1;refine eX (.int .i64 x21) (aI (d7 _ _ _ (C0 ip0_0 ip0_1 (M0.mono ((sx1.trans sx10).trans sX13) rp0_2)) _ iu14 _ ix20 _  gx21) ?_);obtain⟨q22,gq22,hM1⟩:=D0 hM1;have ix21:I0 x21:=N0 gq22;obtain⟨X23,hLX23,hM1⟩:=D0 hM1;refine eX { vars:=[12],boxes:=[],owns:=[0],fuel:=true } (eX (λvs os h'=>∃ u24 wu25 u25,vs.tail = [.int .i64 u24]/\os = [wu25]/\Sub k17 h'/\I0 u24/\F2 (Wp.int.R h') wu25 u25/\l5 x10 x1 u15 u14 x21 (P1 vs) u24 u25=some X23) (eX (λ_ _=>0) (aI (eX U0 ⟨0,wu16,u16,rfl,rfl,(Sub.refl _),(by decide),fu16,hLX23⟩) ?_)));rintro _ wu25 m27 k26 ⟨u24,zzu25,u25,⟨⟩,⟨⟩,sX23,iu24,fu25,hM2⟩;replace hM2:l5 x10 x1 u15 u14 x21 m27 u24 u25=some X23:=hM2;obtain _|m27:=m27;·cases hM2
  rw[l5.eq_2]at hM2;refine ifB hM2 (λhc28 hM2=>?_) λhc28 hM2=>?_
  ·refine Or.inl (aI (aI (by kernel_rfl) (by kernel_rfl)) ?_);refine ldI hM2 (K0.mono ((sx10.trans sX13).trans sX23) rx1) λx29 ix29 hM2=>?_;obtain⟨x30,gx30,hM2⟩:=D0 hM2;obtain⟨csx30,ex30,rx30⟩:=Sl.getG (r:=E1.toRp) (M0.mono (sX13.trans sX23) rx10) gx30 (by decide) (A0b k26);refine aI (λq=>(ex30 q).1) ?_;obtain⟨x30_0,x30_1,x30_2,rfl,rfl,ix30_0,ix30_1,ix30_2⟩:=D2 rx30;try dsimp only at hM2
   refine eX _ (aI (λq=>(ex30 q).2) ?_);refine ldG hM2 (K0.mono ((sx10.trans sX13).trans sX23) rx1) λx31 ix31 hM2=>?_;refine eX (eqE (x30_0,x30_1,x30_2) (u14,x31,x21)) (aI (λ_=>(R0b _ _ _ rfl _ _ _ _ _ _)) ?_);refine ifB hM2 (λhc32 hM2=>?_) λhc32 hM2=>?_
   ·obtain⟨q33,gq33,hM2⟩:=D0 hM2;refine aI (N1 gq33 (by first|rw[F2.length fu25,F2.length (show F2 (Wp.int.R k26) ([[.int .i64 (IntKind.i64.wrap (u24+1))]]:List (List Value)) [(IntKind.i64.wrap (u24+1))] from⟨⟨rfl,(O0 _)⟩,trivial⟩)]|exact congrArg (·+1) (F2.length fu25))) ?_;refine Or.inl (aI (aI (by kernel_rfl) (by kernel_rfl)) ?_);refine ldI hM2 (K0.mono ((sx10.trans sX13).trans sX23) rx1) λx34 ix34 hM2=>?_;obtain⟨x35,gx35,hM2⟩:=D0 hM2;obtain⟨csx35,ex35,rx35⟩:=Sl.getG (r:=E1.toRp) (M0.mono (sX13.trans sX23) rx10) gx35 (by decide) (A0b k26);refine aI (λq=>(ex35 q).1) ?_;obtain⟨x35_0,x35_1,x35_2,rfl,rfl,ix35_0,ix35_1,ix35_2⟩:=D2 rx35;try dsimp only at hM2
    refine eX _ (aI (λq=>(ex35 q).2) ?_);refine ldG hM2 (K0.mono ((sx10.trans sX13).trans sX23) rx1) λx36 ix36 hM2=>?_;refine eX (eqE (x35_0,x35_1,x35_2) (x21,(IntKind.i64.wrap (0-x36)),u14)) (aI (λ_=>(R0b _ _ _ rfl _ _ _ _ _ _)) ?_);refine ifB hM2 (λhc37 hM2=>?_) λhc37 hM2=>?_;·obtain⟨q38,gq38,hM2⟩:=D0 hM2;refine aI (N1 gq38 (by first|rw[F2.length (F2.append fu25 (show F2 (Wp.int.R k26) ([[.int .i64 (IntKind.i64.wrap (u24+1))]]:List (List Value)) [(IntKind.i64.wrap (u24+1))] from⟨⟨rfl,(O0 _)⟩,trivial⟩)),F2.length (show F2 (Wp.int.R k26) ([[.int .i64 (IntKind.i64.wrap ((IntKind.i64.wrap (0-u24))-1))]]:List (List Value)) [(IntKind.i64.wrap ((IntKind.i64.wrap (0-u24))-1))] from⟨⟨rfl,(O0 _)⟩,trivial⟩)]|exact congrArg (·+1) (F2.length (F2.append fu25 (show F2 (Wp.int.R k26) ([[.int .i64 (IntKind.i64.wrap (u24+1))]]:List (List Value)) [(IntKind.i64.wrap (u24+1))] from⟨⟨rfl,(O0 _)⟩,trivial⟩))))) ?_;exact C2 m27 ⟨(IntKind.i64.wrap (u24+1)),((wu25++([[.int .i64 (IntKind.i64.wrap (u24+1))]]:List (List Value)))++([[.int .i64 (IntKind.i64.wrap ((IntKind.i64.wrap (0-u24))-1))]]:List (List Value))),((u25 ++ [(IntKind.i64.wrap (u24+1))]) ++ [(IntKind.i64.wrap ((IntKind.i64.wrap (0-u24))-1))]),rfl,rfl,sX23,(O0 _),(F2.append (F2.append fu25 (show F2 (Wp.int.R k26) ([[.int .i64 (IntKind.i64.wrap (u24+1))]]:List (List Value)) [(IntKind.i64.wrap (u24+1))] from⟨⟨rfl,(O0 _)⟩,trivial⟩)) (show F2 (Wp.int.R k26) ([[.int .i64 (IntKind.i64.wrap ((IntKind.i64.wrap (0-u24))-1))]]:List (List Value)) [(IntKind.i64.wrap ((IntKind.i64.wrap (0-u24))-1))] from⟨⟨rfl,(O0 _)⟩,trivial⟩)),hM2⟩
    exact C2 m27 ⟨(IntKind.i64.wrap (u24+1)),(wu25++([[.int .i64 (IntKind.i64.wrap (u24+1))]]:List (List Value))),(u25 ++ [(IntKind.i64.wrap (u24+1))]),rfl,rfl,sX23,(O0 _),(F2.append fu25 (show F2 (Wp.int.R k26) ([[.int .i64 (IntKind.i64.wrap (u24+1))]]:List (List Value)) [(IntKind.i64.wrap (u24+1))] from⟨⟨rfl,(O0 _)⟩,trivial⟩)),hM2⟩
   refine Or.inl (aI (aI (by kernel_rfl) (by kernel_rfl)) ?_);refine ldI hM2 (K0.mono ((sx10.trans sX13).trans sX23) rx1) λx39 ix39 hM2=>?_;obtain⟨x40,gx40,hM2⟩:=D0 hM2;obtain⟨csx40,ex40,rx40⟩:=Sl.getG (r:=E1.toRp) (M0.mono (sX13.trans sX23) rx10) gx40 (by decide) (A0b k26);refine aI (λq=>(ex40 q).1) ?_;obtain⟨x40_0,x40_1,x40_2,rfl,rfl,ix40_0,ix40_1,ix40_2⟩:=D2 rx40;try dsimp only at hM2
   refine eX _ (aI (λq=>(ex40 q).2) ?_);refine ldG hM2 (K0.mono ((sx10.trans sX13).trans sX23) rx1) λx41 ix41 hM2=>?_;refine eX (eqE (x40_0,x40_1,x40_2) (x21,(IntKind.i64.wrap (0-x41)),u14)) (aI (λ_=>(R0b _ _ _ rfl _ _ _ _ _ _)) ?_);refine ifB hM2 (λhc42 hM2=>?_) λhc42 hM2=>?_;·obtain⟨q43,gq43,hM2⟩:=D0 hM2;refine aI (N1 gq43 (by first|rw[F2.length fu25,F2.length (show F2 (Wp.int.R k26) ([[.int .i64 (IntKind.i64.wrap ((IntKind.i64.wrap (0-u24))-1))]]:List (List Value)) [(IntKind.i64.wrap ((IntKind.i64.wrap (0-u24))-1))] from⟨⟨rfl,(O0 _)⟩,trivial⟩)]|exact congrArg (·+1) (F2.length fu25))) ?_;exact C2 m27 ⟨(IntKind.i64.wrap (u24+1)),(wu25++([[.int .i64 (IntKind.i64.wrap ((IntKind.i64.wrap (0-u24))-1))]]:List (List Value))),(u25 ++ [(IntKind.i64.wrap ((IntKind.i64.wrap (0-u24))-1))]),rfl,rfl,sX23,(O0 _),(F2.append fu25 (show F2 (Wp.int.R k26) ([[.int .i64 (IntKind.i64.wrap ((IntKind.i64.wrap (0-u24))-1))]]:List (List Value)) [(IntKind.i64.wrap ((IntKind.i64.wrap (0-u24))-1))] from⟨⟨rfl,(O0 _)⟩,trivial⟩)),hM2⟩
   exact C2 m27 ⟨(IntKind.i64.wrap (u24+1)),wu25,u25,rfl,rfl,sX23,(O0 _),fu25,hM2⟩
  obtain rfl:=oJ hM2;try dsimp only[V0,Y0]at hM1
  exact C2 m18 ⟨x21,(IntKind.i64.wrap (u15+1)),wu25,u25,rfl,rfl,(sX13.trans sX23),ix21,(O0 _),fu25,hM1⟩
 obtain rfl:=oJ hM1;try dsimp only[V0,Y0]at hM0
 refine Or.inl ?_;intro v48 k49 f50;obtain⟨az51,cz51,rfl,rz51,sz51,lz51⟩:=C1.out (r:=Wp.int.toRp) f50 fu16;refine trM hM0 (P04 _ az51 u16.length cz51 u16 rz51) ?_;rintro x52 hM0 v54 k53 ⟨ax52,nx52,cx52,rfl,wx52⟩;have sx52:Sub k49 k53:=wx52.sub;have rx52:=wx52.r;obtain⟨rfl,lx52⟩:=Sl.len rx52;obtain rfl:=oJ hM0;exact⟨ax52,x52.length,cx52,rfl,(New.from wx52 (((sx1.trans sx10).trans sX13).trans sz51))⟩
def Z0l(h:Hp)(csp0:List Value)(p0:B0)(rp0:I1.R h csp0 p0)(ap1:Option Addr)(np1 cp1:Nat)(p1:J0)(rp1:K0.R h [.slice ap1 np1 cp1] p1)(r:B0×Bool)(hM0:o05 p0 p1=some r): Tr Tryz.prog 196 #[.agg csp0.toArray,.slice ap1 np1 cp1] h λv h'=>∃(cs0:List Value),v = .tuple #[.agg cs0.toArray,.bool r.2]/\I1.R h' cs0 r.1/\Sub h h':=by
 obtain⟨p0_0,p0_1,ap0_2,cp0_2,p0_2,rfl,rfl,ip0_0,ip0_1,rp0_2,lp0_2⟩:=opG rp0;obtain⟨rfl,lp1⟩:=sL rp1;unfold o05 at hM0;dsimp only at hM0;refine wk Tryz.f196 ?_;refine trV hM0 (W09 _ _ _ (C0 ip0_0 ip0_1 rp0_2) 0 (by decide) _ _ _ _ rp1) λx1 hM0=>?_;obtain⟨q2,gq2,hM0⟩:=D0 hM0;have ix1:I0 x1:=N0 gq2;refine ifB hM0 (λhc3 hM0=>?_) λhc3 hM0=>?_
 ·refine trM hM0 (F5 _ _ _ (C0 ip0_0 ip0_1 rp0_2)) ?_;rintro x4 hM0 v6 k5 ⟨csx4,rfl,wx4⟩;have sx4:Sub h k5:=wx4.sub;have rx4:=wx4.r;obtain⟨x4_0,x4_1,ax4_2,cx4_2,x4_2,rfl,rfl,ix4_0,ix4_1,rx4_2,lx4_2⟩:=opG rx4;try dsimp only at hM0
  cases hM0;exact⟨_,rfl,(C0 ix4_0 ix4_1 rx4_2),sx4⟩
 refine w4 ?_;obtain⟨x7,gx7,hM0⟩:=D0 hM0;refine fS K0 x7 ?_ ?_;·intro k8 s9;obtain⟨qx7,vsx7,ex7,fx7⟩:=Sl.cutI (r:=Wp.int.toRp) (K0.mono s9 rp1) gx7;refine aI qx7 (eX vsx7 (aI ex7 ?_));intro v hv _;obtain⟨a,c,rfl,r⟩:=fx7 v hv;exact aI K7 (aI sr ⟨a,c,rfl,r,(sL r).2⟩)
 obtain⟨x10,gx10,hM0⟩:=D0 hM0;obtain⟨x10_0,x10_1⟩:=x10;try dsimp only at hM0
 obtain⟨q11,gq11,hM0⟩:=D0 hM0;have ix10_0:I0 x10_0:=N0 gq11;refine pm (.val (.tuple #[iV x10_0,.bool x10_1])) ?_ ?_;·intro k12 s13;rintro _ ⟨az14,cz14,rfl,rz14,lz14⟩;exact Tr.val (k08 _ _ _ (C0 ip0_0 ip0_1 (M0.mono s13 rp0_2)) 0 (by decide) _ _ _ _ rz14 _ gx10) r3
 refine pm (.val (iV x10_0)) ?_ ?_;·intro k15 s16;exact r3
 refine pm (.val (.bool x10_1)) ?_ ?_;·intro k17 s18;exact r3
 intro k19 s20;rintro _ _;refine trM hM0 (e0b _ _ _ (C0 ip0_0 ip0_1 (M0.mono s20 rp0_2))) ?_;rintro x21 hM0 v23 k22 ⟨csx21_0,rfl,rx21_0,sx21⟩;obtain⟨x21_0,x21_1⟩:=x21;dsimp only at hM0 rx21_0;obtain⟨x21_0_0,x21_0_1,ax21_0_2,cx21_0_2,x21_0_2,rfl,rfl,ix21_0_0,ix21_0_1,rx21_0_2,lx21_0_2⟩:=opG rx21_0;try dsimp only at hM0
 refine ifB hM0 (λhc24 hM0=>?_) λhc24 hM0=>?_;·cases hM0;exact⟨_,rfl,(C0 (by decide) (by decide) (d02 E1 k22)),(s20.trans sx21)⟩
 refine w5 12 ?_;obtain⟨x25,gx25,hM0⟩:=D0 hM0;refine fS K0 x25 ?_ ?_;·intro k26 s27;obtain⟨qx25,vsx25,ex25,fx25⟩:=Sl.cutI (r:=Wp.int.toRp) (K0.mono ((s20.trans sx21).trans s27) rp1) gx25;refine aI qx25 (eX vsx25 (aI ex25 ?_));intro v hv _;obtain⟨a,c,rfl,r⟩:=fx25 v hv;exact aI K7 (aI sr ⟨a,c,rfl,r,(sL r).2⟩)
 obtain⟨x28,gx28,hM0⟩:=D0 hM0;obtain⟨x28_0,x28_1⟩:=x28;try dsimp only at hM0
 obtain⟨x28_0_0,x28_0_1,x28_0_2⟩:=x28_0;try dsimp only at hM0
 refine Or.inr (eX (λv hh=>∃(ux28_0:Value),v = .tuple #[ux28_0,.bool x28_1]/\(λv hh=>∃(ax28_0_2:Option Addr) (cx28_0_2:Nat),v = .agg #[iV x28_0_0,iV x28_0_1,.slice ax28_0_2 x28_0_2.length cx28_0_2]/\I0 x28_0_0/\I0 x28_0_1/\M0.R hh [.slice ax28_0_2 x28_0_2.length cx28_0_2] x28_0_2/\x28_0_2.length<=9223372036854775807) ux28_0 hh) (aI (λv h1 h2 sb q=>by obtain⟨ux28_0,e,fux28_0⟩:=q;exact⟨ux28_0,e,(by obtain⟨ax28_0_2,cx28_0_2,e,f0,f1,f2,f3⟩:=fux28_0;exact⟨ax28_0_2,cx28_0_2,e,f0,f1,M0.mono sb f2,f3⟩)⟩) (aI ?_ ?_)));·intro k29 s30;rintro _ ⟨az31,cz31,rfl,rz31,lz31⟩;refine Tr.mono (v09 _ _ _ (C0 ix21_0_0 ix21_0_1 (M0.mono s30 rx21_0_2)) _ ix10_0 _ _ _ _ rz31 _ ip0_1 _ gx28) ?_;rintro _ kk ⟨csx28_0,rfl,rx28_0,sb⟩;obtain⟨yx28_0_0,yx28_0_1,ayx28_0_2,cyx28_0_2,yx28_0_2,rfl,ey,iyx28_0_0,iyx28_0_1,ryx28_0_2,lyx28_0_2⟩:=opG rx28_0;cases ey;exact aI K7 (aI sb ⟨(.agg #[iV x28_0_0,iV x28_0_1,.slice ayx28_0_2 x28_0_2.length cyx28_0_2]),rfl,⟨ayx28_0_2,cyx28_0_2,rfl,iyx28_0_0,iyx28_0_1,ryx28_0_2,lyx28_0_2⟩⟩)
 refine Or.inr (eX (λv hh=>∃(ux28_0:Value),v = .tuple #[ux28_0,.bool x28_1]/\(λv hh=>∃(ax28_0_2:Option Addr) (cx28_0_2:Nat),v = .agg #[iV x28_0_0,iV x28_0_1,.slice ax28_0_2 x28_0_2.length cx28_0_2]/\I0 x28_0_0/\I0 x28_0_1/\M0.R hh [.slice ax28_0_2 x28_0_2.length cx28_0_2] x28_0_2/\x28_0_2.length<=9223372036854775807) ux28_0 hh) (aI (λv h1 h2 sb q=>by obtain⟨ux28_0,e,fux28_0⟩:=q;exact⟨ux28_0,e,(by obtain⟨ax28_0_2,cx28_0_2,e,f0,f1,f2,f3⟩:=fux28_0;exact⟨ax28_0_2,cx28_0_2,e,f0,f1,M0.mono sb f2,f3⟩)⟩) (aI ?_ ?_)));·intro k32 s33;rintro _ ⟨_,rfl,⟨az34p02,cz34p02,rfl,iz34p00,iz34p01,rz34p02,lz34p02⟩⟩;exact aI K7 (aI sr ⟨(.agg #[iV x28_0_0,iV x28_0_1,.slice az34p02 x28_0_2.length cz34p02]),rfl,⟨az34p02,cz34p02,rfl,iz34p00,iz34p01,rz34p02,lz34p02⟩⟩)
 refine Or.inr (eX (λv hh=>∃(ax28_0_2:Option Addr) (cx28_0_2:Nat),v = .agg #[iV x28_0_0,iV x28_0_1,.slice ax28_0_2 x28_0_2.length cx28_0_2]/\I0 x28_0_0/\I0 x28_0_1/\M0.R hh [.slice ax28_0_2 x28_0_2.length cx28_0_2] x28_0_2/\x28_0_2.length<=9223372036854775807) (aI (λv h1 h2 sb q=>by obtain⟨ax28_0_2,cx28_0_2,e,f0,f1,f2,f3⟩:=q;exact⟨ax28_0_2,cx28_0_2,e,f0,f1,M0.mono sb f2,f3⟩) (aI ?_ ?_)));·intro k35 s36;rintro _ ⟨_,rfl,⟨az37p02,cz37p02,rfl,iz37p00,iz37p01,rz37p02,lz37p02⟩⟩;exact aI K7 (aI sr ⟨az37p02,cz37p02,rfl,iz37p00,iz37p01,rz37p02,lz37p02⟩)
 refine pm (.val (.bool x28_1)) ?_ ?_;·intro k38 s39;rintro _ ⟨_,rfl,⟨az40p02,cz40p02,rfl,iz40p00,iz40p01,rz40p02,lz40p02⟩⟩;exact r3
 intro k41 s42;rintro _ ⟨az432,cz432,rfl,iz430,iz431,rz432,lz432⟩;rintro _ _;rintro _ _;rintro _ _;cases hM0;exact⟨_,rfl,(C0 iz430 iz431 rz432),((s20.trans sx21).trans s42)⟩
def A0d(h:Hp)(csp0:List Value)(p0:B0)(rp0:I1.R h csp0 p0)(r:B0×Bool)(hM0:k00 p0=some r): Tr Tryz.prog 197 #[.agg csp0.toArray] h λv h'=>∃(cs0:List Value),v = .tuple #[.agg cs0.toArray,.bool r.2]/\I1.R h' cs0 r.1/\Sub h h':=by
 obtain⟨p0_0,p0_1,ap0_2,cp0_2,p0_2,rfl,rfl,ip0_0,ip0_1,rp0_2,lp0_2⟩:=opG rp0;unfold k00 at hM0;dsimp only at hM0;refine wk Tryz.f197 ?_;refine trV hM0 (P7 _ _ _ (C0 ip0_0 ip0_1 rp0_2)) λx1 hM0=>?_;refine ifB hM0 (λhc2 hM0=>?_) λhc2 hM0=>?_;·cases hM0;exact⟨_,rfl,(C0 (by decide) (by decide) (d02 E1 h)),sr⟩
 refine trM hM0 (F5 _ _ _ (C0 ip0_0 ip0_1 rp0_2)) ?_;rintro x3 hM0 v5 k4 ⟨csx3,rfl,wx3⟩;have sx3:Sub h k4:=wx3.sub;have rx3:=wx3.r;obtain⟨x3_0,x3_1,ax3_2,cx3_2,x3_2,rfl,rfl,ix3_0,ix3_1,rx3_2,lx3_2⟩:=opG rx3;try dsimp only at hM0
 obtain⟨X6,hLX6,hM0⟩:=D0 hM0;refine eX { vars:=[5],boxes:=[2] } (eX (λvs os h'=>∃ u7 u8 u9 au10 nu10 cu10 u10,vs.tail = [iV u7,iV u8,iV u9,.slice au10 nu10 cu10]/\os = []/\Sub k4 h'/\I0 u7/\I0 u8/\I0 u9/\M0.R h' [.slice au10 nu10 cu10] u10/\R5 p0_0 p0_1 p0_2 (P1 vs) u7 u8 u9 u10=some X6) (eX (λ_ _=>0) (aI (eX U0 ⟨_,_,_,_,_,_,_,rfl,rfl,sr,(by decide),ix3_0,ix3_1,rx3_2,hLX6⟩) ?_)));rintro _ _ _ _ m12 k11 ⟨u7,u8,u9,au10,nu10,cu10,u10,⟨⟩,⟨⟩,sX6,iu7,iu8,iu9,ru10,hM1⟩;replace hM1:R5 p0_0 p0_1 p0_2 m12 u7 u8 u9 u10=some X6:=hM1;obtain _|m12:=m12;·cases hM1
 rw[R5.eq_2]at hM1;obtain⟨rfl,lu10⟩:=sL ru10;refine ifB hM1 (λhc13 hM1=>?_) λhc13 hM1=>?_
 ·obtain⟨X14,hLX14,hM1⟩:=D0 hM1;refine eX { vars:=[8],owns:=[0,1] } (eX (λvs os h'=>∃ u15 wu16 u16 wu17 u17,vs.tail = [iV u15]/\os = [wu16,wu17]/\Sub k11 h'/\I0 u15/\F2 (Wp.int.R h') wu16 u16/\F2 (Wp.int.R h') wu17 u17/\S3 p0_1 p0_0 p0_2 u7 (P1 vs) u15 u16 u17=some X14) (eX (λ_ _=>0) (aI (eX U0 ⟨_,_,_,_,_,rfl,rfl,sr,(by decide),(show F2 (Wp.int.R k11) ([]:LV) ([]:J0) from trivial),(show F2 (Wp.int.R k11) ([]:LV) ([]:J0) from trivial),hLX14⟩) ?_)));rintro _ wu16 wu17 m19 k18 ⟨u15,zzu16,u16,zzu17,u17,⟨⟩,⟨⟩,sX14,iu15,fu16,fu17,hM2⟩;replace hM2:S3 p0_1 p0_0 p0_2 u7 m19 u15 u16 u17=some X14:=hM2;obtain _|m19:=m19;·cases hM2
  rw[S3.eq_2]at hM2;refine ifB hM2 (λhc20 hM2=>?_) λhc20 hM2=>?_
  ·refine trV hM2 (d7 _ _ _ (C0 ip0_0 ip0_1 (M0.mono ((sx3.trans sX6).trans sX14) rp0_2)) _ iu15 _ iu7) λx21 hM2=>?_;obtain⟨q22,gq22,hM2⟩:=D0 hM2;have ix21:I0 x21:=N0 gq22;refine ifB hM2 (λhc23 hM2=>?_) λhc23 hM2=>?_
   ·obtain⟨q24,gq24,hM2⟩:=D0 hM2;refine aI (N1 gq24 (by first|rw[fL fu16,fL (show F2 (Wp.int.R k18) ([[iV u15]]:LV) [u15] from⟨⟨rfl,iu15⟩,trivial⟩)]|exact congrArg (·+1) (fL fu16))) ?_;refine trV hM2 (d7 _ _ _ (C0 ip0_0 ip0_1 (M0.mono ((sx3.trans sX6).trans sX14) rp0_2)) _ iu15 (i64.wrap (0-u7)) (O0 _)) λx25 hM2=>?_;obtain⟨q26,gq26,hM2⟩:=D0 hM2;have ix25:I0 x25:=N0 gq26;refine ifB hM2 (λhc27 hM2=>?_) λhc27 hM2=>?_;·obtain⟨q28,gq28,hM2⟩:=D0 hM2;refine aI (N1 gq28 (by first|rw[fL fu17,fL (show F2 (Wp.int.R k18) ([[iV u15]]:LV) [u15] from⟨⟨rfl,iu15⟩,trivial⟩)]|exact congrArg (·+1) (fL fu17))) ?_;exact C2 m19 ⟨_,_,_,_,_,rfl,rfl,sX14,(O0 _),(fA fu16 (show F2 (Wp.int.R k18) ([[iV u15]]:LV) [u15] from⟨⟨rfl,iu15⟩,trivial⟩)),(fA fu17 (show F2 (Wp.int.R k18) ([[iV u15]]:LV) [u15] from⟨⟨rfl,iu15⟩,trivial⟩)),hM2⟩
    exact C2 m19 ⟨_,_,_,_,_,rfl,rfl,sX14,(O0 _),(fA fu16 (show F2 (Wp.int.R k18) ([[iV u15]]:LV) [u15] from⟨⟨rfl,iu15⟩,trivial⟩)),fu17,hM2⟩
   refine trV hM2 (d7 _ _ _ (C0 ip0_0 ip0_1 (M0.mono ((sx3.trans sX6).trans sX14) rp0_2)) _ iu15 (i64.wrap (0-u7)) (O0 _)) λx29 hM2=>?_;obtain⟨q30,gq30,hM2⟩:=D0 hM2;have ix29:I0 x29:=N0 gq30;refine ifB hM2 (λhc31 hM2=>?_) λhc31 hM2=>?_;·obtain⟨q32,gq32,hM2⟩:=D0 hM2;refine aI (N1 gq32 (by first|rw[fL fu17,fL (show F2 (Wp.int.R k18) ([[iV u15]]:LV) [u15] from⟨⟨rfl,iu15⟩,trivial⟩)]|exact congrArg (·+1) (fL fu17))) ?_;exact C2 m19 ⟨_,_,_,_,_,rfl,rfl,sX14,(O0 _),fu16,(fA fu17 (show F2 (Wp.int.R k18) ([[iV u15]]:LV) [u15] from⟨⟨rfl,iu15⟩,trivial⟩)),hM2⟩
   exact C2 m19 ⟨_,_,_,_,_,rfl,rfl,sX14,(O0 _),fu16,fu17,hM2⟩
  cases hM2;try dsimp only[V0,Y0]at hM1
  obtain⟨X33,hLX33,hM1⟩:=D0 hM1;refine eX { vars:=[9],boxes:=[2] } (eX (λvs os h'=>∃ u34 u35 u36 au37 nu37 cu37 u37,vs.tail = [iV u34,iV u35,iV u36,.slice au37 nu37 cu37]/\os = []/\Sub k18 h'/\I0 u34/\I0 u35/\I0 u36/\M0.R h' [.slice au37 nu37 cu37] u37/\Q5 u16 u17 u7 (P1 vs) u34 u35 u36 u37=some X33) (eX (λ_ _=>0) (aI (eX U0 ⟨_,_,_,_,_,_,_,rfl,rfl,sr,(by decide),iu8,iu9,(M0.mono sX14 ru10),hLX33⟩) ?_)));rintro _ _ _ _ m39 k38 ⟨u34,u35,u36,au37,nu37,cu37,u37,⟨⟩,⟨⟩,sX33,iu34,iu35,iu36,ru37,hM2⟩;replace hM2:Q5 u16 u17 u7 m39 u34 u35 u36 u37=some X33:=hM2;obtain _|m39:=m39;·cases hM2
  rw[Q5.eq_2]at hM2;obtain⟨rfl,lu37⟩:=sL ru37;obtain⟨m40,gm40,hM2⟩:=D0 hM2;obtain rfl:wu16.length=m40:=(fL (F2.up (r:=Wp.int.toRp) sX33 fu16)).trans (oJ gm40);obtain⟨q41,gq41,hM2⟩:=D0 hM2;refine ifB hM2 (λhc42 hM2=>?_) λhc42 hM2=>?_
  ·refine w5 12 ?_;obtain⟨x43,gx43,hM2⟩:=D0 hM2;obtain⟨bx43,csx43,ex43,rx43⟩:=J3 (F2.up (r:=Wp.int.toRp) sX33 fu16) gx43;obtain⟨rfl,ix43⟩:=rx43;refine Or.inl ?_;apply eX;refine aI ?_ ?_;·intro k44 s45;exact aI bx43 r3
   refine pm (.val (iV x43)) ?_ ?_;·intro k46 s47;exact eX _ (aI ex43 r3)
   obtain⟨x48,gx48,hM2⟩:=D0 hM2;obtain⟨bx48,csx48,ex48,rx48⟩:=J3 (F2.up (r:=Wp.int.toRp) sX33 fu17) gx48;obtain⟨rfl,ix48⟩:=rx48;refine Or.inl ?_;apply eX;refine aI ?_ ?_;·intro k49 s50;exact aI bx48 r3
   refine pm (.val (iV x48)) ?_ ?_;·intro k51 s52;exact eX _ (aI ex48 r3)
   refine pm (.agg [.val (iV x43),.val (iV u7),.val (iV x48)]) ?_ ?_;·intro k53 s54;exact r3
   intro k55 s56;refine trM hM2 (o02 _ _ _ _ _ (M0.mono s56 ru37) _ _ (Z1 ix43 iu7 ix48)) ?_;rintro x57 hM2 v59 k58 ⟨ax57,nx57,cx57,rfl,wx57⟩;have sx57:Sub k55 k58:=wx57.sub;have rx57:=wx57.r;obtain⟨rfl,lx57⟩:=sL rx57;exact C2 m39 ⟨_,_,_,_,_,_,_,rfl,rfl,((sX33.trans s56).trans sx57),(O0 _),iu35,iu36,rx57,hM2⟩
  cases hM2;try dsimp only[V0,Y0]at hM1
  exact C2 m12 ⟨_,_,_,_,_,_,_,rfl,rfl,((sX6.trans sX14).trans sX33),(O0 _),iu35,iu36,ru37,hM1⟩
 cases hM1;try dsimp only[V0,Y0]at hM0
 cases hM0;exact⟨_,rfl,(C0 iu8 iu9 ru10),(sx3.trans sX6)⟩
def B0d(h:Hp)(csp0:List Value)(p0:B0)(rp0:I1.R h csp0 p0)(ap1:Option Addr)(np1 cp1:Nat)(p1:K1)(rp1:Q1.R h [.slice ap1 np1 cp1] p1)(r:B0×Bool)(hM0:l00 p0 p1=some r): Tr Tryz.prog 177 #[.agg csp0.toArray,.slice ap1 np1 cp1] h λv h'=>∃(cs0:List Value),v = .tuple #[.agg cs0.toArray,.bool r.2]/\New I1 h h' cs0 r.1:=by
 obtain⟨p0_0,p0_1,ap0_2,cp0_2,p0_2,rfl,rfl,ip0_0,ip0_1,rp0_2,lp0_2⟩:=opG rp0;obtain⟨rfl,lp1⟩:=sL rp1;unfold l00 at hM0;dsimp only at hM0;refine wk Tryz.f177 ?_;refine trM hM0 (F5 _ _ _ (C0 ip0_0 ip0_1 rp0_2)) ?_;rintro x1 hM0 v3 k2 ⟨csx1,rfl,wx1⟩;have sx1:Sub h k2:=wx1.sub;have rx1:=wx1.r;obtain⟨x1_0,x1_1,ax1_2,cx1_2,x1_2,rfl,rfl,ix1_0,ix1_1,rx1_2,lx1_2⟩:=opG rx1;try dsimp only at hM0
 have we4:=nD (nD (wx1));refine trV hM0 (g7 _ _ _ (C0 ip0_0 ip0_1 (M0.mono sx1 rp0_2))) λx5 hM0=>?_;refine ifB hM0 (λhc6 hM0=>?_) λhc6 hM0=>?_;·cases hM0;exact⟨_,rfl,(nP (nI (show I0 (0) from(by decide))) (nP (nI (show I0 (0) from(by decide))) ((New.nilSlice (r:=E1)).mono sx1)))⟩
 obtain⟨X7,hLX7,hM0⟩:=D0 hM0;refine eX { vars:=[7],boxes:=[2] } (eX (λvs os h'=>∃ u8 u9 u10 au11 nu11 cu11 u11,vs.tail = [iV u8,iV u9,iV u10,.slice au11 nu11 cu11]/\os = []/\Sub k2 h'/\I0 u8/\I0 u9/\I0 u10/\M0.R h' [.slice au11 nu11 cu11] u11/\S5 p1 p0_0 p0_1 p0_2 (P1 vs) u8 u9 u10 u11=some X7) (eX (λ_ _=>0) (aI (eX U0 ⟨_,_,_,_,_,_,_,rfl,rfl,sr,(by decide),ix1_0,ix1_1,rx1_2,hLX7⟩) ?_)));rintro _ _ _ _ m13 k12 ⟨u8,u9,u10,au11,nu11,cu11,u11,⟨⟩,⟨⟩,sX7,iu8,iu9,iu10,ru11,hM1⟩;replace hM1:S5 p1 p0_0 p0_1 p0_2 m13 u8 u9 u10 u11=some X7:=hM1;obtain _|m13:=m13;·cases hM1
 rw[S5.eq_2]at hM1;obtain⟨rfl,lu11⟩:=sL ru11;refine ifB hM1 (λhc14 hM1=>?_) λhc14 hM1=>?_
 ·refine w1 ?_;refine ld hM1 (Q1.mono (sx1.trans sX7) rp1) λx15 csx15 rx15 hM1=>?_;obtain⟨ax15,cx15,rfl,lx15⟩:=slL rx15;obtain⟨x16,gx16,hM1⟩:=D0 hM1;refine eX (.bool x16) (aI (s02 _ _ ip0_0 _ _ _ _ rx15 _  gx16) ?_);obtain⟨x17,gx17,hM1⟩:=D0 hM1;obtain⟨csx17,ex17,rx17⟩:=Sl.getG (r:=K0.toRp) (Q1.mono (sx1.trans sX7) rp1) gx17 (by decide) (N0B Wp.int k12);refine aI (λq=>(ex17 q).1) ?_;obtain⟨ax17,cx17,rfl,lx17⟩:=slL rx17;refine eX _ (aI (λq=>(ex17 q).2) ?_);refine trG hM1 (λq=>R00 _ _ _ (C0 ip0_0 ip0_1 (M0.mono (sx1.trans sX7) rp0_2)) _ _ _ _ rx17) λx18 hM1=>?_;refine ifB hM1 (λhc19 hM1=>?_) λhc19 hM1=>?_
  ·cases hM1;try dsimp only[Y2,N3]at hM0
   cases hM0;exact⟨_,rfl,(nP (nI (show I0 (0) from(by decide))) (nP (nI (show I0 (0) from(by decide))) ((New.nilSlice (r:=E1)).mono (sx1.trans sX7))))⟩
  refine w5 10 ?_;obtain⟨x20,gx20,hM1⟩:=D0 hM1;obtain⟨bx20,csx20,ex20,rx20⟩:=Sl.getI (r:=K0.toRp) (Q1.mono (sx1.trans sX7) rp1) gx20 (by decide);obtain⟨ax20,cx20,rfl,lx20⟩:=slL rx20;refine pm (.hel (.slice ap1 p1.length cp1) u8 1 0) ?_ ?_;·intro k21 s22;exact aI bx20 r3
  refine pm (.val (.slice ax20 x20.length cx20)) ?_ ?_;·intro k23 s24;exact eX _ (aI (U8.up s24 ex20) r3)
  obtain⟨x25,gx25,hM1⟩:=D0 hM1;obtain⟨x25_0,x25_1⟩:=x25;try dsimp only at hM1
  obtain⟨x25_0_0,x25_0_1,x25_0_2⟩:=x25_0;try dsimp only at hM1
  refine Or.inr (eX (λv hh=>∃(ux25_0:Value),v = .tuple #[ux25_0,.bool x25_1]/\(λv hh=>∃(ax25_0_2:Option Addr) (cx25_0_2:Nat),v = .agg #[iV x25_0_0,iV x25_0_1,.slice ax25_0_2 x25_0_2.length cx25_0_2]/\I0 x25_0_0/\I0 x25_0_1/\M0.R hh [.slice ax25_0_2 x25_0_2.length cx25_0_2] x25_0_2/\x25_0_2.length<=9223372036854775807) ux25_0 hh) (aI (λv h1 h2 sb q=>by obtain⟨ux25_0,e,fux25_0⟩:=q;exact⟨ux25_0,e,(by obtain⟨ax25_0_2,cx25_0_2,e,f0,f1,f2,f3⟩:=fux25_0;exact⟨ax25_0_2,cx25_0_2,e,f0,f1,M0.mono sb f2,f3⟩)⟩) (aI ?_ ?_)));·intro k26 s27;refine Tr.mono (Z0l _ _ _ (C0 iu9 iu10 (M0.mono s27 ru11)) _ _ _ _ (K0.mono s27 rx20) _ gx25) ?_;rintro _ kk ⟨csx25_0,rfl,rx25_0,sb⟩;obtain⟨yx25_0_0,yx25_0_1,ayx25_0_2,cyx25_0_2,yx25_0_2,rfl,ey,iyx25_0_0,iyx25_0_1,ryx25_0_2,lyx25_0_2⟩:=opG rx25_0;cases ey;exact aI K7 (aI sb ⟨(.agg #[iV x25_0_0,iV x25_0_1,.slice ayx25_0_2 x25_0_2.length cyx25_0_2]),rfl,⟨ayx25_0_2,cyx25_0_2,rfl,iyx25_0_0,iyx25_0_1,ryx25_0_2,lyx25_0_2⟩⟩)
  refine Or.inr (eX (λv hh=>∃(ux25_0:Value),v = .tuple #[ux25_0,.bool x25_1]/\(λv hh=>∃(ax25_0_2:Option Addr) (cx25_0_2:Nat),v = .agg #[iV x25_0_0,iV x25_0_1,.slice ax25_0_2 x25_0_2.length cx25_0_2]/\I0 x25_0_0/\I0 x25_0_1/\M0.R hh [.slice ax25_0_2 x25_0_2.length cx25_0_2] x25_0_2/\x25_0_2.length<=9223372036854775807) ux25_0 hh) (aI (λv h1 h2 sb q=>by obtain⟨ux25_0,e,fux25_0⟩:=q;exact⟨ux25_0,e,(by obtain⟨ax25_0_2,cx25_0_2,e,f0,f1,f2,f3⟩:=fux25_0;exact⟨ax25_0_2,cx25_0_2,e,f0,f1,M0.mono sb f2,f3⟩)⟩) (aI ?_ ?_)));·intro k28 s29;rintro _ ⟨_,rfl,⟨az30p02,cz30p02,rfl,iz30p00,iz30p01,rz30p02,lz30p02⟩⟩;exact aI K7 (aI sr ⟨(.agg #[iV x25_0_0,iV x25_0_1,.slice az30p02 x25_0_2.length cz30p02]),rfl,⟨az30p02,cz30p02,rfl,iz30p00,iz30p01,rz30p02,lz30p02⟩⟩)
  refine Or.inr (eX (λv hh=>∃(ax25_0_2:Option Addr) (cx25_0_2:Nat),v = .agg #[iV x25_0_0,iV x25_0_1,.slice ax25_0_2 x25_0_2.length cx25_0_2]/\I0 x25_0_0/\I0 x25_0_1/\M0.R hh [.slice ax25_0_2 x25_0_2.length cx25_0_2] x25_0_2/\x25_0_2.length<=9223372036854775807) (aI (λv h1 h2 sb q=>by obtain⟨ax25_0_2,cx25_0_2,e,f0,f1,f2,f3⟩:=q;exact⟨ax25_0_2,cx25_0_2,e,f0,f1,M0.mono sb f2,f3⟩) (aI ?_ ?_)));·intro k31 s32;rintro _ ⟨_,rfl,⟨az33p02,cz33p02,rfl,iz33p00,iz33p01,rz33p02,lz33p02⟩⟩;exact aI K7 (aI sr ⟨az33p02,cz33p02,rfl,iz33p00,iz33p01,rz33p02,lz33p02⟩)
  refine pm (.val (.bool x25_1)) ?_ ?_;·intro k34 s35;rintro _ ⟨_,rfl,⟨az36p02,cz36p02,rfl,iz36p00,iz36p01,rz36p02,lz36p02⟩⟩;exact r3
  intro k37 s38;rintro _ ⟨az392,cz392,rfl,iz390,iz391,rz392,lz392⟩;rintro _ _;rintro _ _;refine ifB hM1 (λhc40 hM1=>?_) λhc40 hM1=>?_
  ·cases hM1;try dsimp only[Y2,N3]at hM0
   cases hM0;exact⟨_,rfl,(nP (nI (show I0 (0) from(by decide))) (nP (nI (show I0 (0) from(by decide))) ((New.nilSlice (r:=E1)).mono ((sx1.trans sX7).trans s38))))⟩
  exact C2 m13 ⟨_,_,_,_,_,_,_,rfl,rfl,(sX7.trans s38),(O0 _),iz390,iz391,rz392,hM1⟩
 cases hM1;try dsimp only[V0,Y0]at hM0
 refine trM hM0 (A0d _ _ _ (C0 iu9 iu10 ru11)) ?_;rintro x41 hM0 v43 k42 ⟨csx41_0,rfl,rx41_0,sx41⟩;obtain⟨x41_0,x41_1⟩:=x41;dsimp only at hM0 rx41_0;obtain⟨x41_0_0,x41_0_1,ax41_0_2,cx41_0_2,x41_0_2,rfl,rfl,ix41_0_0,ix41_0_1,rx41_0_2,lx41_0_2⟩:=opG rx41_0;try dsimp only at hM0
 refine ifB hM0 (λhc44 hM0=>?_) λhc44 hM0=>?_;·cases hM0;exact⟨_,rfl,(nP (nI (show I0 (0) from(by decide))) (nP (nI (show I0 (0) from(by decide))) ((New.nilSlice (r:=E1)).mono ((sx1.trans sX7).trans sx41))))⟩
 refine trM hM0 (J05 _ _ _ (C0 ix41_0_0 ix41_0_1 rx41_0_2)) ?_;rintro x45 hM0 v47 k46 ⟨csx45,rfl,wx45⟩;have sx45:Sub k42 k46:=wx45.sub;have rx45:=wx45.r;obtain⟨x45_0,x45_1,ax45_2,cx45_2,x45_2,rfl,rfl,ix45_0,ix45_1,rx45_2,lx45_2⟩:=opG rx45;try dsimp only at hM0
 have we48:=nD (nD (wx45));cases hM0;exact⟨_,rfl,(nP (nI ix45_0) (nP (nI ix45_1) (New.from we48 ((sx1.trans sX7).trans sx41))))⟩
def C0e(h:Hp)(g:List Value)(j:B0)(t:I1.R h g j)(d:Option Addr)(i e:Nat)(b:J0)(k:K0.R h [.slice d i e] b)(r:B0×Bool)(a:a9 j b=some r): Tr Tryz.prog 134 #[.agg g.toArray,.slice d i e] h λv h'=>∃(f:List Value),v = .tuple #[.agg f.toArray,.bool r.2]/\New I1 h h' f r.1:=by
 obtain⟨M,N,A,E,O,rfl,rfl,m,n,u,I⟩:=opG t;obtain⟨rfl,J⟩:=sL k;unfold a9 at a;dsimp only at a;refine wk Tryz.f134 ?_;refine Or.inl ?_;intro S q f3;obtain⟨D,H,rfl,x,l,L⟩:=C1.out (r:=K0.toRp) f3 (show F2 (K0.R h) ([[.slice d b.length e]]:LV) [b] from⟨k,trivial⟩);refine trM a (B0d _ _ _ (C0 m n (M0.mono l u)) _ _ _ _ x) ?_;rintro z a T s ⟨F,rfl,c⟩;obtain⟨U,Y⟩:=z;dsimp only at a c;have Q:Sub q s:=c.sub;have w:=c.r;obtain⟨V,W,C,G,X,rfl,rfl,o,p,P,K⟩:=opG w;try dsimp only at a
 have y:=nD (nD (c));cases a;exact⟨_,rfl,(nP (nI o) (nP (nI p) (New.from y l)))⟩
def w0j(h:Hp)(l:List Value)(n:B0)(H:I1.R h l n)(i:Option Addr)(m j:Nat)(o:J0)(e:K0.R h [.slice i m j] o)(r:B0×Bool)(a:H04 n o=some r): Tr Tryz.prog 135 #[.agg l.toArray,.slice i m j] h λv h'=>∃(k:List Value),v = .tuple #[.agg k.toArray,.bool r.2]/\New I1 h h' k r.1:=by
 obtain⟨af,ag,O,T,ah,rfl,rfl,b,c,d,aa⟩:=opG H;obtain⟨rfl,ab⟩:=sL e;unfold H04 at a;dsimp only at a;refine wk Tryz.f135 ?_;refine trV a (g7 _ _ _ (C0 b c d)) λap a=>?_;refine trG a (λq=>s02 _ _ b _ _ _ _ e) λaw a=>?_;refine ifB a (λu a=>?_) λu a=>?_;·cases a;exact⟨_,rfl,(nP (nI (show I0 (0) from(oD))) (nP (nI (show I0 (0) from(oD))) ((New.nilSlice (r:=E1)).mono sr)))⟩
 refine ifB a (λw a=>?_) λw a=>?_
 ·refine trM a (F5 _ _ _ (C0 b c d)) ?_;rintro ax a ao G ⟨V,rfl,g⟩;have al:Sub h G:=g.sub;have J:=g.r;obtain⟨ay,az,Q,Y,aA,rfl,rfl,z,A,aj,ad⟩:=opG J;try dsimp only at a
  have M:=nD (nD (g));cases a;exact⟨_,rfl,(nP (nI z) (nP (nI A) M))⟩
 refine trM a (c0c _ _ _ (C0 b c d) _ _ _ _ e) ?_;rintro N a am E ⟨W,rfl,p,s⟩;obtain⟨aB,aG⟩:=N;dsimp only at a p;obtain⟨aC,aD,S,Z,aF,rfl,rfl,C,D,K,ae⟩:=opG p;try dsimp only at a
 refine ifB a (λt a=>?_) λt a=>?_;·cases a;exact⟨_,rfl,(nP (nI (show I0 (0) from(oD))) (nP (nI (show I0 (0) from(oD))) ((New.nilSlice (r:=E1)).mono s)))⟩
 refine trM a (J05 _ _ _ (C0 C D K)) ?_;rintro aq a an F ⟨U,rfl,f⟩;have ak:Sub E F:=f.sub;have I:=f.r;obtain⟨ar,au,P,X,av,rfl,rfl,x,y,ai,ac⟩:=opG I;try dsimp only at a
 have L:=nD (nD (f));cases a;exact⟨_,rfl,(nP (nI x) (nP (nI y) (New.from L s)))⟩
def x0j(h:Hp)(d:Int)(D:I0 d)(e:Int)(E:I0 e)(i:Option Addr)(p k:Nat)(s:K1)(u:Q1.R h [.slice i p k] s)(j:Option Addr)(q l:Nat)(t:J0)(w:K0.R h [.slice j q l] t)(r:L2)(a:h06 d e s t=some r): Tr Tryz.prog 132 #[iV d,iV e,.slice i p k,.slice j q l] h λv h'=>∃(m:List Value),v = .agg m.toArray/\New J5 h h' m r:=by obtain⟨rfl,P⟩:=sL u;obtain⟨rfl,Q⟩:=sL w;unfold h06 at a;refine wk Tryz.f132 ?_;refine trM a (C0d _ _ _ _ _ u) ?_;rintro Z a X b ⟨K,U,M,rfl,g⟩;have f:Sub h b:=g.sub;have F:=g.r;obtain⟨rfl,S⟩:=sL F;obtain⟨G,z,c⟩:=Sl.rows (r:=Wp.int.toRp) (K0.mono f w);refine eX G (aI z ?_);obtain⟨V,C,a⟩:=D0 a;refine aI (N1 C (by first|rw[fL (show F2 (Wp.int.R b) ([]:LV) ([]:J0) from trivial),fL c]|exact congrArg (·+1) (fL (show F2 (Wp.int.R b) ([]:LV) ([]:J0) from trivial)))) ?_;intro Y O n;obtain⟨L,N,rfl,W,x,T⟩:=C1.out (r:=Wp.int.toRp) n (fA (show F2 (Wp.int.R b) ([]:LV) ([]:J0) from trivial) c);cases a;obtain⟨I,y,A,_⟩:=g;obtain⟨J,H,o,_⟩:=(C1.newPlain (r:=Wp.int) n (fA (show F2 (Wp.int.R b) ([]:LV) ([]:J0) from trivial) c) (M05 _));exact⟨_,rfl,(NB.fin (NB.pair (NB.int D) (NB.pair (NB.int E) (NB.pair (NB.mk y x A sr) (NB.pair (NB.mk H sr o f) (NB.pair (NB.nil (r:=Wp.int)) (NB.pair (NB.pair (NB.int oD) (NB.pair (NB.int oD) (NB.nil (r:=E1)) NB.d0) NB.d0) (NB.int oD) NB.de) NB.d0) (NB.da NB.de (NB.da (NB.da NB.de (NB.da NB.de NB.de)) NB.de))) (NB.da (NB.dl y sr o) (NB.da NB.de (NB.da (NB.da NB.de (NB.da NB.de NB.de)) NB.de)))) NB.d0) NB.d0) (f.trans x))⟩
def b0m(h:Hp)(t:Int)(Z:I0 t)(u:Int)(s:I0 u)(x:Option Addr)(H z:Nat)(J:K1)(w:Q1.R h [.slice x H z] J)(y:Option Addr)(I A:Nat)(K:J0)(i:K0.R h [.slice y I A] K)(r:L2×Bool)(a:Z06 t u J K=some r): Tr Tryz.prog 58 #[iV t,iV u,.slice x H z,.slice y I A] h λv h'=>∃(C:List Value),v = .tuple #[.agg C.toArray,.bool r.2]/\New J5 h h' C r.1:=by
 obtain⟨rfl,bj⟩:=sL w;obtain⟨rfl,bk⟩:=sL i;unfold Z06 at a;refine wk Tryz.f58 ?_;refine trM a (x0j _ _ Z _ s _ _ _ _ w _ _ _ _ i) ?_;rintro bQ a bN G ⟨aW,rfl,e⟩;have g:Sub h G:=e.sub;have aj:=e.r;obtain⟨bZ,b0,aO,bv,a3,b1,aP,bx,a4,b2,aQ,bz,a5,b3,b5,b6,aR,bA,a6,b7,b8,rfl,rfl,bb,bc,am,an,ao,bd,be,ap,bf⟩:=B7 aj;obtain⟨rfl,bn⟩:=sL am;obtain⟨rfl,bo⟩:=sL an;obtain⟨rfl,bp⟩:=sL ao;obtain⟨rfl,bq⟩:=sL ap;try dsimp only at a
 refine trM a (V04 _ _ s _ _ _ _ (Q1.mono g w)) ?_;rintro aJ a bP j ⟨a0,rfl,p⟩;obtain⟨ck,co⟩:=aJ;dsimp only at a p;have d:Sub G j:=p.sub;have av:=p.r;obtain⟨cl,cm,aV,ba,cn,rfl,rfl,b,c,f,bt⟩:=opG av;try dsimp only at a
 have k:=nD (nD (p));refine trG a (λq=>s02 _ _ s _ _ _ _ (K0.mono (g.trans d) i)) λcq a=>?_;refine ifB a (λX a=>?_) λX a=>?_;·cases a;exact⟨_,rfl,(NB.fin (NB.pair (NB.int oD) (NB.pair (NB.int oD) (NB.pair (NB.nil (r:=K0)) (NB.pair (NB.nil (r:=Wp.int)) (NB.pair (NB.nil (r:=Wp.int)) (NB.pair (NB.pair (NB.int oD) (NB.pair (NB.int oD) (NB.nil (r:=E1)) NB.d0) NB.d0) (NB.int oD) NB.de) NB.d0) NB.d0) NB.d0) NB.d0) NB.d0) (g.trans d))⟩
 refine ifB a (λQ a=>?_) λQ a=>?_;·refine trM a (t0i _ _ _ (C0 b c f) _ _ _ _ (K0.mono (g.trans d) i)) ?_;rintro aB a bK af ⟨aM,bu,a1,rfl,l⟩;obtain⟨bR,bS⟩:=aB;dsimp only at a l;have bH:Sub j af:=l.sub;have ak:=l.r;obtain⟨rfl,bl⟩:=sL ak;cases a;exact⟨_,rfl,(clP (clG e sr b c k) sr l)⟩
 refine ifB a (λS a=>?_) λS a=>?_
 ·refine trM a (C0e _ _ _ (C0 b c f) _ _ _ _ (K0.mono (g.trans d) i)) ?_;rintro aC a bL ag ⟨aX,rfl,m⟩;obtain⟨bU,bY⟩:=aC;dsimp only at a m;have bI:Sub j ag:=m.sub;have al:=m.r;obtain⟨bV,bW,aN,a2,bX,rfl,rfl,aa,ab,bE,bm⟩:=opG al;try dsimp only at a
  have ay:=nD (nD (m));cases a;exact⟨_,rfl,(clG e d aa ab ay)⟩
 refine ifB a (λT a=>?_) λT a=>?_
 ·refine trM a (w0j _ _ _ (C0 b c f) _ _ _ _ (K0.mono (g.trans d) i)) ?_;rintro aD a bM ah ⟨aY,rfl,n⟩;obtain⟨ca,ce⟩:=aD;dsimp only at a n;have ax:Sub j ah:=n.sub;have aq:=n.r;obtain⟨cb,cc,aS,a7,cd,rfl,rfl,D,E,ar,br⟩:=opG aq;try dsimp only at a
  have az:=nD (nD (n));refine w5 7 ?_;obtain⟨aF,P,a⟩:=D0 a;refine pm (.val (.bool aF)) ?_ ?_;·intro bh L Y;exact Tr.val (T02 _ _ _ (C0 b c (M0.mono (ax.trans L) f)) _ _ (C0 D E (M0.mono L ar)) _ (F9 P Y)) r3
  intro bi aw;cases a;exact⟨_,rfl,(New.mono (clG e d D E az) aw)⟩
 refine ifB a (λU a=>?_) λU a=>?_
 ·refine trM a (x03 _ _ _ (C0 b c f) _ _ _ _ (K0.mono (g.trans d) i)) ?_;rintro aG a bO ai ⟨aZ,rfl,o⟩;obtain⟨cf,cj⟩:=aG;dsimp only at a o;have bJ:Sub j ai:=o.sub;have au:=o.r;obtain⟨cg,ch,aU,a8,ci,rfl,rfl,ac,ad,bG,bs⟩:=opG au;try dsimp only at a
  have aA:=nD (nD (o));cases a;exact⟨_,rfl,(clG e d ac ad aA)⟩
 refine ifB a (λV a=>?_) λV a=>?_
 ·refine trV a (M07 _ _ _ (C0 b c f)) λaH a=>?_;obtain⟨bB,M,a⟩:=D0 a;have F:I0 aH:=N0 M;refine w3 ?_;refine aI ?_ trivial;refine trV a (M07 _ _ _ (C0 b c f)) λaK a=>?_;obtain⟨bC,N,a⟩:=D0 a;have bg:I0 aK:=N0 N;refine aI (by first|exact trivial|exact rfl) ?_;refine aI ?_ ?_;·skip;refine aI (by first|exact trivial|exact rfl) ?_;refine aI ?_ trivial;refine aI (by first|exact trivial|exact rfl) ?_;refine aI ?_ trivial;refine aI (by first|exact trivial|exact rfl) ?_;cases a;exact⟨_,rfl,(clN (clG e sr b c k) F)⟩
  refine aI ?_ ?_;·skip;refine aI (by first|exact trivial|exact rfl) ?_;refine aI ?_ trivial;refine aI (by first|exact trivial|exact rfl) ?_;refine aI ?_ trivial;refine aI (by first|exact trivial|exact rfl) ?_;cases a;exact⟨_,rfl,(clN (clG e sr b c k) F)⟩
  exact trivial
 refine ifB a (λW a=>?_) λW a=>?_;·refine trV a (w09 _ _ _ (C0 b c f)) λaL a=>?_;obtain⟨bD,O,a⟩:=D0 a;have ae:I0 aL:=N0 O;refine w3 ?_;refine aI ?_ trivial;refine aI (by first|exact trivial|exact rfl) ?_;cases a;exact⟨_,rfl,(clN (clG e sr b c k) ae)⟩
 cases a;exact⟨_,rfl,(NB.fin (NB.pair (NB.int oD) (NB.pair (NB.int oD) (NB.pair (NB.nil (r:=K0)) (NB.pair (NB.nil (r:=Wp.int)) (NB.pair (NB.nil (r:=Wp.int)) (NB.pair (NB.pair (NB.int oD) (NB.pair (NB.int oD) (NB.nil (r:=E1)) NB.d0) NB.d0) (NB.int oD) NB.de) NB.d0) NB.d0) NB.d0) NB.d0) NB.d0) (g.trans d))⟩
def g0b(h:Hp)(c:Int)(s:I0 c)(d:Int)(t:I0 d)(e:Option Addr)(k g:Nat)(m:K1)(o:Q1.R h [.slice e k g] m)(f:Option Addr)(l i:Nat)(n:J0)(p:K0.R h [.slice f l i] n)(r:L2×Bool)(a:z02 c d m n=some r): Tr Tryz.prog 8 #[iV c,iV d,.slice e k g,.slice f l i] h λv h'=>∃(j:List Value),v = .tuple #[.agg j.toArray,.bool r.2]/\New J5 h h' j r.1:=by
 obtain⟨rfl,T⟩:=sL o;obtain⟨rfl,U⟩:=sL p;unfold z02 at a;refine wk Tryz.f8 ?_;refine trM a (b0m _ _ s _ t _ _ _ _ o _ _ _ _ p) ?_;rintro D a ad u ⟨I,rfl,b⟩;obtain⟨ae,ao⟩:=D;dsimp only at a b;have C:Sub h u:=b.sub;have w:=b.r;obtain⟨af,ag,E,Z,J,ah,F,aa,K,ai,G,ab,L,aj,ak,al,H,ac,M,am,an,rfl,rfl,N,O,x,y,z,P,Q,A,S⟩:=B7 w;obtain⟨rfl,V⟩:=sL x;obtain⟨rfl,W⟩:=sL y;obtain⟨rfl,X⟩:=sL z;obtain⟨rfl,Y⟩:=sL A;try dsimp only at a
 refine ifB a (λq a=>?_) λq a=>?_;·cases a;exact⟨_,rfl,(NB.fin (NB.pair (NB.int oD) (NB.pair (NB.int oD) (NB.pair (NB.nil (r:=K0)) (NB.pair (NB.nil (r:=Wp.int)) (NB.pair (NB.nil (r:=Wp.int)) (NB.pair (NB.pair (NB.int oD) (NB.pair (NB.int oD) (NB.nil (r:=E1)) NB.d0) NB.d0) (NB.int oD) NB.de) NB.d0) NB.d0) NB.d0) NB.d0) NB.d0) C)⟩
 cases a;exact⟨_,rfl,b⟩
theorem u0i(h:Hp)(csp0:List Value)(p0:B0)(rp0:I1.R h csp0 p0)(ap1:Option Addr)(np1 cp1:Nat)(p1:J0)(rp1:K0.R h [.slice ap1 np1 cp1] p1)(r:J0×Bool)(hM0:Z03 p0 p1=some r):
  Tr Tryz.prog 51 #[.agg csp0.toArray,.slice ap1 np1 cp1] h λv h'=>∃(a0:Option Addr) (n0 c0:Nat),v = .tuple #[.slice a0 n0 c0,.bool r.2]/\New K0 h h' [.slice a0 n0 c0] r.1:=by
 obtain⟨p0_0,p0_1,ap0_2,np0_2,cp0_2,p0_2,rfl,rfl,ip0_0,ip0_1,rp0_2⟩:=Z0 rp0
 obtain⟨rfl,lp0_2⟩:=Sl.len rp0_2
 obtain⟨rfl,lp1⟩:=Sl.len rp1
 unfold Z03 at hM0
 dsimp only at hM0
 refine V4 (args:=[.agg #[.int .i64 p0_0,.int .i64 p0_1,.slice ap0_2 p0_2.length cp0_2],.slice ap1 p1.length cp1]) (fn:=Tryz.f51) rfl ?_
 refine trV hM0 (m08 _ _ _ (C0 ip0_0 ip0_1 rp0_2) _ _ _ _ rp1) λx1 hM0=>?_
 refine ifB hM0 (λhc2 hM0=>?_) λhc2 hM0=>?_
 ·intro v3 k4 f5
  obtain⟨az6,cz6,rfl,rz6,sz6,lz6⟩:=C1.out (r:=Wp.int.toRp) f5 (show F2 (Wp.int.R h) ([]:List (List Value)) ([]:J0) from trivial)
  obtain rfl:=oJ hM0
  exact⟨az6,(([]:J0)).length,cz6,rfl,(C1.newPlain (r:=Wp.int) f5 (show F2 (Wp.int.R h) ([]:List (List Value)) ([]:J0) from trivial) (M05 _))⟩
 ·refine trM hM0 (Y09 _ _ _ (C0 ip0_0 ip0_1 rp0_2)) ?_
  rintro x7 hM0 v9 k8 ⟨ax7,nx7,cx7,rfl,wx7⟩
  have sx7:Sub h k8:=wx7.sub
  have rx7:=wx7.r
  obtain⟨rfl,lx7⟩:=Sl.len rx7
  refine trM hM0 (s05 _ _ _ _ _ (K0.mono sx7 rp1)) ?_
  rintro x10 hM0 v12 k11 ⟨ax10,nx10,cx10,rfl,wx10⟩
  have sx10:Sub k8 k11:=wx10.sub
  have rx10:=wx10.r
  obtain⟨rfl,lx10⟩:=Sl.len rx10
  obtain⟨X13,hLX13,hM0⟩:=D0 hM0
  refine eX { vars:=[8,24],boxes:=[],owns:=[0],fuel:=true } (eX (λvs os h'=>∃ u14 u15 wu16 u16,vs.tail = [.int .i64 u14,.int .i64 u15]/\os = [wu16]/\Sub k11 h'/\I0 u14/\I0 u15/\F2 (Wp.int.R h') wu16 u16/\p6 x10 p0_0 p0_1 p0_2 x7 (P1 vs) u14 u15 u16=some X13) (eX (λ_ _=>0) (aI (eX U0 ⟨0,0,[],([]:J0),rfl,rfl,(Sub.refl _),(by decide),(by decide),(F2.up (r:=Wp.int.toRp) sx10 (show F2 (Wp.int.R k8) ([]:List (List Value)) ([]:J0) from trivial)),hLX13⟩) ?_)))
  rintro _ _ wu16 m18 k17 ⟨u14,u15,zzu16,u16,⟨⟩,⟨⟩,sX13,iu14,iu15,fu16,hM1⟩
  replace hM1:p6 x10 p0_0 p0_1 p0_2 x7 m18 u14 u15 u16=some X13:=hM1
  obtain _|m18:=m18
  ·cases hM1
  rw[p6.eq_2]at hM1
  refine ifB hM1 (λhc19 hM1=>?_) λhc19 hM1=>?_
  ·refine ldI hM1 (K0.mono sX13 rx10) λx20 ix20 hM1=>?_
   refine trV hM1 (z9 _ _ _ (C0 ip0_0 ip0_1 (M0.mono ((sx7.trans sx10).trans sX13) rp0_2)) _ iu14 _ ix20) λx21 hM1=>?_
   obtain⟨q22,gq22,hM1⟩:=D0 hM1
   have ix21:I0 x21:=N0 gq22
   refine trM hM1 (X09 _ _ iu14 _ ix20 _ ix21) ?_
   rintro x23 hM1 v25 k24 ⟨csx23,rfl,rx23,sx23⟩
   obtain⟨x23_0,x23_1,x23_2,rfl,rfl,ix23_0,ix23_1,ix23_2⟩:=D2 rx23
   try dsimp only at hM1
   refine trV hM1 (T01 _ _ _ _ _ (M0.mono ((sx10.trans sX13).trans sx23) rx7) _ _ (Z1 ix23_0 ix23_1 ix23_2)) λx26 hM1=>?_
   obtain⟨q27,gq27,hM1⟩:=D0 hM1
   have ix26:I0 x26:=N0 gq27
   refine ifB hM1 (λhc28 hM1=>?_) λhc28 hM1=>?_
   ·refine ifB hM1 (λhc29 hM1=>?_) λhc29 hM1=>?_
    ·obtain⟨q30,gq30,hM1⟩:=D0 hM1
     refine aI (N1 gq30 (by first|rw[F2.length (F2.up (r:=Wp.int.toRp) sx23 fu16),F2.length (show F2 (Wp.int.R k24) ([[.int .i64 (IntKind.i64.wrap (x26+1))]]:List (List Value)) [(IntKind.i64.wrap (x26+1))] from⟨⟨rfl,(O0 _)⟩,trivial⟩)]|exact congrArg (·+1) (F2.length (F2.up (r:=Wp.int.toRp) sx23 fu16)))) ?_
     exact C2 m18 ⟨x21,(IntKind.i64.wrap (u15+1)),(wu16++([[.int .i64 (IntKind.i64.wrap (x26+1))]]:List (List Value))),(u16 ++ [(IntKind.i64.wrap (x26+1))]),rfl,rfl,(sX13.trans sx23),ix21,(O0 _),(F2.append (F2.up (r:=Wp.int.toRp) sx23 fu16) (show F2 (Wp.int.R k24) ([[.int .i64 (IntKind.i64.wrap (x26+1))]]:List (List Value)) [(IntKind.i64.wrap (x26+1))] from⟨⟨rfl,(O0 _)⟩,trivial⟩)),hM1⟩
    ·obtain⟨q31,gq31,hM1⟩:=D0 hM1
     refine aI (N1 gq31 (by first|rw[F2.length (F2.up (r:=Wp.int.toRp) sx23 fu16),F2.length (show F2 (Wp.int.R k24) ([[.int .i64 (IntKind.i64.wrap ((IntKind.i64.wrap (0-x26))-1))]]:List (List Value)) [(IntKind.i64.wrap ((IntKind.i64.wrap (0-x26))-1))] from⟨⟨rfl,(O0 _)⟩,trivial⟩)]|exact congrArg (·+1) (F2.length (F2.up (r:=Wp.int.toRp) sx23 fu16)))) ?_
     exact C2 m18 ⟨x21,(IntKind.i64.wrap (u15+1)),(wu16++([[.int .i64 (IntKind.i64.wrap ((IntKind.i64.wrap (0-x26))-1))]]:List (List Value))),(u16 ++ [(IntKind.i64.wrap ((IntKind.i64.wrap (0-x26))-1))]),rfl,rfl,(sX13.trans sx23),ix21,(O0 _),(F2.append (F2.up (r:=Wp.int.toRp) sx23 fu16) (show F2 (Wp.int.R k24) ([[.int .i64 (IntKind.i64.wrap ((IntKind.i64.wrap (0-x26))-1))]]:List (List Value)) [(IntKind.i64.wrap ((IntKind.i64.wrap (0-x26))-1))] from⟨⟨rfl,(O0 _)⟩,trivial⟩)),hM1⟩
   ·exact C2 m18 ⟨x21,(IntKind.i64.wrap (u15+1)),wu16,u16,rfl,rfl,(sX13.trans sx23),ix21,(O0 _),(F2.up (r:=Wp.int.toRp) sx23 fu16),hM1⟩
  ·obtain rfl:=oJ hM1
   try dsimp only[V0,Y0]at hM0
   intro v32 k33 f34
   obtain⟨az35,cz35,rfl,rz35,sz35,lz35⟩:=C1.out (r:=Wp.int.toRp) f34 fu16
   refine Or.inl ?_
   intro v36 k37 f38
   obtain⟨az39,cz39,rfl,rz39,sz39,lz39⟩:=C1.out (r:=K0.toRp) f38 (show F2 (K0.R k33) ([[.slice az35 u16.length cz35]]:List (List Value)) [u16] from⟨rz35,trivial⟩)
   refine trM hM0 (d07 _ _ _ _ _ rz39) ?_
   rintro x40 hM0 v42 k41 ⟨ax40,nx40,cx40,rfl,wx40⟩
   have sx40:Sub k37 k41:=wx40.sub
   have rx40:=wx40.r
   obtain⟨rfl,lx40⟩:=Sl.len rx40
   obtain rfl:=oJ hM0
   exact⟨ax40,x40.length,cx40,rfl,(New.from wx40 ((((sx7.trans sx10).trans sX13).trans sz35).trans sz39))⟩
def D0d(h:Hp)(ah:List Value)(ar:B0)(be:I1.R h ah ar)(r:B0×Bool)(f:m00 ar=some r): Tr Tryz.prog 170 #[.agg ah.toArray] h λv h'=>∃(ag:List Value),v = .tuple #[.agg ag.toArray,.bool r.2]/\New I1 h h' ag r.1:=by
 obtain⟨J,K,bA,bD,L,rfl,rfl,w,x,y,b0⟩:=opG be;unfold m00 at f;dsimp only at f;refine wk Tryz.f170 ?_;refine trV f (c02 _ _ _ (C0 w x y)) λcw f=>?_;refine ifB f (λa0 f=>?_) λa0 f=>?_;·cases f;exact⟨_,rfl,(nP (nI (show I0 (0) from(oD))) (nP (nI (show I0 (0) from(oD))) ((New.nilSlice (r:=E1)).mono sr)))⟩
 refine trM f (V7 _ _ _ (C0 w x y)) ?_;rintro bx f cu bc ⟨bM,ca,bI,rfl,P⟩;have bq:Sub h bc:=P.sub;have av:=P.r;obtain⟨cy,cz,cA⟩:=bx;dsimp only at f P av;obtain⟨_,_,_,_,_,_,aA,aF,a6,a7,bh⟩:=Z0 av;cases aA;cases aF;obtain⟨rfl,b5⟩:=sL bh;try dsimp only at f
 have bt:=nD (nD (P));obtain⟨af,aX,f⟩:=D0 f;refine eX { vars:=[5],boxes:=[2] } (eX (λvs os h'=>∃ u8 F A U Y W S M,vs.tail = [iV u8,iV F,iV A,.slice (some ⟨U,Y,none⟩) W S]/\os = []/\Sub h h'/\I0 u8/\I0 F/\I0 A/\New M0 h h' [.slice (some ⟨U,Y,none⟩) W S] M/\U5 J K L (P1 vs) u8 F A M=some af) (eX (λ_ _=>0) (aI (eX U0 ⟨_,_,_,_,_,_,_,_,rfl,rfl,bq,oD,a6,a7,bt,aX⟩) ?_)));rintro _ _ _ _ H G ⟨u8,F,A,U,Y,W,S,M,⟨⟩,⟨⟩,z,am,an,aj,aw,d⟩;replace d:U5 J K L H u8 F A M=some af:=d;obtain _|H:=H;·cases d
 rw[U5.eq_2]at d;have au:=aw.r;obtain⟨rfl,b1⟩:=sL au;refine ifB d (λaZ d=>?_) λaZ d=>?_
 ·obtain⟨ad,aV,d⟩:=D0 d;refine eX { vars:=[8],owns:=[0,1] } (eX (λvs os h'=>∃ e s p O q,vs.tail = [iV e]/\os = [s,O]/\Sub G h'/\I0 e/\F2 (Wp.int.R h') s p/\F2 (Wp.int.R h') O q/\T3 K J L u8 (P1 vs) e p q=some ad) (eX (λ_ _=>0) (aI (eX U0 ⟨_,_,_,_,_,rfl,rfl,sr,oD,(show F2 (Wp.int.R G) ([]:LV) ([]:J0) from trivial),(show F2 (Wp.int.R G) ([]:LV) ([]:J0) from trivial),aV⟩) ?_)));rintro _ s O o n ⟨e,cC,p,cD,q,⟨⟩,⟨⟩,j,g,m,i,b⟩;replace b:T3 K J L u8 o e p q=some ad:=b;obtain _|o:=o;·cases b
  rw[T3.eq_2]at b;refine ifB b (λa1 b=>?_) λa1 b=>?_
  ·refine trV b (z9 _ _ _ (C0 w x (M0.mono (z.trans j) y)) _ g _ am) λbu b=>?_;obtain⟨cd,aK,b⟩:=D0 b;have bP:I0 bu:=N0 aK;refine ifB b (λa2 b=>?_) λa2 b=>?_
   ·obtain⟨ce,aL,b⟩:=D0 b;refine aI (N1 aL (by first|rw[fL m,fL (show F2 (Wp.int.R n) ([[iV e]]:LV) [e] from⟨⟨rfl,g⟩,trivial⟩)]|exact congrArg (·+1) (fL m))) ?_;refine trV b (z9 _ _ _ (C0 w x (M0.mono (z.trans j) y)) _ g (i64.wrap (0-u8)) (O0 _)) λbv b=>?_;obtain⟨cf,aM,b⟩:=D0 b;have bQ:I0 bv:=N0 aM;refine ifB b (λa3 b=>?_) λa3 b=>?_;·obtain⟨cg,aN,b⟩:=D0 b;refine aI (N1 aN (by first|rw[fL i,fL (show F2 (Wp.int.R n) ([[iV e]]:LV) [e] from⟨⟨rfl,g⟩,trivial⟩)]|exact congrArg (·+1) (fL i))) ?_;exact C2 o ⟨_,_,_,_,_,rfl,rfl,j,(O0 _),(fA m (show F2 (Wp.int.R n) ([[iV e]]:LV) [e] from⟨⟨rfl,g⟩,trivial⟩)),(fA i (show F2 (Wp.int.R n) ([[iV e]]:LV) [e] from⟨⟨rfl,g⟩,trivial⟩)),b⟩
    exact C2 o ⟨_,_,_,_,_,rfl,rfl,j,(O0 _),(fA m (show F2 (Wp.int.R n) ([[iV e]]:LV) [e] from⟨⟨rfl,g⟩,trivial⟩)),i,b⟩
   refine trV b (z9 _ _ _ (C0 w x (M0.mono (z.trans j) y)) _ g (i64.wrap (0-u8)) (O0 _)) λbz b=>?_;obtain⟨ch,aO,b⟩:=D0 b;have bR:I0 bz:=N0 aO;refine ifB b (λa4 b=>?_) λa4 b=>?_;·obtain⟨ci,aP,b⟩:=D0 b;refine aI (N1 aP (by first|rw[fL i,fL (show F2 (Wp.int.R n) ([[iV e]]:LV) [e] from⟨⟨rfl,g⟩,trivial⟩)]|exact congrArg (·+1) (fL i))) ?_;exact C2 o ⟨_,_,_,_,_,rfl,rfl,j,(O0 _),m,(fA i (show F2 (Wp.int.R n) ([[iV e]]:LV) [e] from⟨⟨rfl,g⟩,trivial⟩)),b⟩
   exact C2 o ⟨_,_,_,_,_,rfl,rfl,j,(O0 _),m,i,b⟩
  cases b;try dsimp only[V0,Y0]at d
  obtain⟨bd,aJ,d⟩:=D0 d;obtain rfl:s.length=bd:=(fL m).trans (oJ aJ);obtain⟨cj,bL,d⟩:=D0 d;obtain⟨ae,aW,d⟩:=D0 d;refine eX { vars:=[59],boxes:=[2] } (eX (λvs os h'=>∃ C D E V Z X T N,vs.tail = [iV C,iV D,iV E,.slice (some ⟨V,Z,none⟩) X T]/\os = []/\Sub h h'/\I0 C/\I0 D/\I0 E/\New M0 h h' [.slice (some ⟨V,Z,none⟩) X T] N/\T5 (s).length p q u8 (P1 vs) C D E N=some ae) (eX (λ_ _=>0) (aI (eX U0 ⟨_,_,_,_,_,_,_,_,rfl,rfl,(z.trans j),oD,an,aj,(New.mono aw j),aW⟩) ?_)));rintro _ _ _ _ I ao ⟨C,D,E,V,Z,X,T,N,⟨⟩,⟨⟩,bo,bO,ak,al,aa,b⟩;replace b:T5 (s).length p q u8 I C D E N=some ae:=b;obtain _|I:=I;·cases b
  rw[T5.eq_2]at b;have bf:=aa.r;obtain⟨rfl,b2⟩:=sL bf;refine ifB b (λa5 b=>?_) λa5 b=>?_
  ·refine w5 13 ?_;obtain⟨t,aR,b⟩:=D0 b;obtain⟨ay,bE,aB,bi⟩:=J3 (show F2 (Wp.int.R ao) s p from m) aR;obtain⟨rfl,a8⟩:=bi;refine Or.inl ?_;apply eX;refine aI ?_ ?_;·intro bS cl;exact aI ay r3
   refine pm (.val (iV t)) ?_ ?_;·intro bU cm;exact eX _ (aI aB r3)
   obtain⟨u,aS,b⟩:=D0 b;obtain⟨az,bG,aC,bj⟩:=J3 (show F2 (Wp.int.R ao) O q from i) aS;obtain⟨rfl,ba⟩:=bj;refine Or.inl ?_;apply eX;refine aI ?_ ?_;·intro bV cn;exact aI az r3
   refine pm (.val (iV u)) ?_ ?_;·intro bW co;exact eX _ (aI aC r3)
   refine pm (.agg [.val (iV t),.val (iV u8),.val (iV u)]) ?_ ?_;·intro bX cq;exact r3
   obtain⟨Q,aU,b⟩:=D0 b;refine fS M0 Q ?_ ?_;·intro ap cr;have aD:[(t,u8,u)]=Q:=oJ aU;intro v k hf;obtain⟨a,c,rfl,r,bp,l⟩:=C1.out (r:=E1.toRp) (xs:=Q) hf (show F2 (E1.R ap) [[iV t,iV u8,iV u]] Q from aD▸(show F2 (E1.R ap) [[iV t,iV u8,iV u]] [(t,u8,u)] from⟨(Z1 a8 am ba),trivial⟩));exact aI ⟨rfl,rfl,rfl,[_],rfl⟩ (aI bp ⟨a,c,rfl,r,l⟩)
   intro bY bn;rintro _ ⟨bC,bJ,rfl,bl,b6⟩;obtain⟨br,aG,ai⟩:=Sl.rows (r:=E1.toRp) bl;refine eX br (aI aG ?_);obtain⟨ck,aQ,b⟩:=D0 b;obtain⟨bs,bk,aq,ax⟩:=New.app aa bn;refine eX bs (aI bk (aI (N1 aQ (by first|rw[aq,fL ai]|(rw[aq];rfl))) ?_));intro cv bZ aY;obtain⟨ac,bN,cc,cb,bK,rfl⟩:=ax _ _ _ _ _ (F3.ofPlain (u09 _) ai) g6.ofPlain aY;have bm:=ac.r;obtain⟨aH,b7⟩:=sL bm;subst aH;exact C2 I ⟨_,_,_,_,_,_,_,_,rfl,rfl,ac.sub,(O0 _),ak,al,ac,b⟩
  cases b;try dsimp only[V0,Y0]at d
  exact C2 H ⟨_,_,_,_,_,_,_,_,rfl,rfl,bo,(O0 _),ak,al,aa,d⟩
 cases d;try dsimp only[V0,Y0]at f
 refine trM f (Z05 _ _ _ _ _ au) ?_;rintro cx f ct bb ⟨bB,b8,bH,rfl,ab⟩;have cs:Sub G bb:=ab.sub;have bg:=ab.r;obtain⟨rfl,b3⟩:=sL bg;cases f;exact⟨_,rfl,(nP (nI an) (nP (nI aj) (New.from ab z)))⟩
def E0d(h:Hp)(H:List Value)(M:B0)(an:I1.R h H M)(E:Option Addr)(L F:Nat)(d:K1)(x:Q1.R h [.slice E L F] d)(r:B0×Bool)(b:n00 M d=some r): Tr Tryz.prog 125 #[.agg H.toArray,.slice E L F] h λv h'=>∃(G:List Value),v = .tuple #[.agg G.toArray,.bool r.2]/\New I1 h h' G r.1:=by
 obtain⟨N,O,ay,aF,P,rfl,rfl,k,t,w,aW⟩:=opG an;obtain⟨rfl,aX⟩:=sL x;unfold n00 at b;dsimp only at b;refine wk Tryz.f125 ?_;refine trV b (s00 _ _ _ (C0 k t w)) λbc b=>?_;refine ifB b (λaa b=>?_) λaa b=>?_;·cases b;exact⟨_,rfl,(nP (nI (show I0 (0) from(oD))) (nP (nI (show I0 (0) from(oD))) ((New.nilSlice (r:=E1)).mono sr)))⟩
 obtain⟨D,X,b⟩:=D0 b;refine eX { vars:=[26] } (eX (λvs os h'=>∃ j,vs.tail = [iV j]/\os = []/\Sub h h'/\I0 j/\V5 d N O P (P1 vs) j=some D) (eX (λ_ _=>0) (aI (eX U0 ⟨_,rfl,rfl,sr,oD,X⟩) ?_)));rintro _ m am ⟨j,⟨⟩,⟨⟩,c,aS,a⟩;replace a:V5 d N O P m j=some D:=a;obtain _|m:=m;·cases a
 rw[V5.eq_2]at a;refine ifB a (λad a=>?_) λad a=>?_
 ·refine ld a (Q1.mono c x) λbt aL z a=>?_;obtain⟨aD,aQ,rfl,a3⟩:=slL z;refine trV a (t02 _ _ k _ _ _ _ z) λbu a=>?_;refine trG a (λq=>q06 _ _ _ (C0 k t (M0.mono c w)) _ _ _ _ z) λbd a=>?_;refine ifB a (λY a=>?_) λY a=>?_
  ·cases a;try dsimp only[Y2,N3]at b
   cases b;exact⟨_,rfl,(nP (nI (show I0 (0) from(oD))) (nP (nI (show I0 (0) from(oD))) ((New.nilSlice (r:=E1)).mono c)))⟩
  exact C2 m ⟨_,rfl,rfl,c,(O0 _),a⟩
 cases a;try dsimp only[V0,Y0]at b
 obtain⟨C,W,b⟩:=D0 b;refine eX { vars:=[45],boxes:=[2] } (eX (λvs os h'=>∃ f g i p u s n,vs.tail = [iV f,iV g,iV i,.slice p u s]/\os = []/\Sub am h'/\I0 f/\I0 g/\I0 i/\M0.R h' [.slice p u s] n/\I7 d (P1 vs) f g i n=some C) (eX (λ_ _=>0) (aI (eX U0 ⟨_,_,_,_,_,_,_,rfl,rfl,sr,oD,k,t,(M0.mono c w),W⟩) ?_)));rintro _ _ _ _ l ak ⟨f,g,i,p,u,s,n,⟨⟩,⟨⟩,e,aR,I,J,y,a⟩;replace a:I7 d l f g i n=some C:=a;obtain _|l:=l;·cases a
 rw[I7.eq_2]at a;obtain⟨rfl,aY⟩:=sL y;refine ifB a (λZ a=>?_) λZ a=>?_
 ·refine ld a (Q1.mono (c.trans e) x) λbe aG Q a=>?_;obtain⟨az,aM,rfl,aZ⟩:=slL Q;refine trM a (c0f _ _ _ (C0 I J y) _ _ _ _ Q) ?_;rintro av a a7 aV ⟨aH,rfl,S,T⟩;obtain⟨bf,aw,bj⟩:=av;dsimp only at a S;obtain⟨bg,bh,aA,aN,bi,rfl,rfl,ae,af,ao,a0⟩:=opG S;try dsimp only at a
  obtain⟨a4,V,a⟩:=D0 a;have aU:I0 aw:=N0 V;refine ifB a (λab a=>?_) λab a=>?_
  ·cases a;try dsimp only[Y2,N3]at b
   cases b;exact⟨_,rfl,(nP (nI (show I0 (0) from(oD))) (nP (nI (show I0 (0) from(oD))) ((New.nilSlice (r:=E1)).mono ((c.trans e).trans T))))⟩
  exact C2 l ⟨_,_,_,_,_,_,_,rfl,rfl,(e.trans T),(O0 _),ae,af,ao,a⟩
 cases a;try dsimp only[V0,Y0]at b
 refine trM b (D0d _ _ _ (C0 I J y)) ?_;rintro ax b a8 K ⟨aJ,rfl,o⟩;obtain⟨bk,bo⟩:=ax;dsimp only at b o;have U:Sub ak K:=o.sub;have ap:=o.r;obtain⟨bl,bm,aB,aO,bn,rfl,rfl,ag,ah,aq,a1⟩:=opG ap;try dsimp only at b
 have bb:=nD (nD (o));refine ifB b (λac b=>?_) λac b=>?_;·cases b;exact⟨_,rfl,(nP (nI (show I0 (0) from(oD))) (nP (nI (show I0 (0) from(oD))) ((New.nilSlice (r:=E1)).mono ((c.trans e).trans U))))⟩
 refine trM b (L05 _ _ _ (C0 ag ah aq)) ?_;rintro bp b ba al ⟨aK,rfl,A⟩;have a6:Sub K al:=A.sub;have ar:=A.r;obtain⟨bq,br,aC,aP,bs,rfl,rfl,ai,aj,a5,a2⟩:=opG ar;try dsimp only at b
 have au:=nD (nD (A));cases b;exact⟨_,rfl,(nP (nI ai) (nP (nI aj) (New.from au ((c.trans e).trans U))))⟩
def D0e(h:Hp)(g:List Value)(j:B0)(t:I1.R h g j)(d:Option Addr)(i e:Nat)(b:J0)(k:K0.R h [.slice d i e] b)(r:B0×Bool)(a:b9 j b=some r): Tr Tryz.prog 52 #[.agg g.toArray,.slice d i e] h λv h'=>∃(f:List Value),v = .tuple #[.agg f.toArray,.bool r.2]/\New I1 h h' f r.1:=by
 obtain⟨M,N,A,E,O,rfl,rfl,m,n,u,I⟩:=opG t;obtain⟨rfl,J⟩:=sL k;unfold b9 at a;dsimp only at a;refine wk Tryz.f52 ?_;refine Or.inl ?_;intro S q f3;obtain⟨D,H,rfl,x,l,L⟩:=C1.out (r:=K0.toRp) f3 (show F2 (K0.R h) ([[.slice d b.length e]]:LV) [b] from⟨k,trivial⟩);refine trM a (E0d _ _ _ (C0 m n (M0.mono l u)) _ _ _ _ x) ?_;rintro z a T s ⟨F,rfl,c⟩;obtain⟨U,Y⟩:=z;dsimp only at a c;have Q:Sub q s:=c.sub;have w:=c.r;obtain⟨V,W,C,G,X,rfl,rfl,o,p,P,K⟩:=opG w;try dsimp only at a
 have y:=nD (nD (c));cases a;exact⟨_,rfl,(nP (nI o) (nP (nI p) (New.from y l)))⟩
def y0j(h:Hp)(m:List Value)(p:B0)(K:I1.R h m p)(j:Option Addr)(o k:Nat)(s:J0)(g:K0.R h [.slice j o k] s)(r:B0×Bool)(a:I04 p s=some r): Tr Tryz.prog 53 #[.agg m.toArray,.slice j o k] h λv h'=>∃(l:List Value),v = .tuple #[.agg l.toArray,.bool r.2]/\New I1 h h' l r.1:=by
 obtain⟨ak,al,U,X,am,rfl,rfl,b,e,f,ae⟩:=opG K;obtain⟨rfl,af⟩:=sL g;unfold I04 at a;dsimp only at a;refine wk Tryz.f53 ?_;refine trV a (s00 _ _ _ (C0 b e f)) λaw a=>?_;refine trG a (λq=>t02 _ _ b _ _ _ _ g) λaB a=>?_;refine ifB a (λz a=>?_) λz a=>?_;·cases a;exact⟨_,rfl,(nP (nI (show I0 (0) from(oD))) (nP (nI (show I0 (0) from(oD))) ((New.nilSlice (r:=E1)).mono sr)))⟩
 refine ifB a (λA a=>?_) λA a=>?_
 ·refine trM a (V7 _ _ _ (C0 b e f)) ?_;rintro S a au J ⟨ad,aj,ab,rfl,c⟩;have ap:Sub h J:=c.sub;have t:=c.r;obtain⟨aC,aD,aF⟩:=S;dsimp only at a c t;obtain⟨_,_,_,_,_,_,w,x,E,F,M⟩:=Z0 t;cases w;cases x;obtain⟨rfl,ah⟩:=sL M;try dsimp only at a
  have Q:=nD (nD (c));cases a;exact⟨_,rfl,(nP (nI E) (nP (nI F) Q))⟩
 refine trM a (e0c _ _ _ (C0 b e f) _ _ _ _ g) ?_;rintro T a aq n ⟨Z,rfl,d⟩;obtain⟨aG,aL⟩:=T;dsimp only at a d;have u:Sub h n:=d.sub;have N:=d.r;obtain⟨aH,aJ,W,ac,aK,rfl,rfl,G,H,O,ai⟩:=opG N;try dsimp only at a
 have av:=nD (nD (d));refine ifB a (λy a=>?_) λy a=>?_;·cases a;exact⟨_,rfl,(nP (nI (show I0 (0) from(oD))) (nP (nI (show I0 (0) from(oD))) ((New.nilSlice (r:=E1)).mono u)))⟩
 refine trM a (L05 _ _ _ (C0 G H O)) ?_;rintro ax a ar I ⟨Y,rfl,i⟩;have ao:Sub n I:=i.sub;have L:=i.r;obtain⟨ay,az,V,aa,aA,rfl,rfl,C,D,an,ag⟩:=opG L;try dsimp only at a
 have P:=nD (nD (i));cases a;exact⟨_,rfl,(nP (nI C) (nP (nI D) (New.from P u)))⟩
def w0i(h:Hp)(y:Int)(ba:I0 y)(z:Int)(T:I0 z)(aa:Option Addr)(ah ac:Nat)(aj:K1)(U:Q1.R h [.slice aa ah ac] aj)(ab:Option Addr)(ai ad:Nat)(ak:J0)(l:K0.R h [.slice ab ai ad] ak)(r:L2×Bool)(a:b04 y z aj ak=some r): Tr Tryz.prog 7 #[iV y,iV z,.slice aa ah ac,.slice ab ai ad] h λv h'=>∃(ae:List Value),v = .tuple #[.agg ae.toArray,.bool r.2]/\J5.R h' ae r.1/\Sub h h':=by
 obtain⟨rfl,b7⟩:=sL U;obtain⟨rfl,b8⟩:=sL l;unfold b04 at a;refine wk Tryz.f7 ?_;refine trM a (Z09 _ _ T _ _ _ _ U) ?_;rintro bA a co w ⟨bP,rfl,V⟩;obtain⟨cs,ct⟩:=bA;dsimp only at a V;have c:Sub h w:=V.sub;have bn:=V.r;obtain⟨ar,au,av,aA,Q,rfl,rfl,f,g,i,bi⟩:=opG bn;try dsimp only at a
 refine trG a (λq=>t02 _ _ T _ _ _ _ (K0.mono c l)) λcO a=>?_;refine ifB a (λa8 a=>?_) λa8 a=>?_;·cases a;exact⟨_,rfl,(A3 oD oD (d02 K0 w) (d02 Wp.int w) (d02 Wp.int w) oD oD (d02 E1 w) oD),c⟩
 refine w5 9 ?_;obtain⟨D,aS,a⟩:=D0 a;refine fS Q1 D ?_ ?_;·intro b6 bz;refine Tr.mono (v0i _ _ _ _ _ (Q1.mono (c.trans bz) U) _ aS) ?_;rintro _ bh ⟨aw,ci,aB,rfl,ap⟩;have o:=ap.sub;have an:=ap.r;obtain⟨rfl,bj⟩:=sL an;exact aI K7 (aI o ⟨aw,aB,rfl,an,bj⟩)
 obtain⟨E,aU,a⟩:=D0 a;refine fS K0 E ?_ ?_;·intro b3 bv;refine Tr.mono (l08 _ _ _ _ _ (K0.mono (c.trans bv) l) _ aU) ?_;rintro _ bh ⟨ax,cj,aC,rfl,aq⟩;have o:=aq.sub;have ao:=aq.r;obtain⟨rfl,bk⟩:=sL ao;exact aI K7 (aI o ⟨(some ⟨ax,0,none⟩),aC,rfl,ao,bk⟩)
 refine Or.inr (eX (λv S=>∃(F:Option Addr) (I:Nat) (G:Option Addr) (J:Nat) (H:Option Addr) (K:Nat),v = .agg #[iV y,iV z,.slice F D.length I,.slice G E.length J,.slice none 0 0,iV ar,iV au,.slice H Q.length K,iV 0]/\I0 y/\I0 z/\Q1.R S [.slice F D.length I] D/\D.length<=9223372036854775807/\K0.R S [.slice G E.length J] E/\E.length<=9223372036854775807/\I0 ar/\I0 au/\M0.R S [.slice H Q.length K] Q/\Q.length<=9223372036854775807/\I0 0) (aI (λv b1 b2 o q=>by obtain⟨F,I,G,J,H,K,e,aG,aH,f2,f3,aK,aL,aM,aN,aO,aP,aJ⟩:=q;exact⟨F,I,G,J,H,K,e,aG,aH,Q1.mono o f2,f3,K0.mono o aK,aL,aM,aN,M0.mono o aO,aP,aJ⟩) (aI ?_ ?_)));·intro b5 bx;rintro _ ⟨ay,aD,rfl,bt,bl⟩;rintro _ ⟨az,aF,rfl,bu,bm⟩;exact aI K7 (aI sr ⟨ay,aD,az,aF,av,aA,rfl,ba,T,bt,bl,bu,bm,f,g,(M0.mono bx i),bi,oD⟩)
 intro d b;rintro _ ⟨bM,bY,bN,bZ,bO,b0,rfl,j,k,m,ce,n,cf,L,M,N,cg,u⟩;rintro _ _;rintro _ _;refine ifB a (λaV a=>?_) λaV a=>?_
 ·refine trM a (u0i _ _ _ (C0 f g (M0.mono b i)) _ _ _ _ (K0.mono (c.trans b) l)) ?_;rintro bB a cm x ⟨bI,ch,bU,rfl,W⟩;obtain⟨cu,cv⟩:=bB;dsimp only at a W;have A:Sub d x:=W.sub;have al:=W.r;obtain⟨rfl,ca⟩:=sL al;refine ifB a (λaW a=>?_) λaW a=>?_;·cases a;exact⟨_,rfl,(A3 oD oD (d02 K0 x) (d02 Wp.int x) (d02 Wp.int x) oD oD (d02 E1 x) oD),((c.trans b).trans A)⟩
  cases a;exact⟨_,rfl,(A3 j k (Q1.mono A m) (K0.mono A n) al L M (M0.mono A N) u),((c.trans b).trans A)⟩
 refine ifB a (λaX a=>?_) λaX a=>?_
 ·refine trM a (D0e _ _ _ (C0 f g (M0.mono b i)) _ _ _ _ (K0.mono (c.trans b) l)) ?_;rintro bC a cn p ⟨bQ,rfl,X⟩;obtain⟨cw,cA⟩:=bC;dsimp only at a X;have O:Sub d p:=X.sub;have bo:=X.r;obtain⟨cx,cy,bJ,bV,cz,rfl,rfl,bb,bc,bp,cb⟩:=opG bo;try dsimp only at a
  refine ifB a (λaY a=>?_) λaY a=>?_;·cases a;exact⟨_,rfl,(A3 oD oD (d02 K0 p) (d02 Wp.int p) (d02 Wp.int p) oD oD (d02 E1 p) oD),((c.trans b).trans O)⟩
  cases a;exact⟨_,rfl,(A3 j k (Q1.mono O m) (K0.mono O n) (d02 Wp.int p) bb bc bp u),((c.trans b).trans O)⟩
 refine ifB a (λaZ a=>?_) λaZ a=>?_
 ·refine trM a (y0j _ _ _ (C0 f g (M0.mono b i)) _ _ _ _ (K0.mono (c.trans b) l)) ?_;rintro bD a cq s ⟨bR,rfl,Y⟩;obtain⟨cC,cH⟩:=bD;dsimp only at a Y;have C:Sub d s:=Y.sub;have bq:=Y.r;obtain⟨cD,cE,bK,bW,cG,rfl,rfl,af,ag,am,cc⟩:=opG bq;try dsimp only at a
  refine trG a (λq=>v04 _ _ _ (C0 af ag am) _ _ (C0 f g (M0.mono (b.trans C) i))) λcI a=>?_;refine ifB a (λa0 a=>?_) λa0 a=>?_;·cases a;exact⟨_,rfl,(A3 oD oD (d02 K0 s) (d02 Wp.int s) (d02 Wp.int s) oD oD (d02 E1 s) oD),((c.trans b).trans C)⟩
  cases a;exact⟨_,rfl,(A3 j k (Q1.mono C m) (K0.mono C n) (d02 Wp.int s) af ag am u),((c.trans b).trans C)⟩
 refine ifB a (λa1 a=>?_) λa1 a=>?_
 ·refine trM a (a06 _ _ _ (C0 f g (M0.mono b i)) _ _ _ _ (K0.mono (c.trans b) l)) ?_;rintro bE a cr t ⟨bS,rfl,Z⟩;obtain⟨cJ,cN⟩:=bE;dsimp only at a Z;have P:Sub d t:=Z.sub;have br:=Z.r;obtain⟨cK,cL,bL,bX,cM,rfl,rfl,bd,be,bs,cd⟩:=opG br;try dsimp only at a
  refine ifB a (λa2 a=>?_) λa2 a=>?_;·cases a;exact⟨_,rfl,(A3 oD oD (d02 K0 t) (d02 Wp.int t) (d02 Wp.int t) oD oD (d02 E1 t) oD),((c.trans b).trans P)⟩
  cases a;exact⟨_,rfl,(A3 j k (Q1.mono P m) (K0.mono P n) (d02 Wp.int t) bd be bs u),((c.trans b).trans P)⟩
 refine ifB a (λa3 a=>?_) λa3 a=>?_
 ·refine trV a (d0f _ _ _ (C0 f g (M0.mono b i))) λbG a=>?_;obtain⟨ck,aQ,a⟩:=D0 a;have bf:I0 bG:=N0 aQ;refine ifB a (λa4 a=>?_) λa4 a=>?_;·cases a;exact⟨_,rfl,(A3 oD oD (d02 K0 d) (d02 Wp.int d) (d02 Wp.int d) oD oD (d02 E1 d) oD),(c.trans b)⟩
  cases a;exact⟨_,rfl,(A3 j k m n (d02 Wp.int d) L M N bf),(c.trans b)⟩
 refine ifB a (λa5 a=>?_) λa5 a=>?_
 ·refine trV a (z0d _ _ _ (C0 f g (M0.mono b i))) λbH a=>?_;obtain⟨cl,aR,a⟩:=D0 a;have bg:I0 bH:=N0 aR;refine ifB a (λa6 a=>?_) λa6 a=>?_;·cases a;exact⟨_,rfl,(A3 oD oD (d02 K0 d) (d02 Wp.int d) (d02 Wp.int d) oD oD (d02 E1 d) oD),(c.trans b)⟩
  cases a;exact⟨_,rfl,(A3 j k m n (d02 Wp.int d) L M N bg),(c.trans b)⟩
 refine ifB a (λa7 a=>?_) λa7 a=>?_;·cases a;exact⟨_,rfl,(A3 oD oD (d02 K0 d) (d02 Wp.int d) (d02 Wp.int d) oD oD (d02 E1 d) oD),(c.trans b)⟩
 cases a;exact⟨_,rfl,(A3 j k m n (d02 Wp.int d) L M N u),(c.trans b)⟩
end Go.Proofs.YthkpbcnhdhfifaaGreat
