/- Texts of the claim, joined: The walks of batch g4 and others. -/
import Derived.Test.YtcpjomkcdlggaaaGreatH53
import Derived.Test.YtcpjomkcdlggaaaGreatPart24
import Derived.Test.YtcpjomkcdlggaaaGreatPart21
import Derived.Test.YtcpjomkcdlggaaaGreatChecked
import Derived.Test.YtcpjomkcdlggaaaGreatH35
import Derived.Test.YtcpjomkcdlggaaaGreatPart36
import Derived.Test.YtcpjomkcdlggaaaGreatPart38
import Derived.Test.YtcpjomkcdlggaaaGreatPart40
import Derived.Test.YtcpjomkcdlggaaaGreatPart27
import Derived.Test.YtcpjomkcdlggaaaGreatH41
import Derived.Test.YtcpjomkcdlggaaaGreatSE
import Derived.Test.YtcpjomkcdlggaaaGreatPart20
import Derived.Test.YtcpjomkcdlggaaaGreatH36
import Derived.Test.YtcpjomkcdlggaaaGreatPart22
import Derived.Test.YtcpjomkcdlggaaaGreatH45
namespace Go.Proofs.YtcpjomkcdlggaaaGreat
set_option linter.all false
open Go.H
open IntKind (i64)
set_option maxRecDepth 10000
theorem F0a(h:Hp)(csp0:List Value)(p0:z0)(rp0:L1.R h csp0 p0)(r:z0×H0)(hM0:P9 p0=some r):
  Tr Tryz.prog 138 #[.agg csp0.toArray] h λv h'=>∃(cs0:List Value) (a1:Option Addr) (n1 c1:Nat),v = .tuple #[.agg cs0.toArray,.slice a1 n1 c1]/\New L1 h h' cs0 r.1/\I0.R h' [.slice a1 n1 c1] r.2:=by
 obtain⟨p0_0,p0_1,ap0_2,np0_2,cp0_2,p0_2,rfl,rfl,ip0_0,ip0_1,rp0_2⟩:=W0 rp0
 obtain⟨rfl,lp0_2⟩:=Sl.len rp0_2
 unfold P9 at hM0
 dsimp only at hM0
 refine E4 (args:=[.agg #[.int .i64 p0_0,.int .i64 p0_1,.slice ap0_2 p0_2.length cp0_2]]) (fn:=Tryz.f138) rfl ?_
 refine trM hM0 (K8 _ [.int .i64 p0_0,.int .i64 p0_1,.slice ap0_2 p0_2.length cp0_2] (p0_0,p0_1,p0_2) (C0 ip0_0 ip0_1 rp0_2)) ?_
 rintro x1 hM0 v3 k2 ⟨gx1_2,nx1_2,cx1_2,rfl,wx1⟩
 have sx1:Sub h k2:=wx1.sub
 have rx1:=wx1.r
 obtain⟨x1_0,x1_1,x1_2⟩:=x1
 dsimp only at hM0 wx1 rx1
 obtain⟨_,_,_,_,_,_,ecx1,exx1,ix1_0,ix1_1,rx1_2⟩:=W0 rx1
 cases ecx1
 cases exx1
 obtain⟨rfl,lx1_2⟩:=Sl.len rx1_2
 try dsimp only at hM0
 have we4:=New.sndI (New.sndI (wx1))
 refine trV hM0 (A01 _ [.int .i64 p0_0,.int .i64 p0_1,.slice ap0_2 p0_2.length cp0_2] (p0_0,p0_1,p0_2) (C0 ip0_0 ip0_1 (M0.mono sx1 rp0_2))) λx5 hM0=>?_
 refine ifB hM0 (λhc6 hM0=>?_) λhc6 hM0=>?_
 ·intro v7 k8 f9
  obtain⟨az10,cz10,rfl,rz10,sz10,lz10⟩:=Y0.out (r:=Wp.int.toRp) f9 (show F2 (Wp.int.R k2) ([]:List (List Value)) ([]:H0) from trivial)
  obtain rfl:=oJ hM0
  exact⟨([.int .i64 x1_0,.int .i64 x1_1,.slice (some ⟨gx1_2,0,none⟩) x1_2.length cx1_2]),az10,(([]:H0)).length,cz10,rfl,(New.pair (New.int ix1_0) (New.pair (New.int ix1_1) (New.mono we4 sz10))),rz10⟩
 ·obtain⟨X11,hLX11,hM0⟩:=B0 hM0
  refine eX { vars:=[6],boxes:=[],owns:=[0],fuel:=true } (eX (λvs os h'=>∃ u12 wu13 u13,vs.tail = [.int .i64 u12]/\os = [wu13]/\Sub k2 h'/\F0 u12/\F2 (Wp.int.R h') wu13 u13/\j8 p0_1 (N1 vs) u12 u13=some X11) (eX (λ_ _=>0) (aI (eX P0 ⟨0,[],([]:H0),rfl,rfl,(Sub.refl _),(by decide),(show F2 (Wp.int.R k2) ([]:List (List Value)) ([]:H0) from trivial),hLX11⟩) ?_)))
  rintro _ wu13 m15 k14 ⟨u12,zzu13,u13,⟨⟩,⟨⟩,sX11,iu12,fu13,hM1⟩
  replace hM1:j8 p0_1 m15 u12 u13=some X11:=hM1
  obtain _|m15:=m15
  ·cases hM1
  rw[j8.eq_2]at hM1
  refine ifB hM1 (λhc16 hM1=>?_) λhc16 hM1=>?_
  ·obtain⟨q17,gq17,hM1⟩:=B0 hM1
   refine aI (M1 gq17 (by first|rw[F2.length fu13,F2.length (show F2 (Wp.int.R k14) ([[.int .i64 u12]]:List (List Value)) [u12] from⟨⟨rfl,iu12⟩,trivial⟩)]|exact congrArg (·+1) (F2.length fu13))) ?_
   exact V1 m15 ⟨(IntKind.i64.wrap (u12+1)),(wu13++([[.int .i64 u12]]:List (List Value))),(u13 ++ [u12]),rfl,rfl,sX11,(J0 _),(F2.append fu13 (show F2 (Wp.int.R k14) ([[.int .i64 u12]]:List (List Value)) [u12] from⟨⟨rfl,iu12⟩,trivial⟩)),hM1⟩
  ·obtain rfl:=oJ hM1
   try dsimp only[Q0,T0]at hM0
   obtain⟨X22,hLX22,hM0⟩:=B0 hM0
   refine eX { vars:=[5],boxes:=[2],owns:=[],fuel:=true,pubs:=[5] } (eX (λvs os h'=>∃(au23:Option Addr) (nu23 cu23:Nat) (u23:H0) (u24:Int) (u25:Int) (au26:Option Addr) (nu26 cu26:Nat) (u26:S0),vs.tail = [.slice au23 nu23 cu23,.int .i64 u24,.int .i64 u25,.slice au26 nu26 cu26]/\os = []/\Sub h h'/\New I0 h h' [.slice au23 nu23 cu23] u23/\F0 u24/\F0 u25/\New M0 h h' [.slice au26 nu26 cu26] u26/\w7 (N1 vs) u23 u24 u25 u26=some X22) (eX (λ_ _=>0) ?_))
   intro v18 k19 f20
   obtain⟨az21,cz21,rfl,rz21,sz21,lz21⟩:=Y0.out (r:=Wp.int.toRp) f20 fu13
   refine aI (eX P0 ⟨az21,u13.length,cz21,u13,x1_0,x1_1,(some ⟨gx1_2,0,none⟩),x1_2.length,cx1_2,x1_2,rfl,rfl,((sx1.trans sX11).trans sz21),(New.from (Y0.newPlain (r:=Wp.int) f20 fu13 (n05 _)) (sx1.trans sX11)),ix1_0,ix1_1,(New.mono we4 (sX11.trans sz21)),hLX22⟩) ?_
   rintro _ _ _ _ m28 k27 ⟨au23,nu23,cu23,u23,u24,u25,au26,nu26,cu26,u26,⟨⟩,⟨⟩,sX22,wwu23,iu24,iu25,wwu26,hM1⟩
   replace hM1:w7 m28 u23 u24 u25 u26=some X22:=hM1
   obtain _|m28:=m28
   ·cases hM1
   rw[w7.eq_2]at hM1
   have ru23:=wwu23.r
   obtain⟨rfl,lu23⟩:=Sl.len ru23
   have ru26:=wwu26.r
   obtain⟨rfl,lu26⟩:=Sl.len ru26
   refine trM hM1 (J0d _ [.int .i64 u24,.int .i64 u25,.slice au26 u26.length cu26] (u24,u25,u26) (C0 iu24 iu25 ru26) 0 (by decide)) ?_
   rintro x29 hM1 v31 k30 ⟨ax29,nx29,cx29,rfl,rx29,sx29⟩
   obtain⟨rfl,lx29⟩:=Sl.len rx29
   obtain⟨X32,hLX32,hM1⟩:=B0 hM1
   refine eX { vars:=[8,9],boxes:=[],owns:=[],fuel:=true } (eX (λvs os h'=>∃ u33 u34,vs.tail = [.int .i64 u33,.int .i64 u34]/\os = []/\Sub k30 h'/\F0 u33/\F0 u34/\l5 u25 u24 u26 x29 (N1 vs) u33 u34=some X32) (eX (λ_ _=>0) (aI (eX P0 ⟨0,1,rfl,rfl,(Sub.refl _),(by decide),(by decide),hLX32⟩) ?_)))
   rintro _ _ m36 k35 ⟨u33,u34,⟨⟩,⟨⟩,sX32,iu33,iu34,hM2⟩
   replace hM2:l5 u25 u24 u26 x29 m36 u33 u34=some X32:=hM2
   obtain _|m36:=m36
   ·cases hM2
   rw[l5.eq_2]at hM2
   refine ifB hM2 (λhc37 hM2=>?_) λhc37 hM2=>?_
   ·refine trV hM2 (K0i _ [.int .i64 u24,.int .i64 u25,.slice au26 u26.length cu26] (u24,u25,u26) (C0 iu24 iu25 (M0.mono (sx29.trans sX32) ru26)) u34 iu34) λx38 hM2=>?_
    obtain⟨q39,gq39,hM2⟩:=B0 hM2
    have ix38:F0 x38:=K0 gq39
    obtain⟨x40,gx40,hM2⟩:=B0 hM2
    obtain⟨csx40,ex40,rx40⟩:=Sl.getG (r:=Wp.bool.toRp) ((Wp.slice Wp.bool).mono sX32 rx29) gx40 (by decide) (Y0u k35)
    refine aI (λq=>(ex40 q).1) ?_
    obtain rfl:=rx40
    refine eX _ (aI (λq=>(ex40 q).2) ?_)
    refine ifB hM2 (λhc41 hM2=>?_) λhc41 hM2=>?_
    ·exact V1 m36 ⟨u34,(IntKind.i64.wrap (u34+1)),rfl,rfl,sX32,iu34,(J0 _),hM2⟩
    ·exact V1 m36 ⟨u33,(IntKind.i64.wrap (u34+1)),rfl,rfl,sX32,iu33,(J0 _),hM2⟩
   ·obtain rfl:=oJ hM2
    try dsimp only[Q0,T0]at hM1
    refine ifB hM1 (λhc42 hM1=>?_) λhc42 hM1=>?_
    ·obtain rfl:=oJ hM1
     try dsimp only[P2,l3]at hM0
     obtain rfl:=oJ hM0
     exact⟨([.int .i64 u24,.int .i64 u25,.slice au26 u26.length cu26]),au23,u23.length,cu23,rfl,(New.pair (New.int iu24) (New.pair (New.int iu25) (New.mono wwu26 (sx29.trans sX32)))),(I0.mono (sx29.trans sX32) ru23)⟩
    ·obtain⟨X43,hLX43,hM1⟩:=B0 hM1
     refine eX { vars:=[11],boxes:=[],owns:=[1],fuel:=true } (eX (λvs os h'=>∃ u44 wu45 u45,vs.tail = [.int .i64 u44]/\os = [wu45]/\Sub k35 h'/\F0 u44/\F2 (Wp.int.R h') wu45 u45/\t7 u25 u33 (N1 vs) u44 u45=some X43) (eX (λ_ _=>0) (aI (eX P0 ⟨0,[],([]:H0),rfl,rfl,(Sub.refl _),(by decide),(show F2 (Wp.int.R k35) ([]:List (List Value)) ([]:H0) from trivial),hLX43⟩) ?_)))
     rintro _ wu45 m47 k46 ⟨u44,zzu45,u45,⟨⟩,⟨⟩,sX43,iu44,fu45,hM2⟩
     replace hM2:t7 u25 u33 m47 u44 u45=some X43:=hM2
     obtain _|m47:=m47
     ·cases hM2
     rw[t7.eq_2]at hM2
     refine ifB hM2 (λhc48 hM2=>?_) λhc48 hM2=>?_
     ·refine ifB hM2 (λhc49 hM2=>?_) λhc49 hM2=>?_
      ·obtain⟨q50,gq50,hM2⟩:=B0 hM2
       refine aI (M1 gq50 (by first|rw[F2.length fu45,F2.length (show F2 (Wp.int.R k46) ([[.int .i64 u44]]:List (List Value)) [u44] from⟨⟨rfl,iu44⟩,trivial⟩)]|exact congrArg (·+1) (F2.length fu45))) ?_
       exact V1 m47 ⟨(IntKind.i64.wrap (u44+1)),(wu45++([[.int .i64 u44]]:List (List Value))),(u45 ++ [u44]),rfl,rfl,sX43,(J0 _),(F2.append fu45 (show F2 (Wp.int.R k46) ([[.int .i64 u44]]:List (List Value)) [u44] from⟨⟨rfl,iu44⟩,trivial⟩)),hM2⟩
      ·exact V1 m47 ⟨(IntKind.i64.wrap (u44+1)),wu45,u45,rfl,rfl,sX43,(J0 _),fu45,hM2⟩
     ·obtain rfl:=oJ hM2
      try dsimp only[Q0,T0]at hM1
      refine Or.inl ?_
      intro v51 k52 f53
      obtain⟨az54,cz54,rfl,rz54,sz54,lz54⟩:=Y0.out (r:=Wp.int.toRp) f53 fu45
      refine trM hM1 (S0c _ [.int .i64 u24,.int .i64 u25,.slice au26 u26.length cu26] (u24,u25,u26) (C0 iu24 iu25 (M0.mono (((sx29.trans sX32).trans sX43).trans sz54) ru26)) az54 u45.length cz54 u45 rz54) ?_
      rintro x55 hM1 v57 k56 ⟨csx55,rfl,wx55⟩
      have sx55:Sub k52 k56:=wx55.sub
      have rx55:=wx55.r
      obtain⟨x55_0,x55_1,ax55_2,nx55_2,cx55_2,x55_2,rfl,rfl,ix55_0,ix55_1,rx55_2⟩:=W0 rx55
      obtain⟨rfl,lx55_2⟩:=Sl.len rx55_2
      try dsimp only at hM1
      have we58:=New.sndI (New.sndI (wx55))
      obtain⟨x75,gx75,hM1⟩:=B0 hM1
      obtain⟨x76,gx76,hM1⟩:=B0 hM1
      obtain⟨q77,gq77,hM1⟩:=B0 hM1
      obtain⟨qaz78,baz78,eaz78,gz78,oz78,Az78,Cz78,usz78,vsz78,eqz78,qbz78,bbz78,lcz78,mcz78,rxz78,sxz78,luz78,lvz78,apz78⟩:=New.drop wwu23 ((((sx29.trans sX32).trans sX43).trans sz54).trans sx55) gx75 gx76 (q0w lu23 gx75 gx76)
      subst eqz78
      refine Or.inr (Or.inr (Or.inr (Or.inr (eX 7 (aI (aI (by kernel_rfl) (by kernel_rfl)) ?_)))))
      refine Or.inl (eX (.val (.slice (some ⟨gz78,oz78,none⟩) x75.length cu23)) (aI ?_ ?_))
      ·intro hh sb
       obtain⟨vs,e⟩:=eaz78 hh sb
       exact aI baz78 (eX vs (aI e (λv _ hv=>aI (congrArg AV.val (qaz78 v hv)) (aI rfl rfl))))
      refine Or.inl (eX (.val (.int .i64 (IntKind.i64.wrap (u33+1)))) (aI ?_ ?_))
      ·intro k73 s74
       exact aI rfl (aI rfl rfl)
      refine Or.inl (eX (.val (.slice Az78 x76.length Cz78)) (aI ?_ ?_))
      ·intro hh sb
       obtain⟨vs,e⟩:=eaz78 hh sb
       exact aI bbz78 (eX vs (aI e (λv _ hv=>aI (congrArg AV.val (qbz78 v hv)) (aI rfl rfl))))
      intro k79 s80
      clear rxz78 sxz78 luz78 lvz78 apz78
      obtain⟨_,_,_,gyz78,oyz78,Ayz78,Cyz78,usz78,vsz78,eqz78,qyz78,_,_,_,rxz78,sxz78,luz78,lvz78,apz78⟩:=New.drop wwu23 ((((((sx29.trans sX32).trans sX43).trans sz54).trans sx55).trans s80)) gx75 gx76 (q0w lu23 gx75 gx76)
      cases eqz78
      obtain⟨v0z78,hvz78⟩:=e0l.ex _ _ _ _ _ _
      have hqz78:=(qyz78 v0z78 hvz78).symm.trans (qbz78 v0z78 hvz78)
      cases hqz78
      refine eX vsz78 (aI sxz78 (eX usz78 (aI rxz78 (aI (M1 gq77 (by rw[luz78,lvz78])) ?_))))
      intro vz78 kz78 happz78
      obtain⟨wz78,⟨az78,nz78,cz78,rfl⟩,kpz78⟩:=apz78 _ _ happz78
      have rz78:=wz78.r
      obtain⟨ez78,lz78⟩:=Sl.len rz78
      subst ez78
      have wy81:=kpz78 J1.slice _ _ _ (New.mono we58 s80) (((sx29.trans sX32).trans sX43).trans sz54)
      exact V1 m28 ⟨az78,(x75++x76).length,cz78,(x75++x76),x55_0,x55_1,ax55_2,x55_2.length,cx55_2,x55_2,rfl,rfl,wz78.sub,wz78,ix55_0,ix55_1,wy81,hM1⟩
def g02(h:Hp)(y:List Value)(z:z0)(V:L1.R h y z)(r:Bool)(a:G7 z=some r):
  Tr Tryz.prog 62 #[.agg y.toArray] h λv h'=>v = .bool r/\h'=h:=by
 obtain⟨c,b,p,s,d,rfl,rfl,j,k,l,ay⟩:=opG V
 unfold G7 at a
 dsimp only at a
 refine wkF Tryz.f62 ?_
 refine trV a (T02 _ [iV c,iV b,.slice p d.length s] (c,b,d) (C0 j k l)) λaH a=>?_
 refine ifB a (λM a=>?_) λM a=>?_
 ·cases a
  exact aI rfl sr
 ·refine trM a (F0a _ _ _ (C0 j k l)) ?_
  rintro ae a aG T ⟨aj,ai,aC,am,rfl,x,A⟩
  obtain⟨aJ,aM⟩:=ae
  dsimp only at a x A
  have w:Sub h T:=x.sub
  have W:=x.r
  obtain⟨aK,af,ah,al,aL,rfl,rfl,ap,aq,aD,az⟩:=opG W
  try dsimp only at a
  obtain⟨rfl,aA⟩:=sL A
  refine w4 ?_
  refine pm (.val (.bool (decide (af=b)))) ?_ ?_
  ·intro av aF
   exact r3
  obtain⟨ag,L,a⟩:=B0 a
  obtain⟨m,o,f⟩:=ag
  try dsimp only at a
  refine Or.inr (eX (λv N=>∃(g:Option Addr) (i:Nat),v = .agg #[iV m,iV o,.slice g f.length i]/\F0 m/\F0 o/\M0.R N [.slice g f.length i] f/\f.length<=9223372036854775807) (aI (λv an ao u q=>by obtain⟨g,i,e,I,J,f2,f3⟩:=q;exact⟨g,i,e,I,J,M0.mono u f2,f3⟩) (aI ?_ ?_)))
  ·intro aw aa t
   refine Tr.mono (Y06 _ [iV c,iV b,.slice p d.length s] (c,b,d) (C0 j k (M0.mono (w.trans aa) l)) _ (Z3 L t)) ?_
   rintro _ ax ⟨ak,rfl,C⟩
   have u:=C.sub
   have X:=C.r
   obtain⟨aN,aO,D,F,aP,rfl,H,O,P,Y,U⟩:=opG X
   cases H
   exact aI t6 (aI u ⟨D,F,rfl,O,P,Y,U⟩)
  obtain⟨ad,K,a⟩:=B0 a
  refine pm (.val (.bool ad)) ?_ ?_
  ·intro ar ab t
   rintro _ ⟨E,G,rfl,Q,S,Z,aB⟩
   exact Tr.val (Z05 _ [iV m,iV o,.slice E f.length G] (m,o,f) (C0 Q S Z) [iV c,iV b,.slice p d.length s] (c,b,d) (C0 j k (M0.mono (w.trans ab) l)) _ (Z3 K t)) r3
  intro au ac
  cases a
  exact aI rfl (w.trans ac)
def T0c(h:Hp)(b:Int)(f:F0 b)(c:Int)(j:F0 c)(d:Int)(g:F0 d)(r:O0)(a:N04 b c d=some r):
  Tr Tryz.prog 123 #[iV b,iV c,iV d] h λv h'=>∃(e:List Value),v = .agg e.toArray/\J1.R h' e r/\Sub h h':=by
 unfold N04 at a
 refine wk Tryz.f123 ?_
 refine ifB a (λi a=>?_) λi a=>?_
 ·cases a
  exact⟨_,rfl,(U1 g (J0 _) f),sr⟩
 ·cases a
  exact⟨_,rfl,(U1 f j g),sr⟩
def m05(h:Hp)(l:Option Addr)(p m:Nat)(e:S0)(s:M0.R h [.slice l p m] e)(o:List Value)(q:O0)(x:J1.R h o q)(r:Int)(b:r6 e q=some r):
  Tr Tryz.prog 122 #[.slice l p m,.agg o.toArray] h λv h'=>v=iV r/\h'=h:=by
 obtain⟨rfl,M⟩:=sL s
 obtain⟨g,i,j,rfl,rfl,E,F,G⟩:=C2 x
 unfold r6 at b
 dsimp only at b
 refine wkF Tryz.f122 ?_
 obtain⟨k,t,b⟩:=B0 b
 refine eX { vars:=[8] } (eX (λvs os h'=>∃ c,vs.tail = [iV c]/\os = []/\Sub h h'/\F0 c/\L2 e g i j (N1 vs) c=some k) (eX (λ_ _=>0) (aI (eX P0 ⟨_,rfl,rfl,sr,(by decide),t⟩) ?_)))
 rintro _ d L ⟨c,⟨⟩,⟨⟩,f,H,a⟩
 replace a:L2 e g i j d c=some k:=a
 obtain _|d:=d
 ·cases a
 rw[L2.eq_2]at a
 refine ifB a (λu a=>?_) λu a=>?_
 ·refine w1 ?_
  refine ld a (M0.mono f s) λN D y a=>?_
  obtain⟨z,A,C,rfl,rfl,I,J,K⟩:=C2 y
  try dsimp only at a
  refine eX (eqE (g,i,j) (z,A,C)) (aI (k0b _ _ _ rfl _ _ _ _ _ _) ?_)
  refine ifB a (λw a=>?_) λw a=>?_
  ·cases a
   try dsimp only[P2,l3]at b
   cases b
   exact aI rfl f
  ·exact V1 d ⟨_,rfl,rfl,f,(J0 _),a⟩
 ·cases a
  try dsimp only[Q0,T0]at b
  cases b
  exact aI rfl f
def u04(h:Hp)(b:Option Addr)(e c:Nat)(f:S0)(i:M0.R h [.slice b e c] f)(d:List Value)(g:O0)(o:J1.R h d g)(r:Bool)(a:i4 f g=some r):
  Tr Tryz.prog 168 #[.slice b e c,.agg d.toArray] h λv h'=>v = .bool r/\h'=h:=by
 obtain⟨rfl,s⟩:=sL i
 obtain⟨t,u,w,rfl,rfl,k,l,m⟩:=C2 o
 unfold i4 at a
 dsimp only at a
 refine wkF Tryz.f168 ?_
 refine trV a (m05 _ _ _ _ _ i _ _ (U1 k l m)) λp a=>?_
 obtain⟨x,j,a⟩:=B0 a
 have q:F0 p:=K0 j
 cases a
 exact aI rfl sr
def N06(h:Hp)(e:Int)(k:F0 e)(f:Nat)(j:TypeId)(c:Int)(l:F0 c)(b:Int)(m:F0 b)(d:h f=some (.cells #[iV c,iV b] j (0,0)))(r:Int)(a:H8 e (c,b)=some r):
  Tr Tryz.prog 215 #[iV e,ptr f 0] h λv h'=>v=iV r/\h'=h:=by
 unfold H8 at a
 dsimp only at a
 refine wkF Tryz.f215 ?_
 refine eX (iV b) (aI ⟨rfl,by simp[Hp.cell,(d)]⟩ ?_)
 refine ifB a (λg a=>?_) λg a=>?_
 ·refine eX (iV c) (aI ⟨rfl,by simp[Hp.cell,(d)]⟩ ?_)
  cases a
  exact aI rfl sr
 ·refine eX (iV b) (aI ⟨rfl,by simp[Hp.cell,(d)]⟩ ?_)
  refine ifB a (λi a=>?_) λi a=>?_
  ·cases a
   exact aI rfl sr
  ·cases a
   exact aI rfl sr
def U0c(h:Hp)(af:List Value)(au:z0)(bi:L1.R h af au)(V:Int)(ai:F0 V)(ac:Option Addr)(ar ad:Nat)(F:H0)(W:I0.R h [.slice ac ar ad] F)(w:Int)(Q:F0 w)(r:z0×Bool)(d:y03 au V F w=some r):
  Tr Tryz.prog 171 #[.agg af.toArray,iV V,.slice ac ar ad,iV w] h λv h'=>∃(ae:List Value),v = .tuple #[.agg ae.toArray,.bool r.2]/\New L1 h h' ae r.1:=by
 obtain⟨ck,cl,bE,bJ,cm,rfl,rfl,s,D,G,b3⟩:=opG bi
 obtain⟨rfl,b5⟩:=sL W
 unfold y03 at d
 dsimp only at d
 refine wk Tryz.f171 ?_
 refine trM d (K8 _ _ _ (C0 s D G)) ?_
 rintro bB d cv bf ⟨bS,ce,bM,rfl,I⟩
 have x:Sub h bf:=I.sub
 have aw:=I.r
 obtain⟨cA,cC,cD⟩:=bB
 dsimp only at d I aw
 obtain⟨_,_,_,_,_,_,aB,aF,al,am,bj⟩:=W0 aw
 cases aB
 cases aF
 obtain⟨rfl,b7⟩:=sL bj
 try dsimp only at d
 have ay:=nD (nD (I))
 refine trV d (A01 _ _ _ (C0 s D (M0.mono x G))) λcG d=>?_
 refine trG d (λq=>N03 _ _ _ (C0 s D (M0.mono x G)) _ ai) λcH d=>?_
 refine trG d (λq=>N03 _ _ _ (C0 s D (M0.mono x G)) _ Q) λcI d=>?_
 refine trG d (λq=>D05 _ _ s _ _ _ _ (I0.mono x W)) λcJ d=>?_
 refine ifB d (λaZ d=>?_) λaZ d=>?_
 ·cases d
  exact⟨_,rfl,(nP (nI al) (nP (nI am) ay))⟩
 ·obtain⟨ab,aU,d⟩:=B0 d
  refine eX { vars:=[11,66],boxes:=[2] } (eX (λvs os h'=>∃ y z A C P U T L H,vs.tail = [iV y,iV z,iV A,iV C,.slice (some ⟨P,U,none⟩) T L]/\os = []/\Sub h h'/\F0 y/\F0 z/\F0 A/\F0 C/\New M0 h h' [.slice (some ⟨P,U,none⟩) T L] H/\I8 F w (N1 vs) y z A C H=some ab) (eX (λ_ _=>0) (aI (eX P0 ⟨_,_,_,_,_,_,_,_,_,rfl,rfl,x,ai,(by decide),al,am,ay,aU⟩) ?_)))
  rintro _ _ _ _ _ t be ⟨y,z,A,C,P,U,T,L,H,⟨⟩,⟨⟩,ax,aj,bW,S,E,X,b⟩
  replace b:I8 F w t y z A C H=some ab:=b
  obtain _|t:=t
  ·cases b
  rw[I8.eq_2]at b
  have av:=X.r
  obtain⟨rfl,b6⟩:=sL av
  refine ifB b (λaX b=>?_) λaX b=>?_
  ·refine ldI b (I0.mono ax W) λcz ak b=>?_
   refine ifB b (λaY b=>?_) λaY b=>?_
   ·refine w5 7 ?_
    obtain⟨bC,aN,b⟩:=B0 b
    obtain⟨g,i,j⟩:=bC
    try dsimp only at b
    refine Or.inr (eX (λv a0=>∃(_:Unit),v = .agg #[iV g,iV i,iV j]/\F0 g/\F0 i/\F0 j) (aI (λv aR aS f q=>by obtain⟨u,e,N,O,f2⟩:=q;exact⟨u,e,N,O,f2⟩) (aI ?_ ?_)))
    ·intro bX cq
     refine Tr.mono (T0c _ _ aj _ ak _ E _ aN) ?_
     rintro _ bh ⟨bK,rfl,bk,f⟩
     obtain⟨cK,cL,cM,rfl,M,a1,a2,a3⟩:=C2 bk
     cases M
     exact aI t6 (aI f ⟨(),rfl,a1,a2,a3⟩)
    obtain⟨J,aO,b⟩:=B0 b
    refine fS M0 J ?_ ?_
    ·intro an cr
     rintro _ ⟨_,rfl,a7,a8,ba⟩
     have aC:[(g,i,j)]=J:=oJ aO
     intro v k hf
     obtain⟨a,c,rfl,r,f,l⟩:=Y0.out (r:=J1.toRp) (xs:=J) hf (show F2 (J1.R an) [[iV g,iV i,iV j]] J from aC▸(show F2 (J1.R an) [[iV g,iV i,iV j]] [(g,i,j)] from⟨(U1 a7 a8 ba),trivial⟩))
     exact aI ⟨rfl,rfl,rfl,[_],rfl⟩ (aI f ⟨a,c,rfl,r,l⟩)
    intro bY bt
    rintro _ ⟨bH,bO,rfl,bp,ca⟩
    rintro _ _
    obtain⟨bv,aG,ag⟩:=Sl.rows (r:=J1.toRp) bp
    refine eX bv (aI aG ?_)
    obtain⟨cn,aL,b⟩:=B0 b
    obtain⟨bz,bn,ap,az⟩:=New.app X bt
    refine eX bz (aI bn (aI (M1 aL (by first|rw[ap,fL ag]|(rw[ap];rfl))) ?_))
    intro cx b1 aV
    obtain⟨Z,bU,ci,cg,bP,rfl⟩:=az _ _ _ _ _ (F3.ofPlain (O09 _) ag) R4.ofPlain aV
    have bq:=Z.r
    obtain⟨aJ,cb⟩:=sL bq
    subst aJ
    exact V1 t ⟨_,_,_,_,_,_,_,_,_,rfl,rfl,Z.sub,E,(J0 _),S,(J0 _),Z,b⟩
   ·refine w5 7 ?_
    obtain⟨bD,aP,b⟩:=B0 b
    obtain⟨m,o,p⟩:=bD
    try dsimp only at b
    refine Or.inr (eX (λv a0=>∃(_:Unit),v = .agg #[iV m,iV o,iV p]/\F0 m/\F0 o/\F0 p) (aI (λv aR aS f q=>by obtain⟨u,e,N,O,f2⟩:=q;exact⟨u,e,N,O,f2⟩) (aI ?_ ?_)))
    ·intro bZ cs
     refine Tr.mono (T0c _ _ aj _ ak _ Q _ aP) ?_
     rintro _ bh ⟨bL,rfl,bl,f⟩
     obtain⟨cN,cO,cP,rfl,M,a4,a5,a6⟩:=C2 bl
     cases M
     exact aI t6 (aI f ⟨(),rfl,a4,a5,a6⟩)
    obtain⟨K,aQ,b⟩:=B0 b
    refine fS M0 K ?_ ?_
    ·intro ao ct
     rintro _ ⟨_,rfl,bb,bc,bd⟩
     have aD:[(m,o,p)]=K:=oJ aQ
     intro v k hf
     obtain⟨a,c,rfl,r,f,l⟩:=Y0.out (r:=J1.toRp) (xs:=K) hf (show F2 (J1.R ao) [[iV m,iV o,iV p]] K from aD▸(show F2 (J1.R ao) [[iV m,iV o,iV p]] [(m,o,p)] from⟨(U1 bb bc bd),trivial⟩))
     exact aI ⟨rfl,rfl,rfl,[_],rfl⟩ (aI f ⟨a,c,rfl,r,l⟩)
    intro b0 bu
    rintro _ ⟨bI,bQ,rfl,br,cc⟩
    rintro _ _
    obtain⟨bx,aH,ah⟩:=Sl.rows (r:=J1.toRp) br
    refine eX bx (aI aH ?_)
    obtain⟨co,aM,b⟩:=B0 b
    obtain⟨bA,bo,aq,aA⟩:=New.app X bu
    refine eX bA (aI bo (aI (M1 aM (by first|rw[aq,fL ah]|(rw[aq];rfl))) ?_))
    intro cy b2 aW
    obtain⟨aa,bV,cj,ch,bR,rfl⟩:=aA _ _ _ _ _ (F3.ofPlain (O09 _) ah) R4.ofPlain aW
    have bs:=aa.r
    obtain⟨aK,cd⟩:=sL bs
    subst aK
    exact V1 t ⟨_,_,_,_,_,_,_,_,_,rfl,rfl,aa.sub,Q,(J0 _),S,E,aa,b⟩
  ·cases b
   try dsimp only[Q0,T0]at d
   refine trM d (q07 _ _ _ _ _ av) ?_
   rintro cE d cw bg ⟨bG,cf,bN,rfl,Y⟩
   have cu:Sub be bg:=Y.sub
   have bm:=Y.r
   obtain⟨rfl,b8⟩:=sL bm
   cases d
   exact⟨_,rfl,(nP (nI S) (nP (nI E) (New.from Y ax)))⟩
def L0i(h:Hp)(b:Int)(d:F0 b)(r:z0×Bool)(a:L05 b=some r):
  Tr Tryz.prog 165 #[iV b] h λv h'=>∃(c:List Value),v = .tuple #[.agg c.toArray,.bool r.2]/\New L1 h h' c r.1:=by
 unfold L05 at a
 refine wk Tryz.f165 ?_
 refine trV a (p6 _ _ d 1 (by decide) 3 (by decide)) λf a=>?_
 refine ifB a (λe a=>?_) λe a=>?_
 ·cases a
  exact⟨_,rfl,(nP (nI (show F0 (0) from(by decide))) (nP (nI (show F0 (0) from(by decide))) ((New.nilSlice (r:=J1)).mono sr)))⟩
 ·cases a
  exact⟨_,rfl,(nP (nI d) (nP (nI (show F0 (1) from(by decide))) ((New.nilSlice (r:=J1)).mono sr)))⟩
def M0i(h:Hp)(f:List Value)(i:z0)(s:L1.R h f i)(c:Option Addr)(g d:Nat)(j:H0)(k:I0.R h [.slice c g d] j)(r:z0×Bool)(a:g04 i j=some r):
  Tr Tryz.prog 127 #[.agg f.toArray,.slice c g d] h λv h'=>∃(e:List Value),v = .tuple #[.agg e.toArray,.bool r.2]/\New L1 h h' e r.1:=by
 obtain⟨H,I,y,A,J,rfl,rfl,l,m,t,E⟩:=opG s
 obtain⟨rfl,F⟩:=sL k
 unfold g04 at a
 dsimp only at a
 refine wk Tryz.f127 ?_
 refine trM a (U0c _ _ _ (C0 l m t) 0 (by decide) _ _ _ _ k 0 (by decide)) ?_
 rintro x a M q ⟨C,rfl,b⟩
 obtain⟨N,S⟩:=x
 dsimp only at a b
 have L:Sub h q:=b.sub
 have u:=b.r
 obtain⟨O,P,z,D,Q,rfl,rfl,o,p,K,G⟩:=opG u
 try dsimp only at a
 have w:=nD (nD (b))
 cases a
 exact⟨_,rfl,(nP (nI o) (nP (nI p) w))⟩
def N0i(h:Hp)(s:Int)(A:F0 s)(x:Option Addr)(D y:Nat)(f:O1)(t:T1.R h [.slice x D y] f)(r:z0×Bool)(b:h04 s f=some r):
  Tr Tryz.prog 115 #[iV s,.slice x D y] h λv h'=>∃(z:List Value),v = .tuple #[.agg z.toArray,.bool r.2]/\New L1 h h' z r.1:=by
 obtain⟨rfl,aj⟩:=sL t
 unfold h04 at b
 refine wk Tryz.f115 ?_
 refine trV b (N07 _ _ A _ _ _ _ t) λau b=>?_
 refine ifB b (λK b=>?_) λK b=>?_
 ·cases b
  exact⟨_,rfl,(nP (nI (show F0 (0) from(by decide))) (nP (nI (show F0 (0) from(by decide))) ((New.nilSlice (r:=J1)).mono sr)))⟩
 ·refine trM b (L0i _ _ A) ?_
  rintro Y b ar C ⟨ae,rfl,k⟩
  obtain⟨aB,aG⟩:=Y
  dsimp only at b k
  have G:Sub h C:=k.sub
  have T:=k.r
  obtain⟨aC,aD,ab,ah,aF,rfl,rfl,N,O,ap,an⟩:=opG T
  try dsimp only at b
  have W:=nD (nD (k))
  obtain⟨w,H,b⟩:=B0 b
  refine eX { vars:=[22],boxes:=[1] } (eX (λvs os h'=>∃ u8 e d l q m i,vs.tail = [iV u8,iV e,iV d,.slice l q m]/\os = []/\Sub C h'/\F0 u8/\F0 e/\F0 d/\New M0 h h' [.slice l q m] i/\T7 f (N1 vs) u8 e d i=some w) (eX (λ_ _=>0) (aI (eX P0 ⟨_,_,_,_,_,_,_,rfl,rfl,sr,(by decide),N,O,W,H⟩) ?_)))
  rintro _ _ _ _ c P ⟨u8,e,d,l,q,m,i,⟨⟩,⟨⟩,g,ai,p,o,u,a⟩
  replace a:T7 f c u8 e d i=some w:=a
  obtain _|c:=c
  ·cases a
  rw[T7.eq_2]at a
  have E:=u.r
  obtain⟨rfl,ak⟩:=sL E
  refine ifB a (λI a=>?_) λI a=>?_
  ·refine ld a (T1.mono (G.trans g) t) λav ac F a=>?_
   obtain⟨Z,af,rfl,al⟩:=slL F
   refine ifB a (λJ a=>?_) λJ a=>?_
   ·refine trM a (M0i _ _ _ (C0 p o E) _ _ _ _ F) ?_
    rintro X a aq Q ⟨ad,rfl,j⟩
    obtain⟨aw,aA⟩:=X
    dsimp only at a j
    have U:Sub P Q:=j.sub
    have S:=j.r
    obtain⟨ax,ay,aa,ag,az,rfl,rfl,L,M,ao,am⟩:=opG S
    try dsimp only at a
    have V:=nD (nD (j))
    exact V1 c ⟨_,_,_,_,_,_,_,rfl,rfl,(g.trans U),(J0 _),L,M,(New.from V (G.trans g)),a⟩
   ·exact V1 c ⟨_,_,_,_,_,_,_,rfl,rfl,g,(J0 _),p,o,u,a⟩
  ·cases a
   try dsimp only[Q0,T0]at b
   cases b
   exact⟨_,rfl,(nP (nI p) (nP (nI o) u))⟩
def d0o(h:Hp)(G:List Value)(J:z0)(ai:L1.R h G J)(r:Y01)(q:B06 J=some r):
  Tr Tryz.prog 214 #[.agg G.toArray] h λv h'=>∃(E:Option Addr) (I F:Nat),v = .slice E I F/\u0n.R h' [.slice E I F] r/\Sub h h':=by
 obtain⟨aL,aM,ap,au,K,rfl,rfl,az,aA,L,aH⟩:=opG ai
 unfold B06 at q
 dsimp only at q
 refine wk Tryz.f214 ?_
 obtain⟨C,X,q⟩:=B0 q
 refine eX { vars:=[12],owns:=[0] } (eX (λvs os h'=>∃ t A y,vs.tail = [iV t]/\os = [A]/\Sub h h'/\F0 t/\F2 (I6.R h') A y/\r01 K (N1 vs) t y=some C) (eX (λ_ _=>0) (aI (eX P0 ⟨_,_,_,rfl,rfl,sr,(by decide),(show F2 (I6.R h) ([]:LV) ([]:Y01) from trivial),X⟩) ?_)))
 rintro _ A u ag ⟨t,aW,y,⟨⟩,⟨⟩,w,aC,H,f⟩
 replace f:r01 K u t y=some C:=f
 obtain _|u:=u
 ·cases f
 rw[r01.eq_2]at f
 refine ifB f (λae f=>?_) λae f=>?_
 ·refine ld f (M0.mono w L) λaU aw ak f=>?_
  obtain⟨d,N,a,rfl,rfl,m,aF,j⟩:=C2 ak
  try dsimp only at f
  obtain⟨O,W,f⟩:=B0 f
  obtain⟨ah,an,P,S⟩:=Sl.cutI (r:=J1.toRp) (M0.mono w L) W
  refine aI ah (eX an (aI P ?_))
  intro ao af _
  obtain⟨aq,ax,rfl,M⟩:=S ao af
  have aJ:=(sL M).2
  obtain⟨D,Y,f⟩:=B0 f
  refine eX { vars:=[23],owns:=[0] } (eX (λvs os h'=>∃ s z x,vs.tail = [iV s]/\os = [z]/\Sub ag h'/\F0 s/\F2 (I6.R h') z x/\M6 O N d a (N1 vs) s x=some D) (eX (λ_ _=>0) (aI (eX P0 ⟨_,_,_,rfl,rfl,sr,(by decide),H,Y⟩) ?_)))
  rintro _ z o k ⟨s,aV,x,⟨⟩,⟨⟩,p,aB,g,c⟩
  replace c:M6 O N d a o s x=some D:=c
  obtain _|o:=o
  ·cases c
  rw[M6.eq_2]at c
  refine ifB c (λZ c=>?_) λZ c=>?_
  ·refine ld c (M0.mono p M) λaR av aj c=>?_
   obtain⟨e,aS,b,rfl,rfl,l,aD,i⟩:=C2 aj
   try dsimp only at c
   refine ifB c (λaa c=>?_) λaa c=>?_
   ·exact V1 o ⟨_,_,_,rfl,rfl,p,(J0 _),g,c⟩
   ·refine ifB c (λab c=>?_) λab c=>?_
    ·obtain⟨aN,T,c⟩:=B0 c
     refine aI (M1 T (by first|rw[fL g,fL (show F2 (I6.R k) ([[iV (if b<a then b else a),iV (if b>a then b else a)]]:LV) [((if b<a then b else a),(if b>a then b else a))] from⟨(D3 (Z00 i j) (Z00 i j)),trivial⟩)]|exact congrArg (·+1) (fL g))) ?_
     refine ifB c (λac c=>?_) λac c=>?_
     ·obtain⟨aO,U,c⟩:=B0 c
      refine aI (M1 U (by first|rw[fL (fA g (show F2 (I6.R k) ([[iV (if b<a then b else a),iV (if b>a then b else a)]]:LV) [((if b<a then b else a),(if b>a then b else a))] from⟨(D3 (Z00 i j) (Z00 i j)),trivial⟩)),fL (show F2 (I6.R k) ([[iV (if e<d then e else d),iV (if e>d then e else d)]]:LV) [((if e<d then e else d),(if e>d then e else d))] from⟨(D3 (Z00 l m) (Z00 l m)),trivial⟩)]|exact congrArg (·+1) (fL (fA g (show F2 (I6.R k) ([[iV (if b<a then b else a),iV (if b>a then b else a)]]:LV) [((if b<a then b else a),(if b>a then b else a))] from⟨(D3 (Z00 i j) (Z00 i j)),trivial⟩))))) ?_
      exact V1 o ⟨_,_,_,rfl,rfl,p,(J0 _),(fA (fA g (show F2 (I6.R k) ([[iV (if b<a then b else a),iV (if b>a then b else a)]]:LV) [((if b<a then b else a),(if b>a then b else a))] from⟨(D3 (Z00 i j) (Z00 i j)),trivial⟩)) (show F2 (I6.R k) ([[iV (if e<d then e else d),iV (if e>d then e else d)]]:LV) [((if e<d then e else d),(if e>d then e else d))] from⟨(D3 (Z00 l m) (Z00 l m)),trivial⟩)),c⟩
     ·exact V1 o ⟨_,_,_,rfl,rfl,p,(J0 _),(fA g (show F2 (I6.R k) ([[iV (if b<a then b else a),iV (if b>a then b else a)]]:LV) [((if b<a then b else a),(if b>a then b else a))] from⟨(D3 (Z00 i j) (Z00 i j)),trivial⟩)),c⟩
    ·refine ifB c (λad c=>?_) λad c=>?_
     ·obtain⟨aP,V,c⟩:=B0 c
      refine aI (M1 V (by first|rw[fL g,fL (show F2 (I6.R k) ([[iV (if e<d then e else d),iV (if e>d then e else d)]]:LV) [((if e<d then e else d),(if e>d then e else d))] from⟨(D3 (Z00 l m) (Z00 l m)),trivial⟩)]|exact congrArg (·+1) (fL g))) ?_
      exact V1 o ⟨_,_,_,rfl,rfl,p,(J0 _),(fA g (show F2 (I6.R k) ([[iV (if e<d then e else d),iV (if e>d then e else d)]]:LV) [((if e<d then e else d),(if e>d then e else d))] from⟨(D3 (Z00 l m) (Z00 l m)),trivial⟩)),c⟩
     ·exact V1 o ⟨_,_,_,rfl,rfl,p,(J0 _),g,c⟩
  ·cases c
   try dsimp only[Q0,T0]at f
   exact V1 u ⟨_,_,_,rfl,rfl,(w.trans p),(J0 _),g,f⟩
 ·cases f
  try dsimp only[Q0,T0]at q
  intro aQ aG Q
  obtain⟨ar,ay,rfl,al,am,aK⟩:=Y0.out (r:=I6.toRp) Q H
  cases q
  exact⟨_,_,_,rfl,al,(w.trans am)⟩
def H0h(h:Hp)(c:List Value)(f:z0)(p:L1.R h c f)(r:K7×Bool)(a:l02 f=some r):
  Tr Tryz.prog 205 #[.agg c.toArray] h λv h'=>∃(b:List Value),v = .tuple #[.agg b.toArray,.bool r.2]/\I6.R h' b r.1/\Sub h h':=by
 obtain⟨D,E,s,u,F,rfl,rfl,d,e,g,z⟩:=opG p
 unfold l02 at a
 dsimp only at a
 refine wk Tryz.f205 ?_
 refine trV a (A01 _ _ _ (C0 d e g)) λH a=>?_
 refine ifB a (λk a=>?_) λk a=>?_
 ·cases a
  exact⟨_,rfl,(D3 (by decide) (by decide)),sr⟩
 ·refine trM a (d0o _ _ _ (C0 d e g)) ?_
  rintro I a G y ⟨t,C,x,rfl,i,j⟩
  obtain⟨rfl,A⟩:=sL i
  refine ifB a (λl a=>?_) λl a=>?_
  ·cases a
   exact⟨_,rfl,(D3 (by decide) (by decide)),j⟩
  ·refine ld a i λJ w q a=>?_
   obtain⟨K,L,rfl,rfl,m,o⟩:=u06 q
   try dsimp only at a
   cases a
   exact⟨_,rfl,(D3 m o),j⟩
def V0c(h:Hp)(C:List Value)(L:z0)(ar:L1.R h C L)(D:List Value)(M:K7)(au:I6.R h D M)(r:z0×Bool)(b:S9 L M=some r):
  Tr Tryz.prog 206 #[.agg C.toArray,.agg D.toArray] h λv h'=>∃(A:List Value),v = .tuple #[.agg A.toArray,.bool r.2]/\New L1 h h' A r.1:=by
 obtain⟨a0,a1,aD,aG,a2,rfl,rfl,F,G,N,aV⟩:=opG ar
 obtain⟨d,f,rfl,rfl,H,I⟩:=u06 au
 unfold S9 at b
 dsimp only at b
 refine wk Tryz.f206 ?_
 refine trM b (K8 _ _ _ (C0 F G N)) ?_
 rintro aC b a8 K ⟨E,aY,U,rfl,k⟩
 have P:Sub h K:=k.sub
 have O:=k.r
 obtain⟨be,bf,y⟩:=aC
 dsimp only at b k O
 obtain⟨_,_,_,_,_,_,V,W,J,ak,aw⟩:=W0 O
 cases V
 cases W
 obtain⟨rfl,aW⟩:=sL aw
 try dsimp only at b
 have w:=nD (nD (k))
 refine trV b (A01 _ _ _ (C0 F G (M0.mono P N))) λbl b=>?_
 refine ifB b (λae b=>?_) λae b=>?_
 ·cases b
  exact⟨_,rfl,(nP (nI J) (nP (nI ak) w))⟩
 ·intro c p
  have X:(Hp.set K c (.cells #[iV d,iV f] 148 (0,0))) c=some (.cells #[iV d,iV f] 148 (0,0)):=Hp.set_same _ _ _
  have aq:c≠E:=λe=>New.blk w sr (e▸p)
  obtain⟨z,ac,b⟩:=B0 b
  refine eX { vars:=[39] } (eX (λvs os h'=>∃ g j,vs.tail = [iV g]/\os = []/\Sub h h'/\F0 g/\New M0 h h' [.slice (some ⟨E,0,none⟩) y.length U] j/\h' c=some (.cells #[iV d,iV f] 148 (0,0))/\O5 y d f (N1 vs) g j=some z) (eX (λ_ _=>0) (aI (eX P0 ⟨_,_,rfl,rfl,(P.trans (Sub.set p)),(by decide),(New.mono w (Sub.set p)),X,ac⟩) ?_)))
  rintro _ i am ⟨g,j,⟨⟩,⟨⟩,aB,aM,Q,q,a⟩
  replace a:O5 y d f i g j=some z:=a
  obtain _|i:=i
  ·cases a
  rw[O5.eq_2]at a
  have s:=Q.r
  refine ifB a (λad a=>?_) λad a=>?_
  ·refine ld a s λbb aH av a=>?_
   obtain⟨bc,S,bd,rfl,rfl,ag,ah,ai⟩:=C2 av
   try dsimp only at a
   refine w5 14 ?_
   obtain⟨l,aa,a⟩:=B0 a
   obtain⟨a3,Y,a⟩:=B0 a
   have aj:F0 l:=K0 Y
   refine pm (.val (iV l)) ?_ ?_
   ·intro aQ az
    exact Tr.val (N06 _ _ ag c 148 _ H _ I (az _ _ q) _ aa) r3
   obtain⟨m,ab,a⟩:=B0 a
   obtain⟨a4,Z,a⟩:=B0 a
   have al:F0 m:=K0 Z
   refine pm (.val (iV m)) ?_ ?_
   ·intro aR aA
    exact Tr.val (N06 _ _ ai c 148 _ H _ I (aA _ _ q) _ ab) r3
   refine pm (.agg [.val (iV l),.val (iV S),.val (iV m)]) ?_ ?_
   ·intro aS a6
    exact r3
   intro aU t
   obtain⟨bg,o,a⟩:=B0 a
   obtain⟨T,aJ,aL,ax⟩:=Sl.getI (r:=J1.toRp) (M0.mono t s) o (by decide)
   refine aI T ?_
   obtain⟨bh,bi,bj,rfl,rfl,aN,aO,aP⟩:=C2 ax
   try dsimp only at a
   refine New.put (r:=J1) Q t (m0x o).1 (new:=[iV l,iV S,iV m]) (By:=[]) (O09 _ _ _ (U1 aj ah al)) (R4.nil _) rfl (m0x o).2 ?_
   intro an u ap _
   have a5:=u.r
   have af:an c=some (.cells #[iV d,iV f] 148 (0,0)):=(ap c aq).trans (t _ _ q)
   exact V1 i ⟨_,_,rfl,rfl,u.sub,(J0 _),u,(af),a⟩
  ·cases a
   try dsimp only[Q0,T0]at b
   refine trM b (q07 _ _ _ _ _ s) ?_
   rintro bk b ba ao ⟨aF,aZ,aK,rfl,x⟩
   have a7:Sub am ao:=x.sub
   have ay:=x.r
   obtain⟨rfl,aX⟩:=sL ay
   cases b
   exact⟨_,rfl,(nP (nI J) (nP (nI (J0 _)) (New.from x aB)))⟩
def O0i(h:Hp)(k:List Value)(p:z0)(E:L1.R h k p)(r:z0×K7×Bool)(a:i04 p=some r):
  Tr Tryz.prog 192 #[.agg k.toArray] h λv h'=>∃(i:List Value) (j:List Value),v = .tuple #[.agg i.toArray,.agg j.toArray,.bool r.2.2]/\New L1 h h' i r.1/\I6.R h' j r.2.1:=by
 obtain⟨Z,aa,M,O,ab,rfl,rfl,e,f,g,V⟩:=opG E
 unfold i04 at a
 dsimp only at a
 refine wk Tryz.f192 ?_
 refine trM a (H0h _ _ _ (C0 e f g)) ?_
 rintro J a ag o ⟨P,rfl,q,b⟩
 obtain⟨ai,al⟩:=J
 dsimp only at a q
 obtain⟨aj,ak,rfl,rfl,l,m⟩:=u06 q
 try dsimp only at a
 refine ifB a (λw a=>?_) λw a=>?_
 ·refine trM a (K8 _ _ _ (C0 e f (M0.mono b g))) ?_
  rintro K a ah D ⟨U,Y,S,rfl,c⟩
  have ad:Sub o D:=c.sub
  have s:=c.r
  obtain⟨am,an,ao⟩:=K
  dsimp only at a c s
  obtain⟨_,_,_,_,_,_,t,u,x,y,F⟩:=W0 s
  cases t
  cases u
  obtain⟨rfl,W⟩:=sL F
  try dsimp only at a
  have I:=nD (nD (c))
  cases a
  exact⟨_,_,rfl,(nP (nI x) (nP (nI y) (New.from I b))),(D3 (by decide) (by decide))⟩
 ·refine trM a (V0c _ _ _ (C0 e f (M0.mono b g)) _ _ (D3 l m)) ?_
  rintro L a af C ⟨Q,rfl,d⟩
  obtain⟨ap,av⟩:=L
  dsimp only at a d
  have ae:Sub o C:=d.sub
  have G:=d.r
  obtain⟨aq,ar,N,T,au,rfl,rfl,z,A,ac,X⟩:=opG G
  try dsimp only at a
  have H:=nD (nD (d))
  refine w3 ?_
  refine aI ?_ trivial
  refine aI (by first|exact trivial|exact rfl) ?_
  refine aI ?_ trivial
  refine aI (by first|exact trivial|exact rfl) ?_
  cases a
  exact⟨_,_,rfl,(nP (nI z) (nP (nI A) (New.from H b))),(D3 l m)⟩
def X0k(h:Hp)(A:List Value)(H:z0)(ab:L1.R h A H)(r:z0×Y01)(b:O04 H=some r):
  Tr Tryz.prog 166 #[.agg A.toArray] h λv h'=>∃(z:List Value) (x:Option Addr) (G y:Nat),v = .tuple #[.agg z.toArray,.slice x G y]/\New L1 h h' z r.1/\u0n.R h' [.slice x G y] r.2:=by
 obtain⟨aG,aH,am,ap,aJ,rfl,rfl,U,V,ac,az⟩:=opG ab
 unfold O04 at b
 dsimp only at b
 refine wk Tryz.f166 ?_
 refine trM b (K8 _ _ _ (C0 U V ac)) ?_
 rintro ak b aO s ⟨ax,aF,av,rfl,j⟩
 have ag:Sub h s:=j.sub
 have J:=j.r
 obtain⟨aW,aX,aY⟩:=ak
 dsimp only at b j J
 obtain⟨_,_,_,_,_,_,N,O,Y,Z,ae⟩:=W0 J
 cases N
 cases O
 obtain⟨rfl,aC⟩:=sL ae
 try dsimp only at b
 have aj:=nD (nD (j))
 obtain⟨w,S,b⟩:=B0 b
 refine eX { vars:=[],boxes:=[2],owns:=[0] } (eX (λvs os h'=>∃ d e o t p u8 u i,vs.tail = [iV d,iV e,.slice o t p]/\os = [u]/\Sub s h'/\F0 d/\F0 e/\New M0 h h' [.slice o t p] u8/\F2 (I6.R h') u i/\T9 (N1 vs) d e u8 i=some w) (eX (λ_ _=>0) (aI (eX P0 ⟨_,_,_,_,_,_,_,_,rfl,rfl,sr,Y,Z,aj,(show F2 (I6.R s) ([]:LV) ([]:Y01) from trivial),S⟩) ?_)))
 rintro _ _ _ u g aa ⟨d,e,o,t,p,u8,aZ,i,⟨⟩,⟨⟩,L,C,D,M,f,a⟩
 replace a:T9 g d e u8 i=some w:=a
 obtain _|g:=g
 ·cases a
 rw[T9.eq_2]at a
 have I:=M.r
 obtain⟨rfl,aA⟩:=sL I
 refine trM a (O0i _ _ _ (C0 C D I)) ?_
 rintro al a aM q ⟨aq,ar,rfl,k,K⟩
 obtain⟨aP,aU,aV⟩:=al
 dsimp only at a k K
 have c:Sub aa q:=k.sub
 have ad:=k.r
 obtain⟨aQ,aR,an,au,aS,rfl,rfl,W,X,aL,aB⟩:=opG ad
 try dsimp only at a
 have ai:=nD (nD (k))
 obtain⟨l,m,rfl,rfl,E,F⟩:=u06 K
 try dsimp only at a
 refine ifB a (λT a=>?_) λT a=>?_
 ·intro aN ay P
  obtain⟨ao,aw,rfl,af,ah,aD⟩:=Y0.out (r:=I6.toRp) P (F2.up (r:=I6.toRp) c f)
  cases a
  try dsimp only[P2,l3]at b
  cases b
  exact⟨_,_,_,_,rfl,(nP (nI C) (nP (nI D) (New.mono M (c.trans ah)))),af⟩
 ·obtain⟨aK,Q,a⟩:=B0 a
  refine aI (M1 Q (by first|rw[fL (F2.up (r:=I6.toRp) c f),fL (show F2 (I6.R q) ([[iV l,iV m]]:LV) [(l,m)] from⟨(D3 E F),trivial⟩)]|exact congrArg (·+1) (fL (F2.up (r:=I6.toRp) c f)))) ?_
  exact V1 g ⟨_,_,_,_,_,_,_,_,rfl,rfl,(L.trans c),W,X,(New.from ai (ag.trans L)),(fA (F2.up (r:=I6.toRp) c f) (show F2 (I6.R q) ([[iV l,iV m]]:LV) [(l,m)] from⟨(D3 E F),trivial⟩)),a⟩
def I0h(h:Hp)(d:List Value)(i:z0)(t:L1.R h d i)(r:z0×Bool)(a:z03 i=some r):
  Tr Tryz.prog 173 #[.agg d.toArray] h λv h'=>∃(c:List Value),v = .tuple #[.agg c.toArray,.bool r.2]/\New L1 h h' c r.1:=by
 obtain⟨G,H,y,z,I,rfl,rfl,e,f,j,D⟩:=opG t
 unfold z03 at a
 dsimp only at a
 refine wk Tryz.f173 ?_
 refine trM a (K8 _ _ _ (C0 e f j)) ?_
 rintro x a J s ⟨C,F,A,rfl,b⟩
 have w:Sub h s:=b.sub
 have k:=b.r
 obtain⟨K,L,M⟩:=x
 dsimp only at a b k
 obtain⟨_,_,_,_,_,_,m,o,g,q,u⟩:=W0 k
 cases m
 cases o
 obtain⟨rfl,E⟩:=sL u
 try dsimp only at a
 have l:=nD (nD (b))
 refine trV a (A01 _ _ _ (C0 e f (M0.mono w j))) λN a=>?_
 refine ifB a (λp a=>?_) λp a=>?_
 ·cases a
  exact⟨_,rfl,(nP (nI g) (nP (nI q) l))⟩
 ·cases a
  exact⟨_,rfl,(nP (nI g) (nP (nI (J0 _)) l))⟩
def K0d(h:Hp)(E:List Value)(J:z0)(Z:L1.R h E J)(r:S0)(c:v00 J=some r):
  Tr Tryz.prog 176 #[.agg E.toArray] h λv h'=>∃(C:Option Addr) (I D:Nat),v = .slice C I D/\M0.R h' [.slice C I D] r/\Sub h h':=by
 obtain⟨j,k,af,aj,l,rfl,rfl,q,G,K,au⟩:=opG Z
 unfold v00 at c
 dsimp only at c
 refine wk Tryz.f176 ?_
 refine trV c (T02 _ _ _ (C0 q G K)) λaF c=>?_
 refine ifB c (λV c=>?_) λV c=>?_
 ·intro aC ar O
  obtain⟨ai,am,rfl,ab,ad,ax⟩:=Y0.out (r:=J1.toRp) O (show F2 (J1.R h) ([]:LV) ([]:S0) from trivial)
  cases c
  exact⟨_,_,_,rfl,ab,ad⟩
 ·obtain⟨A,T,c⟩:=B0 c
  refine eX { vars:=[4],owns:=[0] } (eX (λvs os h'=>∃ u8 y o,vs.tail = [iV u8]/\os = [y]/\Sub h h'/\F0 u8/\F2 (J1.R h') y o/\B6 k j l (N1 vs) u8 o=some A) (eX (λ_ _=>0) (aI (eX P0 ⟨_,_,_,rfl,rfl,sr,(by decide),(show F2 (J1.R h) ([]:LV) ([]:S0) from trivial),T⟩) ?_)))
  rintro _ y i ap ⟨u8,aH,o,⟨⟩,⟨⟩,u,s,F,b⟩
  replace b:B6 k j l i u8 o=some A:=b
  obtain _|i:=i
  ·cases b
  rw[B6.eq_2]at b
  refine ifB b (λU b=>?_) λU b=>?_
  ·refine trM b (R0c _ _ q) ?_
   rintro M b aB Y ⟨ag,ay,ak,rfl,L,w⟩
   obtain⟨rfl,av⟩:=sL L
   obtain⟨z,S,b⟩:=B0 b
   refine eX { vars:=[22],owns:=[0] } (eX (λvs os h'=>∃ g x m,vs.tail = [iV g]/\os = [x]/\Sub Y h'/\F0 g/\F2 (J1.R h') x m/\M4 M j k l u8 (N1 vs) g m=some z) (eX (λ_ _=>0) (aI (eX P0 ⟨_,_,_,rfl,rfl,sr,(by decide),(F2.up (r:=J1.toRp) w F),S⟩) ?_)))
   rintro _ x e H ⟨g,aG,m,⟨⟩,⟨⟩,f,an,d,a⟩
   replace a:M4 M j k l u8 e g m=some z:=a
   obtain _|e:=e
   ·cases a
   rw[M4.eq_2]at a
   refine ifB a (λW a=>?_) λW a=>?_
   ·refine ldI a (I0.mono f L) λp t a=>?_
    refine trV a (C04 _ _ _ (C0 q G (M0.mono ((u.trans w).trans f) K)) _ s _ t) λae a=>?_
    obtain⟨az,P,a⟩:=B0 a
    have ao:F0 ae:=K0 P
    refine ifB a (λX a=>?_) λX a=>?_
    ·obtain⟨aA,Q,a⟩:=B0 a
     refine aI (M1 Q (by first|rw[fL d,fL (show F2 (J1.R H) ([[iV u8,iV p,iV (-1)]]:LV) [(u8,p,(-1))] from⟨(U1 s t (by decide)),trivial⟩)]|exact congrArg (·+1) (fL d))) ?_
     exact V1 e ⟨_,_,_,rfl,rfl,f,(J0 _),(fA d (show F2 (J1.R H) ([[iV u8,iV p,iV (-1)]]:LV) [(u8,p,(-1))] from⟨(U1 s t (by decide)),trivial⟩)),a⟩
    ·exact V1 e ⟨_,_,_,rfl,rfl,f,(J0 _),d,a⟩
   ·cases a
    try dsimp only[Q0,T0]at b
    exact V1 i ⟨_,_,_,rfl,rfl,((u.trans w).trans f),(J0 _),d,b⟩
  ·cases b
   try dsimp only[Q0,T0]at c
   intro aD aq N
   obtain⟨ah,al,rfl,aa,ac,aw⟩:=Y0.out (r:=J1.toRp) N F
   cases c
   exact⟨_,_,_,rfl,aa,(u.trans ac)⟩
def G0a(h:Hp)(f:List Value)(j:z0)(y:L1.R h f j)(r:z0)(a:U9 j=some r):
  Tr Tryz.prog 116 #[.agg f.toArray] h λv h'=>∃(e:List Value),v = .agg e.toArray/\New L1 h h' e r:=by
 obtain⟨aj,ak,L,S,al,rfl,rfl,m,o,z,ab⟩:=opG y
 unfold U9 at a
 dsimp only at a
 refine wk Tryz.f116 ?_
 refine trM a (X0k _ _ _ (C0 m o z)) ?_
 rintro J a ap g ⟨T,N,ah,X,rfl,b,k⟩
 obtain⟨av,az⟩:=J
 dsimp only at a b k
 have G:Sub h g:=b.sub
 have A:=b.r
 obtain⟨aw,ax,M,W,ay,rfl,rfl,p,q,C,ac⟩:=opG A
 try dsimp only at a
 have ar:=nD (nD (b))
 obtain⟨rfl,ad⟩:=sL k
 refine trM a (F0a _ _ _ (C0 p q C)) ?_
 rintro K a aq i ⟨U,P,ai,Z,rfl,c,l⟩
 obtain⟨aA,aF⟩:=K
 dsimp only at a c l
 have H:Sub g i:=c.sub
 have D:=c.r
 obtain⟨aB,aC,O,Y,aD,rfl,rfl,s,t,E,ae⟩:=opG D
 try dsimp only at a
 have au:=nD (nD (c))
 obtain⟨rfl,af⟩:=sL l
 refine trM a (Y06 _ _ _ (C0 s t E)) ?_
 rintro aG a ao x ⟨V,rfl,d⟩
 have an:Sub i x:=d.sub
 have F:=d.r
 obtain⟨aH,aJ,Q,aa,aK,rfl,rfl,u,w,am,ag⟩:=opG F
 try dsimp only at a
 have I:=nD (nD (d))
 cases a
 exact⟨_,rfl,(nP (nI u) (nP (nI w) (New.from I (G.trans H))))⟩
def W08(h:Hp)(d:List Value)(f:z0)(p:L1.R h d f)(b:Option Addr)(e c:Nat)(g:H0)(i:I0.R h [.slice b e c] g)(r:Bool)(a:R00 f g=some r):
  Tr Tryz.prog 141 #[.agg d.toArray,.slice b e c] h λv h'=>v = .bool r/\h'=h:=by
 obtain⟨D,E,w,x,F,rfl,rfl,m,o,q,A⟩:=opG p
 obtain⟨rfl,C⟩:=sL i
 unfold R00 at a
 dsimp only at a
 refine wkF Tryz.f141 ?_
 obtain⟨s,l,a⟩:=B0 a
 obtain⟨t,u⟩:=s
 try dsimp only at a
 refine Tr.val (y09 _ _ _ (C0 m o q) 0 (by decide) _ _ _ _ i _  l) ?_
 obtain⟨G,j,a⟩:=B0 a
 have y:F0 t:=K0 j
 obtain⟨H,k,a⟩:=B0 a
 have z:F0 u:=K0 k
 cases a
 exact aI rfl sr
def W0c(h:Hp)(d:List Value)(g:z0)(q:L1.R h d g)(r:Bool)(a:u01 g=some r):
  Tr Tryz.prog 131 #[.agg d.toArray] h λv h'=>v = .bool r/\h'=h:=by
 obtain⟨N,O,y,A,P,rfl,rfl,e,f,i,K⟩:=opG q
 unfold u01 at a
 dsimp only at a
 refine wkF Tryz.f131 ?_
 refine aI (by kernel_rfl) ?_
 obtain⟨x,m,a⟩:=B0 a
 refine pm (.val (.bool x)) ?_ ?_
 ·intro G t
  exact Tr.val (g02 _ _ _ (C0 e f (M0.mono t i)) _ m) r3
 obtain⟨c,o,a⟩:=B0 a
 refine fS M0 c ?_ ?_
 ·intro H u b
  refine Tr.mono (K0d _ _ _ (C0 e f (M0.mono u i)) _ (Z3 o b)) ?_
  rintro _ J ⟨k,M,l,rfl,j,w⟩
  obtain⟨rfl,p⟩:=sL j
  exact aI t6 (aI w ⟨k,l,rfl,j,p⟩)
 obtain⟨Q,D,a⟩:=B0 a
 refine pm (.val (iV ((c.length:Nat):Int))) ?_ ?_
 ·intro I U b
  rintro _ ⟨z,C,rfl,S,L⟩
  exact r3
 refine pm (.val (.bool (decide (((c.length:Nat):Int)=0)))) ?_ ?_
 ·intro E T b
  exact r3
 intro F s
 cases a
 exact aI rfl s
def P0i(h:Hp)(w:List Value)(C:z0)(Y:L1.R h w C)(d:Int)(x:F0 d)(r:z0×Bool)(a:B00 C d=some r):
  Tr Tryz.prog 130 #[.agg w.toArray,iV d] h λv h'=>∃(u:List Value),v = .tuple #[.agg u.toArray,.bool r.2]/\New L1 h h' u r.1:=by
 obtain⟨aC,D,ai,am,aD,rfl,rfl,g,i,j,aw⟩:=opG Y
 unfold B00 at a
 dsimp only at a
 refine wk Tryz.f130 ?_
 refine trV a (T02 _ _ _ (C0 g i j)) λaP a=>?_
 refine trG a (λq=>N03 _ _ _ (C0 g i j) _ x) λaQ a=>?_
 refine ifB a (λN a=>?_) λN a=>?_
 ·refine trM a (K8 _ _ _ (C0 g i j)) ?_
  rintro ah a aN X ⟨av,aB,ar,rfl,m⟩
  have aJ:Sub h X:=m.sub
  have E:=m.r
  obtain⟨a0,a1,a2⟩:=ah
  dsimp only at a m E
  obtain⟨_,_,_,_,_,_,G,H,T,U,ac⟩:=W0 E
  cases G
  cases H
  obtain⟨rfl,az⟩:=sL ac
  try dsimp only at a
  have ag:=nD (nD (m))
  cases a
  exact⟨_,rfl,(nP (nI T) (nP (nI U) ag))⟩
 ·obtain⟨t,K,a⟩:=B0 a
  refine eX { vars:=[7],owns:=[0] } (eX (λvs os h'=>∃ c o l,vs.tail = [iV c]/\os = [o]/\Sub h h'/\F0 c/\F2 (Wp.int.R h') o l/\i9 D d (N1 vs) c l=some t) (eX (λ_ _=>0) (aI (eX P0 ⟨_,_,_,rfl,rfl,sr,(by decide),(show F2 (Wp.int.R h) ([[iV d]]:LV) [d] from⟨⟨rfl,x⟩,trivial⟩),K⟩) ?_)))
  rintro _ o f z ⟨c,a3,l,⟨⟩,⟨⟩,k,y,e,b⟩
  replace b:i9 D d f c l=some t:=b
  obtain _|f:=f
  ·cases b
  rw[i9.eq_2]at b
  refine ifB b (λL b=>?_) λL b=>?_
  ·refine ifB b (λM b=>?_) λM b=>?_
   ·obtain⟨aF,J,b⟩:=B0 b
    refine aI (M1 J (by first|rw[fL e,fL (show F2 (Wp.int.R z) ([[iV c]]:LV) [c] from⟨⟨rfl,y⟩,trivial⟩)]|exact congrArg (·+1) (fL e))) ?_
    exact V1 f ⟨_,_,_,rfl,rfl,k,(J0 _),(fA e (show F2 (Wp.int.R z) ([[iV c]]:LV) [c] from⟨⟨rfl,y⟩,trivial⟩)),b⟩
   ·exact V1 f ⟨_,_,_,rfl,rfl,k,(J0 _),e,b⟩
  ·cases b
   try dsimp only[Q0,T0]at a
   refine Or.inl ?_
   intro aK V I
   obtain⟨al,au,rfl,ad,F,aA⟩:=Y0.out (r:=Wp.int.toRp) I e
   refine trM a (S0c _ _ _ (C0 g i (M0.mono (k.trans F) j)) _ _ _ _ ad) ?_
   rintro aR a aL A ⟨an,rfl,p⟩
   have ae:Sub V A:=p.sub
   have Z:=p.r
   obtain⟨aS,aU,aj,ap,aV,rfl,rfl,O,P,aa,ax⟩:=opG Z
   try dsimp only at a
   have aO:=nD (nD (p))
   refine trM a (G0a _ _ _ (C0 O P aa)) ?_
   rintro aW a aM W ⟨ao,rfl,s⟩
   have aH:Sub A W:=s.sub
   have ab:=s.r
   obtain⟨aX,aY,ak,aq,aZ,rfl,rfl,Q,S,aG,ay⟩:=opG ab
   try dsimp only at a
   have af:=nD (nD (s))
   cases a
   exact⟨_,rfl,(nP (nI Q) (nP (nI S) (New.from af ((k.trans F).trans ae))))⟩
set_option maxHeartbeats 0
def J0h(h:Hp)(x:List Value)(H:z0)(ag:L1.R h x H)(r:S0)(b:C03 H=some r):
  Tr Tryz.prog 167 #[.agg x.toArray] h λv h'=>∃(u:Option Addr) (G w:Nat),v = .slice u G w/\New M0 h h' [.slice u G w] r:=by
 obtain⟨I,J,aq,az,K,rfl,rfl,y,z,L,aM⟩:=opG ag
 unfold C03 at b
 dsimp only at b
 refine wk Tryz.f167 ?_
 refine trM b (M06 _ _ _ (C0 y z L) 0 (by decide)) ?_
 rintro an b a3 ac ⟨au,aU,aD,av,aV,aF,rfl,m,o,p⟩
 obtain⟨a7,O⟩:=an
 dsimp only at b m o
 obtain⟨rfl,aO⟩:=sL m
 obtain⟨rfl,aP⟩:=sL o
 obtain⟨P,W,b⟩:=B0 b
 obtain⟨af,al,Q,T⟩:=Sl.cutI (r:=Wp.int.toRp) m W
 refine aI af (eX al (aI Q ?_))
 intro am Z _
 obtain⟨ax,aH,rfl,N⟩:=T am Z
 have aR:=(sL N).2
 obtain⟨t,X,b⟩:=B0 b
 refine eX { vars:=[20],owns:=[0] } (eX (λvs os h'=>∃ d q i,vs.tail = [iV d]/\os = [q]/\Sub ac h'/\F0 d/\F2 (J1.R h') q i/\o8 P O I J K (N1 vs) d i=some t) (eX (λ_ _=>0) (aI (eX P0 ⟨_,_,_,rfl,rfl,sr,(by decide),(F2.up (r:=J1.toRp) p (show F2 (J1.R h) ([]:LV) ([]:S0) from trivial)),X⟩) ?_)))
 rintro _ q f aL ⟨d,ba,i,⟨⟩,⟨⟩,c,aK,e,a⟩
 replace a:o8 P O I J K f d i=some t:=a
 obtain _|f:=f
 ·cases a
 rw[o8.eq_2]at a
 refine ifB a (λY a=>?_) λY a=>?_
 ·refine ldI a (I0.mono c N) λa4 A a=>?_
  refine ld a (T1.mono c o) λa5 aA M a=>?_
  obtain⟨ar,aC,rfl,aN⟩:=slL M
  refine ldI a M λao aa a=>?_
  refine trV a (C04 _ _ _ (C0 y z (M0.mono (p.trans c) L)) _ A (i64.wrap (0-ao)) (J0 _)) λap a=>?_
  obtain⟨aX,U,a⟩:=B0 a
  have ab:F0 ap:=K0 U
  refine trM a (T0c _ _ ab _ aa _ A) ?_
  rintro a6 a a0 F ⟨aB,rfl,ah,g⟩
  obtain⟨j,k,l,rfl,rfl,C,D,E⟩:=C2 ah
  try dsimp only at a
  obtain⟨aY,V,a⟩:=B0 a
  refine aI (M1 V (by first|rw[fL (F2.up (r:=J1.toRp) g e),fL (show F2 (J1.R F) ([[iV j,iV k,iV l]]:LV) [(j,k,l)] from⟨(U1 C D E),trivial⟩)]|exact congrArg (·+1) (fL (F2.up (r:=J1.toRp) g e)))) ?_
  exact V1 f ⟨_,_,_,rfl,rfl,(c.trans g),(J0 _),(fA (F2.up (r:=J1.toRp) g e) (show F2 (J1.R F) ([[iV j,iV k,iV l]]:LV) [(j,k,l)] from⟨(U1 C D E),trivial⟩)),a⟩
 ·cases a
  try dsimp only[Q0,T0]at b
  refine Or.inl ?_
  intro a1 ad S
  obtain⟨ay,aJ,rfl,aj,ak,aS⟩:=Y0.out (r:=J1.toRp) S e
  refine trM b (q07 _ _ _ _ _ aj) ?_
  rintro a8 b a2 ae ⟨aw,aW,aG,rfl,s⟩
  have aZ:Sub ad ae:=s.sub
  have ai:=s.r
  obtain⟨rfl,aQ⟩:=sL ai
  cases b
  exact⟨_,_,_,rfl,(New.from s ((p.trans c).trans ak))⟩
def A0g(h:Hp)(x:List Value)(G:z0)(Q:L1.R h x G)(r:S0)(b:b03 G=some r):
  Tr Tryz.prog 119 #[.agg x.toArray] h λv h'=>∃(u:Option Addr) (F w:Nat),v = .slice u F w/\New M0 h h' [.slice u F w] r:=by
 obtain⟨ak,al,T,X,H,rfl,rfl,A,C,p,af⟩:=opG Q
 unfold b03 at b
 dsimp only at b
 refine wk Tryz.f119 ?_
 refine trV b (T02 _ _ _ (C0 A C p)) λaw b=>?_
 refine ifB b (λP b=>?_) λP b=>?_
 ·intro au ae z
  obtain⟨W,ab,rfl,ao,aq,ai⟩:=Y0.out (r:=J1.toRp) z (show F2 (J1.R h) ([]:LV) ([]:S0) from trivial)
  cases b
  exact⟨_,_,_,rfl,(Y0.newPlain (r:=J1) z (show F2 (J1.R h) ([]:LV) ([]:S0) from trivial) (O09 _))⟩
 ·refine trM b (J0h _ _ _ (C0 A C p)) ?_
  rintro K b av E ⟨U,aj,Z,rfl,J⟩
  have q:Sub h E:=J.sub
  have I:=J.r
  obtain⟨rfl,ag⟩:=sL I
  obtain⟨t,M,b⟩:=B0 b
  refine eX { vars:=[17],owns:=[0] } (eX (λvs os h'=>∃ f s g,vs.tail = [iV f]/\os = [s]/\Sub E h'/\F0 f/\F2 (J1.R h') s g/\E6 H K (N1 vs) f g=some t) (eX (λ_ _=>0) (aI (eX P0 ⟨_,_,_,rfl,rfl,sr,(by decide),(F2.up (r:=J1.toRp) q (show F2 (J1.R h) ([]:LV) ([]:S0) from trivial)),M⟩) ?_)))
  rintro _ s d D ⟨f,az,g,⟨⟩,⟨⟩,e,ac,c,a⟩
  replace a:E6 H K d f g=some t:=a
  obtain _|d:=d
  ·cases a
  rw[E6.eq_2]at a
  refine ifB a (λN a=>?_) λN a=>?_
  ·refine ld a (M0.mono (q.trans e) p) λax Y S a=>?_
   obtain⟨i,j,k,rfl,rfl,l,m,o⟩:=C2 S
   try dsimp only at a
   refine trV a (u04 _ _ _ _ _ (M0.mono e I) _ _ (U1 l m o)) λay a=>?_
   refine ifB a (λO a=>?_) λO a=>?_
   ·obtain⟨am,L,a⟩:=B0 a
    refine aI (M1 L (by first|rw[fL c,fL (show F2 (J1.R D) ([[iV i,iV j,iV k]]:LV) [(i,j,k)] from⟨(U1 l m o),trivial⟩)]|exact congrArg (·+1) (fL c))) ?_
    exact V1 d ⟨_,_,_,rfl,rfl,e,(J0 _),(fA c (show F2 (J1.R D) ([[iV i,iV j,iV k]]:LV) [(i,j,k)] from⟨(U1 l m o),trivial⟩)),a⟩
   ·exact V1 d ⟨_,_,_,rfl,rfl,e,(J0 _),c,a⟩
  ·cases a
   try dsimp only[Q0,T0]at b
   intro ar ad y
   obtain⟨V,aa,rfl,an,ap,ah⟩:=Y0.out (r:=J1.toRp) y c
   cases b
   exact⟨_,_,_,rfl,(New.from (Y0.newPlain (r:=J1) y c (O09 _)) (q.trans e))⟩
def Y0k(h:Hp)(Q:List Value)(ac:z0)(aY:L1.R h Q ac)(r:O1)(d:Q04 ac=some r):
  Tr Tryz.prog 66 #[.agg Q.toArray] h λv h'=>∃(K:Option Addr) (ab P:Nat),v = .slice K ab P/\T1.R h' [.slice K ab P] r/\Sub h h':=by
 obtain⟨cb,cc,bj,bq,cd,rfl,rfl,E,F,G,bQ⟩:=opG aY
 unfold Q04 at d
 dsimp only at d
 refine wk Tryz.f66 ?_
 refine trV d (g02 _ _ _ (C0 E F G)) λco d=>?_
 refine ifB d (λaR d=>?_) λaR d=>?_
 ·intro cl bM aD
  obtain⟨bp,bB,rfl,a6,bd,b3⟩:=Y0.out (r:=I0.toRp) aD (show F2 (I0.R h) ([]:LV) ([]:O1) from trivial)
  cases d
  exact⟨_,_,_,rfl,a6,bd⟩
 ·refine trM d (M06 _ _ _ (C0 E F G) 0 (by decide)) ?_
  rintro bi d cn aU ⟨bl,b8,bv,L,ca,S,rfl,ai,s,H⟩
  obtain⟨cr,A⟩:=bi
  dsimp only at d ai s
  obtain⟨rfl,bV⟩:=sL ai
  obtain⟨rfl,bW⟩:=sL s
  refine trM d (A0g _ _ _ (C0 E F (M0.mono H G))) ?_
  rintro am d ck X ⟨bk,b5,bu,rfl,aj⟩
  have u:Sub aU X:=aj.sub
  have ad:=aj.r
  obtain⟨rfl,bR⟩:=sL ad
  obtain⟨J,aP,d⟩:=B0 d
  refine eX { vars:=[21],owns:=[0] } (eX (λvs os h'=>∃ i I w,vs.tail = [iV i]/\os = [I]/\Sub X h'/\F0 i/\F2 (I0.R h') I w/\W9 am A (N1 vs) i w=some J) (eX (λ_ _=>0) (aI (eX P0 ⟨_,_,_,rfl,rfl,sr,(by decide),(F2.up (r:=I0.toRp) (H.trans u) (show F2 (I0.R h) ([]:LV) ([]:O1) from trivial)),aP⟩) ?_)))
  rintro _ I q bG ⟨i,cs,w,⟨⟩,⟨⟩,g,bC,p,b⟩
  replace b:W9 am A q i w=some J:=b
  obtain _|q:=q
  ·cases b
  rw[W9.eq_2]at b
  refine ifB b (λaQ b=>?_) λaQ b=>?_
  ·refine ld b (M0.mono g ad) λcq br aZ b=>?_
   obtain⟨bf,x,bg,rfl,rfl,bD,aS,bE⟩:=C2 aZ
   try dsimp only at b
   refine w5 18 ?_
   obtain⟨j,aH,b⟩:=B0 b
   obtain⟨aq,bs,ax,ae⟩:=Sl.getI (r:=I0.toRp) (T1.mono (u.trans g) s) aH (by decide)
   obtain⟨C,D,rfl,bS⟩:=slL ae
   refine pm (.hel (.slice L A.length S) bf 1 0) ?_ ?_
   ·intro bH cf
    exact aI aq r3
   refine pm (.val (.slice C j.length D)) ?_ ?_
   ·intro bI a7
    exact eX _ (aI (O8.up a7 ax) r3)
   obtain⟨f,aJ,b⟩:=B0 b
   refine fS I0 f ?_ ?_
   ·intro Y cg
    have ay:[x]=f:=oJ aJ
    intro v k hf
    obtain⟨a,c,rfl,r,e,l⟩:=Y0.out (r:=Wp.int.toRp) (xs:=f) hf (show F2 (Wp.int.R Y) [[iV x]] f from ay▸(show F2 (Wp.int.R Y) [[iV x]] [x] from⟨⟨rfl,aS⟩,trivial⟩))
    exact aI ⟨rfl,rfl,rfl,[_],rfl⟩ (aI e ⟨a,c,rfl,r,l⟩)
   obtain⟨bh,aK,b⟩:=B0 b
   obtain⟨ar,bt,az,af⟩:=Sl.getI (r:=I0.toRp) (T1.mono (u.trans g) s) aK (by decide)
   obtain⟨an,au,rfl,bU⟩:=slL af
   refine pm (.hel (.slice L A.length S) bg 1 0) ?_ ?_
   ·intro bJ ch
    exact aI ar r3
   refine pm (.val (.slice an bh.length au)) ?_ ?_
   ·intro bK a8
    exact eX _ (aI (O8.up a8 az) r3)
   obtain⟨m,aL,b⟩:=B0 b
   refine fS I0 m ?_ ?_
   ·intro bL ba
    refine Tr.mono (I06 _ _ _ _ _ (I0.mono ba af) _ aL) ?_
    rintro _ aV ⟨ao,b6,av,rfl,ak⟩
    have e:=ak.sub
    have ag:=ak.r
    obtain⟨rfl,aW⟩:=sL ag
    exact aI t6 (aI e ⟨ao,av,rfl,ag,aW⟩)
   obtain⟨y,aM,b⟩:=B0 b
   refine fS T1 y ?_ ?_
   ·intro Z bb
    rintro _ ⟨M,T,rfl,a0,bX⟩
    rintro _ ⟨N,U,rfl,a1,bY⟩
    have aA:[j,f,m]=y:=oJ aM
    intro v k hf
    obtain⟨a,c,rfl,r,e,l⟩:=Y0.out (r:=I0.toRp) (xs:=y) hf (show F2 (I0.R Z) [[.slice C j.length D],[.slice M f.length T],[.slice N m.length U]] y from aA▸(show F2 (I0.R Z) [[.slice C j.length D],[.slice M f.length T],[.slice N m.length U]] [j,f,m] from⟨(I0.mono bb ae),⟨a0,⟨a1,trivial⟩⟩⟩))
    exact aI ⟨rfl,rfl,rfl,[_],rfl⟩ (aI e ⟨a,c,rfl,r,l⟩)
   obtain⟨o,aN,b⟩:=B0 b
   refine fS I0 o ?_ ?_
   ·intro bN ci
    rintro _ ⟨bm,bx,rfl,a2,bZ⟩
    refine Tr.mono (T08 _ _ _ _ _ a2 _ aN) ?_
    rintro _ aV ⟨ap,b7,aw,rfl,al⟩
    have e:=al.sub
    have ah:=al.r
    obtain⟨rfl,aX⟩:=sL ah
    exact aI t6 (aI e ⟨ap,aw,rfl,ah,aX⟩)
   obtain⟨z,aO,b⟩:=B0 b
   refine fS T1 z ?_ ?_
   ·intro aa cj
    rintro _ ⟨O,V,rfl,a3,b0⟩
    have aB:[o]=z:=oJ aO
    intro v k hf
    obtain⟨a,c,rfl,r,e,l⟩:=Y0.out (r:=I0.toRp) (xs:=z) hf (show F2 (I0.R aa) [[.slice O o.length V]] z from aB▸(show F2 (I0.R aa) [[.slice O o.length V]] [o] from⟨a3,trivial⟩))
    exact aI ⟨rfl,rfl,rfl,[_],rfl⟩ (aI e ⟨a,c,rfl,r,l⟩)
   intro bO t
   rintro _ ⟨bn,bz,rfl,a4,b1⟩
   rintro _ _
   rintro _ _
   rintro _ _
   rintro _ _
   obtain⟨be,aC,W⟩:=Sl.rows (r:=I0.toRp) a4
   refine eX be (aI aC ?_)
   obtain⟨ce,aG,b⟩:=B0 b
   refine aI (M1 aG (by first|rw[fL (F2.up (r:=I0.toRp) t p),fL W]|exact congrArg (·+1) (fL (F2.up (r:=I0.toRp) t p)))) ?_
   exact V1 q ⟨_,_,_,rfl,rfl,(g.trans t),(J0 _),(fA (F2.up (r:=I0.toRp) t p) W),b⟩
  ·cases b
   try dsimp only[Q0,T0]at d
   intro cm bP aF
   obtain⟨bo,bA,rfl,a5,bc,b2⟩:=Y0.out (r:=I0.toRp) aF p
   cases d
   exact⟨_,_,_,rfl,a5,(((H.trans u).trans g).trans bc)⟩
def b0f(h:Hp)(k:List Value)(p:z0)(M:L1.R h k p)(i:Option Addr)(o j:Nat)(f:O1)(w:T1.R h [.slice i o j] f)(r:Bool)(b:S00 p f=some r):
  Tr Tryz.prog 67 #[.agg k.toArray,.slice i o j] h λv h'=>v = .bool r/\h'=h:=by
 obtain⟨q,s,T,X,t,rfl,rfl,l,m,u,aj⟩:=opG M
 obtain⟨rfl,ak⟩:=sL w
 unfold S00 at b
 dsimp only at b
 refine wkF Tryz.f67 ?_
 refine trV b (g02 _ _ _ (C0 l m u)) λar b=>?_
 refine ifB b (λI b=>?_) λI b=>?_
 ·cases b
  exact aI rfl sr
 ·obtain⟨g,H,b⟩:=B0 b
  refine eX { vars:=[12] } (eX (λvs os h'=>∃ d,vs.tail = [iV d]/\os = []/\Sub h h'/\F0 d/\l7 f q s t (N1 vs) d=some g) (eX (λ_ _=>0) (aI (eX P0 ⟨_,rfl,rfl,sr,(by decide),H⟩) ?_)))
  rintro _ e ah ⟨d,⟨⟩,⟨⟩,c,ac,a⟩
  replace a:l7 f q s t e d=some g:=a
  obtain _|e:=e
  ·cases a
  rw[l7.eq_2]at a
  refine ifB a (λK a=>?_) λK a=>?_
  ·refine ld a (T1.mono c w) λau Y x a=>?_
   obtain⟨U,Z,rfl,al⟩:=slL x
   refine w4 ?_
   obtain⟨S,G,a⟩:=B0 a
   refine fS I0 S ?_ ?_
   ·intro ad O
    refine Tr.mono (K07 _ _ _ _ _ (I0.mono O x) _ G) ?_
    rintro _ ai ⟨D,ao,E,rfl,A⟩
    have Q:=A.sub
    have y:=A.r
    obtain⟨rfl,L⟩:=sL y
    exact aI t6 (aI Q ⟨D,E,rfl,y,L⟩)
   obtain⟨C,F,a⟩:=B0 a
   refine pm (.val (.bool C)) ?_ ?_
   ·intro ae P
    rintro _ ⟨V,aa,rfl,N,am⟩
    exact Tr.val (W08 _ _ _ (C0 l m (M0.mono (c.trans P) u)) _ _ _ _ N _ F) r3
   refine pm (.val (.bool (!C))) ?_ ?_
   ·intro af aq
    exact r3
   intro ag z
   rintro _ ⟨W,ab,rfl,ap,an⟩
   refine ifB a (λJ a=>?_) λJ a=>?_
   ·cases a
    try dsimp only[P2,l3]at b
    cases b
    exact aI rfl (c.trans z)
   ·exact V1 e ⟨_,rfl,rfl,(c.trans z),(J0 _),a⟩
  ·cases a
   try dsimp only[Q0,T0]at b
   cases b
   exact aI rfl c
def Y5(h:Hp)(b:Nat)(c:Value)(f:TypeId)(e:List Int)(g:Int×Int)(d:x00 h b c e g)(i:Int)(T:F0 i)(r:Int×(Int×Int))(a:Q3 e g i=some r):
  Tr Tryz.prog 91 #[ptr b 0,iV i] (h.set b (o06 c g f)) λv h'=>v=iV r.1/\x00 h b c e r.2/\h'=h.set b (o06 c r.2 f):=by
 unfold Q3 at a
 refine Tr.forgetC (E4 (args:=[ptr b 0,iV i]) (fn:=Tryz.f91) rfl ?_)
 refine ifB a (λE a=>?_) λE a=>?_
 ·cases a
  exact⟨rfl,d.back d,Sub.setB d.no sr⟩
 ·refine ifB a (λF a=>?_) λF a=>?_
  ·obtain⟨O,C,a⟩:=B0 a
   obtain⟨P,ah⟩:=O
   try dsimp only at a
   refine Tr.mono (F05 _ b c f e g d _ C) ?_
   rintro _ _ ⟨rfl,o,rfl⟩
   obtain⟨ae,w,a⟩:=B0 a
   have X:F0 P:=K0 w
   obtain⟨af,x,a⟩:=B0 a
   refine aI (K0 x) ?_
   cases a
   exact⟨rfl,d.back o,Sub.setB d.no sr⟩
  ·obtain⟨Q,D,a⟩:=B0 a
   obtain⟨R,S⟩:=Q
   try dsimp only at a
   refine Tr.mono (F05 _ b c f e g d _ D) ?_
   rintro _ _ ⟨rfl,j,rfl⟩
   obtain⟨Z,p,a⟩:=B0 a
   have Y:F0 R:=K0 p
   obtain⟨G,y,a⟩:=B0 a
   obtain⟨H,I⟩:=G
   try dsimp only at a
   refine Tr.mono (F05 _ b c f e S j _ y) ?_
   rintro _ _ ⟨rfl,k,rfl⟩
   obtain⟨aa,q,a⟩:=B0 a
   have U:F0 H:=K0 q
   obtain⟨J,z,a⟩:=B0 a
   obtain⟨K,L⟩:=J
   try dsimp only at a
   refine Tr.mono (F05 _ b c f e I k _ z) ?_
   rintro _ _ ⟨rfl,l,rfl⟩
   obtain⟨ab,s,a⟩:=B0 a
   have V:F0 K:=K0 s
   obtain⟨M,A,a⟩:=B0 a
   obtain⟨N,ag⟩:=M
   try dsimp only at a
   refine Tr.mono (F05 _ b c f e L l _ A) ?_
   rintro _ _ ⟨rfl,m,rfl⟩
   obtain⟨ac,t,a⟩:=B0 a
   have W:F0 N:=K0 t
   obtain⟨ad,u,a⟩:=B0 a
   refine aI (K0 u) ?_
   cases a
   exact⟨rfl,d.back m,Sub.setB d.no sr⟩
def h02(h:Hp)(b:Nat)(c:Value)(i:TypeId)(d:List Int)(e:Int×Int)(g:x00 h b c d e)(f:Int)(m:F0 f)(r:Bool×(Int×Int))(a:z8 d e f=some r):
  Tr Tryz.prog 89 #[ptr b 0,iV f] (h.set b (o06 c e i)) λv h'=>v = .bool r.1/\x00 h b c d r.2/\h'=h.set b (o06 c r.2 i):=by
 unfold z8 at a
 refine Tr.forgetC (E4 (args:=[ptr b 0,iV f]) (fn:=Tryz.f89) rfl ?_)
 obtain⟨o,l,a⟩:=B0 a
 obtain⟨p,t⟩:=o
 try dsimp only at a
 refine Tr.mono (Y5 _ b c i d e g _ m _ l) ?_
 rintro _ _ ⟨rfl,j,rfl⟩
 obtain⟨s,k,a⟩:=B0 a
 have q:F0 p:=K0 k
 cases a
 exact⟨rfl,g.back j,Sub.setB g.no sr⟩
def H0a(h:Hp)(b:Nat)(c:Value)(k:TypeId)(d:List Int)(e:Int×Int)(g:x00 h b c d e)(f:Option Addr)(m i:Nat)(j:H0)(o:I0.R h [.slice f m i] j)(r:Int×(Int×Int))(a:r03 d e j=some r):
  Tr Tryz.prog 111 #[ptr b 0,.slice f m i] (h.set b (o06 c e k)) λv h'=>v=iV r.1/\x00 h b c d r.2/\h'=h.set b (o06 c r.2 k):=by
 obtain⟨rfl,w⟩:=sL o
 unfold r03 at a
 refine Tr.forgetC (E4 (args:=[ptr b 0,.slice f j.length i]) (fn:=Tryz.f111) rfl ?_)
 obtain⟨y,t,a⟩:=B0 a
 obtain⟨z,F⟩:=y
 try dsimp only at a
 refine Tr.mono (Y5 _ b c k d e g _ (g0s w) _ t) ?_
 rintro _ _ ⟨rfl,l,rfl⟩
 obtain⟨E,s,a⟩:=B0 a
 have C:F0 z:=K0 s
 obtain⟨G,u,a⟩:=B0 a
 obtain⟨p,A,q,x⟩:=Sl.getI (r:=Wp.int.toRp) o u (by decide)
 refine aI p ?_
 obtain⟨rfl,D⟩:=x
 refine eX _ (aI (O8.up (Sub.set l.no) q) ?_)
 cases a
 exact⟨rfl,g.back l,Sub.setB g.no sr⟩
end Go.Proofs.YtcpjomkcdlggaaaGreat
