/- The walks of batch ml2. -/
import Derived.Test.YtkjhghloldgioaaGreatPart20
import Derived.Test.YtkjhghloldgioaaGreatChecked
import Derived.Test.YtkjhghloldgioaaGreatH35
import Derived.Test.YtkjhghloldgioaaGreatPart28
import Derived.Test.YtkjhghloldgioaaGreatPart30
namespace Go.Proofs.YtkjhghloldgioaaGreat
open Go.H
set_option linter.unusedVariables false
set_option linter.unusedSimpArgs false
set_option maxRecDepth 10000
set_option maxHeartbeats 0
theorem Z04(h:Hp)(g:List Value)(i:j0)(o:V0.R h g i)(r:Int)(a:S8 i=some r):
  Tr Tryz.prog 164 #[.agg g.toArray] h λv l=>v = .int .i64 r/\l=h:=by
 obtain⟨b,c,e,t,f,d,rfl,rfl,m,n,j⟩:=H0 o
 obtain⟨rfl,s⟩:=Sl.len j
 unfold S8 at a
 dsimp only at a
 refine Tr.forget (I3 (args:=[.agg #[.int .i64 b,.int .i64 c,.slice e d.length f]]) (fn:=Tryz.f164) rfl ?_)
 refine trV a (h09 _ [.int .i64 b,.int .i64 c,.slice e d.length f] (b,c,d) (l0 m n j)) λp a=>?_
 obtain⟨u,k,a⟩:=B0 a
 have q:I0 p:=N0 k
 obtain rfl:=oJ a
 exact aI rfl (Sub.refl _)
theorem g08(h:Hp)(aS:List Value)(bb:j0)(cy:V0.R h aS bb)(aT:List Value)(bc:j0)(cz:V0.R h aT bc)(r:Int)(d:C6 bb bc=some r):
  Tr Tryz.prog 260 #[.agg aS.toArray,.agg aT.toArray] h λv g=>v = .int .i64 r/\g=h:=by
 obtain⟨s,t,ad,dG,ae,u,rfl,rfl,av,aw,ak⟩:=H0 cy
 obtain⟨rfl,dz⟩:=Sl.len ak
 obtain⟨z,A,ap,dH,aq,C,rfl,rfl,aF,aG,aD⟩:=H0 cz
 obtain⟨rfl,dA⟩:=Sl.len aD
 unfold C6 at d
 dsimp only at d
 refine Tr.forget (I3 (args:=[.agg #[.int .i64 s,.int .i64 t,.slice ad u.length ae],.agg #[.int .i64 z,.int .i64 A,.slice ap C.length aq]]) (fn:=Tryz.f260) rfl ?_)
 refine trV d (Y0c _ [.int .i64 s,.int .i64 t,.slice ad u.length ae] (s,t,u) (l0 av aw ak) [.int .i64 z,.int .i64 A,.slice ap C.length aq] (z,A,C) (l0 aF aG aD)) λd3 d=>?_
 refine ifB d (λcb d=>?_) λcb d=>?_
 ·obtain rfl:=oJ d
  exact aI rfl (Sub.refl _)
 ·refine trV d (m06 _ [.int .i64 s,.int .i64 t,.slice ad u.length ae] (s,t,u) (l0 av aw ak)) λee d=>?_
  refine ifB d (λcf d=>?_) λcf d=>?_
  ·refine trV d (m06 _ [.int .i64 z,.int .i64 A,.slice ap C.length aq] (z,A,C) (l0 aF aG aD)) λeg d=>?_
   refine ifB d (λcj d=>?_) λcj d=>?_
   ·obtain rfl:=oJ d
    exact aI rfl (Sub.refl _)
   ·obtain rfl:=oJ d
    exact aI rfl (Sub.refl _)
  ·refine trM d (N09 _ [.int .i64 z,.int .i64 A,.slice ap C.length aq] (z,A,C) (l0 aF aG aD)) ?_
   rintro cR d d2 cv ⟨c4,bm,dM,bv,rfl,bf,aK,am⟩
   obtain⟨ej,bl⟩:=cR
   dsimp only at d bf aK
   obtain⟨m,n,aR,dL,aV,o,rfl,rfl,a4,ba,aJ⟩:=H0 bf
   obtain⟨rfl,dE⟩:=Sl.len aJ
   try dsimp only at d
   obtain⟨rfl,dF⟩:=Sl.len aK
   obtain⟨cN,bR,d⟩:=B0 d
   obtain⟨bg,cO⟩:=cN
   try dsimp only at d
   refine Tr.val (v05 _ [.int .i64 s,.int .i64 t,.slice ad u.length ae] (s,t,u) (l0 av aw (S0.mono am ak)) 0 (by decide) bm bl.length bv bl aK _  bR) ?_
   obtain⟨dN,bI,d⟩:=B0 d
   have co:I0 bg:=N0 bI
   obtain⟨dO,bJ,d⟩:=B0 d
   have dn:I0 cO:=N0 bJ
   refine trM d (f07 _ [.int .i64 s,.int .i64 t,.slice ad u.length ae] (s,t,u) (l0 av aw (S0.mono am ak)) bg co) ?_
   rintro cP d dY ay ⟨cV,rfl,aL⟩
   obtain⟨ea,eb⟩:=cP
   dsimp only at d aL
   have al:Sub cv ay:=aL.sub
   have cA:=aL.r
   obtain⟨i,f,aQ,dI,aU,l,rfl,rfl,ax,aY,aH⟩:=H0 cA
   obtain⟨rfl,dB⟩:=Sl.len aH
   try dsimp only at d
   obtain⟨dP,bK,d⟩:=B0 d
   refine aI (N0 bK) ?_
   obtain⟨cw,bG,d⟩:=B0 d
   obtain rfl:(List.replicate f.toNat ([.int .i64 0]:List Value)).length=cw:=(F2.length (F2.rep (p:=Wp.int.R ay) (a:=[.int .i64 0]) (b:=0) ⟨rfl,(by decide)⟩ (f.toNat))).trans (oJ bG)
   obtain⟨dQ,dg,d⟩:=B0 d
   obtain⟨aM,b6,d⟩:=B0 d
   refine eX { vars:=[51],boxes:=[],owns:=[0],fuel:=true,kept:=[0] } (eX (λvs os g=>∃ x an S,vs.tail = [.int .i64 x]/\os = [an]/\Sub ay g/\I0 x/\F2 (Wp.int.R g) an S/\N6 ((List.replicate f.toNat ([.int .i64 0]:List Value))).length (J1 vs) x S=some aM) (eX (λ_ _=>0) (aI (eX U0 ⟨0,(List.replicate f.toNat ([.int .i64 0]:List Value)),(List.replicate f.toNat (0:Int)),rfl,rfl,(Sub.refl _),(by decide),(F2.rep (p:=Wp.int.R ay) (a:=[.int .i64 0]) (b:=0) ⟨rfl,(by decide)⟩ (f.toNat)),b6⟩) ?_)))
   rintro _ an aC az ⟨x,em,S,⟨⟩,⟨⟩,y,di,ar,e⟩
   replace e:N6 ((List.replicate f.toNat ([.int .i64 0]:List Value))).length aC x S=some aM:=e
   obtain _|aC:=aC
   ·cases e
   rw[N6.eq_2]at e
   refine ifB e (λcc e=>?_) λcc e=>?_
   ·obtain⟨ec,bS,e⟩:=B0 e
    obtain⟨bn,cW,bx,cC⟩:=V1 ar bS
    refine aI bn ?_
    obtain⟨rfl,dq⟩:=cC
    refine eX _ (aI bx ?_)
    exact O2 aC ⟨(IntKind.i64.wrap (x+1)),(an.set x.toNat [.int .i64 (-1)]),(S.set x.toNat (-1)),rfl,rfl,y,(J0 _),(F2.set (p:=Wp.int.R az) (a:=[.int .i64 (-1)]) (b:=(-1)) ⟨rfl,(by decide)⟩ x.toNat ar),e⟩
   ·obtain rfl:=oJ e
    try dsimp only[W0,Y0]at d
    obtain⟨ed,bT,d⟩:=B0 d
    obtain⟨bo,cX,bz,cD⟩:=V1 ar bT
    refine aI bo ?_
    obtain⟨rfl,ds⟩:=cD
    refine eX _ (aI bz ?_)
    obtain⟨aN,b7,d⟩:=B0 d
    refine eX { vars:=[14,15],boxes:=[],owns:=[0,1],fuel:=true,kept:=[0] } (eX (λvs os g=>∃ F G ao T V U,vs.tail = [.int .i64 F,.int .i64 G]/\os = [ao,V]/\Sub az g/\I0 F/\I0 G/\F2 (Wp.int.R g) ao T/\F2 (Wp.int.R g) V U/\M6 i f l m n o (J1 vs) F G T U=some aN) (eX (λ_ _=>0) (aI (eX U0 ⟨0,0,(an.set (0:Int).toNat [.int .i64 0]),(S.set (0:Int).toNat 0),([[.int .i64 0]]:List (List Value)),[0],rfl,rfl,(Sub.refl _),(by decide),(by decide),(F2.set (p:=Wp.int.R az) (a:=[.int .i64 0]) (b:=0) ⟨rfl,(by decide)⟩ (0:Int).toNat ar),(show F2 (Wp.int.R az) ([[.int .i64 0]]:List (List Value)) [0] from⟨⟨rfl,(by decide)⟩,trivial⟩),b7⟩) ?_)))
    rintro _ _ ao V ah dy ⟨F,G,en,T,eo,U,⟨⟩,⟨⟩,w,cn,dj,aE,au,e⟩
    replace e:M6 i f l m n o ah F G T U=some aN:=e
    obtain _|ah:=ah
    ·cases e
    rw[M6.eq_2]at e
    obtain⟨cx,bH,e⟩:=B0 e
    obtain rfl:V.length=cx:=(F2.length au).trans (oJ bH)
    obtain⟨dR,dh,e⟩:=B0 e
    refine ifB e (λcd e=>?_) λcd e=>?_
    ·obtain⟨aa,bU,e⟩:=B0 e
     obtain⟨bp,cY,bA,cE⟩:=V1 au bU
     refine aI bp ?_
     obtain⟨rfl,aZ⟩:=cE
     refine eX _ (aI bA ?_)
     obtain⟨ef,bV,e⟩:=B0 e
     obtain⟨bq,cZ,bB,cG⟩:=V1 aE bV
     refine aI bq ?_
     obtain⟨rfl,dt⟩:=cG
     refine eX _ (aI bB ?_)
     refine ifB e (λce e=>?_) λce e=>?_
     ·refine trM e (W01 _ i ax) ?_
      rintro bh e dZ ct ⟨cT,dJ,dd,rfl,bd,P⟩
      obtain⟨rfl,dC⟩:=Sl.len bd
      obtain⟨aO,b8,e⟩:=B0 e
      refine eX { vars:=[82],boxes:=[],owns:=[0,1],fuel:=true,kept:=[0] } (eX (λvs os g=>∃ H W I X J,vs.tail = [.int .i64 H]/\os = [W,X]/\Sub ct g/\I0 H/\F2 (Wp.int.R g) W I/\F2 (Wp.int.R g) X J/\w4 bh i f l aa m n o (J1 vs) H I J=some aO) (eX (λ_ _=>0) (aI (eX U0 ⟨0,ao,T,V,U,rfl,rfl,(Sub.refl _),(by decide),(F2.up (r:=Wp.int.toRp) P aE),(F2.up (r:=Wp.int.toRp) P au),b8⟩) ?_)))
      rintro _ W X ai aA ⟨H,ep,I,eq,J,⟨⟩,⟨⟩,D,dk,N,af,c⟩
      replace c:w4 bh i f l aa m n o ai H I J=some aO:=c
      obtain _|ai:=ai
      ·cases c
      rw[w4.eq_2]at c
      refine ifB c (λcg c=>?_) λcg c=>?_
      ·refine ldI c (K1.mono D bd) λbi a0 c=>?_
       refine Or.inl (aI (aI (by kernel_rfl) (by kernel_rfl)) ?_)
       obtain⟨j,bW,c⟩:=B0 c
       refine eX (.int .i64 j) (aI (B4 _ [.int .i64 i,.int .i64 f,.slice aQ l.length aU] (i,f,l) (l0 ax aY (S0.mono (((y.trans w).trans P).trans D) aH)) aa aZ bi a0 _  bW) ?_)
       obtain⟨dS,bL,c⟩:=B0 c
       have a1:I0 j:=N0 bL
       obtain⟨cQ,bX,c⟩:=B0 c
       obtain⟨br,c0,bC,cH⟩:=V1 N bX
       refine aI br ?_
       obtain⟨rfl,cp⟩:=cH
       refine eX _ (aI bC ?_)
       obtain⟨ab,bY,c⟩:=B0 c
       refine eX (.int .i64 ab) (aI (B4 _ [.int .i64 m,.int .i64 n,.slice aR o.length aV] (m,n,o) (l0 a4 ba (S0.mono ((((al.trans y).trans w).trans P).trans D) aJ)) cQ cp bi a0 _  bY) ?_)
       obtain⟨dT,bM,c⟩:=B0 c
       have cq:I0 ab:=N0 bM
       refine ifB c (λch c=>?_) λch c=>?_
       ·obtain rfl:=oJ c
        try dsimp only[l4,C4]at e
        obtain rfl:=oJ e
        try dsimp only[l4,C4]at d
        obtain rfl:=oJ d
        exact aI rfl (((((am.trans al).trans y).trans w).trans P).trans D)
       ·obtain⟨eh,bZ,c⟩:=B0 c
        obtain⟨c1,aW,cI⟩:=n02 N bZ (c0e aA)
        refine aI (λq=>(aW q).1) ?_
        obtain⟨rfl,du⟩:=cI
        refine eX _ (aI (λq=>(aW q).2) ?_)
        refine ifB c (λci c=>?_) λci c=>?_
        ·obtain⟨ei,b0,c⟩:=B0 c
         obtain⟨bs,c2,bD,cJ⟩:=V1 N b0
         refine aI bs ?_
         obtain⟨rfl,dv⟩:=cJ
         refine eX _ (aI bD ?_)
         obtain⟨dU,bN,c⟩:=B0 c
         refine aI (Y1 bN (by first|rw[F2.length af,F2.length (show F2 (Wp.int.R aA) ([[.int .i64 j]]:List (List Value)) [j] from⟨⟨rfl,a1⟩,trivial⟩)]|exact congrArg (·+1) (F2.length af))) ?_
         exact O2 ai ⟨(IntKind.i64.wrap (H+1)),(W.set j.toNat [.int .i64 ab]),(I.set j.toNat ab),(X++([[.int .i64 j]]:List (List Value))),(J ++ [j]),rfl,rfl,D,(J0 _),(F2.set (p:=Wp.int.R aA) (a:=[.int .i64 ab]) (b:=ab) ⟨rfl,cq⟩ j.toNat N),(F2.append af (show F2 (Wp.int.R aA) ([[.int .i64 j]]:List (List Value)) [j] from⟨⟨rfl,a1⟩,trivial⟩)),c⟩
        ·exact O2 ai ⟨(IntKind.i64.wrap (H+1)),W,I,X,J,rfl,rfl,D,(J0 _),N,af,c⟩
      ·obtain rfl:=oJ c
       try dsimp only[W0,Y0]at e
       exact O2 ah ⟨(IntKind.i64.wrap (F+1)),(IntKind.i64.wrap (G+1)),W,I,X,J,rfl,rfl,((w.trans P).trans D),(J0 _),(J0 _),N,af,e⟩
     ·refine trM e (W01 _ i ax) ?_
      rintro bj e d1 cu ⟨cU,dK,df,rfl,be,Q⟩
      obtain⟨rfl,dD⟩:=Sl.len be
      obtain⟨aP,ca,e⟩:=B0 e
      refine eX { vars:=[82],boxes:=[],owns:=[0,1],fuel:=true,kept:=[0] } (eX (λvs os g=>∃ K Y L Z M,vs.tail = [.int .i64 K]/\os = [Y,Z]/\Sub cu g/\I0 K/\F2 (Wp.int.R g) Y L/\F2 (Wp.int.R g) Z M/\w4 bj i f l aa m n o (J1 vs) K L M=some aP) (eX (λ_ _=>0) (aI (eX U0 ⟨0,ao,T,V,U,rfl,rfl,(Sub.refl _),(by decide),(F2.up (r:=Wp.int.toRp) Q aE),(F2.up (r:=Wp.int.toRp) Q au),ca⟩) ?_)))
      rintro _ Y Z aj aB ⟨K,er,L,es,M,⟨⟩,⟨⟩,E,dm,O,ag,c⟩
      replace c:w4 bj i f l aa m n o aj K L M=some aP:=c
      obtain _|aj:=aj
      ·cases c
      rw[w4.eq_2]at c
      refine ifB c (λck c=>?_) λck c=>?_
      ·refine ldI c (K1.mono E be) λbk a2 c=>?_
       refine Or.inl (aI (aI (by kernel_rfl) (by kernel_rfl)) ?_)
       obtain⟨k,b1,c⟩:=B0 c
       refine eX (.int .i64 k) (aI (B4 _ [.int .i64 i,.int .i64 f,.slice aQ l.length aU] (i,f,l) (l0 ax aY (S0.mono (((y.trans w).trans Q).trans E) aH)) aa aZ bk a2 _  b1) ?_)
       obtain⟨dV,bO,c⟩:=B0 c
       have a3:I0 k:=N0 bO
       obtain⟨cS,b2,c⟩:=B0 c
       obtain⟨bt,c3,bE,cK⟩:=V1 O b2
       refine aI bt ?_
       obtain⟨rfl,cr⟩:=cK
       refine eX _ (aI bE ?_)
       obtain⟨ac,b3,c⟩:=B0 c
       refine eX (.int .i64 ac) (aI (B4 _ [.int .i64 m,.int .i64 n,.slice aR o.length aV] (m,n,o) (l0 a4 ba (S0.mono ((((al.trans y).trans w).trans Q).trans E) aJ)) cS cr bk a2 _  b3) ?_)
       obtain⟨dW,bP,c⟩:=B0 c
       have cs:I0 ac:=N0 bP
       refine ifB c (λcl c=>?_) λcl c=>?_
       ·obtain rfl:=oJ c
        try dsimp only[l4,C4]at e
        obtain rfl:=oJ e
        try dsimp only[l4,C4]at d
        obtain rfl:=oJ d
        exact aI rfl (((((am.trans al).trans y).trans w).trans Q).trans E)
       ·obtain⟨ek,b4,c⟩:=B0 c
        obtain⟨db,aX,cL⟩:=n02 O b4 (c0e aB)
        refine aI (λq=>(aX q).1) ?_
        obtain⟨rfl,dw⟩:=cL
        refine eX _ (aI (λq=>(aX q).2) ?_)
        refine ifB c (λcm c=>?_) λcm c=>?_
        ·obtain⟨el,b5,c⟩:=B0 c
         obtain⟨bu,dc,bF,cM⟩:=V1 O b5
         refine aI bu ?_
         obtain⟨rfl,dx⟩:=cM
         refine eX _ (aI bF ?_)
         obtain⟨dX,bQ,c⟩:=B0 c
         refine aI (Y1 bQ (by first|rw[F2.length ag,F2.length (show F2 (Wp.int.R aB) ([[.int .i64 k]]:List (List Value)) [k] from⟨⟨rfl,a3⟩,trivial⟩)]|exact congrArg (·+1) (F2.length ag))) ?_
         exact O2 aj ⟨(IntKind.i64.wrap (K+1)),(Y.set k.toNat [.int .i64 ac]),(L.set k.toNat ac),(Z++([[.int .i64 k]]:List (List Value))),(M ++ [k]),rfl,rfl,E,(J0 _),(F2.set (p:=Wp.int.R aB) (a:=[.int .i64 ac]) (b:=ac) ⟨rfl,cs⟩ k.toNat O),(F2.append ag (show F2 (Wp.int.R aB) ([[.int .i64 k]]:List (List Value)) [k] from⟨⟨rfl,a3⟩,trivial⟩)),c⟩
        ·exact O2 aj ⟨(IntKind.i64.wrap (K+1)),Y,L,Z,M,rfl,rfl,E,(J0 _),O,ag,c⟩
      ·obtain rfl:=oJ c
       try dsimp only[W0,Y0]at e
       exact O2 ah ⟨F,(IntKind.i64.wrap (G+1)),Y,L,Z,M,rfl,rfl,((w.trans Q).trans E),cn,(J0 _),O,ag,e⟩
    ·obtain rfl:=oJ e
     try dsimp only[W0,Y0]at d
     obtain rfl:=oJ d
     exact aI rfl (((am.trans al).trans y).trans w)
theorem a05(h:Hp)(s:List Value)(C:j0)(N:V0.R h s C)(t:List Value)(D:j0)(O:V0.R h t D)(r:Int×Int)(a:D6 C D=some r):
  Tr Tryz.prog 162 #[.agg s.toArray,.agg t.toArray] h λv K=>v = .tuple #[.int .i64 r.1,.int .i64 r.2]/\K=h:=by
 obtain⟨c,d,n,aa,p,e,rfl,rfl,u,w,j⟩:=H0 N
 obtain⟨rfl,X⟩:=Sl.len j
 obtain⟨f,g,o,ab,q,i,rfl,rfl,x,y,k⟩:=H0 O
 obtain⟨rfl,Y⟩:=Sl.len k
 unfold D6 at a
 dsimp only at a
 refine Tr.forget (I3 (args:=[.agg #[.int .i64 c,.int .i64 d,.slice n e.length p],.agg #[.int .i64 f,.int .i64 g,.slice o i.length q]]) (fn:=Tryz.f162) rfl ?_)
 refine trM a (l03 _ [.int .i64 c,.int .i64 d,.slice n e.length p] (c,d,e) (l0 u w j) [.int .i64 f,.int .i64 g,.slice o i.length q] (f,g,i) (l0 x y k)) ?_
 rintro Q a af M ⟨T,rfl,m⟩
 obtain⟨ag,ak⟩:=Q
 dsimp only at a m
 have b:Sub h M:=m.sub
 have P:=m.r
 obtain⟨ah,ai,S,ac,U,aj,rfl,rfl,z,A,l⟩:=H0 P
 obtain⟨rfl,Z⟩:=Sl.len l
 try dsimp only at a
 refine ifB a (λL a=>?_) λL a=>?_
 ·obtain rfl:=oJ a
  exact aI rfl b
 ·refine Or.inl (aI (aI (by kernel_rfl) (by kernel_rfl)) ?_)
  obtain⟨E,I,a⟩:=B0 a
  refine eX (.int .i64 E) (aI (g08 _ _ _ (l0 z A l) _ _ (l0 u w (S0.mono b j)) _  I) ?_)
  obtain⟨ad,G,a⟩:=B0 a
  have V:I0 E:=N0 G
  obtain⟨F,J,a⟩:=B0 a
  refine eX (.int .i64 F) (aI (g08 _ _ _ (l0 z A l) _ _ (l0 x y (S0.mono b k)) _  J) ?_)
  obtain⟨ae,H,a⟩:=B0 a
  have W:I0 F:=N0 H
  obtain rfl:=oJ a
  exact aI rfl b
theorem a0d(h:Hp)(O:List Value)(S:j0)(aX:V0.R h O S)(P:List Value)(T:j0)(aY:V0.R h P T)(r:ByteArray)(b:w02 S T=some r):
  Tr Tryz.prog 69 #[.agg O.toArray,.agg P.toArray] h λv aH=>v = .string r/\aH=h:=by
 obtain⟨o,p,G,bD,I,s,rfl,rfl,z,A,x⟩:=H0 aX
 obtain⟨rfl,bx⟩:=Sl.len x
 obtain⟨t,u,H,bE,J,w,rfl,rfl,C,D,y⟩:=H0 aY
 obtain⟨rfl,bz⟩:=Sl.len y
 unfold w02 at b
 dsimp only at b
 refine Tr.forget (I3 (args:=[.agg #[.int .i64 o,.int .i64 p,.slice G s.length I],.agg #[.int .i64 t,.int .i64 u,.slice H w.length J]]) (fn:=Tryz.f69) rfl ?_)
 refine trM b (l03 _ [.int .i64 o,.int .i64 p,.slice G s.length I] (o,p,s) (l0 z A x) [.int .i64 t,.int .i64 u,.slice H w.length J] (t,u,w) (l0 C D y)) ?_
 rintro ba b b1 aW ⟨bd,rfl,L⟩
 obtain⟨b2,b3⟩:=ba
 dsimp only at b L
 have f:Sub h aW:=L.sub
 have aZ:=L.r
 obtain⟨W,X,ac,bF,ae,Y,rfl,rfl,aN,aO,U⟩:=H0 aZ
 obtain⟨rfl,bA⟩:=Sl.len U
 try dsimp only at b
 refine ifB b (λaJ b=>?_) λaJ b=>?_
 ·obtain rfl:=oJ b
  exact aI rfl f
 ·obtain⟨bb,aF,b⟩:=B0 b
  obtain⟨aa,ab⟩:=bb
  try dsimp only at b
  refine Tr.val (a05 _ _ _ (l0 z A (S0.mono f x)) _ _ (l0 C D (S0.mono f y)) _  aF) ?_
  obtain⟨bP,aq,b⟩:=B0 b
  have aT:I0 aa:=N0 aq
  obtain⟨bQ,ar,b⟩:=B0 b
  have aU:I0 ab:=N0 ar
  refine Or.inr (Or.inr (Or.inr (Or.inl (aI (aI (by kernel_rfl) (by kernel_rfl)) ?_))))
  obtain⟨N,aG,b⟩:=B0 b
  obtain⟨bR,au,b⟩:=B0 b
  have aV:I0 N:=N0 au
  refine Or.inl (eX (.val (.int .i64 N)) (aI ?_ ?_))
  ·intro bk a1
   exact Tr.val (h09 _ [.int .i64 W,.int .i64 X,.slice ac Y.length ae] (W,X,Y) (l0 aN aO (S0.mono a1 U)) _ aG) (aI rfl (aI rfl rfl))
  obtain⟨g,av,b⟩:=B0 b
  obtain⟨bG,ah,b⟩:=B0 b
  have aL:g.size<=9223372036854775807:=N0 ah
  refine Or.inl (eX (.val (.string g)) (aI ?_ ?_))
  ·intro bl bT
   exact Tr.val (Y00 _ N aV _ av) (aI rfl (aI rfl rfl))
  obtain⟨i,aw,b⟩:=B0 b
  obtain⟨bH,ai,b⟩:=B0 b
  have aM:i.size<=9223372036854775807:=N0 ai
  refine Or.inl (eX (.val (.string i)) (aI ?_ ?_))
  ·intro bm bU
   exact Tr.val (Y00 _ aa aT _ aw) (aI rfl (aI rfl rfl))
  obtain⟨j,ax,b⟩:=B0 b
  obtain⟨bI,aj,b⟩:=B0 b
  have aP:j.size<=9223372036854775807:=N0 aj
  refine Or.inl (eX (.val (.string j)) (aI ?_ ?_))
  ·intro bn bV
   exact Tr.val (Y00 _ ab aU _ ax) (aI rfl (aI rfl rfl))
  obtain⟨M,ay,b⟩:=B0 b
  obtain⟨bJ,ak,b⟩:=B0 b
  have aQ:I0 M:=N0 ak
  refine Or.inl (eX (.val (.int .i64 M)) (aI ?_ ?_))
  ·intro bo V
   exact Tr.val (e0b _ [.int .i64 o,.int .i64 p,.slice G s.length I] (o,p,s) (l0 z A (S0.mono (f.trans V) x)) [.int .i64 t,.int .i64 u,.slice H w.length J] (t,u,w) (l0 C D (S0.mono (f.trans V) y)) _ ay) (aI rfl (aI rfl rfl))
  obtain⟨m,az,b⟩:=B0 b
  obtain⟨bK,al,b⟩:=B0 b
  have aR:m.size<=9223372036854775807:=N0 al
  refine Or.inl (eX (.val (.string m)) (aI ?_ ?_))
  ·intro bp bW
   exact Tr.val (Y00 _ M aQ _ az) (aI rfl (aI rfl rfl))
  obtain⟨E,aA,b⟩:=B0 b
  obtain⟨bL,am,b⟩:=B0 b
  have bh:I0 E:=N0 am
  refine Or.inl (eX (.val (.int .i64 E)) (aI ?_ ?_))
  ·intro bq a2
   exact Tr.val (Z04 _ _ _ (l0 z A (S0.mono (f.trans a2) x)) _ aA) (aI rfl (aI rfl rfl))
  obtain⟨F,aB,b⟩:=B0 b
  obtain⟨bM,an,b⟩:=B0 b
  have bi:I0 F:=N0 an
  refine Or.inl (eX (.val (.int .i64 F)) (aI ?_ ?_))
  ·intro br a3
   exact Tr.val (Z04 _ _ _ (l0 C D (S0.mono (f.trans a3) y)) _ aB) (aI rfl (aI rfl rfl))
  refine Or.inl (eX (.val (.int .i64 (IntKind.i64.wrap (E*F)))) (aI ?_ ?_))
  ·intro bs bX
   exact aI rfl (aI rfl rfl)
  obtain⟨n,aC,b⟩:=B0 b
  obtain⟨bN,ao,b⟩:=B0 b
  have aS:n.size<=9223372036854775807:=N0 ao
  refine Or.inl (eX (.val (.string n)) (aI ?_ ?_))
  ·intro bt bY
   exact Tr.val (Y00 _ (IntKind.i64.wrap (E*F)) (J0 _) _ aC) (aI rfl (aI rfl rfl))
  obtain⟨d,aD,b⟩:=B0 b
  refine Or.inr (eX (λv aK=>∃(a:Option Addr) (c:Nat),v = .slice a d.length c/\(Wp.slice Wp.str).R aK [.slice a d.length c] d/\d.length<=9223372036854775807) (aI (λv bf bg K q=>by obtain⟨a,c,e,r,l⟩:=q;exact⟨a,c,e,(Wp.slice Wp.str).mono K r,l⟩) (aI ?_ ?_)))
  ·intro Q bZ
   have ag:[(⟨#[114,97,110,107]⟩:ByteArray),g,(⟨#[105,110,100,105,99,101,115]⟩:ByteArray),i,j,(⟨#[115,117,109]⟩:ByteArray),m,(⟨#[97,116,32,109,111,115,116]⟩:ByteArray),n]=d:=oJ aD
   intro v k hf
   obtain⟨a,c,rfl,r,K,l⟩:=G1.out (r:=Wp.str.toRp) (xs:=d) hf (show F2 (Wp.str.R Q) [[.string (⟨#[114,97,110,107]⟩:ByteArray)],[.string g],[.string (⟨#[105,110,100,105,99,101,115]⟩:ByteArray)],[.string i],[.string j],[.string (⟨#[115,117,109]⟩:ByteArray)],[.string m],[.string (⟨#[97,116,32,109,111,115,116]⟩:ByteArray)],[.string n]] d from ag▸(show F2 (Wp.str.R Q) [[.string (⟨#[114,97,110,107]⟩:ByteArray)],[.string g],[.string (⟨#[105,110,100,105,99,101,115]⟩:ByteArray)],[.string i],[.string j],[.string (⟨#[115,117,109]⟩:ByteArray)],[.string m],[.string (⟨#[97,116,32,109,111,115,116]⟩:ByteArray)],[.string n]] [(⟨#[114,97,110,107]⟩:ByteArray),g,(⟨#[105,110,100,105,99,101,115]⟩:ByteArray),i,j,(⟨#[115,117,109]⟩:ByteArray),m,(⟨#[97,116,32,109,111,115,116]⟩:ByteArray),n] from⟨⟨rfl,(by decide)⟩,⟨⟨rfl,aL⟩,⟨⟨rfl,(by decide)⟩,⟨⟨rfl,aM⟩,⟨⟨rfl,aP⟩,⟨⟨rfl,(by decide)⟩,⟨⟨rfl,aR⟩,⟨⟨rfl,(by decide)⟩,⟨⟨rfl,aS⟩,trivial⟩⟩⟩⟩⟩⟩⟩⟩⟩))
   exact aI ⟨rfl,rfl,rfl,[_],rfl⟩ (aI K ⟨a,c,rfl,r,l⟩)
  obtain⟨Z,aE,b⟩:=B0 b
  obtain⟨bO,ap,b⟩:=B0 b
  have bj:Z.size<=9223372036854775807:=N0 ap
  refine Or.inl (eX (.val (.string Z)) (aI ?_ ?_))
  ·intro bu b0
   rintro _ ⟨ad,af,rfl,a0,bB⟩
   exact Tr.val (c0l _ ad d.length af d a0 _ aE) (aI rfl (aI rfl rfl))
  intro bv a4
  rintro _ ⟨bc,be,rfl,bS,bC⟩
  obtain rfl:=oJ b
  exact aI rfl (f.trans a4)
end Go.Proofs.YtkjhghloldgioaaGreat
