/- Texts of the claim, joined: The walk of impl.PullbackAt and others. -/
import Derived.Test.YtmgikbbmpnbbjaaGreatPart23
import Derived.Test.YtmgikbbmpnbbjaaGreatChecked
import Derived.Test.YtmgikbbmpnbbjaaGreatH35
import Derived.Test.YtmgikbbmpnbbjaaGreatH41
import Derived.Test.YtmgikbbmpnbbjaaGreatPart26
import Derived.Test.YtmgikbbmpnbbjaaGreatPart31
import Derived.Test.YtmgikbbmpnbbjaaGreatPart33
import Derived.Test.YtmgikbbmpnbbjaaGreatH43
import Derived.Test.YtmgikbbmpnbbjaaGreatH45
import Derived.Test.YtmgikbbmpnbbjaaGreatH50
namespace Go.Proofs.YtmgikbbmpnbbjaaGreat
open Go.H
set_option linter.unusedVariables false
set_option linter.unusedSimpArgs false
set_option maxRecDepth 10000
set_option maxHeartbeats 0
theorem L0s:m0h Tryz.prog 201 200 3:=⟨by kernel_rfl,⟨3,by kernel_rfl,by kernel_rfl,by kernel_rfl,by kernel_rfl⟩,by kernel_rfl⟩
theorem x0c(h:Hp)(aQ:List Value)(bb:j0)(ce:O1.R h aQ bb)(aR:List Value)(bc:j0)(cf:O1.R h aR bc)(j:Int)(aX:J0 j)(k:Int)(aY:J0 k)(r:j0×Bool)(b:x01 bb bc j k=some r):
  Tr Tryz.prog 211 #[.agg aQ.toArray,.agg aR.toArray,.int .i64 j,.int .i64 k] h λv h'=>∃(aP:List Value),v = .tuple #[.agg aP.toArray,.bool r.2]/\New O1 h h' aP r.1:=by
 obtain⟨i,o,ab,c2,ad,s,rfl,rfl,Y,aF,al⟩:=F0 ce
 obtain⟨rfl,cX⟩:=Sl.len al
 obtain⟨t,u,ac,c3,ae,w,rfl,rfl,aG,aH,am⟩:=F0 cf
 obtain⟨rfl,cY⟩:=Sl.len am
 unfold x01 at b
 dsimp only at b
 refine E3 (args:=[.agg #[.int .i64 i,.int .i64 o,.slice ab s.length ad],.agg #[.int .i64 t,.int .i64 u,.slice ac w.length ae],.int .i64 j,.int .i64 k]) (fn:=Tryz.f211) rfl ?_
 obtain⟨dC,bM,b⟩:=D0 b
 refine Tr.val (k01 _ [.int .i64 i,.int .i64 o,.slice ab s.length ad] (i,o,s) (l0 Y aF al) _  bM) ?_
 obtain⟨cu,bO,b⟩:=D0 b
 refine eX (.bool cu) (aI (λq=>k01 _ [.int .i64 t,.int .i64 u,.slice ac w.length ae] (t,u,w) (l0 aG aH am) _  (c5 bO q)) ?_)
 obtain⟨cv,bQ,b⟩:=D0 b
 refine eX (.bool cv) (aI (λq=>t03 _ [.int .i64 i,.int .i64 o,.slice ab s.length ad] (i,o,s) (l0 Y aF al) j aX _  (c5 bQ q)) ?_)
 obtain⟨cw,bT,b⟩:=D0 b
 refine eX (.bool cw) (aI (λq=>t03 _ [.int .i64 t,.int .i64 u,.slice ac w.length ae] (t,u,w) (l0 aG aH am) k aY _  (c5 bT q)) ?_)
 refine aI (λaA=>?_) (λaA=>?_)
 ·replace b:=ifP b aA
  have E:=oJ b;subst E
  exact⟨([.int .i64 0,.int .i64 0,.slice none 0 0]),rfl,(New.pair (New.int (by decide)) (New.pair (New.int (by decide)) ((New.nilSlice (r:=P1)).mono (Sub.refl _))))⟩
 ·replace b:=ifN b aA
  intro g ax
  refine eX undef (eX _ (aI (l0s L0s (.inr rfl) rfl (p:=(j,k)) rfl (ps:=[]) rfl (Hp.set_same _ _ _) rfl) ?_))
  have cp:Sub h ((h.set g (.map #[] 0)).set g (G07 [(j,k)])):=Sub.setNone ax (Sub.set ax)
  have b1:((h.set g (.map #[] 0)).set g (G07 [(j,k)])) g=some (G07 [(j,k)]):=Hp.set_same _ _ _
  obtain⟨au,b0,b⟩:=D0 b
  refine eX { vars:=[13],boxes:=[3],owns:=[0,1],fuel:=true,nilsB:=[(3,2,124,3,24)] } (eX (λvs os h'=>∃(B:Int) (u8:Int) (P:Int) (K:List (List Value)) (O:List H5) (aa:List (List Value)) (J:List Q0),vs.tail = [.int .i64 B,.int .i64 u8,.int .i64 P]/\os = [K,aa]/\Sub h h'/\h' g=some (G07 O)/\J0 B/\J0 u8/\J0 P/\F2 (D4.R h') K O/\F2 (P1.R h') aa J/\J7 i o s t u w (D2 vs) B u8 P O J=some au) (eX (λ_ _=>0) ?_))
  refine aI (eX Y0 ⟨0,i,0,([[.int .i64 j,.int .i64 k]]:List (List Value)),([(j,k)]),[],([]:V0),rfl,rfl,cp,b1,(by decide),Y,(by decide),(show F2 (D4.R _) ([[.int .i64 j,.int .i64 k]]:List (List Value)) [(j,k)] from⟨(G3 aX aY),trivial⟩),(show F2 (P1.R _) [] [] from trivial),b0⟩) ?_
  rintro cr cs ct K aa aj cK ⟨B,u8,P,dJ,O,dK,J,bt,br,aL,b2,aZ,a0,b3,av,aw,e⟩
  cases bt
  cases br
  replace e:J7 i o s t u w aj B u8 P O J=some au:=e
  obtain _|aj:=aj
  ·cases (show(none:Option _)=some au from e)
  rw[J7.eq_2]at e
  obtain⟨ca,bB,e⟩:=D0 e
  obtain rfl:K.length=ca:=(F2.length av).trans (oJ bB)
  obtain⟨dc,cE,e⟩:=D0 e
  refine aI (λay=>?_) (λay=>?_)
  ·replace e:=ifP e ay
   obtain⟨Q,bN,e⟩:=D0 e
   refine Tr.mono (q09 _ i Y _  bN) ?_
   rintro dx cL ⟨aO,c4,aS,rfl,bf,ap⟩
   obtain⟨rfl,cZ⟩:=Sl.len bf
   obtain⟨ar,bZ,e⟩:=D0 e
   refine eX { vars:=[70],boxes:=[3],owns:=[0,1],fuel:=true } (eX (λvs os h'=>∃(A:Int) (x:Int) (y:Int) (m:List (List Value)) (f:List H5) (C:List (List Value)) (z:List Q0),vs.tail = [.int .i64 A,.int .i64 x,.int .i64 y]/\os = [m,C]/\Sub h h'/\E2.R h' [.slice aO Q.length aS] Q/\h' g=some (G07 f)/\J0 A/\J0 x/\J0 y/\F2 (D4.R h') m f/\F2 (P1.R h') C z/\Z3 Q B i o s t u w (D2 vs) A x y f z=some ar) (eX (λ_ _=>0) ?_))
   refine aI (eX Y0 ⟨0,u8,P,K,O,aa,J,rfl,rfl,(aL.trans ap),bf,ap _ _ b2,(by decide),a0,b3,(F2.up (r:=D4.toRp) ap av),(F2.up (r:=P1.toRp) ap aw),bZ⟩) ?_
   rintro cr cs ct m C F cM ⟨A,x,y,dL,f,dM,z,bs,bq,ao,be,aW,cH,M,N,D,I,a⟩
   cases bs
   cases bq
   replace a:Z3 Q B i o s t u w F A x y f z=some ar:=a
   obtain _|F:=F
   ·cases (show(none:Option _)=some ar from a)
   rw[Z3.eq_2]at a
   refine aI (λaz=>?_) (λaz=>?_)
   ·replace a:=ifP a az
    obtain⟨aq,bP,a⟩:=D0 a
    obtain⟨bl,cy,bu,cg⟩:=Sl.getI (r:=Wp.int.toRp) be bP (by decide)
    refine aI bl ?_
    obtain⟨rfl,ai⟩:=cg
    refine eX _ (aI bu ?_)
    refine Or.inr (Or.inr (Or.inr (Or.inl (aI (aI (by kernel_rfl) (by kernel_rfl)) ?_))))
    obtain⟨dD,bR,a⟩:=D0 a
    obtain⟨bm,cz,bv,ch⟩:=W4 D bR
    obtain⟨bh,dE,rfl,rfl,b4,cI⟩:=X02 ch
    try dsimp only at a
    refine Or.inl ?_
    apply eX
    refine aI ?_ ?_
    ·intro cN dn
     exact aI bm (aI rfl (aI rfl rfl))
    refine Or.inl ?_
    apply eX
    refine aI ?_ ?_
    ·intro cO dq
     exact aI rfl (aI rfl rfl)
    refine Or.inl (eX (.val (.int .i64 bh)) (aI ?_ ?_))
    ·intro cP ds
     exact eX _ (aI bv (aI rfl (aI rfl rfl)))
    obtain⟨c,bS,a⟩:=D0 a
    obtain⟨dd,bF,a⟩:=D0 a
    have aJ:J0 c:=O0 bF
    refine Or.inl (eX (.val (.int .i64 c)) (aI ?_ ?_))
    ·intro cQ cn
     exact Tr.val (D01 _ [.int .i64 i,.int .i64 o,.slice ab s.length ad] (i,o,s) (l0 Y aF (U0.mono (ao.trans cn) al)) bh b4 aq ai _ bS) (aI rfl (aI rfl rfl))
    obtain⟨dF,bU,a⟩:=D0 a
    obtain⟨bn,cA,bx,ci⟩:=W4 D bU
    obtain⟨dG,bi,rfl,rfl,cJ,b5⟩:=X02 ci
    try dsimp only at a
    refine Or.inl ?_
    apply eX
    refine aI ?_ ?_
    ·intro cR dt
     exact aI bn (aI rfl (aI rfl rfl))
    refine Or.inl ?_
    apply eX
    refine aI ?_ ?_
    ·intro cS du
     exact aI rfl (aI rfl rfl)
    refine Or.inl (eX (.val (.int .i64 bi)) (aI ?_ ?_))
    ·intro cT dv
     exact eX _ (aI bx (aI rfl (aI rfl rfl)))
    obtain⟨d,bV,a⟩:=D0 a
    obtain⟨df,bG,a⟩:=D0 a
    have aK:J0 d:=O0 bG
    refine Or.inl (eX (.val (.int .i64 d)) (aI ?_ ?_))
    ·intro cU co
     exact Tr.val (D01 _ [.int .i64 t,.int .i64 u,.slice ac w.length ae] (t,u,w) (l0 aG aH (U0.mono (ao.trans co) am)) bi b5 aq ai _ bV) (aI rfl (aI rfl rfl))
    intro Z l
    have L:=l _ _ aW
    have an:=ao.trans l
    have ak:=E2.mono l be
    refine aI (λaB=>?_) (λaB=>?_)
    ·replace a:=ifP a aB
     refine aI rfl (aI (by trivial) (aI (by trivial) (eX F (aI ⟨(IntKind.i64.wrap (A+1)),x,y,m,f,C,z,rfl,rfl,an,ak,L,(I0 _),M,N,(F2.up (r:=D4.toRp) l D),(F2.up (r:=P1.toRp) l I),a⟩ (nS _)))))
    ·replace a:=ifN a aB
     obtain⟨aN,aU,a⟩:=D0 a
     refine eX (.tuple #[.int .i64 (lkI aN),.bool (lkB aN)]) (eX _ (aI (A0t L0s rfl rfl (p:=(c,d)) rfl L aU) ?_))
     obtain⟨bz,b6⟩:=e0m aU
     refine aI (λah=>?_) (λah=>?_)
     ·replace a:=ifP a ah
      obtain⟨cb,bC,a⟩:=D0 a
      obtain rfl:m.length=cb:=(F2.length (F2.up (r:=D4.toRp) l D)).trans (oJ bC)
      obtain⟨dg,bH,a⟩:=D0 a
      refine eX undef (eX _ (aI (l0s L0s (.inl rfl) rfl (p:=(c,d)) rfl (ps:=f) (by exact congrArg (λn:Nat=>Value.int .i64 (n:Int)) (F2.length D)) L (m0s (by rw[←bz];exact ah))) ?_))
      have bg:Sub h (Z.set g (G07 (f ++ [(c,d)]))):=Sub.setNone ax an
      have aV:(Z.set g (G07 (f ++ [(c,d)]))) g=some (G07 (f ++ [(c,d)])):=Hp.set_same _ _ _
      have bd:E2.R (Z.set g (G07 (f ++ [(c,d)]))) [.slice aO Q.length aS] Q:=B0t L ak
      have af:F2 (D4.R (Z.set g (G07 (f ++ [(c,d)])))) m f:=D
      have ag:F2 (P1.R (Z.set g (G07 (f ++ [(c,d)])))) C z:=I
      obtain⟨dh,bI,a⟩:=D0 a
      refine aI (N2 bI (by first|rw[F2.length af,F2.length (show F2 (D4.R _) ([[.int .i64 c,.int .i64 d]]:List (List Value)) [(c,d)] from⟨(G3 aJ aK),trivial⟩)]|exact congrArg (·+1) (F2.length af))) ?_
      refine aI (λaC=>?_) (λaC=>?_)
      ·replace a:=ifP a aC
       refine Or.inr (Or.inr (Or.inl (aI (aI (by kernel_rfl) (by kernel_rfl)) ?_)))
       refine Or.inr ?_
       refine Or.inr ?_
       refine Or.inr ?_
       refine Or.inr ?_
       refine Or.inl (eX 1 (aI (aI rfl rfl) ?_))
       obtain⟨dH,bW,a⟩:=D0 a
       refine Tr.mono (u09 _ B aZ aq ai ((m.length:Nat):Int) (H0b (O0 bH)) _  bW) ?_
       rintro dy cV ⟨cC,rfl,cj,G⟩
       obtain⟨S,T,U,rfl,rfl,a1,a2,a3⟩:=Q2 cj
       try dsimp only at a
       refine aI (aI rfl G) (aI (by first|exact trivial|exact rfl) ?_)
       refine aT ?_
       obtain⟨di,bJ,a⟩:=D0 a
       refine aI (N2 bJ (by first|rw[F2.length (F2.up (r:=P1.toRp) G ag),F2.length (show F2 (P1.R _) ([[.int .i64 S,.int .i64 T,.int .i64 U]]:List (List Value)) [(S,T,U)] from⟨(K1 a1 a2 a3),trivial⟩)]|exact congrArg (·+1) (F2.length (F2.up (r:=P1.toRp) G ag)))) ?_
       refine aT ?_
       refine aT ?_
       refine aI rfl (aI (by trivial) (aI (by trivial) (eX F (aI ⟨(IntKind.i64.wrap (A+1)),x,y,(m++([[.int .i64 c,.int .i64 d]]:List (List Value))),(f ++ [(c,d)]),(C++([[.int .i64 S,.int .i64 T,.int .i64 U]]:List (List Value))),(z ++ [(S,T,U)]),rfl,rfl,(bg.trans G),(E2.mono G bd),G _ _ aV,(I0 _),M,N,(F2.up (r:=D4.toRp) G (F2.append af (show F2 (D4.R _) ([[.int .i64 c,.int .i64 d]]:List (List Value)) [(c,d)] from⟨(G3 aJ aK),trivial⟩))),(F2.append (F2.up (r:=P1.toRp) G ag) (show F2 (P1.R _) ([[.int .i64 S,.int .i64 T,.int .i64 U]]:List (List Value)) [(S,T,U)] from⟨(K1 a1 a2 a3),trivial⟩)),a⟩ (nS _)))))
      ·replace a:=ifN a aC
       refine aI rfl (aI (by trivial) (aI (by trivial) (eX F (aI ⟨(IntKind.i64.wrap (A+1)),x,y,(m++([[.int .i64 c,.int .i64 d]]:List (List Value))),(f ++ [(c,d)]),C,z,rfl,rfl,bg,bd,aV,(I0 _),M,N,(F2.append af (show F2 (D4.R _) ([[.int .i64 c,.int .i64 d]]:List (List Value)) [(c,d)] from⟨(G3 aJ aK),trivial⟩)),ag,a⟩ (nS _)))))
     ·replace a:=ifN a ah
      refine aI (λaD=>?_) (λaD=>?_)
      ·replace a:=ifP a aD
       refine Or.inr (Or.inr (Or.inl (aI (aI (by kernel_rfl) (by kernel_rfl)) ?_)))
       refine Or.inr ?_
       refine Or.inr ?_
       refine Or.inr ?_
       refine Or.inr ?_
       refine Or.inl (eX 1 (aI (aI rfl rfl) ?_))
       obtain⟨dI,bX,a⟩:=D0 a
       refine Tr.mono (u09 _ B aZ aq ai (lkI aN) b6 _  bX) ?_
       rintro dz cW ⟨cD,rfl,ck,H⟩
       obtain⟨V,W,X,rfl,rfl,a4,a5,ba⟩:=Q2 ck
       try dsimp only at a
       refine aI (aI rfl H) (aI (by first|exact trivial|exact rfl) ?_)
       refine aT ?_
       obtain⟨dj,bK,a⟩:=D0 a
       refine aI (N2 bK (by first|rw[F2.length (F2.up (r:=P1.toRp) (l.trans H) I),F2.length (show F2 (P1.R _) ([[.int .i64 V,.int .i64 W,.int .i64 X]]:List (List Value)) [(V,W,X)] from⟨(K1 a4 a5 ba),trivial⟩)]|exact congrArg (·+1) (F2.length (F2.up (r:=P1.toRp) (l.trans H) I)))) ?_
       refine aT ?_
       refine aT ?_
       refine aI rfl (aI (by trivial) (aI (by trivial) (eX F (aI ⟨(IntKind.i64.wrap (A+1)),x,y,m,f,(C++([[.int .i64 V,.int .i64 W,.int .i64 X]]:List (List Value))),(z ++ [(V,W,X)]),rfl,rfl,(an.trans H),(E2.mono H ak),H _ _ L,(I0 _),M,N,(F2.up (r:=D4.toRp) (l.trans H) D),(F2.append (F2.up (r:=P1.toRp) (l.trans H) I) (show F2 (P1.R _) ([[.int .i64 V,.int .i64 W,.int .i64 X]]:List (List Value)) [(V,W,X)] from⟨(K1 a4 a5 ba),trivial⟩)),a⟩ (nS _)))))
      ·replace a:=ifN a aD
       refine aI rfl (aI (by trivial) (aI (by trivial) (eX F (aI ⟨(IntKind.i64.wrap (A+1)),x,y,m,f,C,z,rfl,rfl,an,ak,L,(I0 _),M,N,(F2.up (r:=D4.toRp) l D),(F2.up (r:=P1.toRp) l I),a⟩ (nS _)))))
   ·replace a:=ifN a az
    have E:=oJ a;subst E
    try dsimp only[Z0,I1]at e
    refine aI rfl (aI (by trivial) (aI (by trivial) (eX aj (aI ⟨(IntKind.i64.wrap (B+1)),x,y,m,f,C,z,rfl,rfl,ao,aW,(I0 _),M,N,D,I,e⟩ (nS _)))))
  ·replace e:=ifN e ay
   have E:=oJ e;subst E
   try dsimp only[Z0,I1]at b
   obtain⟨cc,bD,b⟩:=D0 b
   obtain rfl:K.length=cc:=(F2.length av).trans (oJ bD)
   obtain⟨dk,bL,b⟩:=D0 b
   obtain⟨cd,bE,b⟩:=D0 b
   obtain rfl:aa.length=cd:=(F2.length aw).trans (oJ bE)
   obtain⟨dm,cG,b⟩:=D0 b
   refine aI (λaE=>?_) (λaE=>?_)
   ·replace b:=ifP b aE
    have E:=oJ b;subst E
    exact⟨([.int .i64 0,.int .i64 0,.slice none 0 0]),rfl,(New.pair (New.int (by decide)) (New.pair (New.int (by decide)) ((New.nilSlice (r:=P1)).mono aL)))⟩
   ·replace b:=ifN b aE
    refine Or.inl ?_
    intro dA b7 bA
    obtain⟨bk,bp,rfl,cm,cq,c1⟩:=J1.out (r:=P1.toRp) bA aw
    obtain⟨cx,bY,b⟩:=D0 b
    refine Tr.mono (I03 _ bk J.length bp J cm _  bY) ?_
    rintro dB b8 ⟨bj,db,bo,rfl,aM⟩
    have dw:Sub b7 b8:=aM.sub
    have cl:=aM.r
    obtain⟨rfl,c0⟩:=Sl.len cl
    have E:=oJ b;subst E
    exact⟨([.int .i64 u8,.int .i64 ((K.length:Nat):Int),.slice bj cx.length bo]),rfl,(New.pair (New.int a0) (New.pair (New.int (H0b (O0 bL))) (New.from aM (aL.trans cq))))⟩
theorem A08(h:Hp)(t:List Value)(B:j0)(O:O1.R h t B)(u:List Value)(C:j0)(P:O1.R h u C)(r:j0×Bool)(a:J9 B C=some r):
  Tr Tryz.prog 122 #[.agg t.toArray,.agg u.toArray] h λv h'=>∃(s:List Value),v = .tuple #[.agg s.toArray,.bool r.2]/\New O1 h h' s r.1:=by
 obtain⟨c,d,m,ah,o,e,rfl,rfl,w,x,j⟩:=F0 O
 obtain⟨rfl,ad⟩:=Sl.len j
 obtain⟨f,g,n,ai,p,i,rfl,rfl,y,z,k⟩:=F0 P
 obtain⟨rfl,ae⟩:=Sl.len k
 unfold J9 at a
 dsimp only at a
 refine E3 (args:=[.agg #[.int .i64 c,.int .i64 d,.slice m e.length o],.agg #[.int .i64 f,.int .i64 g,.slice n i.length p]]) (fn:=Tryz.f122) rfl ?_
 refine trV a (Y8 _ _ _ (l0 w x j)) λap a=>?_
 refine trG a (λq=>Y8 _ _ _ (l0 y z k)) λaq a=>?_
 refine ifB a (λH a=>?_) λH a=>?_
 ·obtain rfl:=oJ a
  exact⟨([.int .i64 0,.int .i64 0,.slice none 0 0]),rfl,(New.pair (New.int (by decide)) (New.pair (New.int (by decide)) ((New.nilSlice (r:=P1)).mono (Sub.refl _))))⟩
 ·refine trM a (x0c _ [.int .i64 c,.int .i64 d,.slice m e.length o] (c,d,e) (l0 w x j) [.int .i64 f,.int .i64 g,.slice n i.length p] (f,g,i) (l0 y z k) 0 (by decide) 0 (by decide)) ?_
  rintro V a an A ⟨aa,rfl,b⟩
  obtain⟨ar,ax⟩:=V
  dsimp only at a b
  have E:Sub h A:=b.sub
  have Q:=b.r
  obtain⟨au,av,Z,aj,ac,aw,rfl,rfl,J,K,D⟩:=F0 Q
  obtain⟨rfl,af⟩:=Sl.len D
  try dsimp only at a
  have ao:=New.sndI (New.sndI (b))
  refine ifB a (λI a=>?_) λI a=>?_
  ·obtain rfl:=oJ a
   exact⟨([.int .i64 0,.int .i64 0,.slice none 0 0]),rfl,(New.pair (New.int (by decide)) (New.pair (New.int (by decide)) ((New.nilSlice (r:=P1)).mono E)))⟩
  ·refine trM a (J07 _ _ _ (l0 J K D)) ?_
   rintro ay a am N ⟨ab,rfl,l⟩
   have al:Sub A N:=l.sub
   have S:=l.r
   obtain⟨W,X,F,ak,G,Y,rfl,rfl,L,M,T⟩:=F0 S
   obtain⟨rfl,ag⟩:=Sl.len T
   try dsimp only at a
   have U:=New.sndI (New.sndI (l))
   obtain rfl:=oJ a
   exact⟨([.int .i64 W,.int .i64 X,.slice F Y.length G]),rfl,(New.pair (New.int L) (New.pair (New.int M) (New.from U E)))⟩
theorem B05(h:Hp)(b:Int)(o:J0 b)(d:Nat)(n:TypeId)(e:Int)(p:J0 e)(c:Int)(q:J0 c)(f:Option Addr)(i g:Nat)(j:V0)(m:U0.R h [.slice f i g] j)(k:h d=some (.cells #[.int .i64 e,.int .i64 c,.slice f i g] n (0,0)))(r:Int)(a:o9 b (e,c,j)=some r):
  Tr Tryz.prog 261 #[.int .i64 b,ptr d 0] h λv h'=>v = .int .i64 r/\h'=h:=by
 obtain⟨rfl,s⟩:=Sl.len m
 unfold o9 at a
 dsimp only at a
 refine Tr.forget (E3 (args:=[.int .i64 b,ptr d 0]) (fn:=Tryz.f261) rfl ?_)
 refine ifB a (λl a=>?_) λl a=>?_
 ·obtain rfl:=oJ a
  exact aI rfl (Sub.refl _)
 ·refine eX (.int .i64 c) (aI ⟨rfl,by simp[Hp.cell,(k)]⟩ ?_)
  obtain rfl:=oJ a
  exact aI rfl (Sub.refl _)
theorem y0c(h:Hp)(N:List Value)(X:j0)(aN:O1.R h N X)(O:List Value)(Y:j0)(aO:O1.R h O Y)(r:j0×Bool)(b:z01 X Y=some r):
  Tr Tryz.prog 212 #[.agg N.toArray,.agg O.toArray] h λv h'=>∃(M:List Value),v = .tuple #[.agg M.toArray,.bool r.2]/\New O1 h h' M r.1:=by
 obtain⟨d,c,i,bh,k,e,rfl,rfl,u,w,t⟩:=F0 aN
 obtain⟨rfl,bb⟩:=Sl.len t
 obtain⟨aM,Z,ag,bi,aj,H,rfl,rfl,aD,aE,I⟩:=F0 aO
 obtain⟨rfl,bc⟩:=Sl.len I
 unfold z01 at b
 dsimp only at b
 refine E3 (args:=[.agg #[.int .i64 d,.int .i64 c,.slice i e.length k],.agg #[.int .i64 aM,.int .i64 Z,.slice ag H.length aj]]) (fn:=Tryz.f212) rfl ?_
 refine trV b (g02 _ _ _ (l0 u w t)) λbu b=>?_
 refine trG b (λq=>g02 _ _ _ (l0 aD aE I)) λbA b=>?_
 refine ifB b (λaC b=>?_) λaC b=>?_
 ·obtain rfl:=oJ b
  exact⟨([.int .i64 0,.int .i64 0,.slice none 0 0]),rfl,(New.pair (New.int (by decide)) (New.pair (New.int (by decide)) ((New.nilSlice (r:=P1)).mono (Sub.refl _))))⟩
 ·intro j D
  have o:(Hp.set h j (.cells #[.int .i64 d,.int .i64 c,.slice i e.length k] 37 (0,0))) j=some (.cells #[.int .i64 d,.int .i64 c,.slice i e.length k] 37 (0,0)):=Hp.set_same _ _ _
  refine eX (.int .i64 d) (aI ⟨rfl,w0n (o) rfl⟩ ?_)
  refine eX (.int .i64 c) (aI ⟨rfl,w0n (o) rfl⟩ ?_)
  refine eX (.slice i e.length k) (aI ⟨rfl,w0n (o) rfl⟩ ?_)
  refine trM b (A7 _ _ _ (l0 u w (U0.mono (Sub.set D) t))) ?_
  rintro aY b bs aK ⟨ax,bk,al,rfl,z⟩
  have J:Sub (Hp.set h j (.cells #[.int .i64 d,.int .i64 c,.slice i e.length k] 37 (0,0))) aK:=z.sub
  have ab:=z.r
  obtain⟨aZ,bB,af⟩:=aY
  dsimp only at b z ab
  obtain⟨_,_,_,_,_,_,an,ao,aH,a2,aR⟩:=F0 ab
  cases an
  cases ao
  obtain⟨rfl,bf⟩:=Sl.len aR
  try dsimp only at b
  have aW:=New.sndI (New.sndI (z))
  refine eX (.int .i64 c) (aI ⟨rfl,by simp[Hp.cell,((J _ _ o))]⟩ ?_)
  obtain⟨L,az,b⟩:=D0 b
  refine eX { vars:=[58],boxes:=[3],owns:=[],fuel:=true } (eX (λvs os h'=>∃ p l m C G F B s,vs.tail = [.int .i64 p,.int .i64 l,.int .i64 m,.slice (some ⟨C,G,none⟩) F B]/\os = []/\Sub h h'/\J0 p/\J0 l/\J0 m/\New U0 (Hp.set h j (.cells #[.int .i64 d,.int .i64 c,.slice i e.length k] 37 (0,0))) h' [.slice (some ⟨C,G,none⟩) F B] s/\h' j=some (.cells #[.int .i64 d,.int .i64 c,.slice i e.length k] 37 (0,0))/\G6 H d c e (D2 vs) p l m s=some L) (eX (λ_ _=>0) (aI (eX Y0 ⟨0,aZ,(IntKind.i64.wrap ((IntKind.i64.wrap (c+Z))-1)),ax,0,af.length,al,af,rfl,rfl,((Sub.set D).trans J),(by decide),aH,(I0 _),aW,(J _ _ o),az⟩) ?_)))
  rintro _ _ _ _ x E ⟨p,l,m,C,G,F,B,s,⟨⟩,⟨⟩,y,a1,Q,S,ae,P,a⟩
  replace a:G6 H d c e x p l m s=some L:=a
  obtain _|x:=x
  ·cases a
  rw[G6.eq_2]at a
  have aa:=ae.r
  obtain⟨rfl,bd⟩:=Sl.len aa
  refine ifB a (λaB a=>?_) λaB a=>?_
  ·refine ld a (U0.mono y I) λbv a0 aP a=>?_
   obtain⟨bx,n,bz,rfl,rfl,aF,T,aG⟩:=Q2 aP
   try dsimp only at a
   refine Or.inr (Or.inr (Or.inl (aI (aI (by kernel_rfl) (by kernel_rfl)) ?_)))
   obtain⟨f,av,a⟩:=D0 a
   obtain⟨bm,aq,a⟩:=D0 a
   have U:J0 f:=O0 aq
   refine Or.inl (eX (.val (.int .i64 f)) (aI ?_ ?_))
   ·intro a3 ac
    exact Tr.val (B05 _ _ aF j 37 _ u _ w _ _ _ _ (U0.mono (y.trans ac) t) (ac _ _ P) _ av) (aI rfl (aI rfl rfl))
   obtain⟨g,aw,a⟩:=D0 a
   obtain⟨bn,ar,a⟩:=D0 a
   have V:J0 g:=O0 ar
   refine Or.inl (eX (.val (.int .i64 g)) (aI ?_ ?_))
   ·intro a4 ad
    exact Tr.val (B05 _ _ aG j 37 _ u _ w _ _ _ _ (U0.mono (y.trans ad) t) (ad _ _ P) _ aw) (aI rfl (aI rfl rfl))
   refine Or.inl (eX (.agg [.val (.int .i64 f),.val (.int .i64 n),.val (.int .i64 g)]) (aI ?_ ?_))
   ·intro a5 bp
    exact aI rfl (aI rfl rfl)
   refine Or.inr ?_
   refine Or.inr ?_
   refine Or.inr ?_
   refine Or.inl (eX 0 (aI (aI rfl rfl) ?_))
   refine aT ?_
   obtain⟨bo,au,a⟩:=D0 a
   obtain⟨aV,aS,W,ah⟩:=New.app ae (Sub.refl _)
   refine eX aV (aI aS (aI (N2 au (by first|rw[W,F2.length (show F2 (P1.R E) ([[.int .i64 f,.int .i64 n,.int .i64 g]]:List (List Value)) [(f,n,g)] from⟨(K1 U T V),trivial⟩)]|(rw[W];rfl))) ?_))
   intro bt ba aA
   obtain⟨A,ay,aL,bl,am,rfl⟩:=ah _ _ _ _ _ (F3.ofPlain (s06 _) (show F2 (P1.R E) ([[.int .i64 f,.int .i64 n,.int .i64 g]]:List (List Value)) [(f,n,g)] from⟨(K1 U T V),trivial⟩)) Y4.ofPlain aA
   have aU:=A.r
   obtain⟨ap,bg⟩:=Sl.len aU
   subst ap
   refine aT ?_
   refine aT ?_
   exact U2 x ⟨(IntKind.i64.wrap (p+1)),l,m,ay,aL,(s ++ [(f,n,g)]).length,am,(s ++ [(f,n,g)]),rfl,rfl,((Sub.set D).trans A.sub),(I0 _),Q,S,A,(A.sub _ _ o),a⟩
  ·obtain rfl:=oJ a
   try dsimp only[Z0,I1]at b
   refine trM b (I03 _ _ _ _ _ aa) ?_
   rintro aX b br aJ ⟨ai,bj,ak,rfl,K⟩
   have bq:Sub E aJ:=K.sub
   have aQ:=K.r
   obtain⟨rfl,be⟩:=Sl.len aQ
   obtain rfl:=oJ b
   exact⟨([.int .i64 l,.int .i64 m,.slice ai aX.length ak]),rfl,(New.pair (New.int Q) (New.pair (New.int S) (New.from K y)))⟩
theorem r0h(h:Hp)(i:List Value)(p:j0)(N:O1.R h i p)(j:List Value)(s:j0)(O:O1.R h j s)(r:j0×Bool)(a:H03 p s=some r):
  Tr Tryz.prog 123 #[.agg i.toArray,.agg j.toArray] h λv h'=>∃(g:List Value),v = .tuple #[.agg g.toArray,.bool r.2]/\New O1 h h' g r.1:=by
 obtain⟨H,I,u,ag,y,J,rfl,rfl,k,l,d⟩:=F0 N
 obtain⟨rfl,ac⟩:=Sl.len d
 obtain⟨K,L,w,ah,z,M,rfl,rfl,m,n,e⟩:=F0 O
 obtain⟨rfl,ad⟩:=Sl.len e
 unfold H03 at a
 dsimp only at a
 refine E3 (args:=[.agg #[.int .i64 H,.int .i64 I,.slice u J.length y],.agg #[.int .i64 K,.int .i64 L,.slice w M.length z]]) (fn:=Tryz.f123) rfl ?_
 refine trM a (y0c _ _ _ (l0 k l d) _ _ (l0 m n e)) ?_
 rintro U a am o ⟨Z,rfl,c⟩
 obtain⟨ao,au⟩:=U
 dsimp only at a c
 have b:Sub h o:=c.sub
 have P:=c.r
 obtain⟨ap,aq,Y,ai,ab,ar,rfl,rfl,C,D,t⟩:=F0 P
 obtain⟨rfl,ae⟩:=Sl.len t
 try dsimp only at a
 have an:=New.sndI (New.sndI (c))
 refine trG a (λq=>Y8 _ _ _ (l0 k l (U0.mono b d))) λav a=>?_
 refine trG a (λq=>Y8 _ _ _ (l0 m n (U0.mono b e))) λaw a=>?_
 refine ifB a (λB a=>?_) λB a=>?_
 ·obtain rfl:=oJ a
  exact⟨([.int .i64 0,.int .i64 0,.slice none 0 0]),rfl,(New.pair (New.int (by decide)) (New.pair (New.int (by decide)) ((New.nilSlice (r:=P1)).mono b)))⟩
 ·refine trM a (J07 _ _ _ (l0 C D t)) ?_
  rintro ax a al G ⟨aa,rfl,f⟩
  have ak:Sub o G:=f.sub
  have Q:=f.r
  obtain⟨V,W,x,aj,A,X,rfl,rfl,E,F,S⟩:=F0 Q
  obtain⟨rfl,af⟩:=Sl.len S
  try dsimp only at a
  have T:=New.sndI (New.sndI (f))
  obtain rfl:=oJ a
  exact⟨([.int .i64 V,.int .i64 W,.slice x X.length A]),rfl,(New.pair (New.int E) (New.pair (New.int F) (New.from T b)))⟩
theorem B08(h:Hp)(G:List Value)(M:N0)(aL:D3.R h G M)(g:ByteArray)(w:g.size<=9223372036854775807)(i:ByteArray)(bW:i.size<=9223372036854775807)(j:ByteArray)(am:j.size<=9223372036854775807)(k:ByteArray)(an:k.size<=9223372036854775807)(r:N0×Bool)(a:K9 M g i j k=some r):
  Tr Tryz.prog 40 #[.agg G.toArray,.string g,.string i,.string j,.string k] h λv h'=>∃(F:List Value),v = .tuple #[.agg F.toArray,.bool r.2]/\New D3 h h' F r.1:=by
 obtain⟨aJ,P,ca,Y,aK,rfl,rfl,e,d⟩:=E1 aL
 obtain⟨rfl,bX⟩:=Sl.len d
 unfold K9 at a
 dsimp only at a
 refine E3 (args:=[.agg #[.int .i64 aJ,.slice P aK.length Y],.string g,.string i,.string j,.string k]) (fn:=Tryz.f40) rfl ?_
 refine trM a (M02 _ _ _ (K0 e d) _ am) ?_
 rintro bg a cx L ⟨bJ,rfl,o⟩
 obtain⟨cQ,cU⟩:=bg
 dsimp only at a o
 have c:Sub h L:=o.sub
 have aP:=o.r
 obtain⟨cR,cS,bE,cd,bT,cT,rfl,rfl,H,I,z⟩:=F0 aP
 obtain⟨rfl,b0⟩:=Sl.len z
 try dsimp only at a
 have cI:=New.sndI (New.sndI (o))
 refine trM a (M02 _ _ _ (K0 e (U1.mono c d)) _ an) ?_
 rintro bC a cE f ⟨bR,rfl,u⟩
 obtain⟨dg,dk⟩:=bC
 dsimp only at a u
 have b:Sub L f:=u.sub
 have a4:=u.r
 obtain⟨dh,di,bG,cl,bV,dj,rfl,rfl,J,K,A⟩:=F0 a4
 obtain⟨rfl,b8⟩:=Sl.len A
 try dsimp only at a
 have cJ:=New.sndI (New.sndI (u))
 refine trV a (U9 _ _ _ (K0 e (U1.mono (c.trans b) d))) λdm a=>?_
 refine ifB a (λag a=>?_) λag a=>?_
 ·refine trM a (V9 _ _ _ (K0 e (U1.mono (c.trans b) d))) ?_
  rintro cK a ct aB ⟨bH,rfl,B⟩
  have cm:Sub f aB:=B.sub
  have aM:=B.r
  obtain⟨bh,Q,cb,Z,bi,rfl,rfl,ao,aN⟩:=E1 aM
  obtain⟨rfl,bY⟩:=Sl.len aN
  try dsimp only at a
  have a5:=New.sndI (B)
  obtain rfl:=oJ a
  exact⟨([.int .i64 bh,.slice Q bi.length Z]),rfl,(New.pair (New.int ao) (New.from a5 (c.trans b)))⟩
 ·refine ifB a (λah a=>?_) λah a=>?_
  ·refine trM a (A08 _ _ _ (l0 H I (U0.mono b z)) _ _ (l0 J K A)) ?_
   rintro bj a cu x ⟨bI,rfl,n⟩
   obtain⟨cL,cP⟩:=bj
   dsimp only at a n
   have l:Sub f x:=n.sub
   have aO:=n.r
   obtain⟨cM,cN,bD,cc,bS,cO,rfl,rfl,ap,aq,N⟩:=F0 aO
   obtain⟨rfl,bZ⟩:=Sl.len N
   try dsimp only at a
   have cG:=New.sndI (New.sndI (n))
   refine ifB a (λai a=>?_) λai a=>?_
   ·refine trM a (V9 _ _ _ (K0 e (U1.mono ((c.trans b).trans l) d))) ?_
    rintro cV a cv aC ⟨bK,rfl,C⟩
    have cn:Sub x aC:=C.sub
    have aQ:=C.r
    obtain⟨bk,S,ce,aa,bl,rfl,rfl,ar,aR⟩:=E1 aQ
    obtain⟨rfl,b1⟩:=Sl.len aR
    try dsimp only at a
    have ba:=New.sndI (C)
    obtain rfl:=oJ a
    exact⟨([.int .i64 bk,.slice S bl.length aa]),rfl,(New.pair (New.int ar) (New.from ba ((c.trans b).trans l)))⟩
   ·refine trM a (R03 _ _ _ (K0 e (U1.mono ((c.trans b).trans l) d)) _ w _ _ (l0 ap aq N)) ?_
    rintro bm a cw aD ⟨bL,rfl,p⟩
    obtain⟨cW,cX⟩:=bm
    dsimp only at a p
    have co:Sub x aD:=p.sub
    have aS:=p.r
    obtain⟨bn,T,cf,ab,bo,rfl,rfl,au,aU⟩:=E1 aS
    obtain⟨rfl,b2⟩:=Sl.len aU
    try dsimp only at a
    have bb:=New.sndI (p)
    obtain rfl:=oJ a
    exact⟨([.int .i64 bn,.slice T bo.length ab]),rfl,(New.pair (New.int au) (New.from bb ((c.trans b).trans l)))⟩
  ·refine ifB a (λaj a=>?_) λaj a=>?_
   ·refine trM a (r0h _ _ _ (l0 H I (U0.mono b z)) _ _ (l0 J K A)) ?_
    rintro bp a cy y ⟨bM,rfl,q⟩
    obtain⟨cY,c2⟩:=bp
    dsimp only at a q
    have m:Sub f y:=q.sub
    have aV:=q.r
    obtain⟨cZ,c0,bF,cg,bU,c1,rfl,rfl,av,aw,O⟩:=F0 aV
    obtain⟨rfl,b3⟩:=Sl.len O
    try dsimp only at a
    have cH:=New.sndI (New.sndI (q))
    refine ifB a (λak a=>?_) λak a=>?_
    ·refine trM a (V9 _ _ _ (K0 e (U1.mono ((c.trans b).trans m) d))) ?_
     rintro c3 a cz aE ⟨bN,rfl,D⟩
     have cp:Sub y aE:=D.sub
     have aW:=D.r
     obtain⟨bq,U,ch,ac,br,rfl,rfl,ax,aX⟩:=E1 aW
     obtain⟨rfl,b4⟩:=Sl.len aX
     try dsimp only at a
     have bc:=New.sndI (D)
     obtain rfl:=oJ a
     exact⟨([.int .i64 bq,.slice U br.length ac]),rfl,(New.pair (New.int ax) (New.from bc ((c.trans b).trans m)))⟩
    ·refine trM a (R03 _ _ _ (K0 e (U1.mono ((c.trans b).trans m) d)) _ w _ _ (l0 av aw O)) ?_
     rintro bs a cA aF ⟨bO,rfl,s⟩
     obtain⟨c4,db⟩:=bs
     dsimp only at a s
     have cq:Sub y aF:=s.sub
     have aY:=s.r
     obtain⟨bt,V,ci,ad,bu,rfl,rfl,ay,aZ⟩:=E1 aY
     obtain⟨rfl,b5⟩:=Sl.len aZ
     try dsimp only at a
     have bd:=New.sndI (s)
     obtain rfl:=oJ a
     exact⟨([.int .i64 bt,.slice V bu.length ad]),rfl,(New.pair (New.int ay) (New.from bd ((c.trans b).trans m)))⟩
   ·refine ifB a (λal a=>?_) λal a=>?_
    ·refine trM a (V9 _ _ _ (K0 e (U1.mono (c.trans b) d))) ?_
     rintro dc a cC aG ⟨bP,rfl,E⟩
     have cr:Sub f aG:=E.sub
     have a0:=E.r
     obtain⟨bv,W,cj,ae,bx,rfl,rfl,az,a1⟩:=E1 a0
     obtain⟨rfl,b6⟩:=Sl.len a1
     try dsimp only at a
     have be:=New.sndI (E)
     obtain rfl:=oJ a
     exact⟨([.int .i64 bv,.slice W bx.length ae]),rfl,(New.pair (New.int az) (New.from be (c.trans b)))⟩
    ·refine trM a (R03 _ _ _ (K0 e (U1.mono (c.trans b) d)) _ w _ _ (l0 (by decide) (by decide) (c08 P1 f))) ?_
     rintro bz a cD aH ⟨bQ,rfl,t⟩
     obtain⟨dd,df⟩:=bz
     dsimp only at a t
     have cs:Sub f aH:=t.sub
     have a2:=t.r
     obtain⟨bA,X,ck,af,bB,rfl,rfl,aA,a3⟩:=E1 a2
     obtain⟨rfl,b7⟩:=Sl.len a3
     try dsimp only at a
     have bf:=New.sndI (t)
     obtain rfl:=oJ a
     exact⟨([.int .i64 bA,.slice X bB.length af]),rfl,(New.pair (New.int aA) (New.from bf (c.trans b)))⟩
theorem X0g(h:Hp)(k:Nat)(o:Value)(G:TypeId)(x:List Int)(ai:Int×Int)(ap:i8 h k o x ai)(r:j0×(Int×Int))(E:h03 x ai=some r):
  Tr Tryz.prog 259 #[ptr k 0] (h.set k (O02 o ai G)) λv h'=>∃(aq:List Value) (ah:Hp),v = .agg aq.toArray/\New O1 h ah aq r.1/\Sub h ah/\i8 ah k o x r.2/\h'=ah.set k (O02 o r.2 G):=by
 unfold h03 at E
 refine E3 (args:=[ptr k 0]) (fn:=Tryz.f259) rfl ?_
 refine Or.inl ?_
 intro bn be f3
 obtain⟨aw,aK,aU,rfl⟩:=J1.beside ap.no f3
 obtain⟨aB,aG,rfl,aY,L,bg⟩:=J1.out (r:=Wp.int.toRp) aK (show F2 (Wp.int.R h) ([[.int .i64 1],[.int .i64 2],[.int .i64 2],[.int .i64 2],[.int .i64 3]]:List (List Value)) [1,2,2,2,3] from⟨⟨rfl,(by decide)⟩,⟨⟨rfl,(by decide)⟩,⟨⟨rfl,(by decide)⟩,⟨⟨rfl,(by decide)⟩,⟨⟨rfl,(by decide)⟩,trivial⟩⟩⟩⟩⟩)
 have aF:=ap.mono L aU
 obtain⟨ba,aQ,E⟩:=D0 E
 obtain⟨aA,bb⟩:=ba
 try dsimp only at E
 refine Tr.mono (W9 _ k o G x ai aF aB ([1,2,2,2,3]).length aG [1,2,2,2,3] aY _ aQ) ?_
 rintro _ _ ⟨rfl,aC,rfl⟩
 obtain⟨bh,aL,E⟩:=D0 E
 have aX:J0 aA:=O0 aL
 obtain⟨aZ,aO,E⟩:=D0 E
 obtain⟨ay,a0⟩:=aZ
 try dsimp only at E
 refine Tr.mono (M2 _ k o G x bb aC 5 (by decide) _ aO) ?_
 rintro _ _ ⟨rfl,aD,rfl⟩
 obtain⟨bi,aM,E⟩:=D0 E
 have bd:J0 ay:=O0 aM
 obtain⟨a1,aP,E⟩:=D0 E
 obtain⟨az,a2⟩:=a1
 try dsimp only at E
 refine Tr.mono (M2 _ k o G x a0 aD 9 (by decide) _ aP) ?_
 rintro _ _ ⟨rfl,aE,rfl⟩
 obtain⟨bj,aN,E⟩:=D0 E
 have aW:J0 az:=O0 aN
 obtain⟨ao,aR,E⟩:=D0 E
 refine eX { vars:=[4],boxes:=[1],owns:=[],fuel:=true } (eX (λvs os aV=>∃(H:Int) (aa:Int) (I:Int) (ae:Option Addr) (am ag:Nat) (ad:V0) (ac:Int×Int) (h':Hp),vs.tail = [.int .i64 H,.int .i64 aa,.int .i64 I,.slice ae am ag]/\os = []/\aV=h'.set k (O02 o ac G)/\Sub aw h'/\J0 H/\J0 aa/\J0 I/\New U0 h h' [.slice ae am ag] ad/\i8 h' k o x ac/\w7 x (D2 vs) H aa I ad ac=some ao) (eX (λ_ _=>0) ?_))
 refine aI (eX Y0 ⟨az,aA,(IntKind.i64.wrap (1+ay)),none,0,0,[],a2,aw,rfl,rfl,rfl,(Sub.refl _),aW,aX,(I0 _),((New.nilSlice (r:=P1)).mono L),aE,aR⟩) ?_
 rintro bo bp bq br K _ ⟨H,aa,I,ae,am,ag,ad,ac,N,aJ,aH,rfl,l,bc,J,m,ax,aj,a⟩
 cases aJ
 cases aH
 replace a:w7 x K H aa I ad ac=some ao:=a
 obtain _|K:=K
 ·cases a
 rw[w7.eq_2]at a
 have O:=ax.r
 obtain⟨rfl,bf⟩:=Sl.len O
 refine ifB a (λaS a=>?_) λaS a=>?_
 ·refine Or.inr (Or.inr (Or.inl (aI (aI (by kernel_rfl) (by kernel_rfl)) ?_)))
  refine Or.inr ?_
  refine Or.inr ?_
  refine Or.inr ?_
  refine Or.inr ?_
  refine Or.inr ?_
  refine Or.inr ?_
  refine Or.inr ?_
  refine Or.inr (eX 99 (eX 0 (aI rfl ?_)))
  obtain⟨a3,au,a⟩:=D0 a
  obtain⟨j,an⟩:=a3
  try dsimp only at a
  obtain⟨bk,ar,a⟩:=D0 a
  obtain⟨a4,al,a⟩:=D0 a
  obtain⟨i,ab⟩:=a4
  try dsimp only at a
  obtain⟨bl,ak,a⟩:=D0 a
  obtain⟨a5,Z,a⟩:=D0 a
  obtain⟨f,P⟩:=a5
  try dsimp only at a
  obtain⟨bm,Y,a⟩:=D0 a
  refine aI ?_ ?_
  ·skip
   refine Tr.mono (M2 _ k o G x ac aj I m _ au) ?_
   rintro _ _ ⟨rfl,af,rfl⟩
   have M:J0 j:=O0 ar
   refine aT ?_
   refine aI ?_ ?_
   ·skip
    refine Tr.mono (M2 _ k o G x an af aa J _ al) ?_
    rintro _ _ ⟨rfl,Q,rfl⟩
    have av:J0 i:=O0 ak
    refine aT ?_
    refine aI ?_ ?_
    ·skip
     refine aT ?_
     refine aI ?_ ?_
     ·skip
      refine Tr.mono (M2 _ k o G x ab Q I m _ Z) ?_
      rintro _ _ ⟨rfl,g,rfl⟩
      have F:J0 f:=O0 Y
      refine aT ?_
      refine aI ?_ ?_
      ·skip
       refine aT ?_
       refine aI ?_ ?_
       ·skip
        refine aT ?_
        refine aI ?_ ?_
        ·skip
         refine aT ?_
         obtain⟨B,s,a⟩:=D0 a
         refine Tr.beside g.no (D6 _ _ _ (l0 J m O) [.int .i64 j,.int .i64 (IntKind.i64.wrap (1+i)),.int .i64 f] (j,(IntKind.i64.wrap (1+i)),f) (K1 M (I0 _) F) _  s) ?_
         rintro V c ⟨S,rfl,b⟩ t
         obtain⟨W,X⟩:=B
         dsimp only at a b
         have d:Sub N c:=b.sub
         have y:=b.r
         have p:=g.mono d t
         obtain⟨C,D,n,U,q,e,rfl,rfl,u,w,z⟩:=F0 y
         obtain⟨rfl,T⟩:=Sl.len z
         try dsimp only at a
         have A:=New.sndI (New.sndI (b))
         exact U2 K ⟨(IntKind.i64.wrap (H-1)),C,D,n,e.length,q,e,P,c,rfl,rfl,rfl,(l.trans d),(I0 _),u,w,(New.from A (L.trans l)),p,a⟩
        exact trivial
       exact trivial
      refine aI ?_ ?_
      ·skip
       refine aT ?_
       refine aI ?_ ?_
       ·skip
        refine aT ?_
        refine aI ?_ ?_
        ·skip
         refine aT ?_
         obtain⟨B,s,a⟩:=D0 a
         refine Tr.beside g.no (D6 _ _ _ (l0 J m O) [.int .i64 j,.int .i64 (IntKind.i64.wrap (1+i)),.int .i64 f] (j,(IntKind.i64.wrap (1+i)),f) (K1 M (I0 _) F) _  s) ?_
         rintro V c ⟨S,rfl,b⟩ t
         obtain⟨W,X⟩:=B
         dsimp only at a b
         have d:Sub N c:=b.sub
         have y:=b.r
         have p:=g.mono d t
         obtain⟨C,D,n,U,q,e,rfl,rfl,u,w,z⟩:=F0 y
         obtain⟨rfl,T⟩:=Sl.len z
         try dsimp only at a
         have A:=New.sndI (New.sndI (b))
         exact U2 K ⟨(IntKind.i64.wrap (H-1)),C,D,n,e.length,q,e,P,c,rfl,rfl,rfl,(l.trans d),(I0 _),u,w,(New.from A (L.trans l)),p,a⟩
        exact trivial
       exact trivial
      exact trivial
     refine aI ?_ ?_
     ·skip
      refine aT ?_
      refine aI ?_ ?_
      ·skip
       refine Tr.mono (M2 _ k o G x ab Q I m _ Z) ?_
       rintro _ _ ⟨rfl,g,rfl⟩
       have F:J0 f:=O0 Y
       refine aT ?_
       refine aI ?_ ?_
       ·skip
        refine aT ?_
        refine aI ?_ ?_
        ·skip
         refine aT ?_
         obtain⟨B,s,a⟩:=D0 a
         refine Tr.beside g.no (D6 _ _ _ (l0 J m O) [.int .i64 j,.int .i64 (IntKind.i64.wrap (1+i)),.int .i64 f] (j,(IntKind.i64.wrap (1+i)),f) (K1 M (I0 _) F) _  s) ?_
         rintro V c ⟨S,rfl,b⟩ t
         obtain⟨W,X⟩:=B
         dsimp only at a b
         have d:Sub N c:=b.sub
         have y:=b.r
         have p:=g.mono d t
         obtain⟨C,D,n,U,q,e,rfl,rfl,u,w,z⟩:=F0 y
         obtain⟨rfl,T⟩:=Sl.len z
         try dsimp only at a
         have A:=New.sndI (New.sndI (b))
         exact U2 K ⟨(IntKind.i64.wrap (H-1)),C,D,n,e.length,q,e,P,c,rfl,rfl,rfl,(l.trans d),(I0 _),u,w,(New.from A (L.trans l)),p,a⟩
        exact trivial
       exact trivial
      exact trivial
     exact trivial
    refine aI ?_ ?_
    ·skip
     refine Tr.mono (M2 _ k o G x ab Q I m _ Z) ?_
     rintro _ _ ⟨rfl,g,rfl⟩
     have F:J0 f:=O0 Y
     refine aT ?_
     refine aI ?_ ?_
     ·skip
      refine aT ?_
      refine aI ?_ ?_
      ·skip
       refine aT ?_
       refine aI ?_ ?_
       ·skip
        refine aT ?_
        refine aI ?_ ?_
        ·skip
         refine aT ?_
         obtain⟨B,s,a⟩:=D0 a
         refine Tr.beside g.no (D6 _ _ _ (l0 J m O) [.int .i64 j,.int .i64 (IntKind.i64.wrap (1+i)),.int .i64 f] (j,(IntKind.i64.wrap (1+i)),f) (K1 M (I0 _) F) _  s) ?_
         rintro V c ⟨S,rfl,b⟩ t
         obtain⟨W,X⟩:=B
         dsimp only at a b
         have d:Sub N c:=b.sub
         have y:=b.r
         have p:=g.mono d t
         obtain⟨C,D,n,U,q,e,rfl,rfl,u,w,z⟩:=F0 y
         obtain⟨rfl,T⟩:=Sl.len z
         try dsimp only at a
         have A:=New.sndI (New.sndI (b))
         exact U2 K ⟨(IntKind.i64.wrap (H-1)),C,D,n,e.length,q,e,P,c,rfl,rfl,rfl,(l.trans d),(I0 _),u,w,(New.from A (L.trans l)),p,a⟩
        exact trivial
       exact trivial
      refine aI ?_ ?_
      ·skip
       refine aT ?_
       refine aI ?_ ?_
       ·skip
        refine aT ?_
        refine aI ?_ ?_
        ·skip
         refine aT ?_
         obtain⟨B,s,a⟩:=D0 a
         refine Tr.beside g.no (D6 _ _ _ (l0 J m O) [.int .i64 j,.int .i64 (IntKind.i64.wrap (1+i)),.int .i64 f] (j,(IntKind.i64.wrap (1+i)),f) (K1 M (I0 _) F) _  s) ?_
         rintro V c ⟨S,rfl,b⟩ t
         obtain⟨W,X⟩:=B
         dsimp only at a b
         have d:Sub N c:=b.sub
         have y:=b.r
         have p:=g.mono d t
         obtain⟨C,D,n,U,q,e,rfl,rfl,u,w,z⟩:=F0 y
         obtain⟨rfl,T⟩:=Sl.len z
         try dsimp only at a
         have A:=New.sndI (New.sndI (b))
         exact U2 K ⟨(IntKind.i64.wrap (H-1)),C,D,n,e.length,q,e,P,c,rfl,rfl,rfl,(l.trans d),(I0 _),u,w,(New.from A (L.trans l)),p,a⟩
        exact trivial
       exact trivial
      exact trivial
     refine aI ?_ ?_
     ·skip
      refine aT ?_
      refine aI ?_ ?_
      ·skip
       refine aT ?_
       refine aI ?_ ?_
       ·skip
        refine aT ?_
        refine aI ?_ ?_
        ·skip
         refine aT ?_
         obtain⟨B,s,a⟩:=D0 a
         refine Tr.beside g.no (D6 _ _ _ (l0 J m O) [.int .i64 j,.int .i64 (IntKind.i64.wrap (1+i)),.int .i64 f] (j,(IntKind.i64.wrap (1+i)),f) (K1 M (I0 _) F) _  s) ?_
         rintro V c ⟨S,rfl,b⟩ t
         obtain⟨W,X⟩:=B
         dsimp only at a b
         have d:Sub N c:=b.sub
         have y:=b.r
         have p:=g.mono d t
         obtain⟨C,D,n,U,q,e,rfl,rfl,u,w,z⟩:=F0 y
         obtain⟨rfl,T⟩:=Sl.len z
         try dsimp only at a
         have A:=New.sndI (New.sndI (b))
         exact U2 K ⟨(IntKind.i64.wrap (H-1)),C,D,n,e.length,q,e,P,c,rfl,rfl,rfl,(l.trans d),(I0 _),u,w,(New.from A (L.trans l)),p,a⟩
        exact trivial
       exact trivial
      exact trivial
     exact trivial
    refine aI ?_ ?_
    ·skip
     refine aT ?_
     refine aI ?_ ?_
     ·skip
      refine aT ?_
      refine aI ?_ ?_
      ·skip
       refine Tr.mono (M2 _ k o G x ab Q I m _ Z) ?_
       rintro _ _ ⟨rfl,g,rfl⟩
       have F:J0 f:=O0 Y
       refine aT ?_
       refine aI ?_ ?_
       ·skip
        refine aT ?_
        refine aI ?_ ?_
        ·skip
         refine aT ?_
         obtain⟨B,s,a⟩:=D0 a
         refine Tr.beside g.no (D6 _ _ _ (l0 J m O) [.int .i64 j,.int .i64 (IntKind.i64.wrap (1+i)),.int .i64 f] (j,(IntKind.i64.wrap (1+i)),f) (K1 M (I0 _) F) _  s) ?_
         rintro V c ⟨S,rfl,b⟩ t
         obtain⟨W,X⟩:=B
         dsimp only at a b
         have d:Sub N c:=b.sub
         have y:=b.r
         have p:=g.mono d t
         obtain⟨C,D,n,U,q,e,rfl,rfl,u,w,z⟩:=F0 y
         obtain⟨rfl,T⟩:=Sl.len z
         try dsimp only at a
         have A:=New.sndI (New.sndI (b))
         exact U2 K ⟨(IntKind.i64.wrap (H-1)),C,D,n,e.length,q,e,P,c,rfl,rfl,rfl,(l.trans d),(I0 _),u,w,(New.from A (L.trans l)),p,a⟩
        exact trivial
       exact trivial
      exact trivial
     refine aI ?_ ?_
     ·skip
      refine Tr.mono (M2 _ k o G x ab Q I m _ Z) ?_
      rintro _ _ ⟨rfl,g,rfl⟩
      have F:J0 f:=O0 Y
      refine aT ?_
      refine aI ?_ ?_
      ·skip
       refine aT ?_
       refine aI ?_ ?_
       ·skip
        refine aT ?_
        refine aI ?_ ?_
        ·skip
         refine aT ?_
         obtain⟨B,s,a⟩:=D0 a
         refine Tr.beside g.no (D6 _ _ _ (l0 J m O) [.int .i64 j,.int .i64 (IntKind.i64.wrap (1+i)),.int .i64 f] (j,(IntKind.i64.wrap (1+i)),f) (K1 M (I0 _) F) _  s) ?_
         rintro V c ⟨S,rfl,b⟩ t
         obtain⟨W,X⟩:=B
         dsimp only at a b
         have d:Sub N c:=b.sub
         have y:=b.r
         have p:=g.mono d t
         obtain⟨C,D,n,U,q,e,rfl,rfl,u,w,z⟩:=F0 y
         obtain⟨rfl,T⟩:=Sl.len z
         try dsimp only at a
         have A:=New.sndI (New.sndI (b))
         exact U2 K ⟨(IntKind.i64.wrap (H-1)),C,D,n,e.length,q,e,P,c,rfl,rfl,rfl,(l.trans d),(I0 _),u,w,(New.from A (L.trans l)),p,a⟩
        exact trivial
       exact trivial
      exact trivial
     exact trivial
    exact trivial
   refine aI ?_ ?_
   ·skip
    refine aT ?_
    refine aI ?_ ?_
    ·skip
     refine Tr.mono (M2 _ k o G x an af aa J _ al) ?_
     rintro _ _ ⟨rfl,Q,rfl⟩
     have av:J0 i:=O0 ak
     refine aT ?_
     refine aI ?_ ?_
     ·skip
      refine aT ?_
      refine aI ?_ ?_
      ·skip
       refine Tr.mono (M2 _ k o G x ab Q I m _ Z) ?_
       rintro _ _ ⟨rfl,g,rfl⟩
       have F:J0 f:=O0 Y
       refine aT ?_
       refine aI ?_ ?_
       ·skip
        refine aT ?_
        refine aI ?_ ?_
        ·skip
         refine aT ?_
         obtain⟨B,s,a⟩:=D0 a
         refine Tr.beside g.no (D6 _ _ _ (l0 J m O) [.int .i64 j,.int .i64 (IntKind.i64.wrap (1+i)),.int .i64 f] (j,(IntKind.i64.wrap (1+i)),f) (K1 M (I0 _) F) _  s) ?_
         rintro V c ⟨S,rfl,b⟩ t
         obtain⟨W,X⟩:=B
         dsimp only at a b
         have d:Sub N c:=b.sub
         have y:=b.r
         have p:=g.mono d t
         obtain⟨C,D,n,U,q,e,rfl,rfl,u,w,z⟩:=F0 y
         obtain⟨rfl,T⟩:=Sl.len z
         try dsimp only at a
         have A:=New.sndI (New.sndI (b))
         exact U2 K ⟨(IntKind.i64.wrap (H-1)),C,D,n,e.length,q,e,P,c,rfl,rfl,rfl,(l.trans d),(I0 _),u,w,(New.from A (L.trans l)),p,a⟩
        exact trivial
       exact trivial
      exact trivial
     refine aI ?_ ?_
     ·skip
      refine Tr.mono (M2 _ k o G x ab Q I m _ Z) ?_
      rintro _ _ ⟨rfl,g,rfl⟩
      have F:J0 f:=O0 Y
      refine aT ?_
      refine aI ?_ ?_
      ·skip
       refine aT ?_
       refine aI ?_ ?_
       ·skip
        refine aT ?_
        refine aI ?_ ?_
        ·skip
         refine aT ?_
         obtain⟨B,s,a⟩:=D0 a
         refine Tr.beside g.no (D6 _ _ _ (l0 J m O) [.int .i64 j,.int .i64 (IntKind.i64.wrap (1+i)),.int .i64 f] (j,(IntKind.i64.wrap (1+i)),f) (K1 M (I0 _) F) _  s) ?_
         rintro V c ⟨S,rfl,b⟩ t
         obtain⟨W,X⟩:=B
         dsimp only at a b
         have d:Sub N c:=b.sub
         have y:=b.r
         have p:=g.mono d t
         obtain⟨C,D,n,U,q,e,rfl,rfl,u,w,z⟩:=F0 y
         obtain⟨rfl,T⟩:=Sl.len z
         try dsimp only at a
         have A:=New.sndI (New.sndI (b))
         exact U2 K ⟨(IntKind.i64.wrap (H-1)),C,D,n,e.length,q,e,P,c,rfl,rfl,rfl,(l.trans d),(I0 _),u,w,(New.from A (L.trans l)),p,a⟩
        exact trivial
       exact trivial
      exact trivial
     exact trivial
    exact trivial
   exact trivial
  refine aI ?_ ?_
  ·skip
   refine aT ?_
   refine aI ?_ ?_
   ·skip
    refine Tr.mono (M2 _ k o G x ac aj I m _ au) ?_
    rintro _ _ ⟨rfl,af,rfl⟩
    have M:J0 j:=O0 ar
    refine aT ?_
    refine aI ?_ ?_
    ·skip
     refine Tr.mono (M2 _ k o G x an af aa J _ al) ?_
     rintro _ _ ⟨rfl,Q,rfl⟩
     have av:J0 i:=O0 ak
     refine aT ?_
     refine aI ?_ ?_
     ·skip
      refine aT ?_
      refine aI ?_ ?_
      ·skip
       refine Tr.mono (M2 _ k o G x ab Q I m _ Z) ?_
       rintro _ _ ⟨rfl,g,rfl⟩
       have F:J0 f:=O0 Y
       refine aT ?_
       refine aI ?_ ?_
       ·skip
        refine aT ?_
        refine aI ?_ ?_
        ·skip
         refine aT ?_
         obtain⟨B,s,a⟩:=D0 a
         refine Tr.beside g.no (D6 _ _ _ (l0 J m O) [.int .i64 j,.int .i64 (IntKind.i64.wrap (1+i)),.int .i64 f] (j,(IntKind.i64.wrap (1+i)),f) (K1 M (I0 _) F) _  s) ?_
         rintro V c ⟨S,rfl,b⟩ t
         obtain⟨W,X⟩:=B
         dsimp only at a b
         have d:Sub N c:=b.sub
         have y:=b.r
         have p:=g.mono d t
         obtain⟨C,D,n,U,q,e,rfl,rfl,u,w,z⟩:=F0 y
         obtain⟨rfl,T⟩:=Sl.len z
         try dsimp only at a
         have A:=New.sndI (New.sndI (b))
         exact U2 K ⟨(IntKind.i64.wrap (H-1)),C,D,n,e.length,q,e,P,c,rfl,rfl,rfl,(l.trans d),(I0 _),u,w,(New.from A (L.trans l)),p,a⟩
        exact trivial
       exact trivial
      exact trivial
     refine aI ?_ ?_
     ·skip
      refine Tr.mono (M2 _ k o G x ab Q I m _ Z) ?_
      rintro _ _ ⟨rfl,g,rfl⟩
      have F:J0 f:=O0 Y
      refine aT ?_
      refine aI ?_ ?_
      ·skip
       refine aT ?_
       refine aI ?_ ?_
       ·skip
        refine aT ?_
        refine aI ?_ ?_
        ·skip
         refine aT ?_
         obtain⟨B,s,a⟩:=D0 a
         refine Tr.beside g.no (D6 _ _ _ (l0 J m O) [.int .i64 j,.int .i64 (IntKind.i64.wrap (1+i)),.int .i64 f] (j,(IntKind.i64.wrap (1+i)),f) (K1 M (I0 _) F) _  s) ?_
         rintro V c ⟨S,rfl,b⟩ t
         obtain⟨W,X⟩:=B
         dsimp only at a b
         have d:Sub N c:=b.sub
         have y:=b.r
         have p:=g.mono d t
         obtain⟨C,D,n,U,q,e,rfl,rfl,u,w,z⟩:=F0 y
         obtain⟨rfl,T⟩:=Sl.len z
         try dsimp only at a
         have A:=New.sndI (New.sndI (b))
         exact U2 K ⟨(IntKind.i64.wrap (H-1)),C,D,n,e.length,q,e,P,c,rfl,rfl,rfl,(l.trans d),(I0 _),u,w,(New.from A (L.trans l)),p,a⟩
        exact trivial
       exact trivial
      exact trivial
     exact trivial
    exact trivial
   exact trivial
  exact trivial
 ·obtain rfl:=oJ a
  try dsimp only[Z0,I1]at E
  obtain rfl:=oJ E
  exact⟨([.int .i64 aa,.int .i64 I,.slice ae ad.length ag]),N,rfl,(New.pair (New.int J) (New.pair (New.int m) ax)),(L.trans l),aj,rfl⟩
theorem q08(h:Hp)(b:Nat)(c:Value)(g:TypeId)(d:List Int)(u:Int×Int)(I:i8 h b c d u)(r:j0×(Int×Int))(a:s03 d u=some r):
  Tr Tryz.prog 208 #[ptr b 0] (h.set b (O02 c u g)) λv h'=>∃(L:List Value) (t:Hp),v = .agg L.toArray/\New O1 h t L r.1/\Sub h t/\i8 t b c d r.2/\h'=t.set b (O02 c r.2 g):=by
 unfold s03 at a
 refine E3 (args:=[ptr b 0]) (fn:=Tryz.f208) rfl ?_
 obtain⟨bF,aU,a⟩:=D0 a
 obtain⟨ct,V⟩:=bF
 try dsimp only at a
 refine Tr.mono (X0g _ b c g d u I _ aU) ?_
 rintro _ _ ⟨bS,e,rfl,T,f,J,rfl⟩
 have bv:=T.r
 obtain⟨n,o,bR,b8,y,x,rfl,rfl,l,m,bx⟩:=F0 bv
 obtain⟨rfl,b1⟩:=Sl.len bx
 try dsimp only at a
 have q:=New.sndI (New.sndI (T))
 rcases New.two q with⟨rfl,rfl,rfl⟩|⟨z,B,rfl⟩
 ·skip
  obtain⟨bL,aZ,a⟩:=D0 a
  obtain⟨bN,H⟩:=bL
  try dsimp only at a
  refine Tr.mono (M2 _ b c g d V J 14 (by decide) _ aZ) ?_
  rintro _ _ ⟨rfl,k,rfl⟩
  obtain⟨ck,aS,a⟩:=D0 a
  have bU:J0 bN:=O0 aS
  refine ifB a (λa5 a=>?_) λa5 a=>?_
  ·refine Or.inl ?_
   intro cm bV ay
   obtain⟨bp,az,bf,rfl⟩:=J1.beside k.no ay
   obtain⟨aa,ap,rfl,bz,C,b2⟩:=J1.out (r:=Wp.int.toRp) az (show F2 (Wp.int.R e) ([[.int .i64 (-1)],[.int .i64 0],[.int .i64 1],[.int .i64 41]]:List (List Value)) [(-1),0,1,41] from⟨⟨rfl,(by decide)⟩,⟨⟨rfl,(by decide)⟩,⟨⟨rfl,(by decide)⟩,⟨⟨rfl,(by decide)⟩,trivial⟩⟩⟩⟩)
   have af:=k.mono C bf
   obtain⟨bG,aV,a⟩:=D0 a
   obtain⟨U,cs⟩:=bG
   try dsimp only at a
   refine Tr.mono (W9 _ b c g d H af aa ([(-1),0,1,41]).length ap [(-1),0,1,41] bz _ aV) ?_
   rintro _ _ ⟨rfl,ag,rfl⟩
   obtain⟨cb,aJ,a⟩:=D0 a
   have bl:J0 U:=O0 aJ
   obtain rfl:=oJ a
   exact⟨([.int .i64 n,.int .i64 U,.slice none 0 0]),bp,rfl,(New.pair (New.int l) (New.pair (New.int bl) ((New.nilSlice (r:=P1)).mono (f.trans C)))),(f.trans C),ag,rfl⟩
  ·refine ifB a (λba a=>?_) λba a=>?_
   ·refine Or.inl ?_
    intro cn bW aA
    obtain⟨bq,aB,bg,rfl⟩:=J1.beside k.no aA
    obtain⟨ab,aq,rfl,bA,D,b3⟩:=J1.out (r:=Wp.int.toRp) aB (show F2 (Wp.int.R e) ([[.int .i64 0],[.int .i64 1],[.int .i64 4]]:List (List Value)) [0,1,4] from⟨⟨rfl,(by decide)⟩,⟨⟨rfl,(by decide)⟩,⟨⟨rfl,(by decide)⟩,trivial⟩⟩⟩)
    have ah:=k.mono D bg
    obtain⟨bH,aW,a⟩:=D0 a
    obtain⟨W,cu⟩:=bH
    try dsimp only at a
    refine Tr.mono (W9 _ b c g d H ah ab ([0,1,4]).length aq [0,1,4] bA _ aW) ?_
    rintro _ _ ⟨rfl,ai,rfl⟩
    obtain⟨cc,aK,a⟩:=D0 a
    have bm:J0 W:=O0 aK
    obtain rfl:=oJ a
    exact⟨([.int .i64 W,.int .i64 o,.slice none 0 0]),bq,rfl,(New.pair (New.int bm) (New.pair (New.int m) ((New.nilSlice (r:=P1)).mono (f.trans D)))),(f.trans D),ai,rfl⟩
   ·refine ifB a (λbb a=>?_) λbb a=>?_
    ·refine Or.inr (Or.inr (Or.inl (aI (aI (by kernel_rfl) (by kernel_rfl)) ?_)))
     refine Or.inr ?_
     refine Or.inr ?_
     refine Or.inr ?_
     refine Or.inr ?_
     refine Or.inr ?_
     refine Or.inl (eX 0 (aI (aI rfl rfl) ?_))
     obtain⟨bI,aX,a⟩:=D0 a
     obtain⟨i,cv⟩:=bI
     try dsimp only at a
     refine Tr.mono (M2 _ b c g d H k 4 (by decide) _ aX) ?_
     rintro _ _ ⟨rfl,K,rfl⟩
     obtain⟨cd,aL,a⟩:=D0 a
     have A:J0 i:=O0 aL
     refine aT ?_
     refine aT ?_
     refine aT ?_
     refine Or.inl ?_
     obtain⟨ce,aM,a⟩:=D0 a
     refine aI (N2 aM (F2.length (show F2 (P1.R e) ([[.int .i64 i,.int .i64 1,.int .i64 0]]:List (List Value)) [(i,1,0)] from⟨(K1 A (by decide) (by decide)),trivial⟩))) ?_
     refine aT ?_
     refine aT ?_
     intro co bX aC
     obtain⟨br,M,bh,rfl⟩:=J1.beside K.no aC
     obtain⟨ac,ar,rfl,cl,S,b4⟩:=J1.out (r:=P1.toRp) M (show F2 (P1.R e) ([[.int .i64 i,.int .i64 1,.int .i64 0]]:List (List Value)) [(i,1,0)] from⟨(K1 A (by decide) (by decide)),trivial⟩)
     have aj:=K.mono S bh
     obtain rfl:=oJ a
     exact⟨([.int .i64 n,.int .i64 o,.slice ac ([(i,1,0)]).length ar]),br,rfl,(New.pair (New.int l) (New.pair (New.int m) (New.from (J1.newPlain (r:=P1) M (show F2 (P1.R e) ([[.int .i64 i,.int .i64 1,.int .i64 0]]:List (List Value)) [(i,1,0)] from⟨(K1 A (by decide) (by decide)),trivial⟩) (s06 _)) f))),(f.trans S),aj,rfl⟩
    ·obtain rfl:=oJ a
     exact⟨([.int .i64 n,.int .i64 o,.slice none 0 0]),e,rfl,(New.pair (New.int l) (New.pair (New.int m) ((New.nilSlice (r:=P1)).mono f))),f,k,rfl⟩
 ·skip
  obtain⟨bJ,aY,a⟩:=D0 a
  obtain⟨bK,G⟩:=bJ
  try dsimp only at a
  refine Tr.mono (M2 _ b c g d V J 14 (by decide) _ aY) ?_
  rintro _ _ ⟨rfl,j,rfl⟩
  obtain⟨cf,aN,a⟩:=D0 a
  have bT:J0 bK:=O0 aN
  refine ifB a (λbc a=>?_) λbc a=>?_
  ·refine Or.inl ?_
   intro cp bY aD
   obtain⟨bs,aE,bi,rfl⟩:=J1.beside j.no aD
   obtain⟨ad,au,rfl,bB,E,b5⟩:=J1.out (r:=Wp.int.toRp) aE (show F2 (Wp.int.R e) ([[.int .i64 (-1)],[.int .i64 0],[.int .i64 1],[.int .i64 41]]:List (List Value)) [(-1),0,1,41] from⟨⟨rfl,(by decide)⟩,⟨⟨rfl,(by decide)⟩,⟨⟨rfl,(by decide)⟩,⟨⟨rfl,(by decide)⟩,trivial⟩⟩⟩⟩)
   have ak:=j.mono E bi
   obtain⟨bM,a0,a⟩:=D0 a
   obtain⟨X,cw⟩:=bM
   try dsimp only at a
   refine Tr.mono (W9 _ b c g d G ak ad ([(-1),0,1,41]).length au [(-1),0,1,41] bB _ a0) ?_
   rintro _ _ ⟨rfl,al,rfl⟩
   obtain⟨cg,aO,a⟩:=D0 a
   have bn:J0 X:=O0 aO
   obtain rfl:=oJ a
   exact⟨([.int .i64 n,.int .i64 X,.slice (some ⟨z,B,none⟩) x.length y]),bs,rfl,(New.pair (New.int l) (New.pair (New.int bn) (New.mono q E))),(f.trans E),al,rfl⟩
  ·refine ifB a (λbd a=>?_) λbd a=>?_
   ·refine Or.inl ?_
    intro cq bZ aF
    obtain⟨bt,aG,bj,rfl⟩:=J1.beside j.no aF
    obtain⟨ae,av,rfl,bC,F,b6⟩:=J1.out (r:=Wp.int.toRp) aG (show F2 (Wp.int.R e) ([[.int .i64 0],[.int .i64 1],[.int .i64 4]]:List (List Value)) [0,1,4] from⟨⟨rfl,(by decide)⟩,⟨⟨rfl,(by decide)⟩,⟨⟨rfl,(by decide)⟩,trivial⟩⟩⟩)
    have am:=j.mono F bj
    obtain⟨bO,a1,a⟩:=D0 a
    obtain⟨Y,cx⟩:=bO
    try dsimp only at a
    refine Tr.mono (W9 _ b c g d G am ae ([0,1,4]).length av [0,1,4] bC _ a1) ?_
    rintro _ _ ⟨rfl,an,rfl⟩
    obtain⟨ch,aP,a⟩:=D0 a
    have bo:J0 Y:=O0 aP
    obtain rfl:=oJ a
    exact⟨([.int .i64 Y,.int .i64 o,.slice (some ⟨z,B,none⟩) x.length y]),bt,rfl,(New.pair (New.int bo) (New.pair (New.int m) (New.mono q F))),(f.trans F),an,rfl⟩
   ·refine ifB a (λbe a=>?_) λbe a=>?_
    ·refine Or.inr (Or.inr (Or.inl (aI (aI (by kernel_rfl) (by kernel_rfl)) ?_)))
     refine Or.inr ?_
     refine Or.inr ?_
     refine Or.inr ?_
     refine Or.inr ?_
     refine Or.inr ?_
     refine Or.inl (eX 0 (aI (aI rfl rfl) ?_))
     obtain⟨bP,a2,a⟩:=D0 a
     obtain⟨p,bQ⟩:=bP
     try dsimp only at a
     refine Tr.mono (M2 _ b c g d G j 4 (by decide) _ a2) ?_
     rintro _ _ ⟨rfl,s,rfl⟩
     obtain⟨ci,aQ,a⟩:=D0 a
     have N:J0 p:=O0 aQ
     refine aT ?_
     refine aT ?_
     refine aT ?_
     obtain⟨cj,aR,a⟩:=D0 a
     obtain⟨bE,Q,P,Z⟩:=New.app q (Sub.refl _)
     refine eX bE (aI (g0e.setB s.no Q) (aI (N2 aR (by first|rw[P,F2.length (show F2 (P1.R e) ([[.int .i64 p,.int .i64 1,.int .i64 0]]:List (List Value)) [(p,1,0)] from⟨(K1 N (by decide) (by decide)),trivial⟩)]|(rw[P];rfl))) ?_))
     intro cr b0 a4
     obtain⟨O,aH,bk,rfl⟩:=Y0g.beside s.no Q a4
     obtain⟨w,a3,bu,ca,aw,rfl⟩:=Z _ _ _ _ _ (F3.ofPlain (s06 _) (show F2 (P1.R e) ([[.int .i64 p,.int .i64 1,.int .i64 0]]:List (List Value)) [(p,1,0)] from⟨(K1 N (by decide) (by decide)),trivial⟩)) Y4.ofPlain aH
     have bD:=w.r
     obtain⟨ax,b7⟩:=Sl.len bD
     subst ax
     have ao:i8 O b c d bQ:=⟨bk,Sl.mono (r:=Rp.u8) w.sub (I.rd),s.pl,s.nm⟩
     refine aT ?_
     refine aT ?_
     obtain rfl:=oJ a
     exact⟨([.int .i64 n,.int .i64 o,.slice (some ⟨a3,bu,none⟩) (x ++ [(p,1,0)]).length aw]),O,rfl,(New.pair (New.int l) (New.pair (New.int m) w)),w.sub,ao,rfl⟩
    ·obtain rfl:=oJ a
     exact⟨([.int .i64 n,.int .i64 o,.slice (some ⟨z,B,none⟩) x.length y]),e,rfl,(New.pair (New.int l) (New.pair (New.int m) q)),f,j,rfl⟩
theorem a0k(h:Hp)(b:Nat)(c:Value)(g:TypeId)(d:List Int)(f:Int×Int)(i:i8 h b c d f)(r:j0×(Int×Int))(a:v04 d f=some r):
  Tr Tryz.prog 209 #[ptr b 0] (h.set b (O02 c f g)) λv h'=>∃(k:List Value) (e:Hp),v = .agg k.toArray/\O1.R e k r.1/\Sub h e/\i8 e b c d r.2/\h'=e.set b (O02 c r.2 g):=by
 unfold v04 at a
 refine E3 (args:=[ptr b 0]) (fn:=Tryz.f209) rfl ?_
 refine Or.inl ?_
 intro ai aa f3
 obtain⟨ab,E,K,rfl⟩:=J1.beside i.no f3
 obtain⟨x,D,rfl,O,q,ae⟩:=J1.out (r:=Wp.int.toRp) E (show F2 (Wp.int.R h) ([[.int .i64 1],[.int .i64 2],[.int .i64 2],[.int .i64 2],[.int .i64 2],[.int .i64 3]]:List (List Value)) [1,2,2,2,2,3] from⟨⟨rfl,(by decide)⟩,⟨⟨rfl,(by decide)⟩,⟨⟨rfl,(by decide)⟩,⟨⟨rfl,(by decide)⟩,⟨⟨rfl,(by decide)⟩,⟨⟨rfl,(by decide)⟩,trivial⟩⟩⟩⟩⟩⟩)
 have A:=i.mono q K
 obtain⟨W,I,a⟩:=D0 a
 obtain⟨t,X⟩:=W
 try dsimp only at a
 refine Tr.mono (W9 _ b c g d f A x ([1,2,2,2,2,3]).length D [1,2,2,2,2,3] O _ I) ?_
 rintro _ _ ⟨rfl,y,rfl⟩
 obtain⟨ah,F,a⟩:=D0 a
 have l:J0 t:=O0 F
 obtain⟨Q,G,a⟩:=D0 a
 obtain⟨s,ak⟩:=Q
 try dsimp only at a
 refine Tr.mono (x09 _ b c g d X y _ l _ G) ?_
 rintro _ _ ⟨u,af,B,Z,rfl,m,P,j,rfl⟩
 obtain⟨rfl,ac⟩:=Sl.len m
 obtain⟨S,H,a⟩:=D0 a
 refine Tr.beside j.no (Q06 _ t l u s.length B s m _  H) ?_
 rintro aj N ⟨Y,rfl,n,p⟩ J
 obtain⟨al,am⟩:=S
 dsimp only at a n
 have z:=j.mono p J
 obtain⟨T,U,w,ag,C,V,rfl,rfl,L,M,o⟩:=F0 n
 obtain⟨rfl,ad⟩:=Sl.len o
 try dsimp only at a
 obtain rfl:=oJ a
 exact⟨([.int .i64 T,.int .i64 U,.slice w V.length C]),N,rfl,(l0 L M o),((q.trans P).trans p),z,rfl⟩
theorem b0k(h:Hp)(b:Nat)(c:Value)(e:TypeId)(d:List Int)(g:Int×Int)(p:i8 h b c d g)(r:j0×(Int×Int))(a:w04 d g=some r):
  Tr Tryz.prog 113 #[ptr b 0] (h.set b (O02 c g e)) λv h'=>∃(j:List Value) (f:Hp),v = .agg j.toArray/\O1.R f j r.1/\Sub h f/\i8 f b c d r.2/\h'=f.set b (O02 c r.2 e):=by
 unfold w04 at a
 refine E3 (args:=[ptr b 0]) (fn:=Tryz.f113) rfl ?_
 obtain⟨L,w,a⟩:=D0 a
 obtain⟨ab,m⟩:=L
 try dsimp only at a
 refine Tr.mono (Z06 _ b c e d g p 8 (by decide) _ w) ?_
 rintro _ _ ⟨rfl,i,rfl⟩
 refine ifB a (λz a=>?_) λz a=>?_
 ·obtain⟨M,x,a⟩:=D0 a
  obtain⟨ac,ad⟩:=M
  try dsimp only at a
  refine Tr.mono (q08 _ b c e d m i _ x) ?_
  rintro _ _ ⟨V,E,rfl,K,I,s,rfl⟩
  have G:=K.r
  obtain⟨N,O,n,Z,t,P,rfl,rfl,A,B,k⟩:=F0 G
  obtain⟨rfl,X⟩:=Sl.len k
  try dsimp only at a
  obtain rfl:=oJ a
  exact⟨([.int .i64 N,.int .i64 O,.slice n P.length t]),E,rfl,(l0 A B k),I,s,rfl⟩
 ·obtain⟨Q,y,a⟩:=D0 a
  obtain⟨ae,af⟩:=Q
  try dsimp only at a
  refine Tr.mono (a0k _ b c e d m i _ y) ?_
  rintro _ _ ⟨W,F,rfl,H,J,q,rfl⟩
  obtain⟨S,T,o,aa,u,U,rfl,rfl,C,D,l⟩:=F0 H
  obtain⟨rfl,Y⟩:=Sl.len l
  try dsimp only at a
  obtain rfl:=oJ a
  exact⟨([.int .i64 S,.int .i64 T,.slice o U.length u]),F,rfl,(l0 C D l),J,q,rfl⟩
theorem R06(h:Hp)(b:Int)(d:J0 b)(r:N0×Bool)(a:t00 b=some r):
  Tr Tryz.prog 51 #[.int .i64 b] h λv h'=>∃(c:List Value),v = .tuple #[.agg c.toArray,.bool r.2]/\New D3 h h' c r.1:=by
 unfold t00 at a
 refine E3 (args:=[.int .i64 b]) (fn:=Tryz.f51) rfl ?_
 refine trV a (K5 _ b d 1 (by decide) 3 (by decide)) λf a=>?_
 refine ifB a (λe a=>?_) λe a=>?_
 ·obtain rfl:=oJ a
  exact⟨([.int .i64 0,.slice none 0 0]),rfl,(New.pair (New.int (by decide)) ((New.nilSlice (r:=L1)).mono (Sub.refl _)))⟩
 ·obtain rfl:=oJ a
  exact⟨([.int .i64 b,.slice none 0 0]),rfl,(New.pair (New.int d) ((New.nilSlice (r:=L1)).mono (Sub.refl _)))⟩
theorem z0c(h:Hp)(c:Nat)(d:Value)(m:TypeId)(e:List Int)(A:Int×Int)(P:i8 h c d e A)(r:N0×(Int×Int))(b:A01 e A=some r):
  Tr Tryz.prog 207 #[ptr c 0] (h.set c (O02 d A m)) λv h'=>∃(W:List Value) (y:Hp),v = .agg W.toArray/\New D3 h y W r.1/\Sub h y/\i8 y c d e r.2/\h'=y.set c (O02 d r.2 m):=by
 unfold A01 at b
 refine E3 (args:=[ptr c 0]) (fn:=Tryz.f207) rfl ?_
 refine Or.inl ?_
 intro bR bA f3
 obtain⟨ba,aE,aX,rfl⟩:=J1.beside P.no f3
 obtain⟨ao,az,rfl,bh,p,bJ⟩:=J1.out (r:=Wp.int.toRp) aE (show F2 (Wp.int.R h) ([[.int .i64 2],[.int .i64 2],[.int .i64 2],[.int .i64 3]]:List (List Value)) [2,2,2,3] from⟨⟨rfl,(by decide)⟩,⟨⟨rfl,(by decide)⟩,⟨⟨rfl,(by decide)⟩,⟨⟨rfl,(by decide)⟩,trivial⟩⟩⟩⟩)
 have au:=P.mono p aX
 obtain⟨bs,aP,b⟩:=D0 b
 obtain⟨x,bt⟩:=bs
 try dsimp only at b
 refine Tr.mono (W9 _ c d m e A au ao ([2,2,2,3]).length az [2,2,2,3] bh _ aP) ?_
 rintro _ _ ⟨rfl,Q,rfl⟩
 obtain⟨bO,aF,b⟩:=D0 b
 have I:J0 x:=O0 aF
 obtain⟨bj,aJ,b⟩:=D0 b
 refine Tr.beside Q.no (R06 _ _ I _  aJ) ?_
 rintro bS J ⟨bu,rfl,C⟩ aS
 obtain⟨bZ,b0⟩:=bj
 dsimp only at b C
 have w:Sub ba J:=C.sub
 have bc:=C.r
 have ap:=Q.mono w aS
 obtain⟨bk,ak,bK,av,ad,rfl,rfl,aZ,bd⟩:=E1 bc
 obtain⟨rfl,bE⟩:=Sl.len bd
 try dsimp only at b
 have bi:=New.sndI (C)
 obtain⟨bl,aK,b⟩:=D0 b
 obtain⟨ae,bm⟩:=bl
 try dsimp only at b
 refine Tr.mono (M2 _ c d m e bt ap 5 (by decide) _ aK) ?_
 rintro _ _ ⟨rfl,aq,rfl⟩
 obtain⟨bP,aG,b⟩:=D0 b
 have a0:J0 ae:=O0 aG
 obtain⟨O,aQ,b⟩:=D0 b
 refine eX { vars:=[6],boxes:=[1],owns:=[],fuel:=true } (eX (λvs os aY=>∃(i:Int) (j:Int) (t:Option Addr) (K u:Nat) (n:N1) (q:Int×Int) (h':Hp),vs.tail = [.int .i64 i,.int .i64 j,.slice t K u]/\os = []/\aY=h'.set c (O02 d q m)/\Sub J h'/\J0 i/\J0 j/\New U1 h h' [.slice t K u] n/\i8 h' c d e q/\P5 e x (D2 vs) i j n q=some O) (eX (λ_ _=>0) ?_))
 refine aI (eX Y0 ⟨ae,bk,ak,ad.length,av,ad,bm,J,rfl,rfl,rfl,(Sub.refl _),a0,aZ,(New.from bi p),aq,aQ⟩) ?_
 rintro bW bX bY o _ ⟨i,j,t,K,u,n,q,a4,aB,aA,rfl,k,bz,X,ac,V,a⟩
 cases aB
 cases aA
 replace a:P5 e x o i j n q=some O:=a
 obtain _|o:=o
 ·cases a
 rw[P5.eq_2]at a
 have Y:=ac.r
 obtain⟨rfl,bD⟩:=Sl.len Y
 refine ifB a (λaR a=>?_) λaR a=>?_
 ·obtain⟨bn,aL,a⟩:=D0 a
  obtain⟨af,bo⟩:=bn
  try dsimp only at a
  refine Tr.mono (x09 _ c d m e q V x I _ aL) ?_
  rintro _ _ ⟨al,bL,aw,bB,rfl,Z,l,S,rfl⟩
  obtain⟨rfl,bF⟩:=Sl.len Z
  obtain⟨bp,aM,a⟩:=D0 a
  refine Tr.beside S.no (Q06 _ x I al af.length aw af Z _  aM) ?_
  rintro bT a5 ⟨bv,rfl,aa,g⟩ aU
  obtain⟨b1,b2⟩:=bp
  dsimp only at a aa
  have T:=S.mono g aU
  obtain⟨ag,ah,am,bM,ax,ai,rfl,rfl,a1,a2,ab⟩:=F0 aa
  obtain⟨rfl,bG⟩:=Sl.len ab
  try dsimp only at a
  refine Or.inr (Or.inr (Or.inl (aI (aI (by kernel_rfl) (by kernel_rfl)) ?_)))
  refine Or.inr ?_
  refine Or.inr ?_
  refine Or.inr ?_
  refine Or.inr ?_
  refine Or.inr ?_
  refine Or.inr ?_
  refine Or.inr ?_
  refine Or.inr (eX 99 (eX 0 (aI rfl ?_)))
  refine aI ?_ ?_
  ·skip
   refine aT ?_
   refine aI ?_ ?_
   ·skip
    refine Or.inl ?_
    intro bU bC aC
    obtain⟨bb,aD,aV,rfl⟩:=J1.beside T.no aC
    obtain⟨an,ay,rfl,bg,f,bI⟩:=J1.out (r:=Wp.str.toRp) aD (show F2 (Wp.str.R a5) ([[.string (⟨#[104]⟩:ByteArray)],[.string (⟨#[107]⟩:ByteArray)],[.string (⟨#[109]⟩:ByteArray)],[.string (⟨#[110,50]⟩:ByteArray)]]:List (List Value)) [(⟨#[104]⟩:ByteArray),(⟨#[107]⟩:ByteArray),(⟨#[109]⟩:ByteArray),(⟨#[110,50]⟩:ByteArray)] from⟨⟨rfl,(by decide)⟩,⟨⟨rfl,(by decide)⟩,⟨⟨rfl,(by decide)⟩,⟨⟨rfl,(by decide)⟩,trivial⟩⟩⟩⟩)
    have ar:=T.mono f aV
    obtain⟨bq,aN,a⟩:=D0 a
    obtain⟨aj,M⟩:=bq
    try dsimp only at a
    refine Tr.mono (N02 _ c d m e bo ar an ([(⟨#[104]⟩:ByteArray),(⟨#[107]⟩:ByteArray),(⟨#[109]⟩:ByteArray),(⟨#[110,50]⟩:ByteArray)]).length ay [(⟨#[104]⟩:ByteArray),(⟨#[107]⟩:ByteArray),(⟨#[109]⟩:ByteArray),(⟨#[110,50]⟩:ByteArray)] bg _ aN) ?_
    rintro _ _ ⟨rfl,U,rfl⟩
    obtain⟨bQ,aH,a⟩:=D0 a
    have a3:aj.size<=9223372036854775807:=O0 aH
    refine aT ?_
    refine aI ?_ ?_
    ·skip
     obtain⟨br,aO,a⟩:=D0 a
     refine Tr.beside U.no (D02 _ [.int .i64 j,.slice t n.length u] (j,n) (K0 X (U1.mono ((l.trans g).trans f) Y)) aj a3 [.int .i64 ag,.int .i64 ah,.slice am ai.length ax] (ag,ah,ai) (l0 a1 a2 (U0.mono f ab)) _  aO) ?_
     rintro bV z ⟨bx,rfl,D⟩ aW
     obtain⟨b3,b4⟩:=br
     dsimp only at a D
     have B:Sub bb z:=D.sub
     have be:=D.r
     have F:=U.mono B aW
     obtain⟨N,E,bN,G,s,rfl,rfl,H,bf⟩:=E1 be
     obtain⟨rfl,bH⟩:=Sl.len bf
     try dsimp only at a
     have L:=New.sndI (D)
     refine aT ?_
     refine aI ?_ ?_
     ·skip
      refine aT ?_
      refine aI ?_ ?_
      ·skip
       refine aT ?_
       refine aI ?_ ?_
       ·skip
        refine aT ?_
        refine aI ?_ ?_
        ·skip
         refine aT ?_
         exact U2 o ⟨(IntKind.i64.wrap (i-1)),N,E,s.length,G,s,M,z,rfl,rfl,rfl,((((k.trans l).trans g).trans f).trans B),(I0 _),H,(New.from L (((((p.trans w).trans k).trans l).trans g).trans f)),F,a⟩
        exact trivial
       refine aI ?_ ?_
       ·skip
        refine aT ?_
        refine aI ?_ ?_
        ·skip
         refine aT ?_
         exact U2 o ⟨(IntKind.i64.wrap (i-1)),N,E,s.length,G,s,M,z,rfl,rfl,rfl,((((k.trans l).trans g).trans f).trans B),(I0 _),H,(New.from L (((((p.trans w).trans k).trans l).trans g).trans f)),F,a⟩
        exact trivial
       exact trivial
      refine aI ?_ ?_
      ·skip
       refine aT ?_
       refine aI ?_ ?_
       ·skip
        refine aT ?_
        refine aI ?_ ?_
        ·skip
         refine aT ?_
         exact U2 o ⟨(IntKind.i64.wrap (i-1)),N,E,s.length,G,s,M,z,rfl,rfl,rfl,((((k.trans l).trans g).trans f).trans B),(I0 _),H,(New.from L (((((p.trans w).trans k).trans l).trans g).trans f)),F,a⟩
        exact trivial
       exact trivial
      exact trivial
     exact trivial
    exact trivial
   exact trivial
  exact trivial
 ·obtain rfl:=oJ a
  try dsimp only[Z0,I1]at b
  obtain rfl:=oJ b
  exact⟨([.int .i64 j,.slice t n.length u]),a4,rfl,(New.pair (New.int X) ac),((p.trans w).trans k),V,rfl⟩
theorem K03(h:Hp)(b:Nat)(c:Value)(e:TypeId)(d:List Int)(u:Int×Int)(z:i8 h b c d u)(r:N0×(Int×Int))(a:e00 d u=some r):
  Tr Tryz.prog 111 #[ptr b 0] (h.set b (O02 c u e)) λv h'=>∃(L:List Value) (s:Hp),v = .agg L.toArray/\New D3 h s L r.1/\Sub h s/\i8 s b c d r.2/\h'=s.set b (O02 c r.2 e):=by
 unfold e00 at a
 refine E3 (args:=[ptr b 0]) (fn:=Tryz.f111) rfl ?_
 obtain⟨bv,aS,a⟩:=D0 a
 obtain⟨cl,bz⟩:=bv
 try dsimp only at a
 refine Tr.mono (z0c _ b c e d u z _ aS) ?_
 rintro _ _ ⟨bK,t,rfl,af,ae,aq,rfl⟩
 have bg:=af.r
 obtain⟨F,J,b3,M,G,rfl,rfl,C,bh⟩:=E1 bg
 obtain⟨rfl,bW⟩:=Sl.len bh
 try dsimp only at a
 have m:=New.sndI (af)
 obtain⟨bG,aY,a⟩:=D0 a
 obtain⟨bJ,H⟩:=bG
 try dsimp only at a
 refine Tr.mono (M2 _ b c e d bz aq 14 (by decide) _ aY) ?_
 rintro _ _ ⟨rfl,k,rfl⟩
 obtain⟨cf,aR,a⟩:=D0 a
 have bP:J0 bJ:=O0 aR
 refine ifB a (λa5 a=>?_) λa5 a=>?_
 ·obtain⟨bx,aU,a⟩:=D0 a
  obtain⟨ai,ck⟩:=bx
  try dsimp only at a
  refine Tr.mono (M2 _ b c e d H k 6 (by decide) _ aU) ?_
  rintro _ _ ⟨rfl,an,rfl⟩
  obtain⟨ca,aM,a⟩:=D0 a
  have bO:J0 ai:=O0 aM
  obtain rfl:=oJ a
  exact⟨([.int .i64 (IntKind.i64.wrap (ai-1)),.slice J G.length M]),t,rfl,(New.pair (New.int (I0 _)) m),ae,an,rfl⟩
 ·refine ifB a (λa4 a=>?_) λa4 a=>?_
  ·rcases New.two m with⟨rfl,rfl,rfl⟩|⟨bN,b8,rfl⟩
   ·skip
    refine Or.inr (Or.inr (Or.inl (aI (aI (by kernel_rfl) (by kernel_rfl)) ?_)))
    refine Or.inr ?_
    refine Or.inr ?_
    refine Or.inr ?_
    refine Or.inr ?_
    refine Or.inr ?_
    refine Or.inr ?_
    refine Or.inr ?_
    refine Or.inl (eX 0 (aI (aI rfl rfl) ?_))
    refine aT ?_
    refine Or.inl ?_
    intro cg bQ aD
    obtain⟨bR,aE,ba,rfl⟩:=J1.beside k.no aD
    obtain⟨al,ax,rfl,bk,D,bZ⟩:=J1.out (r:=Wp.str.toRp) aE (show F2 (Wp.str.R t) ([[.string (⟨#[]⟩:ByteArray)],[.string (⟨#[104]⟩:ByteArray)],[.string (⟨#[90]⟩:ByteArray)],[.string (⟨#[122,122]⟩:ByteArray)]]:List (List Value)) [(⟨#[]⟩:ByteArray),(⟨#[104]⟩:ByteArray),(⟨#[90]⟩:ByteArray),(⟨#[122,122]⟩:ByteArray)] from⟨⟨rfl,(by decide)⟩,⟨⟨rfl,(by decide)⟩,⟨⟨rfl,(by decide)⟩,⟨⟨rfl,(by decide)⟩,trivial⟩⟩⟩⟩)
    have ao:=k.mono D ba
    obtain⟨bA,aV,a⟩:=D0 a
    obtain⟨l,bB⟩:=bA
    try dsimp only at a
    refine Tr.mono (N02 _ b c e d H ao al ([(⟨#[]⟩:ByteArray),(⟨#[104]⟩:ByteArray),(⟨#[90]⟩:ByteArray),(⟨#[122,122]⟩:ByteArray)]).length ax [(⟨#[]⟩:ByteArray),(⟨#[104]⟩:ByteArray),(⟨#[90]⟩:ByteArray),(⟨#[122,122]⟩:ByteArray)] bk _ aV) ?_
    rintro _ _ ⟨rfl,ap,rfl⟩
    obtain⟨cb,aN,a⟩:=D0 a
    have O:l.size<=9223372036854775807:=O0 aN
    refine aT ?_
    obtain⟨bC,aW,a⟩:=D0 a
    obtain⟨cm,bD⟩:=bC
    try dsimp only at a
    refine Tr.mono (q08 _ b c e d bB ap _ aW) ?_
    rintro _ _ ⟨bL,V,rfl,ag,bo,A,rfl⟩
    have bi:=ag.r
    obtain⟨n,o,K,b4,N,p,rfl,rfl,P,Q,ab⟩:=F0 bi
    obtain⟨rfl,bX⟩:=Sl.len ab
    try dsimp only at a
    have bt:=New.sndI (New.sndI (ag))
    refine aT ?_
    refine aT ?_
    refine aT ?_
    refine Or.inr ?_
    obtain⟨cc,aO,a⟩:=D0 a
    obtain⟨aj,br,aK,_⟩:=(New.pair (New.str O) (New.pair (New.int P) (New.pair (New.int Q) bt)))
    refine aI (aI rfl (l0m aO (F2.length (show F2 (L1.R V) ([[.string l,.int .i64 n,.int .i64 o,.slice K p.length N]]:List (List Value)) [(l,(n,o,p))] from⟨(L4 O P Q ab),trivial⟩)))) ?_
    intro ci bU a2
    obtain⟨X,aF,bb,rfl⟩:=t0m.beside A.no a2
    obtain⟨w,a0,be,b6,ay,rfl⟩:=New.appN (r:=L1) m (D.trans bo) (show F3 (L1.W V) ([[.string l,.int .i64 n,.int .i64 o,.slice K p.length N]]:List (List Value)) [(l,(n,o,p))] [aj] from⟨br,trivial⟩) (Y4.older D aK) aF
    have bl:=w.r
    obtain⟨aB,b0⟩:=Sl.len bl
    subst aB
    have ar:i8 X b c d bD:=⟨bb,Sl.mono (r:=Rp.u8) w.sub (z.rd),A.pl,A.nm⟩
    refine aT ?_
    refine aT ?_
    obtain rfl:=oJ a
    exact⟨([.int .i64 F,.slice (some ⟨a0,be,none⟩) (([]:N1) ++ [(l,(n,o,p))]).length ay]),X,rfl,(New.pair (New.int C) w),w.sub,ar,rfl⟩
   ·skip
    refine Or.inr (Or.inr (Or.inl (aI (aI (by kernel_rfl) (by kernel_rfl)) ?_)))
    refine Or.inr ?_
    refine Or.inr ?_
    refine Or.inr ?_
    refine Or.inr ?_
    refine Or.inr ?_
    refine Or.inr ?_
    refine Or.inr ?_
    refine Or.inl (eX 0 (aI (aI rfl rfl) ?_))
    refine aT ?_
    refine Or.inl ?_
    intro ch bS aG
    obtain⟨bT,aH,bc,rfl⟩:=J1.beside k.no aG
    obtain⟨am,az,rfl,bm,E,b1⟩:=J1.out (r:=Wp.str.toRp) aH (show F2 (Wp.str.R t) ([[.string (⟨#[]⟩:ByteArray)],[.string (⟨#[104]⟩:ByteArray)],[.string (⟨#[90]⟩:ByteArray)],[.string (⟨#[122,122]⟩:ByteArray)]]:List (List Value)) [(⟨#[]⟩:ByteArray),(⟨#[104]⟩:ByteArray),(⟨#[90]⟩:ByteArray),(⟨#[122,122]⟩:ByteArray)] from⟨⟨rfl,(by decide)⟩,⟨⟨rfl,(by decide)⟩,⟨⟨rfl,(by decide)⟩,⟨⟨rfl,(by decide)⟩,trivial⟩⟩⟩⟩)
    have au:=k.mono E bc
    obtain⟨bE,aX,a⟩:=D0 a
    obtain⟨f,bF⟩:=bE
    try dsimp only at a
    refine Tr.mono (N02 _ b c e d H au am ([(⟨#[]⟩:ByteArray),(⟨#[104]⟩:ByteArray),(⟨#[90]⟩:ByteArray),(⟨#[122,122]⟩:ByteArray)]).length az [(⟨#[]⟩:ByteArray),(⟨#[104]⟩:ByteArray),(⟨#[90]⟩:ByteArray),(⟨#[122,122]⟩:ByteArray)] bm _ aX) ?_
    rintro _ _ ⟨rfl,av,rfl⟩
    obtain⟨cd,aP,a⟩:=D0 a
    have S:f.size<=9223372036854775807:=O0 aP
    refine aT ?_
    obtain⟨bH,aZ,a⟩:=D0 a
    obtain⟨cn,bI⟩:=bH
    try dsimp only at a
    refine Tr.mono (q08 _ b c e d bF av _ aZ) ?_
    rintro _ _ ⟨bM,Y,rfl,ah,bp,q,rfl⟩
    have bj:=ah.r
    obtain⟨g,i,y,b5,B,j,rfl,rfl,T,U,ac⟩:=F0 bj
    obtain⟨rfl,bY⟩:=Sl.len ac
    try dsimp only at a
    have bu:=New.sndI (New.sndI (ah))
    refine aT ?_
    refine aT ?_
    refine aT ?_
    obtain⟨ce,aQ,a⟩:=D0 a
    obtain⟨I,bs,aL,_⟩:=(New.pair (New.str S) (New.pair (New.int T) (New.pair (New.int U) bu)))
    obtain⟨bq,ad,aa,ak⟩:=New.app m (E.trans bp)
    refine eX bq (aI (g0e.setB q.no ad) (aI (N2 aQ (by first|rw[aa,F2.length (show F2 (L1.R Y) ([[.string f,.int .i64 g,.int .i64 i,.slice y j.length B]]:List (List Value)) [(f,(g,i,j))] from⟨(L4 S T U ac),trivial⟩)]|(rw[aa];rfl))) ?_))
    intro cj bV a3
    obtain⟨Z,aJ,bd,rfl⟩:=Y0g.beside q.no ad a3
    obtain⟨x,a1,bf,b7,aA,rfl⟩:=ak ([[.string f,.int .i64 g,.int .i64 i,.slice y j.length B]]:List (List Value)) [(f,(g,i,j))] [I] _ _ (show F3 (L1.W Y) ([[.string f,.int .i64 g,.int .i64 i,.slice y j.length B]]:List (List Value)) [(f,(g,i,j))] [I] from⟨bs,trivial⟩) (Y4.older E aL) aJ
    have bn:=x.r
    obtain⟨aC,b2⟩:=Sl.len bn
    subst aC
    have aw:i8 Z b c d bI:=⟨bd,Sl.mono (r:=Rp.u8) x.sub (z.rd),q.pl,q.nm⟩
    refine aT ?_
    refine aT ?_
    obtain rfl:=oJ a
    exact⟨([.int .i64 F,.slice (some ⟨a1,bf,none⟩) (G ++ [(f,(g,i,j))]).length aA]),Z,rfl,(New.pair (New.int C) x),x.sub,aw,rfl⟩
  ·obtain rfl:=oJ a
   exact⟨([.int .i64 F,.slice J G.length M]),t,rfl,(New.pair (New.int C) m),ae,k,rfl⟩
theorem i02(h:Hp)(b:Nat)(c:Value)(g:TypeId)(e:List Int)(f:Int×Int)(d:i8 h b c e f)(r:ByteArray×(Int×Int))(a:g9 e f=some r):
  Tr Tryz.prog 112 #[ptr b 0] (h.set b (O02 c f g)) λv h'=>v = .string r.1/\i8 h b c e r.2/\h'=h.set b (O02 c r.2 g):=by
 unfold g9 at a
 refine Tr.forgetC (E3 (args:=[ptr b 0]) (fn:=Tryz.f112) rfl ?_)
 refine Or.inl ?_
 intro B x f3
 obtain⟨y,n,q,rfl⟩:=J1.beside d.no f3
 obtain⟨j,m,rfl,s,i,z⟩:=J1.out (r:=Wp.str.toRp) n (show F2 (Wp.str.R h) ([[.string (⟨#[104]⟩:ByteArray)],[.string (⟨#[104]⟩:ByteArray)],[.string (⟨#[107]⟩:ByteArray)],[.string (⟨#[109]⟩:ByteArray)],[.string (⟨#[110,50]⟩:ByteArray)],[.string (⟨#[122]⟩:ByteArray)],[.string (⟨#[]⟩:ByteArray)],[.string (⟨#[72]⟩:ByteArray)],[.string (⟨#[50,97]⟩:ByteArray)],[.string (⟨#[116,111,111,108,111,110,103,110,97,109,101]⟩:ByteArray)]]:List (List Value)) [(⟨#[104]⟩:ByteArray),(⟨#[104]⟩:ByteArray),(⟨#[107]⟩:ByteArray),(⟨#[109]⟩:ByteArray),(⟨#[110,50]⟩:ByteArray),(⟨#[122]⟩:ByteArray),(⟨#[]⟩:ByteArray),(⟨#[72]⟩:ByteArray),(⟨#[50,97]⟩:ByteArray),(⟨#[116,111,111,108,111,110,103,110,97,109,101]⟩:ByteArray)] from⟨⟨rfl,(by decide)⟩,⟨⟨rfl,(by decide)⟩,⟨⟨rfl,(by decide)⟩,⟨⟨rfl,(by decide)⟩,⟨⟨rfl,(by decide)⟩,⟨⟨rfl,(by decide)⟩,⟨⟨rfl,(by decide)⟩,⟨⟨rfl,(by decide)⟩,⟨⟨rfl,(by decide)⟩,⟨⟨rfl,(by decide)⟩,trivial⟩⟩⟩⟩⟩⟩⟩⟩⟩⟩)
 have l:=d.mono i q
 obtain⟨t,p,a⟩:=D0 a
 obtain⟨u,C⟩:=t
 try dsimp only at a
 refine Tr.mono (N02 _ b c g e f l j ([(⟨#[104]⟩:ByteArray),(⟨#[104]⟩:ByteArray),(⟨#[107]⟩:ByteArray),(⟨#[109]⟩:ByteArray),(⟨#[110,50]⟩:ByteArray),(⟨#[122]⟩:ByteArray),(⟨#[]⟩:ByteArray),(⟨#[72]⟩:ByteArray),(⟨#[50,97]⟩:ByteArray),(⟨#[116,111,111,108,111,110,103,110,97,109,101]⟩:ByteArray)]).length m [(⟨#[104]⟩:ByteArray),(⟨#[104]⟩:ByteArray),(⟨#[107]⟩:ByteArray),(⟨#[109]⟩:ByteArray),(⟨#[110,50]⟩:ByteArray),(⟨#[122]⟩:ByteArray),(⟨#[]⟩:ByteArray),(⟨#[72]⟩:ByteArray),(⟨#[50,97]⟩:ByteArray),(⟨#[116,111,111,108,111,110,103,110,97,109,101]⟩:ByteArray)] s _ p) ?_
 rintro _ _ ⟨rfl,k,rfl⟩
 obtain⟨A,o,a⟩:=D0 a
 have w:u.size<=9223372036854775807:=O0 o
 obtain rfl:=oJ a
 exact⟨rfl,d.back k,Sub.setB d.no i⟩
theorem v06(h:Hp)(c:Option Addr)(i d:Nat)(b:(List Int))(j:(Wp.slice Wp.u8).R h [.slice c i d] b)(r:N0×ByteArray)(a:Y00 b=some r):
  Tr Tryz.prog 130 #[.slice c i d] h λv h'=>∃(f:List Value),v = .tuple #[.agg f.toArray,.string r.2]/\D3.R h' f r.1/\Sub h h':=by
 obtain⟨rfl,J⟩:=Sl.len j
 unfold Y00 at a
 refine E3 (args:=[.slice c b.length d]) (fn:=Tryz.f130) rfl ?_
 refine trM a (z04 _ c b.length d b j) ?_
 rintro z a _ _ ⟨g,l,rfl,rfl,n⟩
 obtain⟨A,s,a⟩:=D0 a
 obtain⟨N,D⟩:=A
 try dsimp only at a
 refine Tr.mono (K03 _ g (.slice c b.length d) l b z n _ s) ?_
 rintro _ _ ⟨G,I,rfl,y,x,o,rfl⟩
 have w:=y.r
 obtain⟨B,m,L,p,C,rfl,rfl,u,k⟩:=E1 w
 obtain⟨rfl,K⟩:=Sl.len k
 try dsimp only at a
 refine Or.inr (Or.inr (Or.inl (aI (aI (by kernel_rfl) (by kernel_rfl)) ?_)))
 refine Or.inr ?_
 refine Or.inr ?_
 refine Or.inr ?_
 refine Or.inl (eX 0 (aI (aI rfl rfl) ?_))
 obtain⟨E,t,a⟩:=D0 a
 obtain⟨F,O⟩:=E
 try dsimp only at a
 refine Tr.mono (i02 _ g (.slice c b.length d) l b D o _ t) ?_
 rintro _ _ ⟨rfl,e,rfl⟩
 obtain⟨M,q,a⟩:=D0 a
 have H:F.size<=9223372036854775807:=O0 q
 refine aT ?_
 refine aT ?_
 refine aT ?_
 obtain rfl:=oJ a
 exact⟨([.int .i64 B,.slice m C.length p]),rfl,(D3.mono (Sub.set e.no) (K0 u k)),(x.trans (Sub.set e.no))⟩
theorem b0a(h:Hp)(c:Option Addr)(k d:Nat)(b:(List Int))(l:(Wp.slice Wp.u8).R h [.slice c k d] b)(r:N0×ByteArray×j0)(a:A00 b=some r):
  Tr Tryz.prog 28 #[.slice c k d] h λv h'=>∃(i:List Value) (j:List Value),v = .tuple #[.agg i.toArray,.string r.2.1,.agg j.toArray]/\D3.R h' i r.1/\O1.R h' j r.2.2/\Sub h h':=by
 obtain⟨rfl,ab⟩:=Sl.len l
 unfold A00 at a
 refine E3 (args:=[.slice c b.length d]) (fn:=Tryz.f28) rfl ?_
 refine trM a (z04 _ c b.length d b l) ?_
 rintro J a _ _ ⟨f,g,rfl,rfl,t⟩
 obtain⟨O,A,a⟩:=D0 a
 obtain⟨aj,S⟩:=O
 try dsimp only at a
 refine Tr.mono (K03 _ f (.slice c b.length d) g b J t _ A) ?_
 rintro _ _ ⟨X,aa,rfl,I,H,u,rfl⟩
 have G:=I.r
 obtain⟨P,q,af,x,Q,rfl,rfl,E,n⟩:=E1 G
 obtain⟨rfl,ad⟩:=Sl.len n
 try dsimp only at a
 obtain⟨T,B,a⟩:=D0 a
 obtain⟨U,V⟩:=T
 try dsimp only at a
 refine Tr.mono (i02 _ f (.slice c b.length d) g b S u _ B) ?_
 rintro _ _ ⟨rfl,s,rfl⟩
 obtain⟨ag,y,a⟩:=D0 a
 have Y:U.size<=9223372036854775807:=O0 y
 refine Or.inr (Or.inr (Or.inl (aI (aI (by kernel_rfl) (by kernel_rfl)) ?_)))
 refine Or.inr ?_
 refine Or.inr ?_
 refine Or.inr ?_
 refine Or.inl (eX 0 (aI (aI rfl rfl) ?_))
 obtain⟨K,z,a⟩:=D0 a
 obtain⟨ah,ai⟩:=K
 try dsimp only at a
 refine Tr.mono (b0k _ f (.slice c b.length d) g b V s _ z) ?_
 rintro _ _ ⟨W,Z,rfl,F,o,e,rfl⟩
 obtain⟨L,M,p,ae,w,N,rfl,rfl,C,D,m⟩:=F0 F
 obtain⟨rfl,ac⟩:=Sl.len m
 try dsimp only at a
 refine aT ?_
 refine aT ?_
 refine aT ?_
 obtain rfl:=oJ a
 exact⟨([.int .i64 P,.slice q Q.length x]),([.int .i64 L,.int .i64 M,.slice p N.length w]),rfl,(D3.mono (Sub.set e.no) (K0 E (U1.mono o n))),(O1.mono (Sub.set e.no) (l0 C D m)),((H.trans o).trans (Sub.set e.no))⟩
theorem w06(h:Hp)(c:Option Addr)(w d:Nat)(b:(List Int))(x:(Wp.slice Wp.u8).R h [.slice c w d] b)(r:N0×ByteArray×ByteArray×ByteArray×ByteArray)(a:D7 b=some r):
  Tr Tryz.prog 39 #[.slice c w d] h λv h'=>∃(q:List Value),v = .tuple #[.agg q.toArray,.string r.2.1,.string r.2.2.1,.string r.2.2.2.1,.string r.2.2.2.2]/\D3.R h' q r.1/\Sub h h':=by
 obtain⟨rfl,aP⟩:=Sl.len x
 unfold D7 at a
 refine E3 (args:=[.slice c b.length d]) (fn:=Tryz.f39) rfl ?_
 refine trM a (z04 _ c b.length d b x) ?_
 rintro aj a _ _ ⟨e,f,rfl,rfl,G⟩
 obtain⟨ay,ab,a⟩:=D0 a
 obtain⟨a5,az⟩:=ay
 try dsimp only at a
 refine Tr.mono (K03 _ e (.slice c b.length d) f b aj G _ ab) ?_
 rintro _ _ ⟨aD,u,rfl,ai,y,I,rfl⟩
 have af:=ai.r
 obtain⟨A,k,aU,s,B,rfl,rfl,t,g⟩:=E1 af
 obtain⟨rfl,aQ⟩:=Sl.len g
 try dsimp only at a
 obtain⟨aA,ac,a⟩:=D0 a
 obtain⟨aB,aC⟩:=aA
 try dsimp only at a
 refine Tr.mono (i02 _ e (.slice c b.length d) f b az I _ ac) ?_
 rintro _ _ ⟨rfl,E,rfl⟩
 obtain⟨aV,P,a⟩:=D0 a
 have aK:aB.size<=9223372036854775807:=O0 P
 obtain⟨ak,W,a⟩:=D0 a
 obtain⟨al,z⟩:=ak
 try dsimp only at a
 refine Tr.mono (i02 _ e (.slice c b.length d) f b aC E _ W) ?_
 rintro _ _ ⟨rfl,l,rfl⟩
 obtain⟨aW,Q,a⟩:=D0 a
 have aE:al.size<=9223372036854775807:=O0 Q
 refine Or.inr (Or.inr (Or.inl (aI (aI (by kernel_rfl) (by kernel_rfl)) ?_)))
 refine Or.inr ?_
 refine Or.inr ?_
 refine Or.inr ?_
 refine Or.inr ?_
 refine Or.inr ?_
 refine Or.inr ?_
 refine Or.inr (eX 0 (eX 1 (aI (aI rfl (aI rfl rfl)) ?_)))
 refine aI ?_ ?_
 ·skip
  obtain⟨am,X,a⟩:=D0 a
  obtain⟨an,ao⟩:=am
  try dsimp only at a
  refine Tr.mono (i02 _ e (.slice c b.length d) f b z l _ X) ?_
  rintro _ _ ⟨rfl,m,rfl⟩
  obtain⟨aX,S,a⟩:=D0 a
  have aF:an.size<=9223372036854775807:=O0 S
  refine aT ?_
  refine aT ?_
  refine Or.inl ?_
  intro a1 aL L
  obtain⟨aM,M,ad,rfl⟩:=J1.beside m.no L
  obtain⟨C,J,rfl,ag,i,aR⟩:=J1.out (r:=Wp.str.toRp) M (show F2 (Wp.str.R u) ([[.string (⟨#[109,101,101,116]⟩:ByteArray)],[.string (⟨#[106,111,105,110]⟩:ByteArray)],[.string (⟨#[109,101,101,116]⟩:ByteArray)],[.string (⟨#[106,111,105,110]⟩:ByteArray)],[.string (⟨#[115,117,109]⟩:ByteArray)]]:List (List Value)) [(⟨#[109,101,101,116]⟩:ByteArray),(⟨#[106,111,105,110]⟩:ByteArray),(⟨#[109,101,101,116]⟩:ByteArray),(⟨#[106,111,105,110]⟩:ByteArray),(⟨#[115,117,109]⟩:ByteArray)] from⟨⟨rfl,(by decide)⟩,⟨⟨rfl,(by decide)⟩,⟨⟨rfl,(by decide)⟩,⟨⟨rfl,(by decide)⟩,⟨⟨rfl,(by decide)⟩,trivial⟩⟩⟩⟩⟩)
  have F:=m.mono i ad
  obtain⟨ap,Y,a⟩:=D0 a
  obtain⟨aq,a3⟩:=ap
  try dsimp only at a
  refine Tr.mono (N02 _ e (.slice c b.length d) f b ao F C ([(⟨#[109,101,101,116]⟩:ByteArray),(⟨#[106,111,105,110]⟩:ByteArray),(⟨#[109,101,101,116]⟩:ByteArray),(⟨#[106,111,105,110]⟩:ByteArray),(⟨#[115,117,109]⟩:ByteArray)]).length J [(⟨#[109,101,101,116]⟩:ByteArray),(⟨#[106,111,105,110]⟩:ByteArray),(⟨#[109,101,101,116]⟩:ByteArray),(⟨#[106,111,105,110]⟩:ByteArray),(⟨#[115,117,109]⟩:ByteArray)] ag _ Y) ?_
  rintro _ _ ⟨rfl,n,rfl⟩
  obtain⟨aY,T,a⟩:=D0 a
  have aG:aq.size<=9223372036854775807:=O0 T
  refine aT ?_
  refine aT ?_
  refine aT ?_
  refine aT ?_
  obtain rfl:=oJ a
  exact⟨([.int .i64 A,.slice k B.length s]),rfl,(D3.mono (Sub.set n.no) (K0 t (U1.mono i g))),((y.trans i).trans (Sub.set n.no))⟩
 ·skip
  refine aT ?_
  obtain⟨ar,Z,a⟩:=D0 a
  obtain⟨au,av⟩:=ar
  try dsimp only at a
  refine Tr.mono (i02 _ e (.slice c b.length d) f b z l _ Z) ?_
  rintro _ _ ⟨rfl,o,rfl⟩
  obtain⟨aZ,U,a⟩:=D0 a
  have aH:au.size<=9223372036854775807:=O0 U
  refine aT ?_
  refine Or.inl ?_
  intro a2 aN N
  obtain⟨aO,O,ae,rfl⟩:=J1.beside o.no N
  obtain⟨D,K,rfl,ah,j,aS⟩:=J1.out (r:=Wp.str.toRp) O (show F2 (Wp.str.R u) ([[.string (⟨#[109,101,101,116]⟩:ByteArray)],[.string (⟨#[106,111,105,110]⟩:ByteArray)],[.string (⟨#[109,101,101,116]⟩:ByteArray)],[.string (⟨#[106,111,105,110]⟩:ByteArray)],[.string (⟨#[115,117,109]⟩:ByteArray)]]:List (List Value)) [(⟨#[109,101,101,116]⟩:ByteArray),(⟨#[106,111,105,110]⟩:ByteArray),(⟨#[109,101,101,116]⟩:ByteArray),(⟨#[106,111,105,110]⟩:ByteArray),(⟨#[115,117,109]⟩:ByteArray)] from⟨⟨rfl,(by decide)⟩,⟨⟨rfl,(by decide)⟩,⟨⟨rfl,(by decide)⟩,⟨⟨rfl,(by decide)⟩,⟨⟨rfl,(by decide)⟩,trivial⟩⟩⟩⟩⟩)
  have H:=o.mono j ae
  obtain⟨aw,aa,a⟩:=D0 a
  obtain⟨ax,a4⟩:=aw
  try dsimp only at a
  refine Tr.mono (N02 _ e (.slice c b.length d) f b av H D ([(⟨#[109,101,101,116]⟩:ByteArray),(⟨#[106,111,105,110]⟩:ByteArray),(⟨#[109,101,101,116]⟩:ByteArray),(⟨#[106,111,105,110]⟩:ByteArray),(⟨#[115,117,109]⟩:ByteArray)]).length K [(⟨#[109,101,101,116]⟩:ByteArray),(⟨#[106,111,105,110]⟩:ByteArray),(⟨#[109,101,101,116]⟩:ByteArray),(⟨#[106,111,105,110]⟩:ByteArray),(⟨#[115,117,109]⟩:ByteArray)] ah _ aa) ?_
  rintro _ _ ⟨rfl,p,rfl⟩
  obtain⟨a0,V,a⟩:=D0 a
  have aJ:ax.size<=9223372036854775807:=O0 V
  refine aT ?_
  refine aT ?_
  refine aT ?_
  refine aT ?_
  obtain rfl:=oJ a
  exact⟨([.int .i64 A,.slice k B.length s]),rfl,(D3.mono (Sub.set p.no) (K0 t (U1.mono j g))),((y.trans j).trans (Sub.set p.no))⟩
theorem A0c(h:Hp)(b:Option Addr)(f c:Nat)(d:(List Int))(g:(Wp.slice Wp.u8).R h [.slice b f c] d)(r:N0×ByteArray)(a:B01 d=some r):
  Tr Tryz.prog 45 #[.slice b f c] h λv h'=>∃(e:List Value),v = .tuple #[.agg e.toArray,.string r.2]/\D3.R h' e r.1/\Sub h h':=by
 obtain⟨rfl,y⟩:=Sl.len g
 unfold B01 at a
 refine E3 (args:=[.slice b d.length c]) (fn:=Tryz.f45) rfl ?_
 refine trM a (v06 _ _ _ _ _ g) ?_
 rintro p a C x ⟨u,rfl,i,o⟩
 obtain⟨D,t⟩:=p
 dsimp only at a i
 obtain⟨q,k,A,l,s,rfl,rfl,n,j⟩:=E1 i
 obtain⟨rfl,z⟩:=Sl.len j
 try dsimp only at a
 obtain⟨B,m,a⟩:=D0 a
 have w:t.size<=9223372036854775807:=O0 m
 obtain rfl:=oJ a
 exact⟨([.int .i64 q,.slice k s.length l]),rfl,(K0 n j),o⟩
theorem y09(h:Hp)(b:Option Addr)(f c:Nat)(d:(List Int))(g:(Wp.slice Wp.u8).R h [.slice b f c] d)(r:N0×ByteArray)(a:p00 d=some r):
  Tr Tryz.prog 46 #[.slice b f c] h λv h'=>∃(e:List Value),v = .tuple #[.agg e.toArray,.string r.2]/\D3.R h' e r.1/\Sub h h':=by
 obtain⟨rfl,y⟩:=Sl.len g
 unfold p00 at a
 refine E3 (args:=[.slice b d.length c]) (fn:=Tryz.f46) rfl ?_
 refine trM a (v06 _ _ _ _ _ g) ?_
 rintro p a C x ⟨u,rfl,i,o⟩
 obtain⟨D,t⟩:=p
 dsimp only at a i
 obtain⟨q,k,A,l,s,rfl,rfl,n,j⟩:=E1 i
 obtain⟨rfl,z⟩:=Sl.len j
 try dsimp only at a
 obtain⟨B,m,a⟩:=D0 a
 have w:t.size<=9223372036854775807:=O0 m
 obtain rfl:=oJ a
 exact⟨([.int .i64 q,.slice k s.length l]),rfl,(K0 n j),o⟩
theorem r08(h:Hp)(b:Option Addr)(f c:Nat)(d:(List Int))(g:(Wp.slice Wp.u8).R h [.slice b f c] d)(r:N0×ByteArray)(a:h9 d=some r):
  Tr Tryz.prog 48 #[.slice b f c] h λv h'=>∃(e:List Value),v = .tuple #[.agg e.toArray,.string r.2]/\D3.R h' e r.1/\Sub h h':=by
 obtain⟨rfl,y⟩:=Sl.len g
 unfold h9 at a
 refine E3 (args:=[.slice b d.length c]) (fn:=Tryz.f48) rfl ?_
 refine trM a (v06 _ _ _ _ _ g) ?_
 rintro p a C x ⟨u,rfl,i,o⟩
 obtain⟨D,t⟩:=p
 dsimp only at a i
 obtain⟨q,k,A,l,s,rfl,rfl,n,j⟩:=E1 i
 obtain⟨rfl,z⟩:=Sl.len j
 try dsimp only at a
 obtain⟨B,m,a⟩:=D0 a
 have w:t.size<=9223372036854775807:=O0 m
 obtain rfl:=oJ a
 exact⟨([.int .i64 q,.slice k s.length l]),rfl,(K0 n j),o⟩
theorem C08(h:Hp)(c:Option Addr)(e d:Nat)(b:(List Int))(f:(Wp.slice Wp.u8).R h [.slice c e d] b)(r:Int)(a:L9 b=some r):
  Tr Tryz.prog 49 #[.slice c e d] h λv h'=>v = .int .i64 r/\h'=h:=by
 obtain⟨rfl,s⟩:=Sl.len f
 unfold L9 at a
 refine Tr.forget (E3 (args:=[.slice c b.length d]) (fn:=Tryz.f49) rfl ?_)
 refine trM a (z04 _ c b.length d b f) ?_
 rintro n a _ _ ⟨l,m,rfl,rfl,g⟩
 obtain⟨o,k,a⟩:=D0 a
 obtain⟨p,u⟩:=o
 try dsimp only at a
 refine Tr.mono (M2 _ l (.slice c b.length d) m b n g 6 (by decide) _ k) ?_
 rintro _ _ ⟨rfl,i,rfl⟩
 obtain⟨t,j,a⟩:=D0 a
 have q:J0 p:=O0 j
 obtain rfl:=oJ a
 exact aI rfl ((Sub.refl _).trans (Sub.set i.no))
theorem x06(h:Hp)(c:Option Addr)(u d:Nat)(b:(List Int))(w:(Wp.slice Wp.u8).R h [.slice c u d] b)(r:N0×N0)(a:E7 b=some r):
  Tr Tryz.prog 52 #[.slice c u d] h λv h'=>∃(s:List Value) (t:List Value),v = .tuple #[.agg s.toArray,.agg t.toArray]/\D3.R h' s r.1/\D3.R h' t r.2/\Sub h h':=by
 obtain⟨rfl,am⟩:=Sl.len w
 unfold E7 at a
 refine E3 (args:=[.slice c b.length d]) (fn:=Tryz.f52) rfl ?_
 refine trM a (z04 _ c b.length d b w) ?_
 rintro Y a _ _ ⟨p,q,rfl,rfl,E⟩
 obtain⟨ae,K,a⟩:=D0 a
 obtain⟨az,af⟩:=ae
 try dsimp only at a
 refine Tr.mono (K03 _ p (.slice c b.length d) q b Y E _ K) ?_
 rintro _ _ ⟨ak,S,rfl,X,A,F,rfl⟩
 have V:=X.r
 obtain⟨i,k,au,n,j,rfl,rfl,o,f⟩:=E1 V
 obtain⟨rfl,ap⟩:=Sl.len f
 try dsimp only at a
 obtain⟨ag,L,a⟩:=D0 a
 obtain⟨aA,ah⟩:=ag
 try dsimp only at a
 refine Tr.mono (Z06 _ p (.slice c b.length d) q b af F 2 (by decide) _ L) ?_
 rintro _ _ ⟨rfl,e,rfl⟩
 refine ifB a (λM a=>?_) λM a=>?_
 ·refine Or.inr (Or.inr (Or.inl (aI (aI (by kernel_rfl) (by kernel_rfl)) ?_)))
  refine Or.inr ?_
  refine Or.inr ?_
  refine Or.inr ?_
  refine Or.inl (eX 1 (aI (aI rfl rfl) ?_))
  obtain⟨aw,I,a⟩:=D0 a
  refine Tr.beside e.no (i9 _ [.int .i64 i,.slice k j.length n] (i,j) (K0 o f) _  I) ?_
  rintro av Q ⟨ai,rfl,B⟩ N
  have g:Sub S Q:=B.sub
  have T:=B.r
  have l:=e.mono g N
  obtain⟨Z,C,aq,G,aa,rfl,rfl,O,x⟩:=E1 T
  obtain⟨rfl,an⟩:=Sl.len x
  try dsimp only at a
  refine aI (aI rfl (Sub.setB e.no g)) (aI (by first|exact trivial|exact rfl) ?_)
  refine aT ?_
  refine aT ?_
  obtain rfl:=oJ a
  exact⟨([.int .i64 i,.slice k j.length n]),([.int .i64 Z,.slice C aa.length G]),rfl,(D3.mono (Sub.set l.no) (K0 o (U1.mono g f))),(D3.mono (Sub.set l.no) (K0 O x)),((A.trans g).trans (Sub.set l.no))⟩
 ·refine Or.inr (Or.inr (Or.inl (aI (aI (by kernel_rfl) (by kernel_rfl)) ?_)))
  refine Or.inr ?_
  refine Or.inr ?_
  refine Or.inr ?_
  refine Or.inl (eX 0 (aI (aI rfl rfl) ?_))
  obtain⟨ab,J,a⟩:=D0 a
  obtain⟨ax,ay⟩:=ab
  try dsimp only at a
  refine Tr.mono (K03 _ p (.slice c b.length d) q b ah e _ J) ?_
  rintro _ _ ⟨aj,al,rfl,W,z,m,rfl⟩
  have U:=W.r
  obtain⟨ac,D,ar,H,ad,rfl,rfl,P,y⟩:=E1 U
  obtain⟨rfl,ao⟩:=Sl.len y
  try dsimp only at a
  refine aT ?_
  refine aT ?_
  refine aT ?_
  obtain rfl:=oJ a
  exact⟨([.int .i64 i,.slice k j.length n]),([.int .i64 ac,.slice D ad.length H]),rfl,(D3.mono (Sub.set m.no) (K0 o (U1.mono z f))),(D3.mono (Sub.set m.no) (K0 P y)),((A.trans z).trans (Sub.set m.no))⟩
theorem N9(h:Hp)(l:List Value)(s:N0)(ae:D3.R h l s)(m:List Value)(t:N0)(af:D3.R h m t)(r:Bool)(b:V3 s t=some r):
  Tr Tryz.prog 31 #[.agg l.toArray,.agg m.toArray] h λv h'=>v = .bool r/\h'=h:=by
 obtain⟨ac,D,aO,J,f,rfl,rfl,aw,i⟩:=E1 ae
 obtain⟨rfl,aH⟩:=Sl.len i
 obtain⟨ad,E,aP,K,g,rfl,rfl,ax,j⟩:=E1 af
 obtain⟨rfl,aJ⟩:=Sl.len j
 unfold V3 at b
 dsimp only at b
 refine Tr.forget (E3 (args:=[.agg #[.int .i64 ac,.slice D f.length J],.agg #[.int .i64 ad,.slice E g.length K]]) (fn:=Tryz.f31) rfl ?_)
 refine ifB b (λV b=>?_) λV b=>?_
 ·obtain rfl:=oJ b
  exact aI rfl (Sub.refl _)
 ·obtain⟨k,U,b⟩:=D0 b
  refine eX { vars:=[5],boxes:=[],owns:=[],fuel:=true } (eX (λvs os h'=>∃ d,vs.tail = [.int .i64 d]/\os = []/\Sub h h'/\J0 d/\R4 f g (D2 vs) d=some k) (eX (λ_ _=>0) (aI (eX Y0 ⟨0,rfl,rfl,(Sub.refl _),(by decide),U⟩) ?_)))
  rintro _ e p ⟨d,⟨⟩,⟨⟩,c,ay,a⟩
  replace a:R4 f g e d=some k:=a
  obtain _|e:=e
  ·cases a
  rw[R4.eq_2]at a
  refine ifB a (λX a=>?_) λX a=>?_
  ·refine Or.inl (aI (aI (by kernel_rfl) (by kernel_rfl)) ?_)
   obtain⟨aY,Q,a⟩:=D0 a
   obtain⟨H,ap,N,ah⟩:=Sl.getI (r:=L1.toRp) (U1.mono c i) Q (by decide)
   refine aI H ?_
   obtain⟨aZ,a0,a1,am,aR,au,a2,rfl,rfl,aA,aB,aC,ai⟩:=J3 ah
   obtain⟨rfl,aL⟩:=Sl.len ai
   try dsimp only at a
   refine eX _ (aI N ?_)
   obtain⟨a3,S,a⟩:=D0 a
   obtain⟨I,aq,O,aj⟩:=Sl.getI (r:=L1.toRp) (U1.mono c j) S (by decide)
   refine aI I ?_
   obtain⟨a4,a5,ba,an,aS,av,bb,rfl,rfl,aD,aE,aF,ak⟩:=J3 aj
   obtain⟨rfl,aM⟩:=Sl.len ak
   try dsimp only at a
   refine eX _ (aI O ?_)
   obtain⟨bc,T,a⟩:=D0 a
   obtain⟨ar,o,al⟩:=Sl.getG (r:=L1.toRp) (U1.mono c i) T (by decide) (d08 p)
   refine aI (λq=>(o q).1) ?_
   obtain⟨bd,A,B,G,aU,M,C,rfl,rfl,aG,aa,ab,w⟩:=J3 al
   obtain⟨rfl,aN⟩:=Sl.len w
   try dsimp only at a
   refine eX _ (aI (λq=>(o q).2) ?_)
   obtain⟨aV,P,a⟩:=D0 a
   obtain⟨ao,n,ag⟩:=Sl.getG (r:=L1.toRp) (U1.mono c j) P (by decide) (d08 p)
   refine aI (λq=>(n q).1) ?_
   obtain⟨aW,x,y,F,aQ,L,z,rfl,rfl,az,Y,Z,u⟩:=J3 ag
   obtain⟨rfl,aK⟩:=Sl.len u
   try dsimp only at a
   refine eX _ (aI (λq=>(n q).2) ?_)
   refine trG a (λq=>p02 _ [.int .i64 A,.int .i64 B,.slice G C.length M] (A,B,C) (l0 aa ab w) [.int .i64 x,.int .i64 y,.slice F z.length L] (x,y,z) (l0 Y Z u)) λaX a=>?_
   refine ifB a (λW a=>?_) λW a=>?_
   ·obtain rfl:=oJ a
    try dsimp only[L3,N3]at b
    obtain rfl:=oJ b
    exact aI rfl c
   ·exact U2 e ⟨(IntKind.i64.wrap (d+1)),rfl,rfl,c,(I0 _),a⟩
  ·obtain rfl:=oJ a
   try dsimp only[Z0,I1]at b
   obtain rfl:=oJ b
   exact aI rfl c
theorem M0n(h:Hp)(a:Option Addr)(e b:Nat)(c:(List Int))(f:(Wp.slice Wp.u8).R h [.slice a e b] c)(r:Bool)(d:T04 c=some r):
  Tr Tryz.prog 7 #[.slice a e b] h λv h'=>v = .bool r/\h'=h:=by
 obtain⟨rfl,g⟩:=Sl.len f
 unfold T04 at d
 refine Tr.forget (E3 (args:=[.slice a c.length b]) (fn:=Tryz.f7) rfl ?_)
 obtain rfl:=oJ d
 exact aI rfl (Sub.refl _)
theorem G0d(h:Hp)(i:Option Addr)(n k:Nat)(d:(List ByteArray))(p:(Wp.slice Wp.str).R h [.slice i n k] d)(j:Option Addr)(o l:Nat)(e:(List ByteArray))(q:(Wp.slice Wp.str).R h [.slice j o l] e)(r:Bool)(b:f02 d e=some r):
  Tr Tryz.prog 53 #[.slice i n k,.slice j o l] h λv h'=>v = .bool r/\h'=h:=by
 obtain⟨rfl,F⟩:=Sl.len p
 obtain⟨rfl,G⟩:=Sl.len q
 unfold f02 at b
 refine Tr.forget (E3 (args:=[.slice i d.length k,.slice j e.length l]) (fn:=Tryz.f53) rfl ?_)
 refine ifB b (λt b=>?_) λt b=>?_
 ·obtain rfl:=oJ b
  exact aI rfl (Sub.refl _)
 ·obtain⟨m,s,b⟩:=D0 b
  refine eX { vars:=[5],boxes:=[],owns:=[],fuel:=true } (eX (λvs os h'=>∃ c,vs.tail = [.int .i64 c]/\os = []/\Sub h h'/\J0 c/\d7 d e (D2 vs) c=some m) (eX (λ_ _=>0) (aI (eX Y0 ⟨0,rfl,rfl,(Sub.refl _),(by decide),s⟩) ?_)))
  rintro _ g E ⟨c,⟨⟩,⟨⟩,f,B,a⟩
  replace a:d7 d e g c=some m:=a
  obtain _|g:=g
  ·cases a
  rw[d7.eq_2]at a
  refine ifB a (λu a=>?_) λu a=>?_
  ·refine Or.inl (aI (aI (by kernel_rfl) (by kernel_rfl)) ?_)
   refine ld a ((Wp.slice Wp.str).mono f p) λH z x a=>?_
   obtain⟨rfl,C⟩:=x
   refine ld a ((Wp.slice Wp.str).mono f q) λI A y a=>?_
   obtain⟨rfl,D⟩:=y
   refine ifB a (λw a=>?_) λw a=>?_
   ·obtain rfl:=oJ a
    try dsimp only[L3,N3]at b
    obtain rfl:=oJ b
    exact aI rfl f
   ·exact U2 g ⟨(IntKind.i64.wrap (c+1)),rfl,rfl,f,(I0 _),a⟩
  ·obtain rfl:=oJ a
   try dsimp only[Z0,I1]at b
   obtain rfl:=oJ b
   exact aI rfl f
theorem C0c(h:Hp)(b:Int)(d:J0 b)(r:N0×Bool)(a:C01 b=some r):
  Tr Tryz.prog 50 #[.int .i64 b] h λv h'=>∃(c:List Value),v = .tuple #[.agg c.toArray,.bool r.2]/\D3.R h' c r.1/\Sub h h':=by
 unfold C01 at a
 refine E3 (args:=[.int .i64 b]) (fn:=Tryz.f50) rfl ?_
 refine trV a (P01 _ b d 1 (by decide) 3 (by decide)) λf a=>?_
 refine ifB a (λe a=>?_) λe a=>?_
 ·obtain rfl:=oJ a
  exact⟨([.int .i64 0,.slice none 0 0]),rfl,(K0 (by decide) (c08 L1 h)),(Sub.refl _)⟩
 ·obtain rfl:=oJ a
  exact⟨([.int .i64 b,.slice none 0 0]),rfl,(K0 d (c08 L1 h)),(Sub.refl _)⟩
theorem D08(h:Hp)(l:List Value)(s:N0)(ae:D3.R h l s)(m:List Value)(t:N0)(af:D3.R h m t)(r:Bool)(b:M9 s t=some r):
  Tr Tryz.prog 55 #[.agg l.toArray,.agg m.toArray] h λv h'=>v = .bool r/\h'=h:=by
 obtain⟨ac,D,aO,J,f,rfl,rfl,aw,i⟩:=E1 ae
 obtain⟨rfl,aH⟩:=Sl.len i
 obtain⟨ad,E,aP,K,g,rfl,rfl,ax,j⟩:=E1 af
 obtain⟨rfl,aJ⟩:=Sl.len j
 unfold M9 at b
 dsimp only at b
 refine Tr.forget (E3 (args:=[.agg #[.int .i64 ac,.slice D f.length J],.agg #[.int .i64 ad,.slice E g.length K]]) (fn:=Tryz.f55) rfl ?_)
 refine ifB b (λV b=>?_) λV b=>?_
 ·obtain rfl:=oJ b
  exact aI rfl (Sub.refl _)
 ·obtain⟨k,U,b⟩:=D0 b
  refine eX { vars:=[23],boxes:=[],owns:=[],fuel:=true } (eX (λvs os h'=>∃ d,vs.tail = [.int .i64 d]/\os = []/\Sub h h'/\J0 d/\T4 f g (D2 vs) d=some k) (eX (λ_ _=>0) (aI (eX Y0 ⟨0,rfl,rfl,(Sub.refl _),(by decide),U⟩) ?_)))
  rintro _ e p ⟨d,⟨⟩,⟨⟩,c,ay,a⟩
  replace a:T4 f g e d=some k:=a
  obtain _|e:=e
  ·cases a
  rw[T4.eq_2]at a
  refine ifB a (λX a=>?_) λX a=>?_
  ·refine Or.inl (aI (aI (by kernel_rfl) (by kernel_rfl)) ?_)
   obtain⟨aY,Q,a⟩:=D0 a
   obtain⟨H,ap,N,ah⟩:=Sl.getI (r:=L1.toRp) (U1.mono c i) Q (by decide)
   refine aI H ?_
   obtain⟨aZ,a0,a1,am,aR,au,a2,rfl,rfl,aA,aB,aC,ai⟩:=J3 ah
   obtain⟨rfl,aL⟩:=Sl.len ai
   try dsimp only at a
   refine eX _ (aI N ?_)
   obtain⟨a3,S,a⟩:=D0 a
   obtain⟨I,aq,O,aj⟩:=Sl.getI (r:=L1.toRp) (U1.mono c j) S (by decide)
   refine aI I ?_
   obtain⟨a4,a5,ba,an,aS,av,bb,rfl,rfl,aD,aE,aF,ak⟩:=J3 aj
   obtain⟨rfl,aM⟩:=Sl.len ak
   try dsimp only at a
   refine eX _ (aI O ?_)
   obtain⟨bc,T,a⟩:=D0 a
   obtain⟨ar,o,al⟩:=Sl.getG (r:=L1.toRp) (U1.mono c i) T (by decide) (d08 p)
   refine aI (λq=>(o q).1) ?_
   obtain⟨bd,A,B,G,aU,M,C,rfl,rfl,aG,aa,ab,w⟩:=J3 al
   obtain⟨rfl,aN⟩:=Sl.len w
   try dsimp only at a
   refine eX _ (aI (λq=>(o q).2) ?_)
   obtain⟨aV,P,a⟩:=D0 a
   obtain⟨ao,n,ag⟩:=Sl.getG (r:=L1.toRp) (U1.mono c j) P (by decide) (d08 p)
   refine aI (λq=>(n q).1) ?_
   obtain⟨aW,x,y,F,aQ,L,z,rfl,rfl,az,Y,Z,u⟩:=J3 ag
   obtain⟨rfl,aK⟩:=Sl.len u
   try dsimp only at a
   refine eX _ (aI (λq=>(n q).2) ?_)
   refine trG a (λq=>t06 _ [.int .i64 A,.int .i64 B,.slice G C.length M] (A,B,C) (l0 aa ab w) [.int .i64 x,.int .i64 y,.slice F z.length L] (x,y,z) (l0 Y Z u)) λaX a=>?_
   refine ifB a (λW a=>?_) λW a=>?_
   ·obtain rfl:=oJ a
    try dsimp only[L3,N3]at b
    obtain rfl:=oJ b
    exact aI rfl c
   ·exact U2 e ⟨(IntKind.i64.wrap (d+1)),rfl,rfl,c,(I0 _),a⟩
  ·obtain rfl:=oJ a
   try dsimp only[Z0,I1]at b
   obtain rfl:=oJ b
   exact aI rfl c
theorem a0b(h:Hp)(p:Option Addr)(b2 s:Nat)(i:(List Int))(y:(Wp.slice Wp.u8).R h [.slice p b2 s] i)(r:Bool)(d:Z00 i=some r):
  Tr Tryz.prog 4 #[.slice p b2 s] h λv h'=>v = .bool r/\h'=h:=by
 obtain⟨rfl,hg⟩:=Sl.len y
 unfold Z00 at d
 refine Tr.forget (t0v [7,5] (v := .slice p i.length s) (fn:=Tryz.f4) rfl ?_)
 obtain⟨dh,b,d⟩:=D0 d
 refine eX (dh = .inr ()) (aI ?_ ?_)
 ·unfold a8 at b
  refine trV b (M0n _ _ _ _ _ y) λjf b=>?_
  refine ifB b (λer b=>?_) λer b=>?_
  ·obtain rfl:=oJ b
   try dsimp only[L3,N3]at d
   obtain rfl:=oJ d
   exact aI rfl (Sub.refl _)
  ·refine trM b (b0a _ p i.length s i y) ?_
   rintro fW b iP e6 ⟨gv,gw,rfl,ck,cl,aC⟩
   obtain⟨jx,K,jy⟩:=fW
   dsimp only at b ck cl
   obtain⟨I,an,hZ,aq,J,rfl,rfl,ay,af⟩:=E1 ck
   obtain⟨rfl,hw⟩:=Sl.len af
   try dsimp only at b
   obtain⟨ij,ec,b⟩:=D0 b
   have L:K.size<=9223372036854775807:=O0 ec
   obtain⟨Y,Z,aR,h0,aS,aa,rfl,rfl,aV,aW,aA⟩:=F0 cl
   obtain⟨rfl,hx⟩:=Sl.len aA
   try dsimp only at b
   refine trM b (R03 _ [.int .i64 I,.slice an J.length aq] (I,J) (K0 ay af) K L [.int .i64 Y,.int .i64 Z,.slice aR aa.length aS] (Y,Z,aa) (l0 aV aW aA)) ?_
   rintro f1 b iy b0 ⟨gA,rfl,bh⟩
   obtain⟨jD,jE⟩:=f1
   dsimp only at b bh
   have C:Sub e6 b0:=bh.sub
   have fp:=bh.r
   obtain⟨c2,dz,h3,dR,c3,rfl,rfl,eJ,cp⟩:=E1 fp
   obtain⟨rfl,hA⟩:=Sl.len cp
   try dsimp only at b
   refine trM b (D02 _ [.int .i64 I,.slice an J.length aq] (I,J) (K0 ay (U1.mono C af)) K L [.int .i64 Y,.int .i64 Z,.slice aR aa.length aS] (Y,Z,aa) (l0 aV aW (U0.mono C aA))) ?_
   rintro fH b iH bW ⟨gl,rfl,bb⟩
   obtain⟨iZ,i0⟩:=fH
   dsimp only at b bb
   have E:Sub b0 bW:=bb.sub
   have ff:=bb.r
   obtain⟨G,al,hN,ao,H,rfl,rfl,av,ad⟩:=E1 ff
   obtain⟨rfl,hm⟩:=Sl.len ad
   try dsimp only at b
   refine Or.inl (aI (aI (by kernel_rfl) (by kernel_rfl)) ?_)
   refine trG b (λq=>N9 _ [.int .i64 c2,.slice dz c3.length dR] (c2,c3) (K0 eJ (U1.mono E cp)) [.int .i64 G,.slice al H.length ao] (G,H) (K0 av ad)) λja b=>?_
   refine trG b (λq=>U9 _ [.int .i64 I,.slice an J.length aq] (I,J) (K0 ay (U1.mono (C.trans E) af))) λjb b=>?_
   refine trG b (λq=>h02 _ [.int .i64 I,.slice an J.length aq] (I,J) (K0 ay (U1.mono (C.trans E) af))) λjc b=>?_
   refine trG b (λq=>Y06 _ K L) λjd b=>?_
   refine trG b (λq=>X06 _ K L) λje b=>?_
   refine ifB b (λep b=>?_) λep b=>?_
   ·obtain rfl:=oJ b
    try dsimp only[L3,N3]at d
    obtain rfl:=oJ d
    exact aI rfl ((aC.trans C).trans E)
   ·refine ifB b (λeq b=>?_) λeq b=>?_
    ·refine trM b (M02 _ [.int .i64 G,.slice al H.length ao] (G,H) (K0 av ad) K L) ?_
     rintro fS b iI bX ⟨gp,rfl,bd⟩
     obtain⟨jg,jh⟩:=fS
     dsimp only at b bd
     have ag:Sub bW bX:=bd.sub
     have fh:=bd.r
     obtain⟨cT,cU,dv,hT,dN,cV,rfl,rfl,eD,eE,cg⟩:=F0 fh
     obtain⟨rfl,hq⟩:=Sl.len cg
     try dsimp only at b
     refine trM b (I07 _ [.int .i64 G,.slice al H.length ao] (G,H) (K0 av (U1.mono ag ad)) K L) ?_
     rintro fT b iJ bY ⟨gq,rfl,be⟩
     obtain⟨ji,jj⟩:=fT
     dsimp only at b be
     have ah:Sub bX bY:=be.sub
     have fi:=be.r
     obtain⟨aL,bu,hU,bD,aM,rfl,rfl,bP,a1⟩:=E1 fi
     obtain⟨rfl,hr⟩:=Sl.len a1
     try dsimp only at b
     refine trM b (M02 _ [.int .i64 aL,.slice bu aM.length bD] (aL,aM) (K0 bP a1) K L) ?_
     rintro fU b iK e2 ⟨gr,rfl,bf⟩
     obtain⟨jk,jo⟩:=fU
     dsimp only at b bf
     have V:Sub bY e2:=bf.sub
     have fj:=bf.r
     obtain⟨jl,jm,gb,hV,gE,jn,rfl,rfl,gJ,gK,fk⟩:=F0 fj
     obtain⟨rfl,hs⟩:=Sl.len fk
     try dsimp only at b
     refine trG b (λq=>p02 _ [.int .i64 cT,.int .i64 cU,.slice dv cV.length dN] (cT,cU,cV) (l0 eD eE (U0.mono (ah.trans V) cg)) [.int .i64 Y,.int .i64 Z,.slice aR aa.length aS] (Y,Z,aa) (l0 aV aW (U0.mono ((((C.trans E).trans ag).trans ah).trans V) aA))) λjp b=>?_
     refine trG b (λq=>U9 _ [.int .i64 G,.slice al H.length ao] (G,H) (K0 av (U1.mono ((ag.trans ah).trans V) ad))) λjq b=>?_
     refine trG b (λq=>U9 _ [.int .i64 aL,.slice bu aM.length bD] (aL,aM) (K0 bP (U1.mono V a1))) λjr b=>?_
     refine ifB b (λes b=>?_) λes b=>?_
     ·obtain rfl:=oJ b
      try dsimp only[L3,N3]at d
      obtain rfl:=oJ d
      exact aI rfl (((((aC.trans C).trans E).trans ag).trans ah).trans V)
     ·obtain rfl:=oJ b
      exact aI (aI rfl rfl) (aI (((((aC.trans C).trans E).trans ag).trans ah).trans V) rfl)
    ·obtain rfl:=oJ b
     exact aI (aI rfl rfl) (aI ((aC.trans C).trans E) rfl)
 ·rintro rfl g3 z
  try dsimp only[Z0]at d
  obtain⟨di,b,d⟩:=D0 d
  refine eX (di = .inr ()) (aI ?_ ?_)
  ·unfold c01 at b
   refine trM b (w06 _ p i.length s i ((Wp.slice Wp.u8).mono z y)) ?_
   rintro fV b iL e3 ⟨gs,rfl,ch,aB⟩
   obtain⟨js,Q,bl,bm,bn⟩:=fV
   dsimp only at b ch
   obtain⟨aN,bv,hW,bE,aO,rfl,rfl,bQ,a2⟩:=E1 ch
   obtain⟨rfl,ht⟩:=Sl.len a2
   try dsimp only at b
   obtain⟨ie,d2,b⟩:=D0 b
   have aw:Q.size<=9223372036854775807:=O0 d2
   obtain⟨ig,d3,b⟩:=D0 b
   have bR:bl.size<=9223372036854775807:=O0 d3
   obtain⟨ih,ea,b⟩:=D0 b
   have bS:bm.size<=9223372036854775807:=O0 ea
   obtain⟨ii,eb,b⟩:=D0 b
   have bT:bn.size<=9223372036854775807:=O0 eb
   refine trM b (B08 _ [.int .i64 aN,.slice bv aO.length bE] (aN,aO) (K0 bQ a2) Q aw bl bR bm bS bn bT) ?_
   rintro fX b iM e4 ⟨gt,rfl,bg⟩
   obtain⟨jt,ju⟩:=fX
   dsimp only at b bg
   have ai:Sub e3 e4:=bg.sub
   have fl:=bg.r
   obtain⟨cW,dw,hX,dO,cX,rfl,rfl,eF,ci⟩:=E1 fl
   obtain⟨rfl,hu⟩:=Sl.len ci
   try dsimp only at b
   refine trM b (z08 _ [.int .i64 aN,.slice bv aO.length bE] (aN,aO) (K0 bQ (U1.mono ai a2)) Q aw bl bR bm bS bn bT) ?_
   rintro fY b iN e5 ⟨gu,rfl,cj,aj⟩
   obtain⟨jv,jw⟩:=fY
   dsimp only at b cj
   obtain⟨t,am,hY,ap,u,rfl,rfl,ax,ae⟩:=E1 cj
   obtain⟨rfl,hv⟩:=Sl.len ae
   try dsimp only at b
   refine trG b (λq=>N9 _ [.int .i64 cW,.slice dw cX.length dO] (cW,cX) (K0 eF (U1.mono aj ci)) [.int .i64 t,.slice am u.length ap] (t,u) (K0 ax ae)) λjz b=>?_
   refine ifB b (λet b=>?_) λet b=>?_
   ·obtain rfl:=oJ b
    try dsimp only[L3,N3]at d
    obtain rfl:=oJ d
    exact aI rfl (((z.trans aB).trans ai).trans aj)
   ·refine ifB b (λeu b=>?_) λeu b=>?_
    ·refine trM b (u06 _ [.int .i64 t,.slice am u.length ap] (t,u) (K0 ax ae) Q aw) ?_
     rintro bo b iO bZ ⟨dx,h1,dP,rfl,cC⟩
     have aD:Sub e5 bZ:=cC.sub
     have cm:=cC.r
     obtain⟨rfl,hy⟩:=Sl.len cm
     obtain⟨br,eo,b⟩:=D0 b
     refine eX { vars:=[26],boxes:=[],owns:=[],fuel:=true } (eX (λvs os h'=>∃ P,vs.tail = [.int .i64 P]/\os = []/\Sub bZ h'/\J0 P/\w5 bo t u Q (D2 vs) P=some br) (eX (λ_ _=>0) (aI (eX Y0 ⟨0,rfl,rfl,(Sub.refl _),(by decide),eo⟩) ?_)))
     rintro _ az g4 ⟨P,⟨⟩,⟨⟩,T,gI,f⟩
     replace f:w5 bo t u Q az P=some br:=f
     obtain _|az:=az
     ·cases f
     rw[w5.eq_2]at f
     refine ifB f (λew f=>?_) λew f=>?_
     ·refine Or.inr (Or.inr (Or.inr (Or.inr (eX 10 (aI (aI (by kernel_rfl) (by kernel_rfl)) ?_)))))
      obtain⟨cY,em,f⟩:=D0 f
      obtain⟨dE,gx,dW,fm⟩:=Sl.getI (r:=Wp.str.toRp) ((Wp.slice Wp.str).mono T cm) em (by decide)
      obtain⟨rfl,eG⟩:=fm
      refine Or.inl (eX (.hel (.slice dx bo.length dP) P 1 0) (aI ?_ ?_))
      ·intro g5 iu
       exact aI dE (aI rfl (aI rfl rfl))
      refine Or.inl (eX (.val (.string cY)) (aI ?_ ?_))
      ·intro g6 fA
       exact eX _ (aI (A5.up fA dW) (aI rfl (aI rfl rfl)))
      obtain⟨fZ,en,f⟩:=D0 f
      obtain⟨f0,bp⟩:=fZ
      try dsimp only at f
      obtain⟨w,x,j⟩:=f0
      try dsimp only at f
      refine Or.inr (eX (λv o=>∃(D:Value),v = .tuple #[D,.bool bp]/\(λv o=>∃(m:Option Addr) (n:Nat),v = .agg #[.int .i64 w,.int .i64 x,.slice m j.length n]/\J0 w/\J0 x/\U0.R o [.slice m j.length n] j/\j.length<=9223372036854775807) D o) (aI (λv ar au k q=>by obtain⟨D,e,aU⟩:=q;exact⟨D,e,(by obtain⟨m,n,e,ab,ac,f2,f3⟩:=aU;exact⟨m,n,e,ab,ac,U0.mono k f2,f3⟩)⟩) (aI ?_ ?_)))
      ·intro g7 fB
       refine Tr.mono (L02 _ [.int .i64 t,.slice am u.length ap] (t,u) (K0 ax (U1.mono ((aD.trans T).trans fB) ae)) cY eG _ en) ?_
       rintro _ b1 ⟨gy,rfl,fo,k⟩
       obtain⟨jI,jJ,bz,h7,bG,jK,rfl,dX,eP,eQ,cu⟩:=F0 fo
       cases dX
       obtain⟨rfl,fb⟩:=Sl.len cu
       exact aI u05 (aI k ⟨(.agg #[.int .i64 w,.int .i64 x,.slice bz j.length bG]),rfl,⟨bz,bG,rfl,eP,eQ,cu,fb⟩⟩)
      refine Or.inr (eX (λv o=>∃(D:Value),v = .tuple #[D,.bool bp]/\(λv o=>∃(m:Option Addr) (n:Nat),v = .agg #[.int .i64 w,.int .i64 x,.slice m j.length n]/\J0 w/\J0 x/\U0.R o [.slice m j.length n] j/\j.length<=9223372036854775807) D o) (aI (λv ar au k q=>by obtain⟨D,e,aU⟩:=q;exact⟨D,e,(by obtain⟨m,n,e,ab,ac,f2,f3⟩:=aU;exact⟨m,n,e,ab,ac,U0.mono k f2,f3⟩)⟩) (aI ?_ ?_)))
      ·intro g8 iv
       rintro _ ⟨_,rfl,⟨bA,bH,rfl,eR,eS,fu,fc⟩⟩
       exact aI u05 (aI (Sub.refl _) ⟨(.agg #[.int .i64 w,.int .i64 x,.slice bA j.length bH]),rfl,⟨bA,bH,rfl,eR,eS,fu,fc⟩⟩)
      refine Or.inr (eX (λv o=>∃(m:Option Addr) (n:Nat),v = .agg #[.int .i64 w,.int .i64 x,.slice m j.length n]/\J0 w/\J0 x/\U0.R o [.slice m j.length n] j/\j.length<=9223372036854775807) (aI (λv ar au k q=>by obtain⟨m,n,e,ab,ac,f2,f3⟩:=q;exact⟨m,n,e,ab,ac,U0.mono k f2,f3⟩) (aI ?_ ?_)))
      ·intro ha iw
       rintro _ ⟨_,rfl,⟨dC,dU,rfl,eT,eU,fv,fd⟩⟩
       exact aI u05 (aI (Sub.refl _) ⟨dC,dU,rfl,eT,eU,fv,fd⟩)
      refine Or.inl (eX (.val (.bool bp)) (aI ?_ ?_))
      ·intro hb ix
       rintro _ ⟨_,rfl,⟨ge,gH,rfl,gL,gM,il,hG⟩⟩
       exact aI rfl (aI rfl rfl)
      intro hc a4
      rintro _ ⟨dD,dV,rfl,eV,eW,fw,hH⟩
      rintro _ _
      rintro _ _
      refine trM f (L02 _ [.int .i64 t,.slice am u.length ap] (t,u) (K0 ax (U1.mono ((aD.trans T).trans a4) ae)) Q aw) ?_
      rintro f5 f iQ hd ⟨gz,rfl,cn,a5⟩
      obtain⟨jA,jB⟩:=f5
      dsimp only at f cn
      obtain⟨cZ,c0,dy,h2,dQ,c1,rfl,rfl,eH,eI,co⟩:=F0 cn
      obtain⟨rfl,hz⟩:=Sl.len co
      try dsimp only at f
      refine trV f (v08 _ [.int .i64 w,.int .i64 x,.slice dD j.length dV] (w,x,j) (l0 eV eW (U0.mono a5 fw)) [.int .i64 cZ,.int .i64 c0,.slice dy c1.length dQ] (cZ,c0,c1) (l0 eH eI co)) λjC f=>?_
      refine ifB f (λex f=>?_) λex f=>?_
      ·obtain rfl:=oJ f
       try dsimp only[L3,N3]at b
       obtain rfl:=oJ b
       try dsimp only[L3,N3]at d
       obtain rfl:=oJ d
       exact aI rfl (((((((z.trans aB).trans ai).trans aj).trans aD).trans T).trans a4).trans a5)
      ·exact U2 az ⟨(IntKind.i64.wrap (P+1)),rfl,rfl,((T.trans a4).trans a5),(I0 _),f⟩
     ·obtain rfl:=oJ f
      try dsimp only[Z0,I1]at b
      obtain rfl:=oJ b
      exact aI (aI rfl rfl) (aI ((((aB.trans ai).trans aj).trans aD).trans T) rfl)
    ·obtain rfl:=oJ b
     exact aI (aI rfl rfl) (aI ((aB.trans ai).trans aj) rfl)
  ·rintro rfl he S
   try dsimp only[Z0]at d
   refine trM d (A0c _ p i.length s i ((Wp.slice Wp.u8).mono (z.trans S) y)) ?_
   rintro f6 d iS e7 ⟨gB,rfl,cq,ak⟩
   obtain⟨jF,bq⟩:=f6
   dsimp only at d cq
   obtain⟨aP,bx,h4,bF,aQ,rfl,rfl,bU,a3⟩:=E1 cq
   obtain⟨rfl,hB⟩:=Sl.len a3
   try dsimp only at d
   obtain⟨ik,ed,d⟩:=D0 d
   have bV:bq.size<=9223372036854775807:=O0 ed
   refine trM d (M02 _ [.int .i64 aP,.slice bx aQ.length bF] (aP,aQ) (K0 bU a3) bq bV) ?_
   rintro f7 d iT e8 ⟨gC,rfl,bi⟩
   obtain⟨jG,f8⟩:=f7
   dsimp only at d bi
   have W:Sub e7 e8:=bi.sub
   have fq:=bi.r
   obtain⟨c4,db,dA,h5,dS,dc,rfl,rfl,eK,eM,cr⟩:=F0 fq
   obtain⟨rfl,hC⟩:=Sl.len cr
   try dsimp only at d
   refine trM d (L02 _ [.int .i64 aP,.slice bx aQ.length bF] (aP,aQ) (K0 bU (U1.mono W a3)) bq bV) ?_
   rintro f9 d iz hf ⟨gD,rfl,cs,X⟩
   obtain⟨jH,ga⟩:=f9
   dsimp only at d cs
   obtain⟨dd,df,dB,h6,dT,dg,rfl,rfl,eN,eO,ct⟩:=F0 cs
   obtain⟨rfl,hD⟩:=Sl.len ct
   try dsimp only at d
   refine trM d (y09 _ p i.length s i ((Wp.slice Wp.u8).mono ((((z.trans S).trans ak).trans W).trans X) y)) ?_
   rintro fC d iA eY ⟨gf,rfl,b3,U⟩
   obtain⟨iU,bj⟩:=fC
   dsimp only at d b3
   obtain⟨aE,bs,hI,bB,aF,rfl,rfl,bI,aX⟩:=E1 b3
   obtain⟨rfl,hh⟩:=Sl.len aX
   try dsimp only at d
   obtain⟨ia,dY,d⟩:=D0 d
   have bJ:bj.size<=9223372036854775807:=O0 dY
   refine trM d (I07 _ [.int .i64 aE,.slice bs aF.length bB] (aE,aF) (K0 bI aX) bj bJ) ?_
   rintro fD d iB eZ ⟨gg,rfl,ba⟩
   obtain⟨iV,fE⟩:=fD
   dsimp only at d ba
   have M:Sub eY eZ:=ba.sub
   have fe:=ba.r
   obtain⟨cD,dj,hJ,dF,cE,rfl,rfl,ey,b4⟩:=E1 fe
   obtain⟨rfl,hi⟩:=Sl.len b4
   try dsimp only at d
   refine trM d (B0d _ [.int .i64 aE,.slice bs aF.length bB] (aE,aF) (K0 bI (U1.mono M aX)) bj bJ) ?_
   rintro fF d iC gN ⟨gh,rfl,b5,N⟩
   obtain⟨iW,fG⟩:=fF
   dsimp only at d b5
   obtain⟨cG,dk,hK,dG,cH,rfl,rfl,ez,b6⟩:=E1 b5
   obtain⟨rfl,hj⟩:=Sl.len b6
   try dsimp only at d
   refine trM d (r08 _ p i.length s i ((Wp.slice Wp.u8).mono (((((((z.trans S).trans ak).trans W).trans X).trans U).trans M).trans N) y)) ?_
   rintro fI d iD gO ⟨gj,rfl,b7,O⟩
   obtain⟨iX,bk⟩:=fI
   dsimp only at d b7
   obtain⟨aG,bt,hL,bC,aH,rfl,rfl,bK,aY⟩:=E1 b7
   obtain⟨rfl,hk⟩:=Sl.len aY
   try dsimp only at d
   obtain⟨ib,dZ,d⟩:=D0 d
   have bL:bk.size<=9223372036854775807:=O0 dZ
   refine trV d (C08 _ p i.length s i ((Wp.slice Wp.u8).mono ((((((((z.trans S).trans ak).trans W).trans X).trans U).trans M).trans N).trans O) y)) λcI d=>?_
   obtain⟨ic,d1,d⟩:=D0 d
   have bM:J0 cI:=O0 d1
   refine trM d (C0c _ _ bM) ?_
   rintro fJ d iE e0 ⟨gk,rfl,b8,F⟩
   obtain⟨iY,fK⟩:=fJ
   dsimp only at d b8
   obtain⟨cJ,dm,hM,dH,cK,rfl,rfl,eA,ca⟩:=E1 b8
   obtain⟨rfl,hl⟩:=Sl.len ca
   try dsimp only at d
   refine trM d (R06 _ cI bM) ?_
   rintro fL d iF e1 ⟨gm,rfl,bc⟩
   obtain⟨i1,fM⟩:=fL
   dsimp only at d bc
   have A:Sub e0 e1:=bc.sub
   have fg:=bc.r
   obtain⟨cL,dn,hO,dI,cM,rfl,rfl,eC,cb⟩:=E1 fg
   obtain⟨rfl,hn⟩:=Sl.len cb
   try dsimp only at d
   refine trM d (x06 _ p i.length s i ((Wp.slice Wp.u8).mono ((((((((((z.trans S).trans ak).trans W).trans X).trans U).trans M).trans N).trans O).trans F).trans A) y)) ?_
   rintro fN d iG gP ⟨gn,go,rfl,cc,cd,B⟩
   obtain⟨i2,i3⟩:=fN
   dsimp only at d cc cd
   obtain⟨cN,dq,hP,dJ,cO,rfl,rfl,bN,aZ⟩:=E1 cc
   obtain⟨rfl,ho⟩:=Sl.len aZ
   try dsimp only at d
   obtain⟨cP,ds,hQ,dK,cQ,rfl,rfl,bO,a0⟩:=E1 cd
   obtain⟨rfl,hp⟩:=Sl.len a0
   try dsimp only at d
   refine Or.inr (Or.inr (Or.inr (Or.inl (aI (aI (by kernel_rfl) (by kernel_rfl)) ?_))))
   refine Or.inl (eX (.val (.bool (f8 == ga))) (aI ?_ ?_))
   ·intro gQ im
    exact aI rfl (aI rfl rfl)
   obtain⟨fO,ee,d⟩:=D0 d
   refine Or.inl (eX (.val (.bool fO)) (aI ?_ ?_))
   ·intro gR cv g
    exact Tr.val (p02 _ [.int .i64 c4,.int .i64 db,.slice dA dc.length dS] (c4,db,dc) (l0 eK eM (U0.mono ((((((((X.trans U).trans M).trans N).trans O).trans F).trans A).trans B).trans cv) cr)) [.int .i64 dd,.int .i64 df,.slice dB dg.length dT] (dd,df,dg) (l0 eN eO (U0.mono (((((((U.trans M).trans N).trans O).trans F).trans A).trans B).trans cv) ct)) _ (c5 ee g)) (aI rfl (aI rfl rfl))
   refine Or.inl (eX (.val (.bool (fE == fG))) (aI ?_ ?_))
   ·intro gS io g
    exact aI rfl (aI rfl rfl)
   obtain⟨fP,ef,d⟩:=D0 d
   refine Or.inl (eX (.val (.bool fP)) (aI ?_ ?_))
   ·intro gT cw g
    exact Tr.val (N9 _ [.int .i64 cD,.slice dj cE.length dF] (cD,cE) (K0 ey (U1.mono (((((N.trans O).trans F).trans A).trans B).trans cw) b4)) [.int .i64 cG,.slice dk cH.length dG] (cG,cH) (K0 ez (U1.mono ((((O.trans F).trans A).trans B).trans cw) b6)) _ (c5 ef g)) (aI rfl (aI rfl rfl))
   obtain⟨aJ,eg,d⟩:=D0 d
   refine Or.inr (eX (λv o=>∃(a:Option Addr) (c:Nat),v = .slice a aJ.length c/\(Wp.slice Wp.str).R o [.slice a aJ.length c] aJ/\aJ.length<=9223372036854775807) (aI (λv ar au k q=>by obtain⟨a,c,e,r,l⟩:=q;exact⟨a,c,e,(Wp.slice Wp.str).mono k r,l⟩) (aI ?_ ?_)))
   ·intro gU fx g
    refine Tr.mono (u06 _ [.int .i64 aG,.slice bt aH.length bC] (aG,aH) (K0 bK (U1.mono (((F.trans A).trans B).trans fx) aY)) bk bL _ (c5 eg g)) ?_
    rintro _ b1 ⟨dt,hR,dL,rfl,cA⟩
    have k:=cA.sub
    have ce:=cA.r
    obtain⟨rfl,e9⟩:=Sl.len ce
    exact aI u05 (aI k ⟨dt,dL,rfl,ce,e9⟩)
   obtain⟨aK,eh,d⟩:=D0 d
   refine Or.inr (eX (λv o=>∃(a:Option Addr) (c:Nat),v = .slice a aK.length c/\(Wp.slice Wp.str).R o [.slice a aK.length c] aK/\aK.length<=9223372036854775807) (aI (λv ar au k q=>by obtain⟨a,c,e,r,l⟩:=q;exact⟨a,c,e,(Wp.slice Wp.str).mono k r,l⟩) (aI ?_ ?_)))
   ·intro gV fy g
    refine Tr.mono (X0a _ [.int .i64 aG,.slice bt aH.length bC] (aG,aH) (K0 bK (U1.mono (((F.trans A).trans B).trans fy) aY)) bk bL _ (c5 eh g)) ?_
    rintro _ b1 ⟨du,hS,dM,rfl,cf,k⟩
    obtain⟨rfl,fa⟩:=Sl.len cf
    exact aI u05 (aI k ⟨du,dM,rfl,cf,fa⟩)
   obtain⟨fQ,ei,d⟩:=D0 d
   refine Or.inl (eX (.val (.bool fQ)) (aI ?_ ?_))
   ·intro gW ip g
    rintro _ ⟨gc,gF,rfl,fs,hE⟩
    rintro _ ⟨gd,gG,rfl,ft,hF⟩
    exact Tr.val (G0d _ _ _ _ _ fs _ _ _ _ ft _ (c5 ei g)) (aI rfl (aI rfl rfl))
   refine Or.inl (eX (.val (.bool (fK == fM))) (aI ?_ ?_))
   ·intro gX iq g
    exact aI rfl (aI rfl rfl)
   obtain⟨fR,ej,d⟩:=D0 d
   refine Or.inl (eX (.val (.bool fR)) (aI ?_ ?_))
   ·intro gY cx g
    exact Tr.val (N9 _ [.int .i64 cJ,.slice dm cK.length dH] (cJ,cK) (K0 eA (U1.mono ((A.trans B).trans cx) ca)) [.int .i64 cL,.slice dn cM.length dI] (cL,cM) (K0 eC (U1.mono (B.trans cx) cb)) _ (c5 ej g)) (aI rfl (aI rfl rfl))
   obtain⟨cR,ek,d⟩:=D0 d
   refine Or.inl (eX (.val (.bool cR)) (aI ?_ ?_))
   ·intro gZ cy g
    exact Tr.val (D08 _ _ _ (K0 bN (U1.mono cy aZ)) _ _ (K0 bO (U1.mono cy a0)) _ (c5 ek g)) (aI rfl (aI rfl rfl))
   obtain⟨cS,el,d⟩:=D0 d
   refine Or.inl (eX (.val (.bool cS)) (aI ?_ ?_))
   ·intro g0 cz g
    exact Tr.val (N9 _ [.int .i64 cN,.slice dq cO.length dJ] (cN,cO) (K0 bN (U1.mono cz aZ)) [.int .i64 cP,.slice ds cQ.length dK] (cP,cQ) (K0 bO (U1.mono cz a0)) _ (c5 el g)) (aI rfl (aI rfl rfl))
   refine Or.inl (eX (.val (.bool (cR == cS))) (aI ?_ ?_))
   ·intro g1 ir g
    exact aI rfl (aI rfl rfl)
   intro g2 fz
   obtain rfl:=oJ d
   exact aI rfl ((((((((((((z.trans S).trans ak).trans W).trans X).trans U).trans M).trans N).trans O).trans F).trans A).trans B).trans fz)
end Go.Proofs.YtmgikbbmpnbbjaaGreat
