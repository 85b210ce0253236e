/- Texts of the claim, joined: The walks of batch dh and others. -/
import Derived.Test.YtmgikbbmpnbbjaaGreatPart20
import Derived.Test.YtmgikbbmpnbbjaaGreatChecked
import Derived.Test.YtmgikbbmpnbbjaaGreatH35
import Derived.Test.YtmgikbbmpnbbjaaGreatPart28
import Derived.Test.YtmgikbbmpnbbjaaGreatPart31
import Derived.Test.YtmgikbbmpnbbjaaGreatH45
import Derived.Test.YtmgikbbmpnbbjaaGreatH41
import Derived.Test.YtmgikbbmpnbbjaaGreatPart19
import Derived.Test.YtmgikbbmpnbbjaaGreatH36
import Derived.Test.YtmgikbbmpnbbjaaGreatPart30
import Derived.Test.YtmgikbbmpnbbjaaGreatHE
import Derived.Test.YtmgikbbmpnbbjaaGreatPart23
namespace Go.Proofs.YtmgikbbmpnbbjaaGreat
open Go.H
set_option linter.unusedVariables false
set_option linter.unusedSimpArgs false
set_option maxRecDepth 10000
set_option maxHeartbeats 0
theorem w0d(h:Hp)(D:Nat)(K:Value)(ai:TypeId)(N:List Int)(aW:Int×Int)(bi:w8 h D K N aW)(r:l0×(Int×Int))(l:P01 N aW=some r):
  Tr Tryz.prog 255 #[ptr D 0] (h.set D (D02 K aW ai)) λv h'=>∃(bk:List Value) (aQ:Hp),v = .agg bk.toArray/\C0.R aQ bk r.1/\Sub h aQ/\w8 aQ D K N r.2/\h'=aQ.set D (D02 K r.2 ai):=by
 unfold P01 at l
 refine V1 (args:=[ptr D 0]) (fn:=Tryz.f255) rfl ?_
 refine Or.inl ?_
 intro dc cK f3
 obtain⟨a3,bT,cd,rfl⟩:=S0.beside bi.no f3
 obtain⟨bA,bJ,rfl,cr,bs,cU⟩:=S0.out (r:=Wp.int.toRp) bT (show F2 (Wp.int.R h) ([[.int .i64 1],[.int .i64 2],[.int .i64 2],[.int .i64 2],[.int .i64 3]]:List (List Value)) [1,2,2,2,3] from⟨⟨rfl,(by decide)⟩,⟨⟨rfl,(by decide)⟩,⟨⟨rfl,(by decide)⟩,⟨⟨rfl,(by decide)⟩,⟨⟨rfl,(by decide)⟩,trivial⟩⟩⟩⟩⟩)
 have bG:=bi.mono bs cd
 obtain⟨cD,b3,l⟩:=B0 l
 obtain⟨aZ,cE⟩:=cD
 try dsimp only at l
 refine Tr.mono (C9 _ D K ai N aW bG bA ([1,2,2,2,3]).length bJ [1,2,2,2,3] cr _ b3) ?_
 rintro _ _ ⟨rfl,bC,rfl⟩
 obtain⟨cX,bU,l⟩:=B0 l
 have ck:I0 aZ:=T0 bU
 obtain⟨cw,bY,l⟩:=B0 l
 obtain⟨an,cx⟩:=cw
 try dsimp only at l
 refine Tr.mono (I1 _ D K ai N cE bC 5 (by decide) _ bY) ?_
 rintro _ _ ⟨rfl,bD,rfl⟩
 obtain⟨cY,bV,l⟩:=B0 l
 have cI:I0 an:=T0 bV
 obtain⟨bf,b4,l⟩:=B0 l
 refine eX { vars:=[6],boxes:=[1],owns:=[],fuel:=true } (eX (λvs os aJ=>∃(U:Int) (aj:Int) (ak:Int) (aD:Option Addr) (a4 aF:Nat) (al:Y0) (aB:Int×Int) (h':Hp),vs.tail = [.int .i64 U,.int .i64 aj,.int .i64 ak,.slice aD a4 aF]/\os = []/\aJ=h'.set D (D02 K aB ai)/\Sub a3 h'/\I0 U/\I0 aj/\I0 ak/\N0.R h' [.slice aD a4 aF] al/\w8 h' D K N aB/\S5 aZ an N (C1 vs) U aj ak al aB=some bf) (eX (λ_ _=>0) ?_))
 refine aI (eX P0 ⟨1,aZ,(IntKind.i64.wrap (1+an)),none,0,0,[],cx,a3,rfl,rfl,rfl,(Sub.refl _),(by decide),ck,(F0 _),(m08 M1 a3),bD,b4⟩) ?_
 rintro bt ct cu cv aU _ ⟨U,aj,ak,aD,a4,aF,al,aB,a2,bN,bK,rfl,bq,cf,bl,bm,bb,a0,A⟩
 cases bN
 cases bK
 replace A:S5 aZ an N aU U aj ak al aB=some bf:=A
 obtain _|aU:=aU
 ·cases A
 rw[S5.eq_2]at A
 obtain⟨rfl,cP⟩:=Sl.len bb
 refine ifB A (λb7 A=>?_) λb7 A=>?_
 ·obtain⟨bg,b5,A⟩:=B0 A
  refine eX { vars:=[8],boxes:=[],owns:=[1],fuel:=true } (eX (λvs os aJ=>∃(S:Int) (aX:List (List Value)) (au:List Int) (av:Int×Int) (h':Hp),vs.tail = [.int .i64 S]/\os = [aX]/\aJ=h'.set D (D02 K av ai)/\Sub a2 h'/\I0 S/\F2 (Wp.int.R h') aX au/\w8 h' D K N av/\R5 an (C1 vs) S au av=some bg) (eX (λ_ _=>0) ?_))
  refine aI (eX P0 ⟨0,[],([]:D0),aB,a2,rfl,rfl,rfl,(Sub.refl _),(by decide),(show F2 (Wp.int.R a2) ([]:List (List Value)) ([]:D0) from trivial),a0,b5⟩) ?_
  rintro bt aX aV _ ⟨S,dj,au,av,aR,bO,bL,rfl,bd,bn,aP,a1,a⟩
  cases bO
  cases bL
  replace a:R5 an aV S au av=some bg:=a
  obtain _|aV:=aV
  ·cases a
  rw[R5.eq_2]at a
  refine ifB a (λb8 a=>?_) λb8 a=>?_
  ·obtain⟨cZ,bW,a⟩:=B0 a
   refine aI (Z0 bW (by first|rw[F2.length aP,F2.length (show F2 (Wp.int.R aR) ([[.int .i64 S]]:List (List Value)) [S] from⟨⟨rfl,bn⟩,trivial⟩)]|exact congrArg (·+1) (F2.length aP))) ?_
   exact D1 aV ⟨(IntKind.i64.wrap (S+1)),(aX++([[.int .i64 S]]:List (List Value))),(au ++ [S]),av,aR,rfl,rfl,rfl,bd,(F0 _),(F2.append aP (show F2 (Wp.int.R aR) ([[.int .i64 S]]:List (List Value)) [S] from⟨⟨rfl,bn⟩,trivial⟩)),a1,a⟩
  ·obtain rfl:=oJ a
   try dsimp only[M0,O0]at A
   obtain⟨bh,b6,A⟩:=B0 A
   refine eX { vars:=[7,9],boxes:=[1],owns:=[],fuel:=true,pubs:=[7] } (eX (λvs os aJ=>∃(aK:Option Addr) (a5 aN:Nat) (aC:D0) (n:Int) (I:Int) (J:Int) (aE:Option Addr) (ba aG:Nat) (am:Y0) (aw:Int×Int) (h':Hp),vs.tail = [.slice aK a5 aN,.int .i64 n,.int .i64 I,.int .i64 J,.slice aE ba aG]/\os = []/\aJ=h'.set D (D02 K aw ai)/\Sub aR h'/\K0.R h' [.slice aK a5 aN] aC/\I0 n/\I0 I/\I0 J/\N0.R h' [.slice aE ba aG] am/\w8 h' D K N aw/\Q5 an N U (C1 vs) aC n I J am aw=some bh) (eX (λ_ _=>0) ?_))
   intro df cL bR
   obtain⟨cm,bS,cc,rfl⟩:=S0.beside a1.no bR
   obtain⟨bz,bI,rfl,cq,be,cT⟩:=S0.out (r:=Wp.int.toRp) bS aP
   have bF:=a1.mono be cc
   refine aI (eX P0 ⟨bz,au.length,bI,au,0,aj,ak,aD,al.length,aF,al,av,cm,rfl,rfl,rfl,be,cq,(by decide),bl,bm,(N0.mono (bd.trans be) bb),bF,b6⟩) ?_
   rintro bt ct cu cv dh T _ ⟨aK,a5,aN,aC,n,I,J,aE,ba,aG,am,aw,bo,bP,bM,rfl,ab,H,cg,X,Y,bc,bj,a⟩
   cases bP
   cases bM
   replace a:Q5 an N U T aC n I J am aw=some bh:=a
   obtain _|T:=T
   ·cases a
   rw[Q5.eq_2]at a
   obtain⟨rfl,cn⟩:=Sl.len H
   obtain⟨rfl,cQ⟩:=Sl.len bc
   refine ifB a (λca a=>?_) λca a=>?_
   ·obtain⟨cC,b0,a⟩:=B0 a
    obtain⟨bv,ao⟩:=cC
    try dsimp only at a
    refine Tr.mono (I1 _ D K ai N aw bj ((aC.length:Nat):Int) (m0f cn) _ b0) ?_
    rintro _ _ ⟨rfl,aM,rfl⟩
    obtain⟨c0,bX,a⟩:=B0 a
    have cJ:I0 bv:=T0 bX
    refine Or.inr (Or.inr (Or.inl (aI (aI (by kernel_rfl) (by kernel_rfl)) ?_)))
    obtain⟨aY,b1,a⟩:=B0 a
    obtain⟨bB,cH,bQ,cp⟩:=Sl.getI (r:=Wp.int.toRp) H b1 (by decide)
    obtain⟨rfl,cj⟩:=cp
    refine Or.inl (eX (.hel (.slice aK aC.length aN) bv 1 0) (aI ?_ ?_))
    ·intro cM c3
     exact aI bB (aI rfl (aI rfl rfl))
    refine Or.inl (eX (.val (.int .i64 aY)) (aI ?_ ?_))
    ·intro cN cs
     exact eX _ (aI (i6.up ((Sub.set aM.no).trans cs) bQ) (aI rfl (aI rfl rfl)))
    refine Or.inl (eX (.agg [.val (.int .i64 n),.val (.int .i64 U),.val (.int .i64 aY)]) (aI ?_ ?_))
    ·intro cO db
     exact aI rfl (aI rfl rfl)
    refine Or.inr ?_
    refine Or.inr ?_
    refine Or.inl (eX 1 (aI (aI rfl rfl) ?_))
    obtain⟨o,b2,a⟩:=B0 a
    refine Tr.beside aM.no (t00 _ aE am.length aG am bc [.int .i64 n,.int .i64 U,.int .i64 aY] (n,U,aY) (E1 cg cf cj) _  b2) ?_
    rintro dg c ⟨ae,cW,af,rfl,bu⟩ ce
    have i:Sub bo c:=bu.sub
    have aa:=bu.r
    have b:=aM.mono i ce
    obtain⟨rfl,cS⟩:=Sl.len aa
    refine aI (aI rfl (Sub.setB aM.no i)) (aI (by first|exact trivial|exact rfl) ?_)
    refine aT ?_
    obtain⟨p,aH,a⟩:=B0 a
    obtain⟨c1,ag,a⟩:=B0 a
    obtain⟨q,ap,a⟩:=B0 a
    obtain⟨c2,ah,a⟩:=B0 a
    refine Or.inr (Or.inr (Or.inl (aI (aI (by kernel_rfl) (by kernel_rfl)) ?_)))
    refine Or.inr ?_
    refine Or.inr ?_
    refine Or.inr ?_
    refine Or.inr ?_
    refine Or.inr ?_
    refine Or.inr (eX 99 (eX 0 (aI rfl ?_)))
    refine aI ?_ ?_
    ·skip
     refine aT ?_
     refine aI ?_ ?_
     ·skip
      obtain⟨aL,aO,Z,m,V,k⟩:=Sl.cutX (r:=Wp.int.toRp) (K0.mono i H) aH
      obtain⟨ac,k⟩:=k _ (Sub.set b.no)
      refine aI V (eX ac (aI k ?_))
      intro ad _ W
      obtain rfl:=Z ad W
      have aS:=(Sl.len m).2
      refine aT ?_
      refine aI ?_ ?_
      ·skip
       obtain⟨F,w,d⟩:=Sl.rows (r:=Wp.int.toRp) m
       refine eX F (aI (SlE.mono (Sub.set b.no) w) ?_)
       refine aI (Z0 ag (by first|rw[F2.length (show F2 (Wp.int.R c) ([]:List (List Value)) ([]:D0) from trivial),F2.length d]|exact congrArg (·+1) (F2.length (show F2 (Wp.int.R c) ([]:List (List Value)) ([]:D0) from trivial)))) ?_
       refine aT ?_
       refine aI ?_ ?_
       ·skip
        obtain⟨ay,az,O,j,L,f⟩:=Sl.cutX (r:=Wp.int.toRp) (K0.mono i H) ap
        obtain⟨P,f⟩:=f _ (Sub.set b.no)
        refine aI L (eX P (aI f ?_))
        intro Q _ M
        obtain rfl:=O Q M
        have aA:=(Sl.len j).2
        refine aT ?_
        refine aI ?_ ?_
        ·skip
         obtain⟨G,x,g⟩:=Sl.rows (r:=Wp.int.toRp) j
         refine eX G (aI (SlE.mono (Sub.set b.no) x) ?_)
         refine aI (Z0 ah (by first|rw[F2.length (F2.append (show F2 (Wp.int.R c) ([]:List (List Value)) ([]:D0) from trivial) d),F2.length g]|exact congrArg (·+1) (F2.length (F2.append (show F2 (Wp.int.R c) ([]:List (List Value)) ([]:D0) from trivial) d)))) ?_
         refine aT ?_
         intro ax aq y
         obtain⟨C,z,B,rfl⟩:=S0.beside b.no y
         obtain⟨s,u,rfl,E,e,ar⟩:=S0.out (r:=Wp.int.toRp) z (F2.append (F2.append (show F2 (Wp.int.R c) ([]:List (List Value)) ([]:D0) from trivial) d) g)
         have t:=b.mono e B
         exact D1 T ⟨s,(((([]:D0)++p)++q)).length,u,((([]:D0)++p)++q),(IntKind.i64.wrap (n+1)),I,J,ae,o.length,af,o,ao,C,rfl,rfl,rfl,((ab.trans i).trans e),E,(F0 _),X,Y,(N0.mono e aa),t,a⟩
        exact trivial
       exact trivial
      refine aI ?_ ?_
      ·skip
       obtain⟨ay,az,O,j,L,f⟩:=Sl.cutX (r:=Wp.int.toRp) (K0.mono i H) ap
       obtain⟨P,f⟩:=f _ (Sub.set b.no)
       refine aI L (eX P (aI f ?_))
       intro Q _ M
       obtain rfl:=O Q M
       have aA:=(Sl.len j).2
       refine aT ?_
       refine aI ?_ ?_
       ·skip
        obtain⟨F,w,d⟩:=Sl.rows (r:=Wp.int.toRp) m
        refine eX F (aI (SlE.mono (Sub.set b.no) w) ?_)
        refine aI (Z0 ag (by first|rw[F2.length (show F2 (Wp.int.R c) ([]:List (List Value)) ([]:D0) from trivial),F2.length d]|exact congrArg (·+1) (F2.length (show F2 (Wp.int.R c) ([]:List (List Value)) ([]:D0) from trivial)))) ?_
        refine aT ?_
        refine aI ?_ ?_
        ·skip
         obtain⟨G,x,g⟩:=Sl.rows (r:=Wp.int.toRp) j
         refine eX G (aI (SlE.mono (Sub.set b.no) x) ?_)
         refine aI (Z0 ah (by first|rw[F2.length (F2.append (show F2 (Wp.int.R c) ([]:List (List Value)) ([]:D0) from trivial) d),F2.length g]|exact congrArg (·+1) (F2.length (F2.append (show F2 (Wp.int.R c) ([]:List (List Value)) ([]:D0) from trivial) d)))) ?_
         refine aT ?_
         intro ax aq y
         obtain⟨C,z,B,rfl⟩:=S0.beside b.no y
         obtain⟨s,u,rfl,E,e,ar⟩:=S0.out (r:=Wp.int.toRp) z (F2.append (F2.append (show F2 (Wp.int.R c) ([]:List (List Value)) ([]:D0) from trivial) d) g)
         have t:=b.mono e B
         exact D1 T ⟨s,(((([]:D0)++p)++q)).length,u,((([]:D0)++p)++q),(IntKind.i64.wrap (n+1)),I,J,ae,o.length,af,o,ao,C,rfl,rfl,rfl,((ab.trans i).trans e),E,(F0 _),X,Y,(N0.mono e aa),t,a⟩
        exact trivial
       exact trivial
      exact trivial
     refine aI ?_ ?_
     ·skip
      obtain⟨ay,az,O,j,L,f⟩:=Sl.cutX (r:=Wp.int.toRp) (K0.mono i H) ap
      obtain⟨P,f⟩:=f _ (Sub.set b.no)
      refine aI L (eX P (aI f ?_))
      intro Q _ M
      obtain rfl:=O Q M
      have aA:=(Sl.len j).2
      refine aT ?_
      refine aI ?_ ?_
      ·skip
       obtain⟨aL,aO,Z,m,V,k⟩:=Sl.cutX (r:=Wp.int.toRp) (K0.mono i H) aH
       obtain⟨ac,k⟩:=k _ (Sub.set b.no)
       refine aI V (eX ac (aI k ?_))
       intro ad _ W
       obtain rfl:=Z ad W
       have aS:=(Sl.len m).2
       refine aT ?_
       refine aI ?_ ?_
       ·skip
        obtain⟨F,w,d⟩:=Sl.rows (r:=Wp.int.toRp) m
        refine eX F (aI (SlE.mono (Sub.set b.no) w) ?_)
        refine aI (Z0 ag (by first|rw[F2.length (show F2 (Wp.int.R c) ([]:List (List Value)) ([]:D0) from trivial),F2.length d]|exact congrArg (·+1) (F2.length (show F2 (Wp.int.R c) ([]:List (List Value)) ([]:D0) from trivial)))) ?_
        refine aT ?_
        refine aI ?_ ?_
        ·skip
         obtain⟨G,x,g⟩:=Sl.rows (r:=Wp.int.toRp) j
         refine eX G (aI (SlE.mono (Sub.set b.no) x) ?_)
         refine aI (Z0 ah (by first|rw[F2.length (F2.append (show F2 (Wp.int.R c) ([]:List (List Value)) ([]:D0) from trivial) d),F2.length g]|exact congrArg (·+1) (F2.length (F2.append (show F2 (Wp.int.R c) ([]:List (List Value)) ([]:D0) from trivial) d)))) ?_
         refine aT ?_
         intro ax aq y
         obtain⟨C,z,B,rfl⟩:=S0.beside b.no y
         obtain⟨s,u,rfl,E,e,ar⟩:=S0.out (r:=Wp.int.toRp) z (F2.append (F2.append (show F2 (Wp.int.R c) ([]:List (List Value)) ([]:D0) from trivial) d) g)
         have t:=b.mono e B
         exact D1 T ⟨s,(((([]:D0)++p)++q)).length,u,((([]:D0)++p)++q),(IntKind.i64.wrap (n+1)),I,J,ae,o.length,af,o,ao,C,rfl,rfl,rfl,((ab.trans i).trans e),E,(F0 _),X,Y,(N0.mono e aa),t,a⟩
        exact trivial
       exact trivial
      exact trivial
     exact trivial
    refine aI ?_ ?_
    ·skip
     obtain⟨aL,aO,Z,m,V,k⟩:=Sl.cutX (r:=Wp.int.toRp) (K0.mono i H) aH
     obtain⟨ac,k⟩:=k _ (Sub.set b.no)
     refine aI V (eX ac (aI k ?_))
     intro ad _ W
     obtain rfl:=Z ad W
     have aS:=(Sl.len m).2
     refine aT ?_
     refine aI ?_ ?_
     ·skip
      refine aT ?_
      refine aI ?_ ?_
      ·skip
       obtain⟨F,w,d⟩:=Sl.rows (r:=Wp.int.toRp) m
       refine eX F (aI (SlE.mono (Sub.set b.no) w) ?_)
       refine aI (Z0 ag (by first|rw[F2.length (show F2 (Wp.int.R c) ([]:List (List Value)) ([]:D0) from trivial),F2.length d]|exact congrArg (·+1) (F2.length (show F2 (Wp.int.R c) ([]:List (List Value)) ([]:D0) from trivial)))) ?_
       refine aT ?_
       refine aI ?_ ?_
       ·skip
        obtain⟨ay,az,O,j,L,f⟩:=Sl.cutX (r:=Wp.int.toRp) (K0.mono i H) ap
        obtain⟨P,f⟩:=f _ (Sub.set b.no)
        refine aI L (eX P (aI f ?_))
        intro Q _ M
        obtain rfl:=O Q M
        have aA:=(Sl.len j).2
        refine aT ?_
        refine aI ?_ ?_
        ·skip
         obtain⟨G,x,g⟩:=Sl.rows (r:=Wp.int.toRp) j
         refine eX G (aI (SlE.mono (Sub.set b.no) x) ?_)
         refine aI (Z0 ah (by first|rw[F2.length (F2.append (show F2 (Wp.int.R c) ([]:List (List Value)) ([]:D0) from trivial) d),F2.length g]|exact congrArg (·+1) (F2.length (F2.append (show F2 (Wp.int.R c) ([]:List (List Value)) ([]:D0) from trivial) d)))) ?_
         refine aT ?_
         intro ax aq y
         obtain⟨C,z,B,rfl⟩:=S0.beside b.no y
         obtain⟨s,u,rfl,E,e,ar⟩:=S0.out (r:=Wp.int.toRp) z (F2.append (F2.append (show F2 (Wp.int.R c) ([]:List (List Value)) ([]:D0) from trivial) d) g)
         have t:=b.mono e B
         exact D1 T ⟨s,(((([]:D0)++p)++q)).length,u,((([]:D0)++p)++q),(IntKind.i64.wrap (n+1)),I,J,ae,o.length,af,o,ao,C,rfl,rfl,rfl,((ab.trans i).trans e),E,(F0 _),X,Y,(N0.mono e aa),t,a⟩
        exact trivial
       exact trivial
      refine aI ?_ ?_
      ·skip
       obtain⟨ay,az,O,j,L,f⟩:=Sl.cutX (r:=Wp.int.toRp) (K0.mono i H) ap
       obtain⟨P,f⟩:=f _ (Sub.set b.no)
       refine aI L (eX P (aI f ?_))
       intro Q _ M
       obtain rfl:=O Q M
       have aA:=(Sl.len j).2
       refine aT ?_
       refine aI ?_ ?_
       ·skip
        obtain⟨F,w,d⟩:=Sl.rows (r:=Wp.int.toRp) m
        refine eX F (aI (SlE.mono (Sub.set b.no) w) ?_)
        refine aI (Z0 ag (by first|rw[F2.length (show F2 (Wp.int.R c) ([]:List (List Value)) ([]:D0) from trivial),F2.length d]|exact congrArg (·+1) (F2.length (show F2 (Wp.int.R c) ([]:List (List Value)) ([]:D0) from trivial)))) ?_
        refine aT ?_
        refine aI ?_ ?_
        ·skip
         obtain⟨G,x,g⟩:=Sl.rows (r:=Wp.int.toRp) j
         refine eX G (aI (SlE.mono (Sub.set b.no) x) ?_)
         refine aI (Z0 ah (by first|rw[F2.length (F2.append (show F2 (Wp.int.R c) ([]:List (List Value)) ([]:D0) from trivial) d),F2.length g]|exact congrArg (·+1) (F2.length (F2.append (show F2 (Wp.int.R c) ([]:List (List Value)) ([]:D0) from trivial) d)))) ?_
         refine aT ?_
         intro ax aq y
         obtain⟨C,z,B,rfl⟩:=S0.beside b.no y
         obtain⟨s,u,rfl,E,e,ar⟩:=S0.out (r:=Wp.int.toRp) z (F2.append (F2.append (show F2 (Wp.int.R c) ([]:List (List Value)) ([]:D0) from trivial) d) g)
         have t:=b.mono e B
         exact D1 T ⟨s,(((([]:D0)++p)++q)).length,u,((([]:D0)++p)++q),(IntKind.i64.wrap (n+1)),I,J,ae,o.length,af,o,ao,C,rfl,rfl,rfl,((ab.trans i).trans e),E,(F0 _),X,Y,(N0.mono e aa),t,a⟩
        exact trivial
       exact trivial
      exact trivial
     refine aI ?_ ?_
     ·skip
      obtain⟨ay,az,O,j,L,f⟩:=Sl.cutX (r:=Wp.int.toRp) (K0.mono i H) ap
      obtain⟨P,f⟩:=f _ (Sub.set b.no)
      refine aI L (eX P (aI f ?_))
      intro Q _ M
      obtain rfl:=O Q M
      have aA:=(Sl.len j).2
      refine aT ?_
      refine aI ?_ ?_
      ·skip
       refine aT ?_
       refine aI ?_ ?_
       ·skip
        obtain⟨F,w,d⟩:=Sl.rows (r:=Wp.int.toRp) m
        refine eX F (aI (SlE.mono (Sub.set b.no) w) ?_)
        refine aI (Z0 ag (by first|rw[F2.length (show F2 (Wp.int.R c) ([]:List (List Value)) ([]:D0) from trivial),F2.length d]|exact congrArg (·+1) (F2.length (show F2 (Wp.int.R c) ([]:List (List Value)) ([]:D0) from trivial)))) ?_
        refine aT ?_
        refine aI ?_ ?_
        ·skip
         obtain⟨G,x,g⟩:=Sl.rows (r:=Wp.int.toRp) j
         refine eX G (aI (SlE.mono (Sub.set b.no) x) ?_)
         refine aI (Z0 ah (by first|rw[F2.length (F2.append (show F2 (Wp.int.R c) ([]:List (List Value)) ([]:D0) from trivial) d),F2.length g]|exact congrArg (·+1) (F2.length (F2.append (show F2 (Wp.int.R c) ([]:List (List Value)) ([]:D0) from trivial) d)))) ?_
         refine aT ?_
         intro ax aq y
         obtain⟨C,z,B,rfl⟩:=S0.beside b.no y
         obtain⟨s,u,rfl,E,e,ar⟩:=S0.out (r:=Wp.int.toRp) z (F2.append (F2.append (show F2 (Wp.int.R c) ([]:List (List Value)) ([]:D0) from trivial) d) g)
         have t:=b.mono e B
         exact D1 T ⟨s,(((([]:D0)++p)++q)).length,u,((([]:D0)++p)++q),(IntKind.i64.wrap (n+1)),I,J,ae,o.length,af,o,ao,C,rfl,rfl,rfl,((ab.trans i).trans e),E,(F0 _),X,Y,(N0.mono e aa),t,a⟩
        exact trivial
       exact trivial
      exact trivial
     exact trivial
    refine aI ?_ ?_
    ·skip
     obtain⟨ay,az,O,j,L,f⟩:=Sl.cutX (r:=Wp.int.toRp) (K0.mono i H) ap
     obtain⟨P,f⟩:=f _ (Sub.set b.no)
     refine aI L (eX P (aI f ?_))
     intro Q _ M
     obtain rfl:=O Q M
     have aA:=(Sl.len j).2
     refine aT ?_
     refine aI ?_ ?_
     ·skip
      refine aT ?_
      refine aI ?_ ?_
      ·skip
       obtain⟨aL,aO,Z,m,V,k⟩:=Sl.cutX (r:=Wp.int.toRp) (K0.mono i H) aH
       obtain⟨ac,k⟩:=k _ (Sub.set b.no)
       refine aI V (eX ac (aI k ?_))
       intro ad _ W
       obtain rfl:=Z ad W
       have aS:=(Sl.len m).2
       refine aT ?_
       refine aI ?_ ?_
       ·skip
        obtain⟨F,w,d⟩:=Sl.rows (r:=Wp.int.toRp) m
        refine eX F (aI (SlE.mono (Sub.set b.no) w) ?_)
        refine aI (Z0 ag (by first|rw[F2.length (show F2 (Wp.int.R c) ([]:List (List Value)) ([]:D0) from trivial),F2.length d]|exact congrArg (·+1) (F2.length (show F2 (Wp.int.R c) ([]:List (List Value)) ([]:D0) from trivial)))) ?_
        refine aT ?_
        refine aI ?_ ?_
        ·skip
         obtain⟨G,x,g⟩:=Sl.rows (r:=Wp.int.toRp) j
         refine eX G (aI (SlE.mono (Sub.set b.no) x) ?_)
         refine aI (Z0 ah (by first|rw[F2.length (F2.append (show F2 (Wp.int.R c) ([]:List (List Value)) ([]:D0) from trivial) d),F2.length g]|exact congrArg (·+1) (F2.length (F2.append (show F2 (Wp.int.R c) ([]:List (List Value)) ([]:D0) from trivial) d)))) ?_
         refine aT ?_
         intro ax aq y
         obtain⟨C,z,B,rfl⟩:=S0.beside b.no y
         obtain⟨s,u,rfl,E,e,ar⟩:=S0.out (r:=Wp.int.toRp) z (F2.append (F2.append (show F2 (Wp.int.R c) ([]:List (List Value)) ([]:D0) from trivial) d) g)
         have t:=b.mono e B
         exact D1 T ⟨s,(((([]:D0)++p)++q)).length,u,((([]:D0)++p)++q),(IntKind.i64.wrap (n+1)),I,J,ae,o.length,af,o,ao,C,rfl,rfl,rfl,((ab.trans i).trans e),E,(F0 _),X,Y,(N0.mono e aa),t,a⟩
        exact trivial
       exact trivial
      exact trivial
     refine aI ?_ ?_
     ·skip
      obtain⟨aL,aO,Z,m,V,k⟩:=Sl.cutX (r:=Wp.int.toRp) (K0.mono i H) aH
      obtain⟨ac,k⟩:=k _ (Sub.set b.no)
      refine aI V (eX ac (aI k ?_))
      intro ad _ W
      obtain rfl:=Z ad W
      have aS:=(Sl.len m).2
      refine aT ?_
      refine aI ?_ ?_
      ·skip
       refine aT ?_
       refine aI ?_ ?_
       ·skip
        obtain⟨F,w,d⟩:=Sl.rows (r:=Wp.int.toRp) m
        refine eX F (aI (SlE.mono (Sub.set b.no) w) ?_)
        refine aI (Z0 ag (by first|rw[F2.length (show F2 (Wp.int.R c) ([]:List (List Value)) ([]:D0) from trivial),F2.length d]|exact congrArg (·+1) (F2.length (show F2 (Wp.int.R c) ([]:List (List Value)) ([]:D0) from trivial)))) ?_
        refine aT ?_
        refine aI ?_ ?_
        ·skip
         obtain⟨G,x,g⟩:=Sl.rows (r:=Wp.int.toRp) j
         refine eX G (aI (SlE.mono (Sub.set b.no) x) ?_)
         refine aI (Z0 ah (by first|rw[F2.length (F2.append (show F2 (Wp.int.R c) ([]:List (List Value)) ([]:D0) from trivial) d),F2.length g]|exact congrArg (·+1) (F2.length (F2.append (show F2 (Wp.int.R c) ([]:List (List Value)) ([]:D0) from trivial) d)))) ?_
         refine aT ?_
         intro ax aq y
         obtain⟨C,z,B,rfl⟩:=S0.beside b.no y
         obtain⟨s,u,rfl,E,e,ar⟩:=S0.out (r:=Wp.int.toRp) z (F2.append (F2.append (show F2 (Wp.int.R c) ([]:List (List Value)) ([]:D0) from trivial) d) g)
         have t:=b.mono e B
         exact D1 T ⟨s,(((([]:D0)++p)++q)).length,u,((([]:D0)++p)++q),(IntKind.i64.wrap (n+1)),I,J,ae,o.length,af,o,ao,C,rfl,rfl,rfl,((ab.trans i).trans e),E,(F0 _),X,Y,(N0.mono e aa),t,a⟩
        exact trivial
       exact trivial
      exact trivial
     exact trivial
    exact trivial
   ·obtain rfl:=oJ a
    try dsimp only[M0,O0]at A
    exact D1 aU ⟨(IntKind.i64.wrap (U+1)),I,J,aE,am.length,aG,am,aw,bo,rfl,rfl,rfl,((bq.trans bd).trans ab),(F0 _),X,Y,bc,bj,A⟩
 ·obtain rfl:=oJ A
  try dsimp only[M0,O0]at l
  obtain⟨di,bZ,l⟩:=B0 l
  refine Tr.beside a0.no (k03 _ [.int .i64 aj,.int .i64 ak,.slice aD al.length aF] (aj,ak,al) (j0 bl bm bb) _  bZ) ?_
  rintro dd cl ⟨cG,rfl,co,br⟩ cb
  have bE:=a0.mono br cb
  obtain⟨cy,cz,bx,cV,bH,cA,rfl,rfl,ch,ci,bp⟩:=H0 co
  obtain⟨rfl,cR⟩:=Sl.len bp
  try dsimp only at l
  obtain rfl:=oJ l
  exact⟨([.int .i64 cy,.int .i64 cz,.slice bx cA.length bH]),cl,rfl,(j0 ch ci bp),((bs.trans bq).trans br),bE,rfl⟩
theorem R0g(h:Hp)(b:Nat)(c:Value)(e:TypeId)(d:List Int)(g:Int×Int)(p:w8 h b c d g)(r:l0×(Int×Int))(a:s03 d g=some r):
  Tr Tryz.prog 199 #[ptr b 0] (h.set b (D02 c g e)) λv h'=>∃(j:List Value) (f:Hp),v = .agg j.toArray/\C0.R f j r.1/\Sub h f/\w8 f b c d r.2/\h'=f.set b (D02 c r.2 e):=by
 unfold s03 at a
 refine V1 (args:=[ptr b 0]) (fn:=Tryz.f199) rfl ?_
 obtain⟨K,w,a⟩:=B0 a
 obtain⟨aa,m⟩:=K
 try dsimp only at a
 refine Tr.mono (D04 _ b c e d g p 2 (by decide) _ w) ?_
 rintro _ _ ⟨rfl,i,rfl⟩
 refine ifB a (λz a=>?_) λz a=>?_
 ·obtain⟨L,x,a⟩:=B0 a
  obtain⟨ab,ac⟩:=L
  try dsimp only at a
  refine Tr.mono (w0d _ b c e d m i _ x) ?_
  rintro _ _ ⟨U,E,rfl,G,I,s,rfl⟩
  obtain⟨M,N,n,Y,t,O,rfl,rfl,A,B,k⟩:=H0 G
  obtain⟨rfl,W⟩:=Sl.len k
  try dsimp only at a
  obtain rfl:=oJ a
  exact⟨([.int .i64 M,.int .i64 N,.slice n O.length t]),E,rfl,(j0 A B k),I,s,rfl⟩
 ·obtain⟨P,y,a⟩:=B0 a
  obtain⟨ad,ae⟩:=P
  try dsimp only at a
  refine Tr.mono (w0j _ b c e d m i _ y) ?_
  rintro _ _ ⟨V,F,rfl,H,J,q,rfl⟩
  obtain⟨Q,S,o,Z,u,T,rfl,rfl,C,D,l⟩:=H0 H
  obtain⟨rfl,X⟩:=Sl.len l
  try dsimp only at a
  obtain rfl:=oJ a
  exact⟨([.int .i64 Q,.int .i64 S,.slice o T.length u]),F,rfl,(j0 C D l),J,q,rfl⟩
theorem x09(h:Hp)(M:Option Addr)(an N:Nat)(J:(List Int))(ap:(Wp.slice Wp.u8).R h [.slice M an N] J)(r:Q1)(L:Q01 J=some r):
  Tr Tryz.prog 107 #[.slice M an N] h λv h'=>∃(ag:Option Addr) (am ah:Nat),v = .slice ag am ah/\A5.R h' [.slice ag am ah] r/\Sub h h':=by
 obtain⟨rfl,be⟩:=Sl.len ap
 unfold Q01 at L
 refine V1 (args:=[.slice M J.length N]) (fn:=Tryz.f107) rfl ?_
 refine trM L (u05 _ M J.length N J ap) ?_
 rintro aY L _ _ ⟨Q,T,rfl,rfl,az⟩
 obtain⟨a3,aL,L⟩:=B0 L
 obtain⟨aw,a4⟩:=a3
 try dsimp only at L
 refine Tr.mono (I1 _ Q (.slice M J.length N) T J aY az 6 (by decide) _ aL) ?_
 rintro _ _ ⟨rfl,aA,rfl⟩
 obtain⟨bj,aH,L⟩:=B0 L
 have aR:I0 aw:=T0 aH
 obtain⟨af,aM,L⟩:=B0 L
 refine eX { vars:=[5],boxes:=[],owns:=[0],fuel:=true } (eX (λvs os aQ=>∃(x:Int) (B:List (List Value)) (y:List l0) (U:Int×Int) (h':Hp),vs.tail = [.int .i64 x]/\os = [B]/\aQ=h'.set Q (D02 (.slice M J.length N) U T)/\Sub h h'/\I0 x/\F2 (C0.R h') B y/\w8 h' Q (.slice M J.length N) J U/\s5 J (C1 vs) x y U=some af) (eX (λ_ _=>0) ?_))
 refine aI (eX P0 ⟨aw,[],([]:Q1),a4,h,rfl,rfl,rfl,(Sub.refl _),aR,(show F2 (C0.R h) ([]:List (List Value)) ([]:Q1) from trivial),aA,aM⟩) ?_
 rintro bl B A _ ⟨x,bo,y,U,bb,aD,aC,rfl,F,ba,q,aa,d⟩
 cases aD
 cases aC
 replace d:s5 J A x y U=some af:=d
 obtain _|A:=A
 ·cases d
 rw[s5.eq_2]at d
 refine ifB d (λaN d=>?_) λaN d=>?_
 ·obtain⟨aZ,aJ,d⟩:=B0 d
  obtain⟨bm,a0⟩:=aZ
  try dsimp only at d
  refine Tr.mono (R0g _ Q (.slice M J.length N) T J U aa _ aJ) ?_
  rintro _ _ ⟨a5,s,rfl,aW,i,ay,rfl⟩
  obtain⟨a,b,e,bh,f,c,rfl,rfl,o,p,n⟩:=H0 aW
  obtain⟨rfl,bf⟩:=Sl.len n
  try dsimp only at d
  obtain⟨bi,aG,d⟩:=B0 d
  refine aI (Z0 aG (by first|rw[F2.length (F2.up (r:=C0.toRp) i q),F2.length (show F2 (C0.R s) ([[.int .i64 a,.int .i64 b,.slice e c.length f]]:List (List Value)) [(a,b,c)] from⟨(j0 o p n),trivial⟩)]|exact congrArg (·+1) (F2.length (F2.up (r:=C0.toRp) i q)))) ?_
  obtain⟨a1,aK,d⟩:=B0 d
  obtain⟨bn,ad⟩:=a1
  try dsimp only at d
  refine Tr.mono (D04 _ Q (.slice M J.length N) T J a0 ay 3 (by decide) _ aK) ?_
  rintro _ _ ⟨rfl,Z,rfl⟩
  refine ifB d (λaO d=>?_) λaO d=>?_
  ·refine Or.inr (Or.inr (Or.inl (aI (aI (by kernel_rfl) (by kernel_rfl)) ?_)))
   refine Or.inr ?_
   refine Or.inr ?_
   refine Or.inr ?_
   refine Or.inr ?_
   refine Or.inr ?_
   refine Or.inr ?_
   refine Or.inr ?_
   refine Or.inr ?_
   refine Or.inr (eX 99 (eX 0 (aI rfl ?_)))
   obtain⟨a2,ak,d⟩:=B0 d
   obtain⟨V,G⟩:=a2
   try dsimp only at d
   obtain⟨ae,ab,d⟩:=B0 d
   refine aI ?_ ?_
   ·skip
    refine Tr.mono (w09 _ Q (.slice M J.length N) T J ad Z 1 (by decide) 2 (by decide) _ ak) ?_
    rintro _ _ ⟨X,aV,Y,aS,rfl,ac,j,P,rfl⟩
    have S:=ac.r
    obtain⟨rfl,aU⟩:=Sl.len S
    refine aT ?_
    refine aI ?_ ?_
    ·skip
     refine Tr.beside P.no (x01 _ [.int .i64 a,.int .i64 b,.slice e c.length f] (a,b,c) (j0 o p (N0.mono j n)) X V.length Y V S _  ab) ?_
     rintro ar t ⟨aj,rfl,O,g⟩ W
     obtain⟨au,av⟩:=ae
     dsimp only at d O
     have C:=P.mono g W
     obtain⟨k,l,u,ao,w,m,rfl,rfl,D,E,z⟩:=H0 O
     obtain⟨rfl,al⟩:=Sl.len z
     try dsimp only at d
     refine aT ?_
     refine aI ?_ ?_
     ·skip
      refine aT ?_
      refine aI ?_ ?_
      ·skip
       refine aT ?_
       refine aI ?_ ?_
       ·skip
        refine aT ?_
        refine aI ?_ ?_
        ·skip
         refine aT ?_
         refine aI ?_ ?_
         ·skip
          refine aT ?_
          refine aI ?_ ?_
          ·skip
           refine aT ?_
           refine ifB d (λI d=>?_) λI d=>?_
           ·obtain⟨K,H,d⟩:=B0 d
            refine aI (Z0 H (by first|rw[F2.length (F2.up (r:=C0.toRp) (j.trans g) (F2.append (F2.up (r:=C0.toRp) i q) (show F2 (C0.R s) ([[.int .i64 a,.int .i64 b,.slice e c.length f]]:List (List Value)) [(a,b,c)] from⟨(j0 o p n),trivial⟩))),F2.length (show F2 (C0.R t) ([[.int .i64 k,.int .i64 l,.slice u m.length w]]:List (List Value)) [(k,l,m)] from⟨(j0 D E z),trivial⟩)]|exact congrArg (·+1) (F2.length (F2.up (r:=C0.toRp) (j.trans g) (F2.append (F2.up (r:=C0.toRp) i q) (show F2 (C0.R s) ([[.int .i64 a,.int .i64 b,.slice e c.length f]]:List (List Value)) [(a,b,c)] from⟨(j0 o p n),trivial⟩)))))) ?_
            exact D1 A ⟨(IntKind.i64.wrap (x-1)),((B++([[.int .i64 a,.int .i64 b,.slice e c.length f]]:List (List Value)))++([[.int .i64 k,.int .i64 l,.slice u m.length w]]:List (List Value))),((y ++ [(a,b,c)]) ++ [(k,l,m)]),G,t,rfl,rfl,rfl,(((F.trans i).trans j).trans g),(F0 _),(F2.append (F2.up (r:=C0.toRp) (j.trans g) (F2.append (F2.up (r:=C0.toRp) i q) (show F2 (C0.R s) ([[.int .i64 a,.int .i64 b,.slice e c.length f]]:List (List Value)) [(a,b,c)] from⟨(j0 o p n),trivial⟩))) (show F2 (C0.R t) ([[.int .i64 k,.int .i64 l,.slice u m.length w]]:List (List Value)) [(k,l,m)] from⟨(j0 D E z),trivial⟩)),C,d⟩
           ·exact D1 A ⟨(IntKind.i64.wrap (x-1)),(B++([[.int .i64 a,.int .i64 b,.slice e c.length f]]:List (List Value))),(y ++ [(a,b,c)]),G,t,rfl,rfl,rfl,(((F.trans i).trans j).trans g),(F0 _),(F2.up (r:=C0.toRp) (j.trans g) (F2.append (F2.up (r:=C0.toRp) i q) (show F2 (C0.R s) ([[.int .i64 a,.int .i64 b,.slice e c.length f]]:List (List Value)) [(a,b,c)] from⟨(j0 o p n),trivial⟩))),C,d⟩
          exact trivial
         exact trivial
        exact trivial
       refine aI ?_ ?_
       ·skip
        refine aT ?_
        refine aI ?_ ?_
        ·skip
         refine aT ?_
         refine aI ?_ ?_
         ·skip
          refine aT ?_
          refine aI ?_ ?_
          ·skip
           refine aT ?_
           refine ifB d (λI d=>?_) λI d=>?_
           ·obtain⟨K,H,d⟩:=B0 d
            refine aI (Z0 H (by first|rw[F2.length (F2.up (r:=C0.toRp) (j.trans g) (F2.append (F2.up (r:=C0.toRp) i q) (show F2 (C0.R s) ([[.int .i64 a,.int .i64 b,.slice e c.length f]]:List (List Value)) [(a,b,c)] from⟨(j0 o p n),trivial⟩))),F2.length (show F2 (C0.R t) ([[.int .i64 k,.int .i64 l,.slice u m.length w]]:List (List Value)) [(k,l,m)] from⟨(j0 D E z),trivial⟩)]|exact congrArg (·+1) (F2.length (F2.up (r:=C0.toRp) (j.trans g) (F2.append (F2.up (r:=C0.toRp) i q) (show F2 (C0.R s) ([[.int .i64 a,.int .i64 b,.slice e c.length f]]:List (List Value)) [(a,b,c)] from⟨(j0 o p n),trivial⟩)))))) ?_
            exact D1 A ⟨(IntKind.i64.wrap (x-1)),((B++([[.int .i64 a,.int .i64 b,.slice e c.length f]]:List (List Value)))++([[.int .i64 k,.int .i64 l,.slice u m.length w]]:List (List Value))),((y ++ [(a,b,c)]) ++ [(k,l,m)]),G,t,rfl,rfl,rfl,(((F.trans i).trans j).trans g),(F0 _),(F2.append (F2.up (r:=C0.toRp) (j.trans g) (F2.append (F2.up (r:=C0.toRp) i q) (show F2 (C0.R s) ([[.int .i64 a,.int .i64 b,.slice e c.length f]]:List (List Value)) [(a,b,c)] from⟨(j0 o p n),trivial⟩))) (show F2 (C0.R t) ([[.int .i64 k,.int .i64 l,.slice u m.length w]]:List (List Value)) [(k,l,m)] from⟨(j0 D E z),trivial⟩)),C,d⟩
           ·exact D1 A ⟨(IntKind.i64.wrap (x-1)),(B++([[.int .i64 a,.int .i64 b,.slice e c.length f]]:List (List Value))),(y ++ [(a,b,c)]),G,t,rfl,rfl,rfl,(((F.trans i).trans j).trans g),(F0 _),(F2.up (r:=C0.toRp) (j.trans g) (F2.append (F2.up (r:=C0.toRp) i q) (show F2 (C0.R s) ([[.int .i64 a,.int .i64 b,.slice e c.length f]]:List (List Value)) [(a,b,c)] from⟨(j0 o p n),trivial⟩))),C,d⟩
          exact trivial
         exact trivial
        refine aI ?_ ?_
        ·skip
         refine aT ?_
         refine aI ?_ ?_
         ·skip
          refine aT ?_
          refine aI ?_ ?_
          ·skip
           refine aT ?_
           refine ifB d (λI d=>?_) λI d=>?_
           ·obtain⟨K,H,d⟩:=B0 d
            refine aI (Z0 H (by first|rw[F2.length (F2.up (r:=C0.toRp) (j.trans g) (F2.append (F2.up (r:=C0.toRp) i q) (show F2 (C0.R s) ([[.int .i64 a,.int .i64 b,.slice e c.length f]]:List (List Value)) [(a,b,c)] from⟨(j0 o p n),trivial⟩))),F2.length (show F2 (C0.R t) ([[.int .i64 k,.int .i64 l,.slice u m.length w]]:List (List Value)) [(k,l,m)] from⟨(j0 D E z),trivial⟩)]|exact congrArg (·+1) (F2.length (F2.up (r:=C0.toRp) (j.trans g) (F2.append (F2.up (r:=C0.toRp) i q) (show F2 (C0.R s) ([[.int .i64 a,.int .i64 b,.slice e c.length f]]:List (List Value)) [(a,b,c)] from⟨(j0 o p n),trivial⟩)))))) ?_
            exact D1 A ⟨(IntKind.i64.wrap (x-1)),((B++([[.int .i64 a,.int .i64 b,.slice e c.length f]]:List (List Value)))++([[.int .i64 k,.int .i64 l,.slice u m.length w]]:List (List Value))),((y ++ [(a,b,c)]) ++ [(k,l,m)]),G,t,rfl,rfl,rfl,(((F.trans i).trans j).trans g),(F0 _),(F2.append (F2.up (r:=C0.toRp) (j.trans g) (F2.append (F2.up (r:=C0.toRp) i q) (show F2 (C0.R s) ([[.int .i64 a,.int .i64 b,.slice e c.length f]]:List (List Value)) [(a,b,c)] from⟨(j0 o p n),trivial⟩))) (show F2 (C0.R t) ([[.int .i64 k,.int .i64 l,.slice u m.length w]]:List (List Value)) [(k,l,m)] from⟨(j0 D E z),trivial⟩)),C,d⟩
           ·exact D1 A ⟨(IntKind.i64.wrap (x-1)),(B++([[.int .i64 a,.int .i64 b,.slice e c.length f]]:List (List Value))),(y ++ [(a,b,c)]),G,t,rfl,rfl,rfl,(((F.trans i).trans j).trans g),(F0 _),(F2.up (r:=C0.toRp) (j.trans g) (F2.append (F2.up (r:=C0.toRp) i q) (show F2 (C0.R s) ([[.int .i64 a,.int .i64 b,.slice e c.length f]]:List (List Value)) [(a,b,c)] from⟨(j0 o p n),trivial⟩))),C,d⟩
          exact trivial
         exact trivial
        exact trivial
       exact trivial
      refine aI ?_ ?_
      ·skip
       refine aT ?_
       refine aI ?_ ?_
       ·skip
        refine aT ?_
        refine aI ?_ ?_
        ·skip
         refine aT ?_
         refine aI ?_ ?_
         ·skip
          refine aT ?_
          refine aI ?_ ?_
          ·skip
           refine aT ?_
           refine ifB d (λI d=>?_) λI d=>?_
           ·obtain⟨K,H,d⟩:=B0 d
            refine aI (Z0 H (by first|rw[F2.length (F2.up (r:=C0.toRp) (j.trans g) (F2.append (F2.up (r:=C0.toRp) i q) (show F2 (C0.R s) ([[.int .i64 a,.int .i64 b,.slice e c.length f]]:List (List Value)) [(a,b,c)] from⟨(j0 o p n),trivial⟩))),F2.length (show F2 (C0.R t) ([[.int .i64 k,.int .i64 l,.slice u m.length w]]:List (List Value)) [(k,l,m)] from⟨(j0 D E z),trivial⟩)]|exact congrArg (·+1) (F2.length (F2.up (r:=C0.toRp) (j.trans g) (F2.append (F2.up (r:=C0.toRp) i q) (show F2 (C0.R s) ([[.int .i64 a,.int .i64 b,.slice e c.length f]]:List (List Value)) [(a,b,c)] from⟨(j0 o p n),trivial⟩)))))) ?_
            exact D1 A ⟨(IntKind.i64.wrap (x-1)),((B++([[.int .i64 a,.int .i64 b,.slice e c.length f]]:List (List Value)))++([[.int .i64 k,.int .i64 l,.slice u m.length w]]:List (List Value))),((y ++ [(a,b,c)]) ++ [(k,l,m)]),G,t,rfl,rfl,rfl,(((F.trans i).trans j).trans g),(F0 _),(F2.append (F2.up (r:=C0.toRp) (j.trans g) (F2.append (F2.up (r:=C0.toRp) i q) (show F2 (C0.R s) ([[.int .i64 a,.int .i64 b,.slice e c.length f]]:List (List Value)) [(a,b,c)] from⟨(j0 o p n),trivial⟩))) (show F2 (C0.R t) ([[.int .i64 k,.int .i64 l,.slice u m.length w]]:List (List Value)) [(k,l,m)] from⟨(j0 D E z),trivial⟩)),C,d⟩
           ·exact D1 A ⟨(IntKind.i64.wrap (x-1)),(B++([[.int .i64 a,.int .i64 b,.slice e c.length f]]:List (List Value))),(y ++ [(a,b,c)]),G,t,rfl,rfl,rfl,(((F.trans i).trans j).trans g),(F0 _),(F2.up (r:=C0.toRp) (j.trans g) (F2.append (F2.up (r:=C0.toRp) i q) (show F2 (C0.R s) ([[.int .i64 a,.int .i64 b,.slice e c.length f]]:List (List Value)) [(a,b,c)] from⟨(j0 o p n),trivial⟩))),C,d⟩
          exact trivial
         exact trivial
        exact trivial
       refine aI ?_ ?_
       ·skip
        refine aT ?_
        refine aI ?_ ?_
        ·skip
         refine aT ?_
         refine aI ?_ ?_
         ·skip
          refine aT ?_
          refine aI ?_ ?_
          ·skip
           refine aT ?_
           refine ifB d (λI d=>?_) λI d=>?_
           ·obtain⟨K,H,d⟩:=B0 d
            refine aI (Z0 H (by first|rw[F2.length (F2.up (r:=C0.toRp) (j.trans g) (F2.append (F2.up (r:=C0.toRp) i q) (show F2 (C0.R s) ([[.int .i64 a,.int .i64 b,.slice e c.length f]]:List (List Value)) [(a,b,c)] from⟨(j0 o p n),trivial⟩))),F2.length (show F2 (C0.R t) ([[.int .i64 k,.int .i64 l,.slice u m.length w]]:List (List Value)) [(k,l,m)] from⟨(j0 D E z),trivial⟩)]|exact congrArg (·+1) (F2.length (F2.up (r:=C0.toRp) (j.trans g) (F2.append (F2.up (r:=C0.toRp) i q) (show F2 (C0.R s) ([[.int .i64 a,.int .i64 b,.slice e c.length f]]:List (List Value)) [(a,b,c)] from⟨(j0 o p n),trivial⟩)))))) ?_
            exact D1 A ⟨(IntKind.i64.wrap (x-1)),((B++([[.int .i64 a,.int .i64 b,.slice e c.length f]]:List (List Value)))++([[.int .i64 k,.int .i64 l,.slice u m.length w]]:List (List Value))),((y ++ [(a,b,c)]) ++ [(k,l,m)]),G,t,rfl,rfl,rfl,(((F.trans i).trans j).trans g),(F0 _),(F2.append (F2.up (r:=C0.toRp) (j.trans g) (F2.append (F2.up (r:=C0.toRp) i q) (show F2 (C0.R s) ([[.int .i64 a,.int .i64 b,.slice e c.length f]]:List (List Value)) [(a,b,c)] from⟨(j0 o p n),trivial⟩))) (show F2 (C0.R t) ([[.int .i64 k,.int .i64 l,.slice u m.length w]]:List (List Value)) [(k,l,m)] from⟨(j0 D E z),trivial⟩)),C,d⟩
           ·exact D1 A ⟨(IntKind.i64.wrap (x-1)),(B++([[.int .i64 a,.int .i64 b,.slice e c.length f]]:List (List Value))),(y ++ [(a,b,c)]),G,t,rfl,rfl,rfl,(((F.trans i).trans j).trans g),(F0 _),(F2.up (r:=C0.toRp) (j.trans g) (F2.append (F2.up (r:=C0.toRp) i q) (show F2 (C0.R s) ([[.int .i64 a,.int .i64 b,.slice e c.length f]]:List (List Value)) [(a,b,c)] from⟨(j0 o p n),trivial⟩))),C,d⟩
          exact trivial
         exact trivial
        exact trivial
       exact trivial
      refine aI ?_ ?_
      ·skip
       refine aT ?_
       refine aI ?_ ?_
       ·skip
        refine aT ?_
        refine aI ?_ ?_
        ·skip
         refine aT ?_
         refine aI ?_ ?_
         ·skip
          refine aT ?_
          refine aI ?_ ?_
          ·skip
           refine aT ?_
           refine ifB d (λI d=>?_) λI d=>?_
           ·obtain⟨K,H,d⟩:=B0 d
            refine aI (Z0 H (by first|rw[F2.length (F2.up (r:=C0.toRp) (j.trans g) (F2.append (F2.up (r:=C0.toRp) i q) (show F2 (C0.R s) ([[.int .i64 a,.int .i64 b,.slice e c.length f]]:List (List Value)) [(a,b,c)] from⟨(j0 o p n),trivial⟩))),F2.length (show F2 (C0.R t) ([[.int .i64 k,.int .i64 l,.slice u m.length w]]:List (List Value)) [(k,l,m)] from⟨(j0 D E z),trivial⟩)]|exact congrArg (·+1) (F2.length (F2.up (r:=C0.toRp) (j.trans g) (F2.append (F2.up (r:=C0.toRp) i q) (show F2 (C0.R s) ([[.int .i64 a,.int .i64 b,.slice e c.length f]]:List (List Value)) [(a,b,c)] from⟨(j0 o p n),trivial⟩)))))) ?_
            exact D1 A ⟨(IntKind.i64.wrap (x-1)),((B++([[.int .i64 a,.int .i64 b,.slice e c.length f]]:List (List Value)))++([[.int .i64 k,.int .i64 l,.slice u m.length w]]:List (List Value))),((y ++ [(a,b,c)]) ++ [(k,l,m)]),G,t,rfl,rfl,rfl,(((F.trans i).trans j).trans g),(F0 _),(F2.append (F2.up (r:=C0.toRp) (j.trans g) (F2.append (F2.up (r:=C0.toRp) i q) (show F2 (C0.R s) ([[.int .i64 a,.int .i64 b,.slice e c.length f]]:List (List Value)) [(a,b,c)] from⟨(j0 o p n),trivial⟩))) (show F2 (C0.R t) ([[.int .i64 k,.int .i64 l,.slice u m.length w]]:List (List Value)) [(k,l,m)] from⟨(j0 D E z),trivial⟩)),C,d⟩
           ·exact D1 A ⟨(IntKind.i64.wrap (x-1)),(B++([[.int .i64 a,.int .i64 b,.slice e c.length f]]:List (List Value))),(y ++ [(a,b,c)]),G,t,rfl,rfl,rfl,(((F.trans i).trans j).trans g),(F0 _),(F2.up (r:=C0.toRp) (j.trans g) (F2.append (F2.up (r:=C0.toRp) i q) (show F2 (C0.R s) ([[.int .i64 a,.int .i64 b,.slice e c.length f]]:List (List Value)) [(a,b,c)] from⟨(j0 o p n),trivial⟩))),C,d⟩
          exact trivial
         exact trivial
        refine aI ?_ ?_
        ·skip
         refine aT ?_
         refine aI ?_ ?_
         ·skip
          refine aT ?_
          refine aI ?_ ?_
          ·skip
           refine aT ?_
           refine ifB d (λI d=>?_) λI d=>?_
           ·obtain⟨K,H,d⟩:=B0 d
            refine aI (Z0 H (by first|rw[F2.length (F2.up (r:=C0.toRp) (j.trans g) (F2.append (F2.up (r:=C0.toRp) i q) (show F2 (C0.R s) ([[.int .i64 a,.int .i64 b,.slice e c.length f]]:List (List Value)) [(a,b,c)] from⟨(j0 o p n),trivial⟩))),F2.length (show F2 (C0.R t) ([[.int .i64 k,.int .i64 l,.slice u m.length w]]:List (List Value)) [(k,l,m)] from⟨(j0 D E z),trivial⟩)]|exact congrArg (·+1) (F2.length (F2.up (r:=C0.toRp) (j.trans g) (F2.append (F2.up (r:=C0.toRp) i q) (show F2 (C0.R s) ([[.int .i64 a,.int .i64 b,.slice e c.length f]]:List (List Value)) [(a,b,c)] from⟨(j0 o p n),trivial⟩)))))) ?_
            exact D1 A ⟨(IntKind.i64.wrap (x-1)),((B++([[.int .i64 a,.int .i64 b,.slice e c.length f]]:List (List Value)))++([[.int .i64 k,.int .i64 l,.slice u m.length w]]:List (List Value))),((y ++ [(a,b,c)]) ++ [(k,l,m)]),G,t,rfl,rfl,rfl,(((F.trans i).trans j).trans g),(F0 _),(F2.append (F2.up (r:=C0.toRp) (j.trans g) (F2.append (F2.up (r:=C0.toRp) i q) (show F2 (C0.R s) ([[.int .i64 a,.int .i64 b,.slice e c.length f]]:List (List Value)) [(a,b,c)] from⟨(j0 o p n),trivial⟩))) (show F2 (C0.R t) ([[.int .i64 k,.int .i64 l,.slice u m.length w]]:List (List Value)) [(k,l,m)] from⟨(j0 D E z),trivial⟩)),C,d⟩
           ·exact D1 A ⟨(IntKind.i64.wrap (x-1)),(B++([[.int .i64 a,.int .i64 b,.slice e c.length f]]:List (List Value))),(y ++ [(a,b,c)]),G,t,rfl,rfl,rfl,(((F.trans i).trans j).trans g),(F0 _),(F2.up (r:=C0.toRp) (j.trans g) (F2.append (F2.up (r:=C0.toRp) i q) (show F2 (C0.R s) ([[.int .i64 a,.int .i64 b,.slice e c.length f]]:List (List Value)) [(a,b,c)] from⟨(j0 o p n),trivial⟩))),C,d⟩
          exact trivial
         exact trivial
        exact trivial
       refine aI ?_ ?_
       ·skip
        refine aT ?_
        refine aI ?_ ?_
        ·skip
         refine aT ?_
         refine aI ?_ ?_
         ·skip
          refine aT ?_
          refine aI ?_ ?_
          ·skip
           refine aT ?_
           refine ifB d (λI d=>?_) λI d=>?_
           ·obtain⟨K,H,d⟩:=B0 d
            refine aI (Z0 H (by first|rw[F2.length (F2.up (r:=C0.toRp) (j.trans g) (F2.append (F2.up (r:=C0.toRp) i q) (show F2 (C0.R s) ([[.int .i64 a,.int .i64 b,.slice e c.length f]]:List (List Value)) [(a,b,c)] from⟨(j0 o p n),trivial⟩))),F2.length (show F2 (C0.R t) ([[.int .i64 k,.int .i64 l,.slice u m.length w]]:List (List Value)) [(k,l,m)] from⟨(j0 D E z),trivial⟩)]|exact congrArg (·+1) (F2.length (F2.up (r:=C0.toRp) (j.trans g) (F2.append (F2.up (r:=C0.toRp) i q) (show F2 (C0.R s) ([[.int .i64 a,.int .i64 b,.slice e c.length f]]:List (List Value)) [(a,b,c)] from⟨(j0 o p n),trivial⟩)))))) ?_
            exact D1 A ⟨(IntKind.i64.wrap (x-1)),((B++([[.int .i64 a,.int .i64 b,.slice e c.length f]]:List (List Value)))++([[.int .i64 k,.int .i64 l,.slice u m.length w]]:List (List Value))),((y ++ [(a,b,c)]) ++ [(k,l,m)]),G,t,rfl,rfl,rfl,(((F.trans i).trans j).trans g),(F0 _),(F2.append (F2.up (r:=C0.toRp) (j.trans g) (F2.append (F2.up (r:=C0.toRp) i q) (show F2 (C0.R s) ([[.int .i64 a,.int .i64 b,.slice e c.length f]]:List (List Value)) [(a,b,c)] from⟨(j0 o p n),trivial⟩))) (show F2 (C0.R t) ([[.int .i64 k,.int .i64 l,.slice u m.length w]]:List (List Value)) [(k,l,m)] from⟨(j0 D E z),trivial⟩)),C,d⟩
           ·exact D1 A ⟨(IntKind.i64.wrap (x-1)),(B++([[.int .i64 a,.int .i64 b,.slice e c.length f]]:List (List Value))),(y ++ [(a,b,c)]),G,t,rfl,rfl,rfl,(((F.trans i).trans j).trans g),(F0 _),(F2.up (r:=C0.toRp) (j.trans g) (F2.append (F2.up (r:=C0.toRp) i q) (show F2 (C0.R s) ([[.int .i64 a,.int .i64 b,.slice e c.length f]]:List (List Value)) [(a,b,c)] from⟨(j0 o p n),trivial⟩))),C,d⟩
          exact trivial
         exact trivial
        exact trivial
       exact trivial
      exact trivial
     refine aI ?_ ?_
     ·skip
      refine aT ?_
      refine aI ?_ ?_
      ·skip
       refine aT ?_
       refine aI ?_ ?_
       ·skip
        refine aT ?_
        refine aI ?_ ?_
        ·skip
         refine aT ?_
         refine aI ?_ ?_
         ·skip
          refine aT ?_
          refine aI ?_ ?_
          ·skip
           refine aT ?_
           refine ifB d (λI d=>?_) λI d=>?_
           ·obtain⟨K,H,d⟩:=B0 d
            refine aI (Z0 H (by first|rw[F2.length (F2.up (r:=C0.toRp) (j.trans g) (F2.append (F2.up (r:=C0.toRp) i q) (show F2 (C0.R s) ([[.int .i64 a,.int .i64 b,.slice e c.length f]]:List (List Value)) [(a,b,c)] from⟨(j0 o p n),trivial⟩))),F2.length (show F2 (C0.R t) ([[.int .i64 k,.int .i64 l,.slice u m.length w]]:List (List Value)) [(k,l,m)] from⟨(j0 D E z),trivial⟩)]|exact congrArg (·+1) (F2.length (F2.up (r:=C0.toRp) (j.trans g) (F2.append (F2.up (r:=C0.toRp) i q) (show F2 (C0.R s) ([[.int .i64 a,.int .i64 b,.slice e c.length f]]:List (List Value)) [(a,b,c)] from⟨(j0 o p n),trivial⟩)))))) ?_
            exact D1 A ⟨(IntKind.i64.wrap (x-1)),((B++([[.int .i64 a,.int .i64 b,.slice e c.length f]]:List (List Value)))++([[.int .i64 k,.int .i64 l,.slice u m.length w]]:List (List Value))),((y ++ [(a,b,c)]) ++ [(k,l,m)]),G,t,rfl,rfl,rfl,(((F.trans i).trans j).trans g),(F0 _),(F2.append (F2.up (r:=C0.toRp) (j.trans g) (F2.append (F2.up (r:=C0.toRp) i q) (show F2 (C0.R s) ([[.int .i64 a,.int .i64 b,.slice e c.length f]]:List (List Value)) [(a,b,c)] from⟨(j0 o p n),trivial⟩))) (show F2 (C0.R t) ([[.int .i64 k,.int .i64 l,.slice u m.length w]]:List (List Value)) [(k,l,m)] from⟨(j0 D E z),trivial⟩)),C,d⟩
           ·exact D1 A ⟨(IntKind.i64.wrap (x-1)),(B++([[.int .i64 a,.int .i64 b,.slice e c.length f]]:List (List Value))),(y ++ [(a,b,c)]),G,t,rfl,rfl,rfl,(((F.trans i).trans j).trans g),(F0 _),(F2.up (r:=C0.toRp) (j.trans g) (F2.append (F2.up (r:=C0.toRp) i q) (show F2 (C0.R s) ([[.int .i64 a,.int .i64 b,.slice e c.length f]]:List (List Value)) [(a,b,c)] from⟨(j0 o p n),trivial⟩))),C,d⟩
          exact trivial
         exact trivial
        refine aI ?_ ?_
        ·skip
         refine aT ?_
         refine aI ?_ ?_
         ·skip
          refine aT ?_
          refine aI ?_ ?_
          ·skip
           refine aT ?_
           refine ifB d (λI d=>?_) λI d=>?_
           ·obtain⟨K,H,d⟩:=B0 d
            refine aI (Z0 H (by first|rw[F2.length (F2.up (r:=C0.toRp) (j.trans g) (F2.append (F2.up (r:=C0.toRp) i q) (show F2 (C0.R s) ([[.int .i64 a,.int .i64 b,.slice e c.length f]]:List (List Value)) [(a,b,c)] from⟨(j0 o p n),trivial⟩))),F2.length (show F2 (C0.R t) ([[.int .i64 k,.int .i64 l,.slice u m.length w]]:List (List Value)) [(k,l,m)] from⟨(j0 D E z),trivial⟩)]|exact congrArg (·+1) (F2.length (F2.up (r:=C0.toRp) (j.trans g) (F2.append (F2.up (r:=C0.toRp) i q) (show F2 (C0.R s) ([[.int .i64 a,.int .i64 b,.slice e c.length f]]:List (List Value)) [(a,b,c)] from⟨(j0 o p n),trivial⟩)))))) ?_
            exact D1 A ⟨(IntKind.i64.wrap (x-1)),((B++([[.int .i64 a,.int .i64 b,.slice e c.length f]]:List (List Value)))++([[.int .i64 k,.int .i64 l,.slice u m.length w]]:List (List Value))),((y ++ [(a,b,c)]) ++ [(k,l,m)]),G,t,rfl,rfl,rfl,(((F.trans i).trans j).trans g),(F0 _),(F2.append (F2.up (r:=C0.toRp) (j.trans g) (F2.append (F2.up (r:=C0.toRp) i q) (show F2 (C0.R s) ([[.int .i64 a,.int .i64 b,.slice e c.length f]]:List (List Value)) [(a,b,c)] from⟨(j0 o p n),trivial⟩))) (show F2 (C0.R t) ([[.int .i64 k,.int .i64 l,.slice u m.length w]]:List (List Value)) [(k,l,m)] from⟨(j0 D E z),trivial⟩)),C,d⟩
           ·exact D1 A ⟨(IntKind.i64.wrap (x-1)),(B++([[.int .i64 a,.int .i64 b,.slice e c.length f]]:List (List Value))),(y ++ [(a,b,c)]),G,t,rfl,rfl,rfl,(((F.trans i).trans j).trans g),(F0 _),(F2.up (r:=C0.toRp) (j.trans g) (F2.append (F2.up (r:=C0.toRp) i q) (show F2 (C0.R s) ([[.int .i64 a,.int .i64 b,.slice e c.length f]]:List (List Value)) [(a,b,c)] from⟨(j0 o p n),trivial⟩))),C,d⟩
          exact trivial
         exact trivial
        exact trivial
       refine aI ?_ ?_
       ·skip
        refine aT ?_
        refine aI ?_ ?_
        ·skip
         refine aT ?_
         refine aI ?_ ?_
         ·skip
          refine aT ?_
          refine aI ?_ ?_
          ·skip
           refine aT ?_
           refine ifB d (λI d=>?_) λI d=>?_
           ·obtain⟨K,H,d⟩:=B0 d
            refine aI (Z0 H (by first|rw[F2.length (F2.up (r:=C0.toRp) (j.trans g) (F2.append (F2.up (r:=C0.toRp) i q) (show F2 (C0.R s) ([[.int .i64 a,.int .i64 b,.slice e c.length f]]:List (List Value)) [(a,b,c)] from⟨(j0 o p n),trivial⟩))),F2.length (show F2 (C0.R t) ([[.int .i64 k,.int .i64 l,.slice u m.length w]]:List (List Value)) [(k,l,m)] from⟨(j0 D E z),trivial⟩)]|exact congrArg (·+1) (F2.length (F2.up (r:=C0.toRp) (j.trans g) (F2.append (F2.up (r:=C0.toRp) i q) (show F2 (C0.R s) ([[.int .i64 a,.int .i64 b,.slice e c.length f]]:List (List Value)) [(a,b,c)] from⟨(j0 o p n),trivial⟩)))))) ?_
            exact D1 A ⟨(IntKind.i64.wrap (x-1)),((B++([[.int .i64 a,.int .i64 b,.slice e c.length f]]:List (List Value)))++([[.int .i64 k,.int .i64 l,.slice u m.length w]]:List (List Value))),((y ++ [(a,b,c)]) ++ [(k,l,m)]),G,t,rfl,rfl,rfl,(((F.trans i).trans j).trans g),(F0 _),(F2.append (F2.up (r:=C0.toRp) (j.trans g) (F2.append (F2.up (r:=C0.toRp) i q) (show F2 (C0.R s) ([[.int .i64 a,.int .i64 b,.slice e c.length f]]:List (List Value)) [(a,b,c)] from⟨(j0 o p n),trivial⟩))) (show F2 (C0.R t) ([[.int .i64 k,.int .i64 l,.slice u m.length w]]:List (List Value)) [(k,l,m)] from⟨(j0 D E z),trivial⟩)),C,d⟩
           ·exact D1 A ⟨(IntKind.i64.wrap (x-1)),(B++([[.int .i64 a,.int .i64 b,.slice e c.length f]]:List (List Value))),(y ++ [(a,b,c)]),G,t,rfl,rfl,rfl,(((F.trans i).trans j).trans g),(F0 _),(F2.up (r:=C0.toRp) (j.trans g) (F2.append (F2.up (r:=C0.toRp) i q) (show F2 (C0.R s) ([[.int .i64 a,.int .i64 b,.slice e c.length f]]:List (List Value)) [(a,b,c)] from⟨(j0 o p n),trivial⟩))),C,d⟩
          exact trivial
         exact trivial
        exact trivial
       exact trivial
      exact trivial
     exact trivial
    refine aI ?_ ?_
    ·skip
     refine aT ?_
     refine aI ?_ ?_
     ·skip
      refine Tr.beside P.no (x01 _ [.int .i64 a,.int .i64 b,.slice e c.length f] (a,b,c) (j0 o p (N0.mono j n)) X V.length Y V S _  ab) ?_
      rintro ar t ⟨aj,rfl,O,g⟩ W
      obtain⟨au,av⟩:=ae
      dsimp only at d O
      have C:=P.mono g W
      obtain⟨k,l,u,ao,w,m,rfl,rfl,D,E,z⟩:=H0 O
      obtain⟨rfl,al⟩:=Sl.len z
      try dsimp only at d
      refine aT ?_
      refine aI ?_ ?_
      ·skip
       refine aT ?_
       refine aI ?_ ?_
       ·skip
        refine aT ?_
        refine aI ?_ ?_
        ·skip
         refine aT ?_
         refine aI ?_ ?_
         ·skip
          refine aT ?_
          refine aI ?_ ?_
          ·skip
           refine aT ?_
           refine ifB d (λI d=>?_) λI d=>?_
           ·obtain⟨K,H,d⟩:=B0 d
            refine aI (Z0 H (by first|rw[F2.length (F2.up (r:=C0.toRp) (j.trans g) (F2.append (F2.up (r:=C0.toRp) i q) (show F2 (C0.R s) ([[.int .i64 a,.int .i64 b,.slice e c.length f]]:List (List Value)) [(a,b,c)] from⟨(j0 o p n),trivial⟩))),F2.length (show F2 (C0.R t) ([[.int .i64 k,.int .i64 l,.slice u m.length w]]:List (List Value)) [(k,l,m)] from⟨(j0 D E z),trivial⟩)]|exact congrArg (·+1) (F2.length (F2.up (r:=C0.toRp) (j.trans g) (F2.append (F2.up (r:=C0.toRp) i q) (show F2 (C0.R s) ([[.int .i64 a,.int .i64 b,.slice e c.length f]]:List (List Value)) [(a,b,c)] from⟨(j0 o p n),trivial⟩)))))) ?_
            exact D1 A ⟨(IntKind.i64.wrap (x-1)),((B++([[.int .i64 a,.int .i64 b,.slice e c.length f]]:List (List Value)))++([[.int .i64 k,.int .i64 l,.slice u m.length w]]:List (List Value))),((y ++ [(a,b,c)]) ++ [(k,l,m)]),G,t,rfl,rfl,rfl,(((F.trans i).trans j).trans g),(F0 _),(F2.append (F2.up (r:=C0.toRp) (j.trans g) (F2.append (F2.up (r:=C0.toRp) i q) (show F2 (C0.R s) ([[.int .i64 a,.int .i64 b,.slice e c.length f]]:List (List Value)) [(a,b,c)] from⟨(j0 o p n),trivial⟩))) (show F2 (C0.R t) ([[.int .i64 k,.int .i64 l,.slice u m.length w]]:List (List Value)) [(k,l,m)] from⟨(j0 D E z),trivial⟩)),C,d⟩
           ·exact D1 A ⟨(IntKind.i64.wrap (x-1)),(B++([[.int .i64 a,.int .i64 b,.slice e c.length f]]:List (List Value))),(y ++ [(a,b,c)]),G,t,rfl,rfl,rfl,(((F.trans i).trans j).trans g),(F0 _),(F2.up (r:=C0.toRp) (j.trans g) (F2.append (F2.up (r:=C0.toRp) i q) (show F2 (C0.R s) ([[.int .i64 a,.int .i64 b,.slice e c.length f]]:List (List Value)) [(a,b,c)] from⟨(j0 o p n),trivial⟩))),C,d⟩
          exact trivial
         exact trivial
        refine aI ?_ ?_
        ·skip
         refine aT ?_
         refine aI ?_ ?_
         ·skip
          refine aT ?_
          refine aI ?_ ?_
          ·skip
           refine aT ?_
           refine ifB d (λI d=>?_) λI d=>?_
           ·obtain⟨K,H,d⟩:=B0 d
            refine aI (Z0 H (by first|rw[F2.length (F2.up (r:=C0.toRp) (j.trans g) (F2.append (F2.up (r:=C0.toRp) i q) (show F2 (C0.R s) ([[.int .i64 a,.int .i64 b,.slice e c.length f]]:List (List Value)) [(a,b,c)] from⟨(j0 o p n),trivial⟩))),F2.length (show F2 (C0.R t) ([[.int .i64 k,.int .i64 l,.slice u m.length w]]:List (List Value)) [(k,l,m)] from⟨(j0 D E z),trivial⟩)]|exact congrArg (·+1) (F2.length (F2.up (r:=C0.toRp) (j.trans g) (F2.append (F2.up (r:=C0.toRp) i q) (show F2 (C0.R s) ([[.int .i64 a,.int .i64 b,.slice e c.length f]]:List (List Value)) [(a,b,c)] from⟨(j0 o p n),trivial⟩)))))) ?_
            exact D1 A ⟨(IntKind.i64.wrap (x-1)),((B++([[.int .i64 a,.int .i64 b,.slice e c.length f]]:List (List Value)))++([[.int .i64 k,.int .i64 l,.slice u m.length w]]:List (List Value))),((y ++ [(a,b,c)]) ++ [(k,l,m)]),G,t,rfl,rfl,rfl,(((F.trans i).trans j).trans g),(F0 _),(F2.append (F2.up (r:=C0.toRp) (j.trans g) (F2.append (F2.up (r:=C0.toRp) i q) (show F2 (C0.R s) ([[.int .i64 a,.int .i64 b,.slice e c.length f]]:List (List Value)) [(a,b,c)] from⟨(j0 o p n),trivial⟩))) (show F2 (C0.R t) ([[.int .i64 k,.int .i64 l,.slice u m.length w]]:List (List Value)) [(k,l,m)] from⟨(j0 D E z),trivial⟩)),C,d⟩
           ·exact D1 A ⟨(IntKind.i64.wrap (x-1)),(B++([[.int .i64 a,.int .i64 b,.slice e c.length f]]:List (List Value))),(y ++ [(a,b,c)]),G,t,rfl,rfl,rfl,(((F.trans i).trans j).trans g),(F0 _),(F2.up (r:=C0.toRp) (j.trans g) (F2.append (F2.up (r:=C0.toRp) i q) (show F2 (C0.R s) ([[.int .i64 a,.int .i64 b,.slice e c.length f]]:List (List Value)) [(a,b,c)] from⟨(j0 o p n),trivial⟩))),C,d⟩
          exact trivial
         exact trivial
        exact trivial
       refine aI ?_ ?_
       ·skip
        refine aT ?_
        refine aI ?_ ?_
        ·skip
         refine aT ?_
         refine aI ?_ ?_
         ·skip
          refine aT ?_
          refine aI ?_ ?_
          ·skip
           refine aT ?_
           refine ifB d (λI d=>?_) λI d=>?_
           ·obtain⟨K,H,d⟩:=B0 d
            refine aI (Z0 H (by first|rw[F2.length (F2.up (r:=C0.toRp) (j.trans g) (F2.append (F2.up (r:=C0.toRp) i q) (show F2 (C0.R s) ([[.int .i64 a,.int .i64 b,.slice e c.length f]]:List (List Value)) [(a,b,c)] from⟨(j0 o p n),trivial⟩))),F2.length (show F2 (C0.R t) ([[.int .i64 k,.int .i64 l,.slice u m.length w]]:List (List Value)) [(k,l,m)] from⟨(j0 D E z),trivial⟩)]|exact congrArg (·+1) (F2.length (F2.up (r:=C0.toRp) (j.trans g) (F2.append (F2.up (r:=C0.toRp) i q) (show F2 (C0.R s) ([[.int .i64 a,.int .i64 b,.slice e c.length f]]:List (List Value)) [(a,b,c)] from⟨(j0 o p n),trivial⟩)))))) ?_
            exact D1 A ⟨(IntKind.i64.wrap (x-1)),((B++([[.int .i64 a,.int .i64 b,.slice e c.length f]]:List (List Value)))++([[.int .i64 k,.int .i64 l,.slice u m.length w]]:List (List Value))),((y ++ [(a,b,c)]) ++ [(k,l,m)]),G,t,rfl,rfl,rfl,(((F.trans i).trans j).trans g),(F0 _),(F2.append (F2.up (r:=C0.toRp) (j.trans g) (F2.append (F2.up (r:=C0.toRp) i q) (show F2 (C0.R s) ([[.int .i64 a,.int .i64 b,.slice e c.length f]]:List (List Value)) [(a,b,c)] from⟨(j0 o p n),trivial⟩))) (show F2 (C0.R t) ([[.int .i64 k,.int .i64 l,.slice u m.length w]]:List (List Value)) [(k,l,m)] from⟨(j0 D E z),trivial⟩)),C,d⟩
           ·exact D1 A ⟨(IntKind.i64.wrap (x-1)),(B++([[.int .i64 a,.int .i64 b,.slice e c.length f]]:List (List Value))),(y ++ [(a,b,c)]),G,t,rfl,rfl,rfl,(((F.trans i).trans j).trans g),(F0 _),(F2.up (r:=C0.toRp) (j.trans g) (F2.append (F2.up (r:=C0.toRp) i q) (show F2 (C0.R s) ([[.int .i64 a,.int .i64 b,.slice e c.length f]]:List (List Value)) [(a,b,c)] from⟨(j0 o p n),trivial⟩))),C,d⟩
          exact trivial
         exact trivial
        exact trivial
       exact trivial
      exact trivial
     exact trivial
    exact trivial
   refine aI ?_ ?_
   ·skip
    refine aT ?_
    refine aI ?_ ?_
    ·skip
     refine Tr.mono (w09 _ Q (.slice M J.length N) T J ad Z 1 (by decide) 2 (by decide) _ ak) ?_
     rintro _ _ ⟨X,aV,Y,aS,rfl,ac,j,P,rfl⟩
     have S:=ac.r
     obtain⟨rfl,aU⟩:=Sl.len S
     refine aT ?_
     refine aI ?_ ?_
     ·skip
      refine Tr.beside P.no (x01 _ [.int .i64 a,.int .i64 b,.slice e c.length f] (a,b,c) (j0 o p (N0.mono j n)) X V.length Y V S _  ab) ?_
      rintro ar t ⟨aj,rfl,O,g⟩ W
      obtain⟨au,av⟩:=ae
      dsimp only at d O
      have C:=P.mono g W
      obtain⟨k,l,u,ao,w,m,rfl,rfl,D,E,z⟩:=H0 O
      obtain⟨rfl,al⟩:=Sl.len z
      try dsimp only at d
      refine aT ?_
      refine aI ?_ ?_
      ·skip
       refine aT ?_
       refine aI ?_ ?_
       ·skip
        refine aT ?_
        refine aI ?_ ?_
        ·skip
         refine aT ?_
         refine aI ?_ ?_
         ·skip
          refine aT ?_
          refine aI ?_ ?_
          ·skip
           refine aT ?_
           refine ifB d (λI d=>?_) λI d=>?_
           ·obtain⟨K,H,d⟩:=B0 d
            refine aI (Z0 H (by first|rw[F2.length (F2.up (r:=C0.toRp) (j.trans g) (F2.append (F2.up (r:=C0.toRp) i q) (show F2 (C0.R s) ([[.int .i64 a,.int .i64 b,.slice e c.length f]]:List (List Value)) [(a,b,c)] from⟨(j0 o p n),trivial⟩))),F2.length (show F2 (C0.R t) ([[.int .i64 k,.int .i64 l,.slice u m.length w]]:List (List Value)) [(k,l,m)] from⟨(j0 D E z),trivial⟩)]|exact congrArg (·+1) (F2.length (F2.up (r:=C0.toRp) (j.trans g) (F2.append (F2.up (r:=C0.toRp) i q) (show F2 (C0.R s) ([[.int .i64 a,.int .i64 b,.slice e c.length f]]:List (List Value)) [(a,b,c)] from⟨(j0 o p n),trivial⟩)))))) ?_
            exact D1 A ⟨(IntKind.i64.wrap (x-1)),((B++([[.int .i64 a,.int .i64 b,.slice e c.length f]]:List (List Value)))++([[.int .i64 k,.int .i64 l,.slice u m.length w]]:List (List Value))),((y ++ [(a,b,c)]) ++ [(k,l,m)]),G,t,rfl,rfl,rfl,(((F.trans i).trans j).trans g),(F0 _),(F2.append (F2.up (r:=C0.toRp) (j.trans g) (F2.append (F2.up (r:=C0.toRp) i q) (show F2 (C0.R s) ([[.int .i64 a,.int .i64 b,.slice e c.length f]]:List (List Value)) [(a,b,c)] from⟨(j0 o p n),trivial⟩))) (show F2 (C0.R t) ([[.int .i64 k,.int .i64 l,.slice u m.length w]]:List (List Value)) [(k,l,m)] from⟨(j0 D E z),trivial⟩)),C,d⟩
           ·exact D1 A ⟨(IntKind.i64.wrap (x-1)),(B++([[.int .i64 a,.int .i64 b,.slice e c.length f]]:List (List Value))),(y ++ [(a,b,c)]),G,t,rfl,rfl,rfl,(((F.trans i).trans j).trans g),(F0 _),(F2.up (r:=C0.toRp) (j.trans g) (F2.append (F2.up (r:=C0.toRp) i q) (show F2 (C0.R s) ([[.int .i64 a,.int .i64 b,.slice e c.length f]]:List (List Value)) [(a,b,c)] from⟨(j0 o p n),trivial⟩))),C,d⟩
          exact trivial
         exact trivial
        refine aI ?_ ?_
        ·skip
         refine aT ?_
         refine aI ?_ ?_
         ·skip
          refine aT ?_
          refine aI ?_ ?_
          ·skip
           refine aT ?_
           refine ifB d (λI d=>?_) λI d=>?_
           ·obtain⟨K,H,d⟩:=B0 d
            refine aI (Z0 H (by first|rw[F2.length (F2.up (r:=C0.toRp) (j.trans g) (F2.append (F2.up (r:=C0.toRp) i q) (show F2 (C0.R s) ([[.int .i64 a,.int .i64 b,.slice e c.length f]]:List (List Value)) [(a,b,c)] from⟨(j0 o p n),trivial⟩))),F2.length (show F2 (C0.R t) ([[.int .i64 k,.int .i64 l,.slice u m.length w]]:List (List Value)) [(k,l,m)] from⟨(j0 D E z),trivial⟩)]|exact congrArg (·+1) (F2.length (F2.up (r:=C0.toRp) (j.trans g) (F2.append (F2.up (r:=C0.toRp) i q) (show F2 (C0.R s) ([[.int .i64 a,.int .i64 b,.slice e c.length f]]:List (List Value)) [(a,b,c)] from⟨(j0 o p n),trivial⟩)))))) ?_
            exact D1 A ⟨(IntKind.i64.wrap (x-1)),((B++([[.int .i64 a,.int .i64 b,.slice e c.length f]]:List (List Value)))++([[.int .i64 k,.int .i64 l,.slice u m.length w]]:List (List Value))),((y ++ [(a,b,c)]) ++ [(k,l,m)]),G,t,rfl,rfl,rfl,(((F.trans i).trans j).trans g),(F0 _),(F2.append (F2.up (r:=C0.toRp) (j.trans g) (F2.append (F2.up (r:=C0.toRp) i q) (show F2 (C0.R s) ([[.int .i64 a,.int .i64 b,.slice e c.length f]]:List (List Value)) [(a,b,c)] from⟨(j0 o p n),trivial⟩))) (show F2 (C0.R t) ([[.int .i64 k,.int .i64 l,.slice u m.length w]]:List (List Value)) [(k,l,m)] from⟨(j0 D E z),trivial⟩)),C,d⟩
           ·exact D1 A ⟨(IntKind.i64.wrap (x-1)),(B++([[.int .i64 a,.int .i64 b,.slice e c.length f]]:List (List Value))),(y ++ [(a,b,c)]),G,t,rfl,rfl,rfl,(((F.trans i).trans j).trans g),(F0 _),(F2.up (r:=C0.toRp) (j.trans g) (F2.append (F2.up (r:=C0.toRp) i q) (show F2 (C0.R s) ([[.int .i64 a,.int .i64 b,.slice e c.length f]]:List (List Value)) [(a,b,c)] from⟨(j0 o p n),trivial⟩))),C,d⟩
          exact trivial
         exact trivial
        exact trivial
       refine aI ?_ ?_
       ·skip
        refine aT ?_
        refine aI ?_ ?_
        ·skip
         refine aT ?_
         refine aI ?_ ?_
         ·skip
          refine aT ?_
          refine aI ?_ ?_
          ·skip
           refine aT ?_
           refine ifB d (λI d=>?_) λI d=>?_
           ·obtain⟨K,H,d⟩:=B0 d
            refine aI (Z0 H (by first|rw[F2.length (F2.up (r:=C0.toRp) (j.trans g) (F2.append (F2.up (r:=C0.toRp) i q) (show F2 (C0.R s) ([[.int .i64 a,.int .i64 b,.slice e c.length f]]:List (List Value)) [(a,b,c)] from⟨(j0 o p n),trivial⟩))),F2.length (show F2 (C0.R t) ([[.int .i64 k,.int .i64 l,.slice u m.length w]]:List (List Value)) [(k,l,m)] from⟨(j0 D E z),trivial⟩)]|exact congrArg (·+1) (F2.length (F2.up (r:=C0.toRp) (j.trans g) (F2.append (F2.up (r:=C0.toRp) i q) (show F2 (C0.R s) ([[.int .i64 a,.int .i64 b,.slice e c.length f]]:List (List Value)) [(a,b,c)] from⟨(j0 o p n),trivial⟩)))))) ?_
            exact D1 A ⟨(IntKind.i64.wrap (x-1)),((B++([[.int .i64 a,.int .i64 b,.slice e c.length f]]:List (List Value)))++([[.int .i64 k,.int .i64 l,.slice u m.length w]]:List (List Value))),((y ++ [(a,b,c)]) ++ [(k,l,m)]),G,t,rfl,rfl,rfl,(((F.trans i).trans j).trans g),(F0 _),(F2.append (F2.up (r:=C0.toRp) (j.trans g) (F2.append (F2.up (r:=C0.toRp) i q) (show F2 (C0.R s) ([[.int .i64 a,.int .i64 b,.slice e c.length f]]:List (List Value)) [(a,b,c)] from⟨(j0 o p n),trivial⟩))) (show F2 (C0.R t) ([[.int .i64 k,.int .i64 l,.slice u m.length w]]:List (List Value)) [(k,l,m)] from⟨(j0 D E z),trivial⟩)),C,d⟩
           ·exact D1 A ⟨(IntKind.i64.wrap (x-1)),(B++([[.int .i64 a,.int .i64 b,.slice e c.length f]]:List (List Value))),(y ++ [(a,b,c)]),G,t,rfl,rfl,rfl,(((F.trans i).trans j).trans g),(F0 _),(F2.up (r:=C0.toRp) (j.trans g) (F2.append (F2.up (r:=C0.toRp) i q) (show F2 (C0.R s) ([[.int .i64 a,.int .i64 b,.slice e c.length f]]:List (List Value)) [(a,b,c)] from⟨(j0 o p n),trivial⟩))),C,d⟩
          exact trivial
         exact trivial
        exact trivial
       exact trivial
      exact trivial
     exact trivial
    exact trivial
   exact trivial
  ·exact D1 A ⟨(IntKind.i64.wrap (x-1)),(B++([[.int .i64 a,.int .i64 b,.slice e c.length f]]:List (List Value))),(y ++ [(a,b,c)]),ad,s,rfl,rfl,rfl,(F.trans i),(F0 _),(F2.append (F2.up (r:=C0.toRp) i q) (show F2 (C0.R s) ([[.int .i64 a,.int .i64 b,.slice e c.length f]]:List (List Value)) [(a,b,c)] from⟨(j0 o p n),trivial⟩)),Z,d⟩
 ·obtain rfl:=oJ d
  try dsimp only[M0,O0]at L
  intro bk bc aE
  obtain⟨bd,aF,aP,rfl⟩:=S0.beside aa.no aE
  obtain⟨ax,aB,rfl,aX,aq,bg⟩:=S0.out (r:=C0.toRp) aF q
  have ai:=aa.mono aq aP
  obtain rfl:=oJ L
  exact⟨ax,y.length,aB,rfl,(A5.mono (Sub.set ai.no) aX),((F.trans aq).trans (Sub.set ai.no))⟩
theorem v05(h:Hp)(b:Option Addr)(i c:Nat)(d:(List Int))(j:(Wp.slice Wp.u8).R h [.slice b i c] d)(r:Q1)(a:o6 d=some r):
  Tr Tryz.prog 16 #[.slice b i c] h λv h'=>∃(e:Option Addr) (g f:Nat),v = .slice e g f/\A5.R h' [.slice e g f] r/\Sub h h':=by
 obtain⟨rfl,q⟩:=Sl.len j
 unfold o6 at a
 refine V1 (args:=[.slice b d.length c]) (fn:=Tryz.f16) rfl ?_
 refine trM a (x09 _ _ _ _ _ j) ?_
 rintro o a u p ⟨l,t,m,rfl,k,n⟩
 obtain⟨rfl,s⟩:=Sl.len k
 obtain rfl:=oJ a
 exact⟨l,o.length,m,rfl,k,n⟩
theorem q08(h:Hp)(b:Option Addr)(i c:Nat)(d:(List Int))(j:(Wp.slice Wp.u8).R h [.slice b i c] d)(r:Q1)(a:j9 d=some r):
  Tr Tryz.prog 18 #[.slice b i c] h λv h'=>∃(e:Option Addr) (g f:Nat),v = .slice e g f/\A5.R h' [.slice e g f] r/\Sub h h':=by
 obtain⟨rfl,q⟩:=Sl.len j
 unfold j9 at a
 refine V1 (args:=[.slice b d.length c]) (fn:=Tryz.f18) rfl ?_
 refine trM a (x09 _ _ _ _ _ j) ?_
 rintro o a u p ⟨l,t,m,rfl,k,n⟩
 obtain⟨rfl,s⟩:=Sl.len k
 obtain rfl:=oJ a
 exact⟨l,o.length,m,rfl,k,n⟩
theorem y09(h:Hp)(c:Option Addr)(f d:Nat)(b:(List Int))(g:(Wp.slice Wp.u8).R h [.slice c f d] b)(r:Int×Int)(a:U9 b=some r):
  Tr Tryz.prog 19 #[.slice c f d] h λv h'=>v = .tuple #[.int .i64 r.1,.int .i64 r.2]/\h'=h:=by
 obtain⟨rfl,A⟩:=Sl.len g
 unfold U9 at a
 refine Tr.forget (V1 (args:=[.slice c b.length d]) (fn:=Tryz.f19) rfl ?_)
 refine trM a (u05 _ c b.length d b g) ?_
 rintro q a _ _ ⟨e,i,rfl,rfl,k⟩
 obtain⟨s,o,a⟩:=B0 a
 obtain⟨t,u⟩:=s
 try dsimp only at a
 refine Tr.mono (I1 _ e (.slice c b.length d) i b q k 6 (by decide) _ o) ?_
 rintro _ _ ⟨rfl,l,rfl⟩
 obtain⟨C,n,a⟩:=B0 a
 have y:I0 t:=T0 n
 obtain⟨w,p,a⟩:=B0 a
 obtain⟨x,D⟩:=w
 try dsimp only at a
 refine Tr.mono (I1 _ e (.slice c b.length d) i b u l 10 (by decide) _ p) ?_
 rintro _ _ ⟨rfl,j,rfl⟩
 obtain⟨B,m,a⟩:=B0 a
 have z:I0 x:=T0 m
 obtain rfl:=oJ a
 exact aI rfl ((Sub.refl _).trans (Sub.set j.no))
theorem c08(h:Hp)(c:Option Addr)(e d:Nat)(b:(List Int))(f:(Wp.slice Wp.u8).R h [.slice c e d] b)(r:Int)(a:J8 b=some r):
  Tr Tryz.prog 20 #[.slice c e d] h λv h'=>v = .int .i64 r/\h'=h:=by
 obtain⟨rfl,s⟩:=Sl.len f
 unfold J8 at a
 refine Tr.forget (V1 (args:=[.slice c b.length d]) (fn:=Tryz.f20) rfl ?_)
 refine trM a (u05 _ c b.length d b f) ?_
 rintro n a _ _ ⟨l,m,rfl,rfl,g⟩
 obtain⟨o,k,a⟩:=B0 a
 obtain⟨p,u⟩:=o
 try dsimp only at a
 refine Tr.mono (I1 _ l (.slice c b.length d) m b n g 15 (by decide) _ k) ?_
 rintro _ _ ⟨rfl,i,rfl⟩
 obtain⟨t,j,a⟩:=B0 a
 have q:I0 p:=T0 j
 obtain rfl:=oJ a
 exact aI rfl ((Sub.refl _).trans (Sub.set i.no))
theorem w05(h:Hp)(c:Option Addr)(f d:Nat)(b:(List Int))(g:(Wp.slice Wp.u8).R h [.slice c f d] b)(r:Int×Int)(a:p6 b=some r):
  Tr Tryz.prog 8 #[.slice c f d] h λv h'=>v = .tuple #[.int .i64 r.1,.int .i64 r.2]/\h'=h:=by
 obtain⟨rfl,A⟩:=Sl.len g
 unfold p6 at a
 refine Tr.forget (V1 (args:=[.slice c b.length d]) (fn:=Tryz.f8) rfl ?_)
 refine trM a (u05 _ c b.length d b g) ?_
 rintro q a _ _ ⟨e,i,rfl,rfl,k⟩
 obtain⟨s,o,a⟩:=B0 a
 obtain⟨t,u⟩:=s
 try dsimp only at a
 refine Tr.mono (I1 _ e (.slice c b.length d) i b q k 5 (by decide) _ o) ?_
 rintro _ _ ⟨rfl,l,rfl⟩
 obtain⟨C,n,a⟩:=B0 a
 have y:I0 t:=T0 n
 obtain⟨w,p,a⟩:=B0 a
 obtain⟨x,D⟩:=w
 try dsimp only at a
 refine Tr.mono (I1 _ e (.slice c b.length d) i b u l 5 (by decide) _ p) ?_
 rintro _ _ ⟨rfl,j,rfl⟩
 obtain⟨B,m,a⟩:=B0 a
 have z:I0 x:=T0 m
 obtain rfl:=oJ a
 exact aI rfl ((Sub.refl _).trans (Sub.set j.no))
theorem L0m(h:Hp)(a:Option Addr)(e b:Nat)(c:(List Int))(f:(Wp.slice Wp.u8).R h [.slice a e b] c)(r:Bool)(d:z04 c=some r):
  Tr Tryz.prog 7 #[.slice a e b] h λv h'=>v = .bool r/\h'=h:=by
 obtain⟨rfl,g⟩:=Sl.len f
 unfold z04 at d
 refine Tr.forget (V1 (args:=[.slice a c.length b]) (fn:=Tryz.f7) rfl ?_)
 obtain rfl:=oJ d
 exact aI rfl (Sub.refl _)
theorem l08(h:Hp)(i:Option Addr)(n k:Nat)(d:D0)(p:K0.R h [.slice i n k] d)(j:Option Addr)(o l:Nat)(e:D0)(q:K0.R h [.slice j o l] e)(r:Bool)(b:k00 d e=some r):
  Tr Tryz.prog 22 #[.slice i n k,.slice j o l] h λv h'=>v = .bool r/\h'=h:=by
 obtain⟨rfl,B⟩:=Sl.len p
 obtain⟨rfl,C⟩:=Sl.len q
 unfold k00 at b
 refine Tr.forget (V1 (args:=[.slice i d.length k,.slice j e.length l]) (fn:=Tryz.f22) rfl ?_)
 refine ifB b (λt b=>?_) λt b=>?_
 ·obtain rfl:=oJ b
  exact aI rfl (Sub.refl _)
 ·obtain⟨m,s,b⟩:=B0 b
  refine eX { vars:=[5],boxes:=[],owns:=[],fuel:=true } (eX (λvs os h'=>∃ c,vs.tail = [.int .i64 c]/\os = []/\Sub h h'/\I0 c/\F7 d e (C1 vs) c=some m) (eX (λ_ _=>0) (aI (eX P0 ⟨0,rfl,rfl,(Sub.refl _),(by decide),s⟩) ?_)))
  rintro _ g A ⟨c,⟨⟩,⟨⟩,f,x,a⟩
  replace a:F7 d e g c=some m:=a
  obtain _|g:=g
  ·cases a
  rw[F7.eq_2]at a
  refine ifB a (λu a=>?_) λu a=>?_
  ·refine Or.inl (aI (aI (by kernel_rfl) (by kernel_rfl)) ?_)
   refine ldI a (K0.mono f p) λD y a=>?_
   refine ldI a (K0.mono f q) λE z a=>?_
   refine ifB a (λw a=>?_) λw a=>?_
   ·obtain rfl:=oJ a
    try dsimp only[N3,O3]at b
    obtain rfl:=oJ b
    exact aI rfl f
   ·exact D1 g ⟨(IntKind.i64.wrap (c+1)),rfl,rfl,f,(F0 _),a⟩
  ·obtain rfl:=oJ a
   try dsimp only[M0,O0]at b
   obtain rfl:=oJ b
   exact aI rfl f
theorem x0d(h:Hp)(i:Option Addr)(p k:Nat)(d:N1)(s:R3.R h [.slice i p k] d)(j:Option Addr)(q l:Nat)(e:N1)(t:R3.R h [.slice j q l] e)(r:Bool)(b:C00 d e=some r):
  Tr Tryz.prog 21 #[.slice i p k,.slice j q l] h λv h'=>v = .bool r/\h'=h:=by
 obtain⟨rfl,J⟩:=Sl.len s
 obtain⟨rfl,K⟩:=Sl.len t
 unfold C00 at b
 refine Tr.forget (V1 (args:=[.slice i d.length k,.slice j e.length l]) (fn:=Tryz.f21) rfl ?_)
 refine ifB b (λx b=>?_) λx b=>?_
 ·obtain rfl:=oJ b
  exact aI rfl (Sub.refl _)
 ·obtain⟨o,w,b⟩:=B0 b
  refine eX { vars:=[5],boxes:=[],owns:=[],fuel:=true } (eX (λvs os h'=>∃ c,vs.tail = [.int .i64 c]/\os = []/\Sub h h'/\I0 c/\M6 d e (C1 vs) c=some o) (eX (λ_ _=>0) (aI (eX P0 ⟨0,rfl,rfl,(Sub.refl _),(by decide),w⟩) ?_)))
  rintro _ g I ⟨c,⟨⟩,⟨⟩,f,H,a⟩
  replace a:M6 d e g c=some o:=a
  obtain _|g:=g
  ·cases a
  rw[M6.eq_2]at a
  refine ifB a (λz a=>?_) λz a=>?_
  ·refine Or.inl (aI (aI (by kernel_rfl) (by kernel_rfl)) ?_)
   refine ld a (R3.mono f s) λP D m a=>?_
   obtain⟨B,N,F,rfl⟩:=Wp.slice_cell m
   obtain⟨rfl,L⟩:=Sl.len m
   refine ld a (R3.mono f t) λQ E n a=>?_
   obtain⟨C,O,G,rfl⟩:=Wp.slice_cell n
   obtain⟨rfl,M⟩:=Sl.len n
   obtain⟨A,u,a⟩:=B0 a
   refine eX (.bool A) (aI (l08 _ _ _ _ _ m _ _ _ _ n _  u) ?_)
   refine ifB a (λy a=>?_) λy a=>?_
   ·obtain rfl:=oJ a
    try dsimp only[N3,O3]at b
    obtain rfl:=oJ b
    exact aI rfl f
   ·exact D1 g ⟨(IntKind.i64.wrap (c+1)),rfl,rfl,f,(F0 _),a⟩
  ·obtain rfl:=oJ a
   try dsimp only[M0,O0]at b
   obtain rfl:=oJ b
   exact aI rfl f
theorem g0c(h:Hp)(i:Option Addr)(n k:Nat)(d:Q1)(p:A5.R h [.slice i n k] d)(j:Option Addr)(o l:Nat)(e:Q1)(q:A5.R h [.slice j o l] e)(r:Bool)(b:B02 d e=some r):
  Tr Tryz.prog 11 #[.slice i n k,.slice j o l] h λv h'=>v = .bool r/\h'=h:=by
 obtain⟨rfl,ac⟩:=Sl.len p
 obtain⟨rfl,ad⟩:=Sl.len q
 unfold B02 at b
 refine Tr.forget (V1 (args:=[.slice i d.length k,.slice j e.length l]) (fn:=Tryz.f11) rfl ?_)
 refine ifB b (λN b=>?_) λN b=>?_
 ·obtain rfl:=oJ b
  exact aI rfl (Sub.refl _)
 ·obtain⟨m,M,b⟩:=B0 b
  refine eX { vars:=[5],boxes:=[],owns:=[],fuel:=true } (eX (λvs os h'=>∃ c,vs.tail = [.int .i64 c]/\os = []/\Sub h h'/\I0 c/\p00 d e (C1 vs) c=some m) (eX (λ_ _=>0) (aI (eX P0 ⟨0,rfl,rfl,(Sub.refl _),(by decide),M⟩) ?_)))
  rintro _ g ab ⟨c,⟨⟩,⟨⟩,f,aa,a⟩
  replace a:p00 d e g c=some m:=a
  obtain _|g:=g
  ·cases a
  rw[p00.eq_2]at a
  refine ifB a (λP a=>?_) λP a=>?_
  ·refine Or.inl (aI (aI (by kernel_rfl) (by kernel_rfl)) ?_)
   obtain⟨ai,J,a⟩:=B0 a
   obtain⟨D,Y,H,V⟩:=Sl.getI (r:=C0.toRp) (A5.mono f p) J (by decide)
   refine aI D ?_
   obtain⟨u,w,B,ag,F,x,rfl,rfl,Q,S,s⟩:=H0 V
   obtain⟨rfl,ae⟩:=Sl.len s
   try dsimp only at a
   refine eX _ (aI H ?_)
   obtain⟨aj,K,a⟩:=B0 a
   obtain⟨E,Z,I,W⟩:=Sl.getI (r:=C0.toRp) (A5.mono f q) K (by decide)
   refine aI E ?_
   obtain⟨y,z,C,ah,G,A,rfl,rfl,T,U,t⟩:=H0 W
   obtain⟨rfl,af⟩:=Sl.len t
   try dsimp only at a
   refine eX _ (aI I ?_)
   obtain⟨X,L,a⟩:=B0 a
   refine eX (.bool X) (aI (A9 _ [.int .i64 u,.int .i64 w,.slice B x.length F] (u,w,x) (j0 Q S s) [.int .i64 y,.int .i64 z,.slice C A.length G] (y,z,A) (j0 T U t) _  L) ?_)
   refine ifB a (λO a=>?_) λO a=>?_
   ·obtain rfl:=oJ a
    try dsimp only[N3,O3]at b
    obtain rfl:=oJ b
    exact aI rfl f
   ·exact D1 g ⟨(IntKind.i64.wrap (c+1)),rfl,rfl,f,(F0 _),a⟩
  ·obtain rfl:=oJ a
   try dsimp only[M0,O0]at b
   obtain rfl:=oJ b
   exact aI rfl f
theorem S0g(h:Hp)(O:Option Addr)(aN Q:Nat)(V:(List Int))(p:(Wp.slice Wp.u8).R h [.slice O aN Q] V)(r:Bool)(b:t03 V=some r):
  Tr Tryz.prog 3 #[.slice O aN Q] h λv h'=>v = .bool r/\h'=h:=by
 obtain⟨rfl,dV⟩:=Sl.len p
 unfold t03 at b
 refine Tr.forget (V1 (args:=[.slice O V.length Q]) (fn:=Tryz.f3) rfl ?_)
 refine trV b (L0m _ _ _ _ _ p) λfe b=>?_
 refine ifB b (λb2 b=>?_) λb2 b=>?_
 ·obtain rfl:=oJ b
  exact aI rfl (Sub.refl _)
 ·obtain⟨cC,bP,b⟩:=B0 b
  obtain⟨K,x⟩:=cC
  try dsimp only at b
  refine Tr.val (w05 _ _ _ _ _ p _  bP) ?_
  obtain⟨eG,bC,b⟩:=B0 b
  have T:I0 K:=T0 bC
  obtain⟨eH,bD,b⟩:=B0 b
  have U:I0 x:=T0 bD
  refine trM b (z07 _ K T x U) ?_
  rintro cD b e9 ce ⟨cK,er,cY,rfl,Z⟩
  obtain⟨fh,fi⟩:=cD
  dsimp only at b Z
  have m:Sub h ce:=Z.sub
  have aV:=Z.r
  obtain⟨rfl,d3⟩:=Sl.len aV
  refine trM b (y07 _ K T x U) ?_
  rintro cG b e7 cd ⟨au,ez,az,rfl,t,k⟩
  obtain⟨s,fm⟩:=cG
  dsimp only at b t
  obtain⟨rfl,ef⟩:=Sl.len t
  refine trG b (λq=>g0c _ _ _ _ _ (A5.mono k aV) _ _ _ _ t) λff b=>?_
  refine trG b (λq=>A07 _ K T x U) λcz b=>?_
  obtain⟨eF,bB,b⟩:=B0 b
  have dk:I0 cz:=T0 bB
  refine ifB b (λb1 b=>?_) λb1 b=>?_
  ·obtain rfl:=oJ b
   exact aI rfl (m.trans k)
  ·refine trM b (Q03 _ au s.length az s t) ?_
   rintro F b e8 aK ⟨P,ek,S,rfl,a2⟩
   have j:Sub cd aK:=a2.sub
   have B:=a2.r
   obtain⟨rfl,dW⟩:=Sl.len B
   obtain⟨am,bZ,b⟩:=B0 b
   refine eX { vars:=[10,11],boxes:=[],owns:=[],fuel:=true } (eX (λvs os h'=>∃ u n,vs.tail = [.int .i64 u,.int .i64 n]/\os = []/\Sub aK h'/\I0 u/\I0 n/\X00 F s (C1 vs) u n=some am) (eX (λ_ _=>0) (aI (eX P0 ⟨0,0,rfl,rfl,(Sub.refl _),(by decide),(by decide),bZ⟩) ?_)))
   rintro _ _ G A ⟨u,n,⟨⟩,⟨⟩,g,dc,dd,d⟩
   replace d:X00 F s G u n=some am:=d
   obtain _|G:=G
   ·cases d
   rw[X00.eq_2]at d
   refine ifB d (λb3 d=>?_) λb3 d=>?_
   ·refine ld d (R3.mono g B) λcA cQ aP d=>?_
    obtain⟨cJ,el,cX,rfl⟩:=Wp.slice_cell aP
    obtain⟨rfl,dX⟩:=Sl.len aP
    refine Or.inr (Or.inr (Or.inr (Or.inl (aI (aI (by kernel_rfl) (by kernel_rfl)) ?_))))
    obtain⟨ae,bO,d⟩:=B0 d
    obtain⟨bl,cR,bt,aQ⟩:=Sl.getI (r:=K0.toRp) (R3.mono g B) bO (by decide)
    obtain⟨bg,em,bo,rfl⟩:=Wp.slice_cell aQ
    obtain⟨rfl,dY⟩:=Sl.len aQ
    refine Or.inl (eX (.hel (.slice P F.length S) n 1 0) (aI ?_ ?_))
    ·intro dB eW
     exact aI bl (aI rfl (aI rfl rfl))
    refine Or.inl (eX (.val (.slice bg ae.length bo)) (aI ?_ ?_))
    ·intro dC cs
     exact eX _ (aI (i6.up cs bt) (aI rfl (aI rfl rfl)))
    refine Or.inl (eX (.val (.int .i64 ((ae.length:Nat):Int))) (aI ?_ ?_))
    ·intro dD eY
     exact aI rfl (aI rfl rfl)
    refine Or.inl (eX (.val (.bool (decide (((ae.length:Nat):Int)=0)))) (aI ?_ ?_))
    ·intro dE eZ
     exact aI rfl (aI rfl rfl)
    obtain⟨af,bQ,d⟩:=B0 d
    obtain⟨cS,aA,aR⟩:=Sl.getG (r:=K0.toRp) (R3.mono g B) bQ (by decide) (A0o Wp.int A)
    obtain⟨bh,en,bp,rfl⟩:=Wp.slice_cell aR
    obtain⟨rfl,dZ⟩:=Sl.len aR
    refine Or.inl (eX (.hel (.slice P F.length S) n 1 0) (aI ?_ ?_))
    ·intro dF e0 f
     exact aI (aA f).1 (aI rfl (aI rfl rfl))
    refine Or.inl (eX (.val (.slice bh af.length bp)) (aI ?_ ?_))
    ·intro dG ct f
     exact eX _ (aI (i6.up ct (aA f).2) (aI rfl (aI rfl rfl)))
    refine Or.inl (eX (.val (.int .i64 ((af.length:Nat):Int))) (aI ?_ ?_))
    ·intro dH e1 f
     exact aI rfl (aI rfl rfl)
    obtain⟨ba,bR,d⟩:=B0 d
    obtain⟨cT,aB,W⟩:=Sl.getG (r:=K0.toRp) (R3.mono g B) bR (by decide) (A0o Wp.int A)
    obtain⟨ao,eo,av,rfl⟩:=Wp.slice_cell W
    obtain⟨rfl,d1⟩:=Sl.len W
    refine Or.inl (eX (.hel (.slice P F.length S) n 1 0) (aI ?_ ?_))
    ·intro dI e2 f
     exact aI (aB f).1 (aI rfl (aI rfl rfl))
    refine Or.inl (eX (.val (.slice ao ba.length av)) (aI ?_ ?_))
    ·intro dJ cu f
     exact eX _ (aI (i6.up cu (aB f).2) (aI rfl (aI rfl rfl)))
    obtain⟨bb,bS,d⟩:=B0 d
    obtain⟨cU,aC,ck⟩:=Sl.getG (r:=Wp.int.toRp) W bS (by decide) (l0a A)
    obtain⟨rfl,dm⟩:=ck
    refine Or.inl (eX (.hel (.slice ao ba.length av) 0 1 0) (aI ?_ ?_))
    ·intro dK e3 f
     exact aI (aC f).1 (aI rfl (aI rfl rfl))
    refine Or.inl (eX (.val (.int .i64 bb)) (aI ?_ ?_))
    ·intro dL cv f
     exact eX _ (aI (i6.up cv (aC f).2) (aI rfl (aI rfl rfl)))
    obtain⟨fg,bT,d⟩:=B0 d
    obtain⟨cV,aD,cl⟩:=Sl.getG (r:=C0.toRp) (A5.mono (j.trans g) t) bT (by decide) (m0n A)
    obtain⟨ag,ah,ap,ep,aw,ai,rfl,rfl,b8,ca,aS⟩:=H0 cl
    obtain⟨rfl,d2⟩:=Sl.len aS
    try dsimp only at d
    refine Or.inl (eX (.hel (.slice au s.length az) bb 3 0) (aI ?_ ?_))
    ·intro dM e4 f
     exact aI (aD f).1 (aI rfl (aI rfl rfl))
    refine Or.inl (eX (.agg [.val (.int .i64 ag),.val (.int .i64 ah),.val (.slice ap ai.length aw)]) (aI ?_ ?_))
    ·intro dN cw f
     exact eX _ (aI (i6.up cw (aD f).2) (aI rfl (aI rfl rfl)))
    obtain⟨y,bU,d⟩:=B0 d
    refine Or.inr (eX (λv z=>∃(a:Option Addr) (c:Nat),v = .slice a y.length c/\A5.R z [.slice a y.length c] y/\y.length<=9223372036854775807) (aI (λv aE aF i q=>by obtain⟨a,c,e,r,l⟩:=q;exact⟨a,c,e,A5.mono i r,l⟩) (aI ?_ ?_)))
    ·intro dO cx f
     refine Tr.mono (V09 _ [.int .i64 ag,.int .i64 ah,.slice ap ai.length aw] (ag,ah,ai) (j0 b8 ca (N0.mono cx aS)) _ (W5 bU f)) ?_
     rintro _ aM ⟨bi,eq,bq,rfl,aU,i⟩
     obtain⟨rfl,ci⟩:=Sl.len aU
     exact aI y01 (aI i ⟨bi,bq,rfl,aU,ci⟩)
    obtain⟨eI,db,d⟩:=B0 d
    refine Or.inl (eX (.val (.int .i64 ((y.length:Nat):Int))) (aI ?_ ?_))
    ·intro dP e5 f
     rintro _ ⟨cP,c3,rfl,eO,ei⟩
     exact aI rfl (aI rfl rfl)
    refine Or.inl (eX (.val (.bool (!decide (((af.length:Nat):Int)=((y.length:Nat):Int))))) (aI ?_ ?_))
    ·intro dQ e6 f
     exact aI rfl (aI rfl rfl)
    intro dR a0
    refine ifB d (λb4 d=>?_) λb4 d=>?_
    ·obtain rfl:=oJ d
     try dsimp only[N3,O3]at b
     obtain rfl:=oJ b
     exact aI rfl ((((m.trans k).trans j).trans g).trans a0)
    ·exact D1 G ⟨(IntKind.i64.wrap (u+((cA.length:Nat):Int))),(IntKind.i64.wrap (n+1)),rfl,rfl,(g.trans a0),(F0 _),(F0 _),d⟩
   ·obtain rfl:=oJ d
    try dsimp only[M0,O0]at b
    refine ifB b (λb5 b=>?_) λb5 b=>?_
    ·obtain rfl:=oJ b
     exact aI rfl (((m.trans k).trans j).trans g)
    ·obtain⟨an,b0,b⟩:=B0 b
     refine eX { vars:=[12],boxes:=[],owns:=[],fuel:=true } (eX (λvs os h'=>∃ w,vs.tail = [.int .i64 w]/\os = []/\Sub A h'/\I0 w/\W00 s x (C1 vs) w=some an) (eX (λ_ _=>0) (aI (eX P0 ⟨0,rfl,rfl,(Sub.refl _),(by decide),b0⟩) ?_)))
     rintro _ H dS ⟨w,⟨⟩,⟨⟩,o,df,d⟩
     replace d:W00 s x H w=some an:=d
     obtain _|H:=H
     ·cases d
     rw[W00.eq_2]at d
     refine ifB d (λb6 d=>?_) λb6 d=>?_
     ·obtain⟨fj,bV,d⟩:=B0 d
      obtain⟨bm,cW,bu,cm⟩:=Sl.getI (r:=C0.toRp) (A5.mono ((j.trans g).trans o) t) bV (by decide)
      refine aI bm ?_
      obtain⟨bc,bd,bj,es,br,be,rfl,rfl,cb,cc,aW⟩:=H0 cm
      obtain⟨rfl,ea⟩:=Sl.len aW
      try dsimp only at d
      refine eX _ (aI bu ?_)
      refine trV d (u0g _ [.int .i64 bc,.int .i64 bd,.slice bj be.length br] (bc,bd,be) (j0 cb cc aW)) λcE d=>?_
      obtain⟨eJ,bE,d⟩:=B0 d
      have dn:I0 cE:=T0 bE
      refine ifB d (λb7 d=>?_) λb7 d=>?_
      ·obtain rfl:=oJ d
       try dsimp only[N3,O3]at b
       obtain rfl:=oJ b
       exact aI rfl ((((m.trans k).trans j).trans g).trans o)
      ·exact D1 H ⟨(IntKind.i64.wrap (w+1)),rfl,rfl,o,(F0 _),d⟩
     ·obtain rfl:=oJ d
      try dsimp only[M0,O0]at b
      refine trM b (v05 _ _ _ _ _ ((Wp.slice Wp.u8).mono ((((m.trans k).trans j).trans g).trans o) p)) ?_
      rintro L b fa cf ⟨aq,et,ax,rfl,X,I⟩
      obtain⟨rfl,eb⟩:=Sl.len X
      refine trM b (Q03 _ aq L.length ax L X) ?_
      rintro fk b fb aL ⟨cL,eu,cZ,rfl,a3⟩
      have C:Sub cf aL:=a3.sub
      have aX:=a3.r
      obtain⟨rfl,ec⟩:=Sl.len aX
      refine trM b (x07 _ aq L.length ax L (A5.mono C X)) ?_
      rintro fl b fc cg ⟨cM,ew,c0,rfl,a4⟩
      have D:Sub aL cg:=a4.sub
      have aY:=a4.r
      obtain⟨rfl,ed⟩:=Sl.len aY
      refine trM b (q08 _ _ _ _ _ ((Wp.slice Wp.u8).mono (((((((m.trans k).trans j).trans g).trans o).trans I).trans C).trans D) p)) ?_
      rintro M b fd dT ⟨ar,ex,ay,rfl,Y,E⟩
      obtain⟨rfl,ee⟩:=Sl.len Y
      obtain⟨cH,bW,b⟩:=B0 b
      obtain⟨aj,ak⟩:=cH
      try dsimp only at b
      refine Tr.val (y09 _ _ _ _ _ ((Wp.slice Wp.u8).mono ((((((((m.trans k).trans j).trans g).trans o).trans I).trans C).trans D).trans E) p) _  bW) ?_
      obtain⟨eK,bF,b⟩:=B0 b
      have aG:I0 aj:=T0 bF
      obtain⟨eM,bG,b⟩:=B0 b
      have aH:I0 ak:=T0 bG
      refine trV b (c08 _ _ _ _ _ ((Wp.slice Wp.u8).mono ((((((((m.trans k).trans j).trans g).trans o).trans I).trans C).trans D).trans E) p)) λal b=>?_
      obtain⟨eN,bH,b⟩:=B0 b
      have aJ:I0 al:=T0 bH
      refine aI (by kernel_rfl) ?_
      obtain⟨cI,bX,b⟩:=B0 b
      refine Or.inl (eX (.val (.bool cI)) (aI ?_ ?_))
      ·intro dU a1
       exact Tr.val (x0d _ _ _ _ _ (R3.mono ((D.trans E).trans a1) aX) _ _ _ _ (R3.mono (E.trans a1) aY) _ bX) (aI rfl (aI rfl rfl))
      obtain⟨N,bY,b⟩:=B0 b
      refine Or.inr (eX (λv z=>∃(a:Option Addr) (c:Nat),v = .slice a N.length c/\K0.R z [.slice a N.length c] N/\N.length<=9223372036854775807) (aI (λv aE aF i q=>by obtain⟨a,c,e,r,l⟩:=q;exact⟨a,c,e,K0.mono i r,l⟩) (aI ?_ ?_)))
      ·intro dq cp f
       refine Tr.mono (c0c _ ar M.length ay M (A5.mono cp Y) _ (W5 bY f)) ?_
       rintro _ aM ⟨bk,ey,bs,rfl,a5⟩
       have i:=a5.sub
       have aZ:=a5.r
       obtain⟨rfl,cj⟩:=Sl.len aZ
       exact aI y01 (aI i ⟨bk,bs,rfl,aZ,cj⟩)
      obtain⟨J,bI,b⟩:=B0 b
      refine Or.inr (eX (λv z=>∃(a:Option Addr) (c:Nat),v = .slice a J.length c/\K0.R z [.slice a J.length c] J/\J.length<=9223372036854775807) (aI (λv aE aF i q=>by obtain⟨a,c,e,r,l⟩:=q;exact⟨a,c,e,K0.mono i r,l⟩) (aI ?_ ?_)))
      ·intro ds cq f
       refine Tr.mono (d0c _ ar M.length ay M (A5.mono cq Y) _ (W5 bI f)) ?_
       rintro _ aM ⟨bf,ej,bn,rfl,aO,i⟩
       obtain⟨rfl,ch⟩:=Sl.len aO
       exact aI y01 (aI i ⟨bf,bn,rfl,aO,ch⟩)
      obtain⟨cy,bJ,b⟩:=B0 b
      refine Or.inl (eX (.val (.bool cy)) (aI ?_ ?_))
      ·intro dt eP f
       rintro _ ⟨cN,c1,rfl,cn,eg⟩
       rintro _ ⟨cO,c2,rfl,co,eh⟩
       exact Tr.val (l08 _ _ _ _ _ cn _ _ _ _ co _ (W5 bJ f)) (aI rfl (aI rfl rfl))
      obtain⟨aa,bK,b⟩:=B0 b
      obtain⟨eA,bv,b⟩:=B0 b
      have dg:I0 aa:=T0 bv
      refine Or.inl (eX (.val (.int .i64 aa)) (aI ?_ ?_))
      ·intro du eQ f
       exact Tr.val (A07 _ aj aG ak aH _ (W5 bK f)) (aI rfl (aI rfl rfl))
      obtain⟨ab,bL,b⟩:=B0 b
      obtain⟨eC,bx,b⟩:=B0 b
      have dh:I0 ab:=T0 bx
      refine Or.inl (eX (.val (.int .i64 ab)) (aI ?_ ?_))
      ·intro dv eR f
       exact Tr.val (v0d _ aj aG ak aH _ (W5 bL f)) (aI rfl (aI rfl rfl))
      refine Or.inl (eX (.val (.bool (decide (aa=ab)))) (aI ?_ ?_))
      ·intro dw eS f
       exact aI rfl (aI rfl rfl)
      obtain⟨ac,bM,b⟩:=B0 b
      obtain⟨eD,bz,b⟩:=B0 b
      have di:I0 ac:=T0 bz
      refine Or.inl (eX (.val (.int .i64 ac)) (aI ?_ ?_))
      ·intro dx eT f
       exact Tr.val (m06 _ al aJ _ (W5 bM f)) (aI rfl (aI rfl rfl))
      obtain⟨ad,bN,b⟩:=B0 b
      obtain⟨eE,bA,b⟩:=B0 b
      have dj:I0 ad:=T0 bA
      refine Or.inl (eX (.val (.int .i64 ad)) (aI ?_ ?_))
      ·intro dy eU f
       exact Tr.val (D03 _ al aJ _ (W5 bN f)) (aI rfl (aI rfl rfl))
      refine Or.inl (eX (.val (.bool (decide (ac=ad)))) (aI ?_ ?_))
      ·intro dz eV f
       exact aI rfl (aI rfl rfl)
      intro dA cr
      obtain rfl:=oJ b
      exact aI rfl (((((((((m.trans k).trans j).trans g).trans o).trans I).trans C).trans D).trans E).trans cr)
end Go.Proofs.YtmgikbbmpnbbjaaGreat
