/- Texts of the claim, joined: The walks of batch cc2 and others. -/
import Derived.Test.YtcpjomkcdlggaaaGreatH53
import Derived.Test.YtcpjomkcdlggaaaGreatPart24
import Derived.Test.YtcpjomkcdlggaaaGreatPart22
import Derived.Test.YtcpjomkcdlggaaaGreatChecked
import Derived.Test.YtcpjomkcdlggaaaGreatH35
import Derived.Test.YtcpjomkcdlggaaaGreatPart36
import Derived.Test.YtcpjomkcdlggaaaGreatPart38
import Derived.Test.YtcpjomkcdlggaaaGreatPart40
import Derived.Test.YtcpjomkcdlggaaaGreatPart41
import Derived.Test.YtcpjomkcdlggaaaGreatH41
import Derived.Test.YtcpjomkcdlggaaaGreatPart27
namespace Go.Proofs.YtcpjomkcdlggaaaGreat
set_option linter.all false
open Go.H
open IntKind (i64)
set_option maxRecDepth 10000
set_option maxHeartbeats 0
def B0g(h:Hp)(c:Int)(p:F0 c)(e:Option Addr)(j f:Nat)(k:O1)(l:T1.R h [.slice e j f] k)(r:z0×Bool)(a:c03 c k=some r):
  Tr Tryz.prog 47 #[iV c,.slice e j f] h λv h'=>∃(g:List Value),v = .tuple #[.agg g.toArray,.bool r.2]/\New L1 h h' g r.1:=by
 obtain⟨rfl,J⟩:=sL l
 unfold c03 at a
 refine wk Tryz.f47 ?_
 refine trM a (N0i _ _ p _ _ _ _ l) ?_
 rintro C a O i ⟨F,rfl,b⟩
 obtain⟨S,W⟩:=C
 dsimp only at a b
 have m:Sub h i:=b.sub
 have x:=b.r
 obtain⟨T,U,D,H,V,rfl,rfl,q,s,y,K⟩:=opG x
 try dsimp only at a
 have Q:=nD (nD (b))
 refine ifB a (λo a=>?_) λo a=>?_
 ·cases a
  exact⟨_,rfl,(nP (nI (show F0 (0) from(by decide))) (nP (nI (show F0 (0) from(by decide))) ((New.nilSlice (r:=J1)).mono m)))⟩
 ·refine trM a (G0a _ _ _ (C0 q s y)) ?_
  rintro X a P w ⟨G,rfl,d⟩
  have N:Sub i w:=d.sub
  have z:=d.r
  obtain⟨Y,Z,E,I,aa,rfl,rfl,t,u,M,L⟩:=opG z
  try dsimp only at a
  have A:=nD (nD (d))
  cases a
  exact⟨_,rfl,(nP (nI t) (nP (nI u) (New.from A m)))⟩
def V01(h:Hp)(f:List Value)(j:z0)(w:L1.R h f j)(d:Option Addr)(i e:Nat)(k:O1)(m:T1.R h [.slice d i e] k)(r:Bool)(a:H6 j k=some r):
  Tr Tryz.prog 63 #[.agg f.toArray,.slice d i e] h λv h'=>v = .bool r/\h'=h:=by
 obtain⟨J,K,A,D,L,rfl,rfl,b,g,l,G⟩:=opG w
 obtain⟨rfl,H⟩:=sL m
 unfold H6 at a
 dsimp only at a
 refine wkF Tryz.f63 ?_
 refine trV a (g02 _ _ _ (C0 b g l)) λN a=>?_
 refine ifB a (λp a=>?_) λp a=>?_
 ·cases a
  exact aI rfl sr
 ·refine trM a (B0g _ _ b _ _ _ _ m) ?_
  rintro z a M u ⟨E,rfl,c⟩
  obtain⟨O,T⟩:=z
  dsimp only at a c
  have o:Sub h u:=c.sub
  have x:=c.r
  obtain⟨P,Q,C,F,S,rfl,rfl,s,t,y,I⟩:=opG x
  try dsimp only at a
  refine trG a (λq=>Z05 _ _ _ (C0 b g (M0.mono o l)) _ _ (C0 s t y)) λU a=>?_
  cases a
  exact aI rfl o
def y0b(h:Hp)(e:List Value)(j:z0)(y:L1.R h e j)(c:Option Addr)(i d:Nat)(k:H0)(m:I0.R h [.slice c i d] k)(r:Bool)(a:N02 j k=some r):
  Tr Tryz.prog 68 #[.agg e.toArray,.slice c i d] h λv h'=>v = .bool r/\h'=h:=by
 obtain⟨X,Y,J,L,Z,rfl,rfl,f,g,l,T⟩:=opG y
 obtain⟨rfl,U⟩:=sL m
 unfold N02 at a
 dsimp only at a
 refine wkF Tryz.f68 ?_
 refine w4 ?_
 obtain⟨G,t,a⟩:=B0 a
 refine pm (.val (.bool G)) ?_ ?_
 ·intro O C
  exact Tr.val (g02 _ _ _ (C0 f g (M0.mono C l)) _ t) r3
 obtain⟨H,u,a⟩:=B0 a
 refine fS I0 H ?_ ?_
 ·intro P D b
  refine Tr.mono (K07 _ _ _ _ _ (I0.mono D m) _ (Z3 u b)) ?_
  rintro _ S ⟨q,W,s,rfl,p⟩
  have F:=p.sub
  have o:=p.r
  obtain⟨rfl,x⟩:=sL o
  exact aI t6 (aI F ⟨q,s,rfl,o,x⟩)
 obtain⟨I,w,a⟩:=B0 a
 refine pm (.val (.bool I)) ?_ ?_
 ·intro Q E b
  rintro _ ⟨K,M,rfl,z,V⟩
  exact Tr.val (W08 _ _ _ (C0 f g (M0.mono E l)) _ _ _ _ z _ (Z3 w b)) r3
 intro N A
 cases a
 exact aI rfl A
def w0l(h:Hp)(H:List Value)(O:z0)(az:L1.R h H O)(C:Option Addr)(N F:Nat)(P:H0)(y:I0.R h [.slice C N F] P)(r:z0×Int×Bool)(b:p07 O P=some r):
  Tr Tryz.prog 129 #[.agg H.toArray,.slice C N F] h λv h'=>∃(G:List Value),v = .tuple #[.agg G.toArray,iV r.2.1,.bool r.2.2]/\L1.R h' G r.1/\Sub h h':=by
 obtain⟨bn,bo,aV,a0,bp,rfl,rfl,w,s,x,bh⟩:=opG az
 obtain⟨rfl,bi⟩:=sL y
 unfold p07 at b
 dsimp only at b
 refine wk Tryz.f129 ?_
 obtain⟨aN,aa,b⟩:=B0 b
 obtain⟨aQ,aR⟩:=aN
 try dsimp only at b
 refine Tr.val (y09 _ _ _ (C0 w s x) 0 (by decide) _ _ _ _ y _  aa) ?_
 obtain⟨bq,Y,b⟩:=B0 b
 have ah:F0 aQ:=K0 Y
 obtain⟨br,Z,b⟩:=B0 b
 have a7:F0 aR:=K0 Z
 refine ifB b (λae b=>?_) λae b=>?_
 ·cases b
  exact⟨_,rfl,(C0 w s x),sr⟩
 ·refine trM b (I0h _ _ _ (C0 w s x)) ?_
  rintro aS b bx M ⟨a2,rfl,z⟩
  obtain⟨bz,bD⟩:=aS
  dsimp only at b z
  have t:Sub h M:=z.sub
  have aB:=z.r
  obtain⟨bA,bB,aW,a3,bC,rfl,rfl,ai,aj,aC,bj⟩:=opG aB
  try dsimp only at b
  refine ifB b (λaf b=>?_) λaf b=>?_
  ·cases b
   exact⟨_,rfl,(C0 (by decide) (by decide) (E0d J1 M)),t⟩
  ·refine w5 10 ?_
   obtain⟨aU,ac,b⟩:=B0 b
   refine fS I0 aU ?_ ?_
   ·intro bb aK
    obtain⟨ay,aM,V,X⟩:=Sl.cutI (r:=Wp.int.toRp) (I0.mono (t.trans aK) y) ac
    refine aI ay (eX aM (aI V ?_))
    intro v ag _
    obtain⟨a,c,rfl,r⟩:=X v ag
    exact aI t6 (aI sr ⟨a,c,rfl,r,(sL r).2⟩)
   obtain⟨aO,ab,b⟩:=B0 b
   obtain⟨aP,A⟩:=aO
   try dsimp only at b
   obtain⟨k,l,g⟩:=aP
   try dsimp only at b
   refine Or.inr (eX (λv i=>∃(j:Value),v = .tuple #[j,.bool A]/\(λv i=>∃(d:Option Addr) (f:Nat),v = .agg #[iV k,iV l,.slice d g.length f]/\F0 k/\F0 l/\M0.R i [.slice d g.length f] g/\g.length<=9223372036854775807) j i) (aI (λv K L m q=>by obtain⟨j,e,u⟩:=q;exact⟨j,e,(by obtain⟨d,f,e,o,p,f2,f3⟩:=u;exact⟨d,f,e,o,p,M0.mono m f2,f3⟩)⟩) (aI ?_ ?_)))
   ·intro bc aL
    rintro _ ⟨aX,a4,rfl,aF,bk⟩
    refine Tr.mono (U0c _ _ _ (C0 ai aj (M0.mono aL aC)) _ ah _ _ _ _ aF _ s _ ab) ?_
    rintro _ bg ⟨a1,rfl,S⟩
    have m:=S.sub
    have aA:=S.r
    obtain⟨bE,bG,D,I,bH,rfl,W,ak,al,aD,av⟩:=opG aA
    cases W
    exact aI t6 (aI m ⟨(.agg #[iV k,iV l,.slice D g.length I]),rfl,⟨D,I,rfl,ak,al,aD,av⟩⟩)
   refine Or.inr (eX (λv i=>∃(j:Value),v = .tuple #[j,.bool A]/\(λv i=>∃(d:Option Addr) (f:Nat),v = .agg #[iV k,iV l,.slice d g.length f]/\F0 k/\F0 l/\M0.R i [.slice d g.length f] g/\g.length<=9223372036854775807) j i) (aI (λv K L m q=>by obtain⟨j,e,u⟩:=q;exact⟨j,e,(by obtain⟨d,f,e,o,p,f2,f3⟩:=u;exact⟨d,f,e,o,p,M0.mono m f2,f3⟩)⟩) (aI ?_ ?_)))
   ·intro bd bt
    rintro _ ⟨_,rfl,⟨E,J,rfl,am,an,aG,aw⟩⟩
    exact aI t6 (aI sr ⟨(.agg #[iV k,iV l,.slice E g.length J]),rfl,⟨E,J,rfl,am,an,aG,aw⟩⟩)
   refine Or.inr (eX (λv i=>∃(d:Option Addr) (f:Nat),v = .agg #[iV k,iV l,.slice d g.length f]/\F0 k/\F0 l/\M0.R i [.slice d g.length f] g/\g.length<=9223372036854775807) (aI (λv K L m q=>by obtain⟨d,f,e,o,p,f2,f3⟩:=q;exact⟨d,f,e,o,p,M0.mono m f2,f3⟩) (aI ?_ ?_)))
   ·intro be bu
    rintro _ ⟨_,rfl,⟨T,U,rfl,ao,ap,aH,ax⟩⟩
    exact aI t6 (aI sr ⟨T,U,rfl,ao,ap,aH,ax⟩)
   refine pm (.val (.bool A)) ?_ ?_
   ·intro bf bv
    rintro _ ⟨_,rfl,⟨aY,a5,rfl,a8,ba,bs,bl⟩⟩
    exact r3
   intro au Q
   rintro _ ⟨aZ,a6,rfl,aq,ar,aJ,bm⟩
   rintro _ _
   rintro _ _
   rintro _ _
   refine ifB b (λad b=>?_) λad b=>?_
   ·cases b
    exact⟨_,rfl,(C0 (by decide) (by decide) (E0d J1 au)),(t.trans Q)⟩
   ·cases b
    exact⟨_,rfl,(C0 aq ar aJ),(t.trans Q)⟩
def Q09(h:Hp)(i:List Value)(l:z0)(F:L1.R h i l)(e:Option Addr)(k f:Nat)(m:H0)(d:I0.R h [.slice e k f] m)(r:z0×Bool)(a:j6 l m=some r):
  Tr Tryz.prog 55 #[.agg i.toArray,.slice e k f] h λv h'=>∃(g:List Value),v = .tuple #[.agg g.toArray,.bool r.2]/\New L1 h h' g r.1:=by
 obtain⟨Z,aa,M,P,ab,rfl,rfl,c,j,o,V⟩:=opG F
 obtain⟨rfl,W⟩:=sL d
 unfold j6 at a
 dsimp only at a
 refine wk Tryz.f55 ?_
 refine trV a (g02 _ _ _ (C0 c j o)) λah a=>?_
 refine trG a (λq=>D05 _ _ c _ _ _ _ d) λai a=>?_
 refine ifB a (λu a=>?_) λu a=>?_
 ·cases a
  exact⟨_,rfl,(nP (nI (show F0 (0) from(by decide))) (nP (nI (show F0 (0) from(by decide))) ((New.nilSlice (r:=J1)).mono sr)))⟩
 ·refine trM a (w0l _ _ _ (C0 c j o) _ _ _ _ d) ?_
  rintro J a ag E ⟨Q,rfl,p,s⟩
  obtain⟨aj,K,an⟩:=J
  dsimp only at a p
  obtain⟨ak,al,N,T,am,rfl,rfl,x,y,G,X⟩:=opG p
  try dsimp only at a
  obtain⟨ac,t,a⟩:=B0 a
  have z:F0 K:=K0 t
  refine ifB a (λw a=>?_) λw a=>?_
  ·cases a
   exact⟨_,rfl,(nP (nI (show F0 (0) from(by decide))) (nP (nI (show F0 (0) from(by decide))) ((New.nilSlice (r:=J1)).mono s)))⟩
  ·refine trM a (P0i _ _ _ (C0 x y G) _ z) ?_
   rintro L a af D ⟨S,rfl,b⟩
   obtain⟨ao,au⟩:=L
   dsimp only at a b
   have ae:Sub E D:=b.sub
   have H:=b.r
   obtain⟨ap,aq,O,U,ar,rfl,rfl,A,C,ad,Y⟩:=opG H
   try dsimp only at a
   have I:=nD (nD (b))
   cases a
   exact⟨_,rfl,(nP (nI A) (nP (nI C) (New.from I s)))⟩
def x0l(h:Hp)(b:List Value)(c:z0)(g:L1.R h b c)(r:Int)(a:t04 c=some r):
  Tr Tryz.prog 56 #[.agg b.toArray] h λv h'=>v=iV r/\h'=h:=by
 obtain⟨m,o,j,k,p,rfl,rfl,e,f,i,l⟩:=opG g
 unfold t04 at a
 dsimp only at a
 refine wkF Tryz.f56 ?_
 refine trV a (g02 _ _ _ (C0 e f i)) λq a=>?_
 refine ifB a (λd a=>?_) λd a=>?_
 ·cases a
  exact aI rfl sr
 ·cases a
  exact aI rfl sr
def Z0k(h:Hp)(b:List Value)(c:z0)(g:L1.R h b c)(r:Int)(a:T04 c=some r):
  Tr Tryz.prog 57 #[.agg b.toArray] h λv h'=>v=iV r/\h'=h:=by
 obtain⟨m,o,j,k,p,rfl,rfl,e,f,i,l⟩:=opG g
 unfold T04 at a
 dsimp only at a
 refine wkF Tryz.f57 ?_
 refine trV a (W0c _ _ _ (C0 e f i)) λq a=>?_
 refine ifB a (λd a=>?_) λd a=>?_
 ·cases a
  exact aI rfl sr
 ·cases a
  exact aI rfl sr
def O06(h:Hp)(D:List Value)(J:P1)(aL:Y1.R h D J)(r:Bool)(a:l00 J=some r):
  Tr Tryz.prog 10 #[.agg D.toArray] h λv h'=>v = .bool r/\h'=h:=by
 obtain⟨b8,ca,bd,b0,bm,cb,be,b1,bn,cc,bf,b2,bo,cd,ce,cf,bg,b3,bp,cg,ch,rfl,rfl,bx,I,m,s,K,i,j,f,bz⟩:=Y2 aL
 obtain⟨rfl,bQ⟩:=sL m
 obtain⟨rfl,bR⟩:=sL s
 obtain⟨rfl,bS⟩:=sL K
 obtain⟨rfl,bU⟩:=sL f
 unfold l00 at a
 dsimp only at a
 refine wkF Tryz.f10 ?_
 refine trV a (N07 _ _ I _ _ _ _ m) λco a=>?_
 refine trG a (λq=>D05 _ _ I _ _ _ _ s) λcq a=>?_
 refine trG a (λq=>g02 _ _ _ (C0 i j f)) λcv a=>?_
 refine ifB a (λap a=>?_) λap a=>?_
 ·cases a
  exact aI rfl sr
 ·refine ifB a (λar a=>?_) λar a=>?_
  ·refine w4 ?_
   obtain⟨bb,ak,a⟩:=B0 a
   refine pm (.val (.bool bb)) ?_ ?_
   ·intro bP P
    exact Tr.val (V01 _ _ _ (C0 i j (M0.mono P f)) _ _ _ _ (T1.mono P m) _ ak) r3
   obtain⟨bc,al,a⟩:=B0 a
   refine fS T1 bc ?_ ?_
   ·intro bE aV w
    refine Tr.mono (Y0k _ _ _ (C0 i j (M0.mono aV f)) _ (Z3 al w)) ?_
    rintro _ y ⟨V,b7,Z,rfl,N,g⟩
    obtain⟨rfl,aG⟩:=sL N
    exact aI t6 (aI g ⟨V,Z,rfl,N,aG⟩)
   obtain⟨a1,ae,a⟩:=B0 a
   refine fS I0 a1 ?_ ?_
   ·intro bG aW w
    rintro _ ⟨bh,br,rfl,aO,bV⟩
    refine Tr.mono (Q0i _ _ _ _ _ aO _ _ _ _ (I0.mono aW K) _ (Z3 ae w)) ?_
    rintro _ y ⟨T,b5,X,rfl,L,g⟩
    obtain⟨rfl,aD⟩:=sL L
    exact aI t6 (aI g ⟨T,X,rfl,L,aD⟩)
   obtain⟨a2,af,a⟩:=B0 a
   refine pm (.val (.bool a2)) ?_ ?_
   ·intro bH aX w
    rintro _ ⟨bi,bs,rfl,aP,bW⟩
    exact Tr.val (A04 _ _ _ _ _ aP _ _ _ _ (I0.mono aX s) _ (Z3 af w)) r3
   intro bI aY
   cases a
   exact aI rfl aY
  ·refine ifB a (λam a=>?_) λam a=>?_
   ·refine trV a (b0f _ _ _ (C0 i j f) _ _ _ _ m) λcr a=>?_
    refine trG a (λq=>y0b _ _ _ (C0 i j f) _ _ _ _ s) λcs a=>?_
    cases a
    exact aI rfl sr
   ·refine ifB a (λan a=>?_) λan a=>?_
    ·refine trV a (V01 _ _ _ (C0 i j f) _ _ _ _ m) λct a=>?_
     refine trG a (λq=>y0b _ _ _ (C0 i j f) _ _ _ _ s) λcu a=>?_
     cases a
     exact aI rfl sr
    ·refine ifB a (λao a=>?_) λao a=>?_
     ·refine w5 10 ?_
      obtain⟨a3,ag,a⟩:=B0 a
      refine fS I0 a3 ?_ ?_
      ·intro bJ aZ
       refine Tr.mono (I06 _ _ _ _ _ (I0.mono aZ s) _ ag) ?_
       rintro _ y ⟨U,b6,Y,rfl,Q⟩
       have g:=Q.sub
       have M:=Q.r
       obtain⟨rfl,aF⟩:=sL M
       exact aI t6 (aI g ⟨U,Y,rfl,M,aF⟩)
      obtain⟨a4,ah,a⟩:=B0 a
      obtain⟨a5,z⟩:=a4
      try dsimp only at a
      obtain⟨o,p,d⟩:=a5
      try dsimp only at a
      refine Or.inr (eX (λv k=>∃(l:Value),v = .tuple #[l,.bool z]/\(λv k=>∃(b:Option Addr) (c:Nat),v = .agg #[iV o,iV p,.slice b d.length c]/\F0 o/\F0 p/\M0.R k [.slice b d.length c] d/\d.length<=9223372036854775807) l k) (aI (λv G H g q=>by obtain⟨l,e,x⟩:=q;exact⟨l,e,(by obtain⟨b,c,e,t,u,f2,f3⟩:=x;exact⟨b,c,e,t,u,M0.mono g f2,f3⟩)⟩) (aI ?_ ?_)))
      ·intro bK a0
       rintro _ ⟨bj,bt,rfl,aQ,bX⟩
       refine Tr.mono (Q09 _ _ _ (C0 i j (M0.mono a0 f)) _ _ _ _ aQ _ ah) ?_
       rintro _ y ⟨bq,rfl,S⟩
       have g:=S.sub
       have aM:=S.r
       obtain⟨cx,cy,A,E,cz,rfl,ab,av,aw,aN,aH⟩:=opG aM
       cases ab
       exact aI t6 (aI g ⟨(.agg #[iV o,iV p,.slice A d.length E]),rfl,⟨A,E,rfl,av,aw,aN,aH⟩⟩)
      refine Or.inr (eX (λv k=>∃(l:Value),v = .tuple #[l,.bool z]/\(λv k=>∃(b:Option Addr) (c:Nat),v = .agg #[iV o,iV p,.slice b d.length c]/\F0 o/\F0 p/\M0.R k [.slice b d.length c] d/\d.length<=9223372036854775807) l k) (aI (λv G H g q=>by obtain⟨l,e,x⟩:=q;exact⟨l,e,(by obtain⟨b,c,e,t,u,f2,f3⟩:=x;exact⟨b,c,e,t,u,M0.mono g f2,f3⟩)⟩) (aI ?_ ?_)))
      ·intro bL cl
       rintro _ ⟨_,rfl,⟨C,F,rfl,ax,ay,aR,aJ⟩⟩
       exact aI t6 (aI sr ⟨(.agg #[iV o,iV p,.slice C d.length F]),rfl,⟨C,F,rfl,ax,ay,aR,aJ⟩⟩)
      refine Or.inr (eX (λv k=>∃(b:Option Addr) (c:Nat),v = .agg #[iV o,iV p,.slice b d.length c]/\F0 o/\F0 p/\M0.R k [.slice b d.length c] d/\d.length<=9223372036854775807) (aI (λv G H g q=>by obtain⟨b,c,e,t,u,f2,f3⟩:=q;exact⟨b,c,e,t,u,M0.mono g f2,f3⟩) (aI ?_ ?_)))
      ·intro bM cm
       rintro _ ⟨_,rfl,⟨W,aa,rfl,az,aA,aS,aK⟩⟩
       exact aI t6 (aI sr ⟨W,aa,rfl,az,aA,aS,aK⟩)
      refine pm (.val (.bool z)) ?_ ?_
      ·intro bN cn
       rintro _ ⟨_,rfl,⟨bk,bu,rfl,bC,bD,ck,bY⟩⟩
       exact r3
      intro bO O
      rintro _ ⟨bl,bv,rfl,aB,aC,aU,bZ⟩
      rintro _ _
      rintro _ _
      rintro _ _
      refine trG a (λq=>V01 _ _ _ (C0 aB aC aU) _ _ _ _ (T1.mono O m)) λcw a=>?_
      cases a
      exact aI rfl O
     ·refine ifB a (λaq a=>?_) λaq a=>?_
      ·refine w1 ?_
       obtain⟨a6,ai,a⟩:=B0 a
       refine eX (.bool a6) (aI (V01 _ _ _ (C0 i j f) _ _ _ _ m _  ai) ?_)
       refine trG a (λq=>x0l _ _ _ (C0 i j f)) λa7 a=>?_
       obtain⟨ci,ac,a⟩:=B0 a
       have bA:F0 a7:=K0 ac
       cases a
       exact aI rfl sr
      ·refine ifB a (λau a=>?_) λau a=>?_
       ·refine w1 ?_
        obtain⟨a8,aj,a⟩:=B0 a
        refine eX (.bool a8) (aI (V01 _ _ _ (C0 i j f) _ _ _ _ m _  aj) ?_)
        refine trG a (λq=>Z0k _ _ _ (C0 i j f)) λba a=>?_
        obtain⟨cj,ad,a⟩:=B0 a
        have bB:F0 ba:=K0 ad
        cases a
        exact aI rfl sr
       ·cases a
        exact aI rfl sr
def a06(h:Hp)(m:List Value)(u:C1)(Q:G3.R h m u)(r:H0)(d:H9 u=some r):
  Tr Tryz.prog 31 #[.agg m.toArray] h λv h'=>∃(k:Option Addr) (t l:Nat),v = .slice k t l/\New I0 h h' [.slice k t l] r:=by
 obtain⟨w,T,ao,Z,x,rfl,rfl,ag,y⟩:=I2 Q
 obtain⟨rfl,ai⟩:=sL y
 unfold H9 at d
 dsimp only at d
 refine wk Tryz.f31 ?_
 obtain⟨j,I,d⟩:=B0 d
 refine eX { vars:=[10],owns:=[0] } (eX (λvs os h'=>∃ b i g,vs.tail = [iV b]/\os = [i]/\Sub h h'/\F0 b/\F2 (Wp.int.R h') i g/\R5 x w (N1 vs) b g=some j) (eX (λ_ _=>0) (aI (eX P0 ⟨_,_,_,rfl,rfl,sr,(by decide),(show F2 (Wp.int.R h) ([]:LV) ([]:H0) from trivial),I⟩) ?_)))
 rintro _ i e s ⟨b,aM,g,⟨⟩,⟨⟩,f,p,c,a⟩
 replace a:R5 x w e b g=some j:=a
 obtain _|e:=e
 ·cases a
 rw[R5.eq_2]at a
 refine ifB a (λJ a=>?_) λJ a=>?_
 ·obtain⟨az,H,a⟩:=B0 a
  obtain⟨E,aa,F,S⟩:=Sl.getI (r:=Y1.toRp) (M3.mono f y) H (by decide)
  refine aI E ?_
  obtain⟨aA,aB,U,ap,ab,aC,V,aq,ac,aD,W,ar,ad,aF,aG,aH,X,au,ae,aJ,aK,rfl,rfl,L,M,z,A,C,N,O,D,P⟩:=Y2 S
  obtain⟨rfl,aj⟩:=sL z
  obtain⟨rfl,ak⟩:=sL A
  obtain⟨rfl,al⟩:=sL C
  obtain⟨rfl,am⟩:=sL D
  try dsimp only at a
  refine eX _ (aI F ?_)
  refine trG a (λq=>O06 _ _ _ (Q2 L M z A C N O D P)) λaL a=>?_
  refine ifB a (λK a=>?_) λK a=>?_
  ·obtain⟨av,G,a⟩:=B0 a
   refine aI (M1 G (by first|rw[fL c,fL (show F2 (Wp.int.R s) ([[iV b]]:LV) [b] from⟨⟨rfl,p⟩,trivial⟩)]|exact congrArg (·+1) (fL c))) ?_
   exact V1 e ⟨_,_,_,rfl,rfl,f,(J0 _),(fA c (show F2 (Wp.int.R s) ([[iV b]]:LV) [b] from⟨⟨rfl,p⟩,trivial⟩)),a⟩
  ·exact V1 e ⟨_,_,_,rfl,rfl,f,(J0 _),c,a⟩
 ·cases a
  try dsimp only[Q0,T0]at d
  intro ay ah o
  obtain⟨Y,af,rfl,aw,ax,an⟩:=Y0.out (r:=Wp.int.toRp) o c
  cases d
  exact⟨_,_,_,rfl,(New.from (Y0.newPlain (r:=Wp.int) o c (n05 _)) f)⟩
def D04(h:Hp)(d:List Value)(f:C1)(s:G3.R h d f)(r:Bool)(a:m00 f=some r):
  Tr Tryz.prog 30 #[.agg d.toArray] h λv h'=>v = .bool r/\h'=h:=by
 obtain⟨Q,y,O,A,g,rfl,rfl,e,i⟩:=I2 s
 obtain⟨rfl,M⟩:=sL i
 unfold m00 at a
 dsimp only at a
 refine wkF Tryz.f30 ?_
 refine aI (by kernel_rfl) ?_
 obtain⟨x,o,a⟩:=B0 a
 refine pm (.val (.bool x)) ?_ ?_
 ·intro H W
  exact Tr.val (p6 _ _ e 1 (by decide) 3 (by decide) _ o) r3
 refine pm (.val (iV ((g.length:Nat):Int))) ?_ ?_
 ·intro I X b
  exact r3
 refine pm (.val (.bool (decide (((g.length:Nat):Int)<=12)))) ?_ ?_
 ·intro J Y b
  exact r3
 obtain⟨c,p,a⟩:=B0 a
 refine fS I0 c ?_ ?_
 ·intro K t b
  refine Tr.mono (a06 _ _ _ (Q1 e (M3.mono t i)) _ (Z3 p b)) ?_
  rintro _ L ⟨l,P,m,rfl,k⟩
  have w:=k.sub
  have j:=k.r
  obtain⟨rfl,q⟩:=sL j
  exact aI t6 (aI w ⟨l,m,rfl,j,q⟩)
 obtain⟨S,D,a⟩:=B0 a
 refine pm (.val (iV ((c.length:Nat):Int))) ?_ ?_
 ·intro E U b
  rintro _ ⟨z,C,rfl,T,N⟩
  exact r3
 refine pm (.val (.bool (decide (((c.length:Nat):Int)=0)))) ?_ ?_
 ·intro F V b
  exact r3
 intro G u
 cases a
 exact aI rfl u
theorem X0c(h:Hp)(o:Option Addr)(G q:Nat)(f:O1)(H:T1.R h [.slice o G q] f)(r:O1)(e:F03 f=some r):
  Tr Tryz.prog 158 #[.slice o G q] h λv h'=>∃(y:Option Addr) (F z:Nat),v = .slice y F z/\New T1 h h' [.slice y F z] r:=by
 obtain⟨rfl,ae⟩:=Sl.len H
 unfold F03 at e
 refine E4 (args:=[.slice o f.length q]) (fn:=Tryz.f158) rfl ?_
 obtain⟨x,P,e⟩:=B0 e
 refine eX { vars:=[4],boxes:=[],owns:=[0],fuel:=true } (eX (λvs os h'=>∃ c i b,vs.tail = [.int .i64 c]/\os = [i]/\Sub h h'/\F0 c/\F2 (I0.R h') i b/\(∃ Bs,F3 (I0.W h') i b Bs/\R4 h Bs.flatten)/\Z9 f (N1 vs) c b=some x) (eX (λ_ _=>0) (aI (eX P0 ⟨0,[],([]:O1),rfl,rfl,(Sub.refl _),(by decide),(show F2 (I0.R h) ([]:List (List Value)) ([]:O1) from trivial),⟨_,(show F3 (I0.W h) [] [] [] from trivial),(R4.nil h)⟩,P⟩) ?_)))
 rintro _ i l k ⟨c,ao,b,⟨⟩,⟨⟩,m,ad,j,⟨aa,w,D⟩,a⟩
 replace a:Z9 f l c b=some x:=a
 obtain _|l:=l
 ·cases a
 rw[Z9.eq_2]at a
 refine ifB a (λQ a=>?_) λQ a=>?_
 ·refine ld a (T1.mono m H) λd ab u a=>?_
  obtain⟨Z,ai,ac,rfl⟩:=Wp.slice_cell u
  obtain⟨rfl,af⟩:=Sl.len u
  obtain⟨V,L,t⟩:=Sl.rows (r:=Wp.int.toRp) u
  refine eX V (aI L ?_)
  obtain⟨ak,O,a⟩:=B0 a
  refine aI (M1 O (by first|rw[F2.length (show F2 (Wp.int.R k) ([]:List (List Value)) ([]:H0) from trivial),F2.length t]|exact congrArg (·+1) (F2.length (show F2 (Wp.int.R k) ([]:List (List Value)) ([]:H0) from trivial)))) ?_
  intro an E A
  obtain⟨p,s,rfl,I,g,ag⟩:=Y0.out (r:=Wp.int.toRp) A (F2.append (show F2 (Wp.int.R k) ([]:List (List Value)) ([]:H0) from trivial) t)
  obtain⟨aj,N,a⟩:=B0 a
  refine aI (M1 N (by first|rw[F2.length (F2.up (r:=I0.toRp) g j),F2.length (show F2 (I0.R E) ([[.slice p ((([]:H0)++d)).length s]]:List (List Value)) [(([]:H0)++d)] from⟨I,trivial⟩)]|exact congrArg (·+1) (F2.length (F2.up (r:=I0.toRp) g j)))) ?_
  obtain⟨Y,X,M,_⟩:=(Y0.newPlain (r:=Wp.int) A (F2.append (show F2 (Wp.int.R k) ([]:List (List Value)) ([]:H0) from trivial) t) (n05 _))
  exact V1 l ⟨(IntKind.i64.wrap (c+1)),(i++([[.slice p ((([]:H0)++d)).length s]]:List (List Value))),(b ++ [(([]:H0)++d)]),rfl,rfl,(m.trans g),(J0 _),(F2.append (F2.up (r:=I0.toRp) g j) (show F2 (I0.R E) ([[.slice p ((([]:H0)++d)).length s]]:List (List Value)) [(([]:H0)++d)] from⟨I,trivial⟩)),⟨_,(F3.snoc X (X0h w g)),(E08 w m D M)⟩,a⟩
 ·obtain rfl:=oJ a
  try dsimp only[Q0,T0]at e
  intro U S C
  have T:New (Wp.slice I0) h S [U] b:=(Y0.fresh (r:=I0) C w m D)
  obtain⟨J,K,rfl,al,am,ah⟩:=Y0.out (r:=I0.toRp) C j
  obtain rfl:=oJ e
  exact⟨J,b.length,K,rfl,T⟩
def X08(h:Hp)(s:List Value)(x:P1)(X:Y1.R h s x)(r:P1)(a:G03 x=some r):
  Tr Tryz.prog 90 #[.agg s.toArray] h λv h'=>∃(q:List Value),v = .agg q.toArray/\New Y1 h h' q r:=by
 obtain⟨aQ,aR,ai,aL,ap,aS,aj,aM,aq,aU,ak,aN,ar,aV,y,z,H,aO,I,A,aW,rfl,rfl,O,P,C,D,E,Q,S,F,T⟩:=Y2 X
 obtain⟨rfl,aB⟩:=sL C
 obtain⟨rfl,aC⟩:=sL D
 obtain⟨rfl,aD⟩:=sL E
 obtain⟨rfl,aF⟩:=sL F
 unfold G03 at a
 dsimp only at a
 refine wk Tryz.f90 ?_
 refine trM a (X0c _ _ _ _ _ C) ?_
 rintro a6 a a5 b ⟨al,aP,av,rfl,o⟩
 have e:Sub h b:=o.sub
 have Y:=o.r
 obtain⟨rfl,aG⟩:=sL Y
 obtain⟨aa,J,k⟩:=Sl.rows (r:=Wp.int.toRp) (I0.mono e D)
 refine eX aa (aI J ?_)
 obtain⟨aX,M,a⟩:=B0 a
 refine aI (M1 M (by first|rw[fL (show F2 (Wp.int.R b) ([]:LV) ([]:H0) from trivial),fL k]|exact congrArg (·+1) (fL (show F2 (Wp.int.R b) ([]:LV) ([]:H0) from trivial)))) ?_
 obtain⟨ab,K,l⟩:=Sl.rows (r:=Wp.int.toRp) (I0.mono e E)
 refine eX ab (aI K ?_)
 obtain⟨aY,N,a⟩:=B0 a
 refine aI (M1 N (by first|rw[fL (show F2 (Wp.int.R b) ([]:LV) ([]:H0) from trivial),fL l]|exact congrArg (·+1) (fL (show F2 (Wp.int.R b) ([]:LV) ([]:H0) from trivial)))) ?_
 refine trM a (G5 _ [iV y,iV z,.slice H A.length I] (y,z,A) (C0 Q S (M0.mono e F))) ?_
 rintro a7 a a2 W ⟨au,rfl,p⟩
 have c:Sub b W:=p.sub
 have Z:=p.r
 obtain⟨a8,ba,am,aw,bb,rfl,rfl,U,V,aZ,aH⟩:=opG Z
 try dsimp only at a
 have ac:=nD (nD (p))
 intro a3 az t
 obtain⟨an,ax,rfl,a0,d,aJ⟩:=Y0.out (r:=Wp.int.toRp) t (F2.up (r:=Wp.int.toRp) c (fA (show F2 (Wp.int.R b) ([]:LV) ([]:H0) from trivial) k))
 intro a4 aA u
 obtain⟨ao,ay,rfl,a1,g,aK⟩:=Y0.out (r:=Wp.int.toRp) u (F2.up (r:=Wp.int.toRp) (c.trans d) (fA (show F2 (Wp.int.R b) ([]:LV) ([]:H0) from trivial) l))
 cases a
 obtain⟨ae,i,L,_⟩:=o
 obtain⟨af,G,j,_⟩:=(Y0.newPlain (r:=Wp.int) t (F2.up (r:=Wp.int.toRp) c (fA (show F2 (Wp.int.R b) ([]:LV) ([]:H0) from trivial) k)) (n05 _))
 obtain⟨ag,ad,f,_⟩:=(Y0.newPlain (r:=Wp.int) u (F2.up (r:=Wp.int.toRp) (c.trans d) (fA (show F2 (Wp.int.R b) ([]:LV) ([]:H0) from trivial) l)) (n05 _))
 obtain⟨ah,m,w,_⟩:=ac
 exact⟨_,rfl,(NB.fin (NB.pair (NB.int O) (NB.pair (NB.int P) (NB.pair (NB.mk i ((c.trans d).trans g) L sr) (NB.pair (NB.mk G g j (e.trans c)) (NB.pair (NB.mk ad sr f ((e.trans c).trans d)) (NB.pair (NB.pair (NB.int U) (NB.pair (NB.int V) (NB.mk m (d.trans g) w e) NB.d0) NB.d0) (NB.int T) NB.de) (NB.da (NB.da NB.de (NB.da NB.de (NB.dr m d f))) NB.de)) (NB.da (NB.dl G sr f) (NB.da (NB.da NB.de (NB.da NB.de (NB.dr m sr j))) NB.de))) (NB.da (NB.dl i c j) (NB.da (NB.dl i (c.trans d) f) (NB.da (NB.da NB.de (NB.da NB.de (NB.dl i sr w))) NB.de)))) NB.d0) NB.d0) (((e.trans c).trans d).trans g))⟩
def Y0c(h:Hp)(L:List Value)(aa:C1)(az:G3.R h L aa)(r:C1)(b:v02 aa=some r):
  Tr Tryz.prog 110 #[.agg L.toArray] h λv h'=>∃(K:List Value),v = .agg K.toArray/\New G3 h h' K r:=by
 obtain⟨bi,aG,a8,aO,ab,rfl,rfl,ao,ac⟩:=I2 az
 obtain⟨rfl,aY⟩:=sL ac
 unfold v02 at b
 dsimp only at b
 refine wk Tryz.f110 ?_
 obtain⟨F,am,b⟩:=B0 b
 refine eX { vars:=[4],boxes:=[2],owns:=[0],nilsB:=[(2,1,32,9,136)] } (eX (λvs os h'=>∃ e f k c,vs.tail = [iV e,iV f]/\os = [k]/\Sub h h'/\F0 e/\F0 f/\F2 (Y1.R h') k c/\(∃ Bs,F3 (Y1.W h') k c Bs/\R4 h Bs.flatten)/\a00 ab (N1 vs) e f c=some F) (eX (λ_ _=>0) (aI (eX P0 ⟨_,_,_,_,rfl,rfl,sr,(by decide),ao,(show F2 (Y1.R h) [] [] from trivial),⟨_,(show F3 (Y1.W h) [] [] [] from trivial),(R4.nil h)⟩,am⟩) ?_)))
 rintro _ _ k i ax ⟨e,f,bA,c,⟨⟩,⟨⟩,j,aX,T,g,⟨aN,D,S⟩,a⟩
 replace a:a00 ab i e f c=some F:=a
 obtain _|i:=i
 ·cases a
 rw[a00.eq_2]at a
 refine ifB a (λan a=>?_) λan a=>?_
 ·obtain⟨bn,al,a⟩:=B0 a
  obtain⟨ah,aP,ai,aA⟩:=Sl.getI (r:=Y1.toRp) (M3.mono j ac) al (by decide)
  refine aI ah ?_
  obtain⟨bo,bp,aH,ba,aR,bq,aJ,bb,aS,br,aK,bc,aU,bs,bt,bu,aL,bd,aV,bv,bx,rfl,rfl,ap,aq,ad,ae,af,ar,au,ag,av⟩:=Y2 aA
  obtain⟨rfl,aZ⟩:=sL ad
  obtain⟨rfl,a0⟩:=sL ae
  obtain⟨rfl,a1⟩:=sL af
  obtain⟨rfl,a2⟩:=sL ag
  try dsimp only at a
  refine eX _ (aI ai ?_)
  refine trM a (X08 _ _ _ (Q2 ap aq ad ae af ar au ag av)) ?_
  rintro bz a bm x ⟨aQ,rfl,E⟩
  have d:Sub ax x:=E.sub
  have aB:=E.r
  obtain⟨l,m,G,be,M,o,H,bf,N,p,I,bg,O,q,s,t,J,bh,P,u,w,rfl,rfl,U,V,y,z,A,X,Y,C,Z⟩:=Y2 aB
  obtain⟨rfl,a3⟩:=sL y
  obtain⟨rfl,a4⟩:=sL z
  obtain⟨rfl,a5⟩:=sL A
  obtain⟨rfl,a6⟩:=sL C
  try dsimp only at a
  obtain⟨bj,ak,a⟩:=B0 a
  refine aI (M1 ak (by first|rw[fL (F2.up (r:=Y1.toRp) d g),fL (show F2 (Y1.R x) ([[iV l,iV m,.slice G o.length M,.slice H p.length N,.slice I q.length O,iV s,iV t,.slice J u.length P,iV w]]:LV) [(l,m,o,p,q,(s,t,u),w)] from⟨(Q2 U V y z A X Y C Z),trivial⟩)]|exact congrArg (·+1) (fL (F2.up (r:=Y1.toRp) d g)))) ?_
  obtain⟨aF,aD,aj,_⟩:=E
  exact V1 i ⟨_,_,_,_,rfl,rfl,(j.trans d),(J0 _),T,(fA (F2.up (r:=Y1.toRp) d g) (show F2 (Y1.R x) ([[iV l,iV m,.slice G o.length M,.slice H p.length N,.slice I q.length O,iV s,iV t,.slice J u.length P,iV w]]:LV) [(l,m,o,p,q,(s,t,u),w)] from⟨(Q2 U V y z A X Y C Z),trivial⟩)),⟨_,(F3.snoc aD (X0h D d)),(E08 D j S aj)⟩,a⟩
 ·cases a
  try dsimp only[Q0,T0]at b
  intro aC aw Q
  have ay:New (Wp.slice Y1) h aw [aC] c:=(Y0.fresh (r:=Y1) Q D j S)
  obtain⟨aM,aW,rfl,bk,bl,a7⟩:=Y0.out (r:=Y1.toRp) Q g
  cases b
  exact⟨_,rfl,(nP (nI T) ay)⟩
def z0b(h:Hp)(aQ:List Value)(a0:C1)(bp:G3.R h aQ a0)(aR:List Value)(a1:P1)(bq:Y1.R h aR a1)(r:C1×Bool)(a:P02 a0 a1=some r):
  Tr Tryz.prog 28 #[.agg aQ.toArray,.agg aR.toArray] h λv h'=>∃(aP:List Value),v = .tuple #[.agg aP.toArray,.bool r.2]/\New G3 h h' aP r.1:=by
 obtain⟨L,aD,ca,aK,M,rfl,rfl,ap,Y⟩:=I2 bp
 obtain⟨rfl,bR⟩:=sL Y
 obtain⟨N,O,aF,cb,aL,P,aG,cc,aM,Q,aH,cd,aN,S,T,U,aJ,ce,aO,V,X,rfl,rfl,E,F,z,A,C,G,H,D,I⟩:=Y2 bq
 obtain⟨rfl,bS⟩:=sL z
 obtain⟨rfl,bU⟩:=sL A
 obtain⟨rfl,bV⟩:=sL C
 obtain⟨rfl,bW⟩:=sL D
 unfold P02 at a
 dsimp only at a
 refine wk Tryz.f28 ?_
 refine trM a (Y0c _ _ _ (Q1 ap Y)) ?_
 rintro cA a cy aq ⟨bI,rfl,az⟩
 have b:Sub h aq:=az.sub
 have br:=az.r
 obtain⟨cE,bG,cf,bL,cG,rfl,rfl,J,bs⟩:=I2 br
 obtain⟨rfl,bX⟩:=sL bs
 try dsimp only at a
 have ay:=nD (az)
 rcases New.two ay with⟨rfl,rfl,rfl⟩|⟨bP,cr,rfl⟩
 ·skip
  refine trV a (L06 _ [iV L,.slice aD M.length aK] (L,M) (Q1 ap (M3.mono b Y))) λcI a=>?_
  refine trG a (λq=>K06 _ [iV N,iV O,.slice aF P.length aL,.slice aG Q.length aM,.slice aH S.length aN,iV T,iV U,.slice aJ V.length aO,iV X] (N,O,P,Q,S,(T,U,V),X) (Q2 E F (T1.mono b z) (I0.mono b A) (I0.mono b C) G H (M0.mono b D) I)) λcJ a=>?_
  refine ifB a (λbh a=>?_) λbh a=>?_
  ·cases a
   exact⟨_,rfl,(nP (nI J) ((New.nilSlice (r:=Y1)).mono b))⟩
  ·refine w3 ?_
   refine aI ?_ trivial
   refine trM a (X08 _ _ _ (Q2 E F (T1.mono b z) (I0.mono b A) (I0.mono b C) G H (M0.mono b D) I)) ?_
   rintro cK a cw K ⟨bK,rfl,aB⟩
   have bA:Sub aq K:=aB.sub
   have bu:=aB.r
   obtain⟨c,d,ad,ck,al,e,ae,cl,am,f,af,cm,an,g,i,j,ag,cn,ao,k,l,rfl,rfl,aU,aV,au,av,aw,aW,aX,ax,aY⟩:=Y2 bu
   obtain⟨rfl,b2⟩:=sL au
   obtain⟨rfl,b3⟩:=sL av
   obtain⟨rfl,b5⟩:=sL aw
   obtain⟨rfl,b6⟩:=sL ax
   try dsimp only at a
   refine aI (by first|exact trivial|exact rfl) ?_
   refine aI ?_ trivial
   refine aI (by first|exact trivial|exact rfl) ?_
   refine aI ?_ trivial
   refine Or.inl ?_
   obtain⟨cs,bd,a⟩:=B0 a
   refine aI (M1 bd (fL (show F2 (Y1.R K) ([[iV c,iV d,.slice ad e.length al,.slice ae f.length am,.slice af g.length an,iV i,iV j,.slice ag k.length ao,iV l]]:LV) [(c,d,e,f,g,(i,j,k),l)] from⟨(Q2 aU aV au av aw aW aX ax aY),trivial⟩))) ?_
   obtain⟨a7,bD,bb,_⟩:=aB
   refine aI (by first|exact trivial|exact rfl) ?_
   refine aI ?_ trivial
   refine aI (by first|exact trivial|exact rfl) ?_
   intro bB bn aS
   have bo:New (Wp.slice Y1) h bn [bB] [(c,d,e,f,g,(i,j,k),l)]:=(Y0.fresh (r:=Y1) aS (show F3 (Y1.W K) ([[iV c,iV d,.slice ad e.length al,.slice ae f.length am,.slice af g.length an,iV i,iV j,.slice ag k.length ao,iV l]]:LV) [(c,d,e,f,g,(i,j,k),l)] [a7] from⟨bD,trivial⟩) (b.trans bA) (R4.older b bb))
   obtain⟨bH,bM,rfl,cu,cv,b7⟩:=Y0.out (r:=Y1.toRp) aS (show F2 (Y1.R K) ([[iV c,iV d,.slice ad e.length al,.slice ae f.length am,.slice af g.length an,iV i,iV j,.slice ag k.length ao,iV l]]:LV) [(c,d,e,f,g,(i,j,k),l)] from⟨(Q2 aU aV au av aw aW aX ax aY),trivial⟩)
   cases a
   exact⟨_,rfl,(nP (nI J) bo)⟩
 ·skip
  refine trV a (L06 _ [iV L,.slice aD M.length aK] (L,M) (Q1 ap (M3.mono b Y))) λcC a=>?_
  refine trG a (λq=>K06 _ [iV N,iV O,.slice aF P.length aL,.slice aG Q.length aM,.slice aH S.length aN,iV T,iV U,.slice aJ V.length aO,iV X] (N,O,P,Q,S,(T,U,V),X) (Q2 E F (T1.mono b z) (I0.mono b A) (I0.mono b C) G H (M0.mono b D) I)) λcD a=>?_
  refine ifB a (λbg a=>?_) λbg a=>?_
  ·cases a
   exact⟨_,rfl,(nP (nI J) ay)⟩
  ·refine w3 ?_
   refine aI ?_ trivial
   refine trM a (X08 _ _ _ (Q2 E F (T1.mono b z) (I0.mono b A) (I0.mono b C) G H (M0.mono b D) I)) ?_
   rintro cH a cx ar ⟨bJ,rfl,aA⟩
   have bz:Sub aq ar:=aA.sub
   have bt:=aA.r
   obtain⟨m,o,Z,cg,ah,p,aa,ch,ai,s,ab,ci,aj,t,u,w,ac,cj,ak,x,y,rfl,rfl,bi,bj,a2,a3,a4,bk,bl,a5,bm⟩:=Y2 bt
   obtain⟨rfl,bY⟩:=sL a2
   obtain⟨rfl,bZ⟩:=sL a3
   obtain⟨rfl,b0⟩:=sL a4
   obtain⟨rfl,b1⟩:=sL a5
   try dsimp only at a
   refine aI (by first|exact trivial|exact rfl) ?_
   refine aI ?_ trivial
   refine aI (by first|exact trivial|exact rfl) ?_
   refine aI ?_ trivial
   obtain⟨ct,be,a⟩:=B0 a
   obtain⟨aC,bE,bc,_⟩:=aA
   obtain⟨bC,bv,aZ,a8⟩:=New.app ay bz
   refine eX bC (aI bv (aI (M1 be (by first|rw[aZ,fL (show F2 (Y1.R ar) ([[iV m,iV o,.slice Z p.length ah,.slice aa s.length ai,.slice ab t.length aj,iV u,iV w,.slice ac x.length ak,iV y]]:LV) [(m,o,p,s,t,(u,w,x),y)] from⟨(Q2 bi bj a2 a3 a4 bk bl a5 bm),trivial⟩)]|(rw[aZ];rfl))) ?_))
   intro cz bQ bf
   obtain⟨a6,bO,cq,co,bN,rfl⟩:=a8 ([[iV m,iV o,.slice Z p.length ah,.slice aa s.length ai,.slice ab t.length aj,iV u,iV w,.slice ac x.length ak,iV y]]:LV) [(m,o,p,s,t,(u,w,x),y)] [aC] _ _ (show F3 (Y1.W ar) ([[iV m,iV o,.slice Z p.length ah,.slice aa s.length ai,.slice ab t.length aj,iV u,iV w,.slice ac x.length ak,iV y]]:LV) [(m,o,p,s,t,(u,w,x),y)] [aC] from⟨bE,trivial⟩) (R4.older sr bc) bf
   have bx:=a6.r
   obtain⟨ba,b8⟩:=sL bx
   subst ba
   refine aI (by first|exact trivial|exact rfl) ?_
   refine aI ?_ trivial
   refine aI (by first|exact trivial|exact rfl) ?_
   cases a
   exact⟨_,rfl,(nP (nI J) a6)⟩
theorem K0h(h:Hp)(s:Option Addr)(I t:Nat)(j:O1)(J:T1.R h [.slice s I t] j)(r:O1)(e:H03 j=some r):
  Tr Tryz.prog 49 #[.slice s I t] h λv h'=>∃(D:Option Addr) (H E:Nat),v = .slice D H E/\New T1 h h' [.slice D H E] r:=by
 obtain⟨rfl,af⟩:=Sl.len J
 unfold H03 at e
 refine E4 (args:=[.slice s j.length t]) (fn:=Tryz.f49) rfl ?_
 obtain⟨al,Q,e⟩:=B0 e
 refine aI (K0 Q) ?_
 obtain⟨C,T,e⟩:=B0 e
 refine eX { vars:=[11],boxes:=[],owns:=[0],fuel:=true } (eX (λvs os h'=>∃ f l d,vs.tail = [.int .i64 f]/\os = [l]/\Sub h h'/\F0 f/\F2 (I0.R h') l d/\(∃ Bs,F3 (I0.W h') l d Bs/\R4 h Bs.flatten)/\p8 j (N1 vs) f d=some C) (eX (λ_ _=>0) (aI (eX P0 ⟨0,(List.replicate (0:Int).toNat ([.slice none 0 0]:List Value)),(List.replicate (0:Int).toNat ([]:H0)),rfl,rfl,(Sub.refl _),(by decide),(F2.rep (p:=I0.R h) (a:=[.slice none 0 0]) (b:=[]) (E0d Wp.int h) ((0:Int).toNat)),⟨_,(show F3 (I0.W h) (List.replicate (0:Int).toNat ([.slice none 0 0]:List Value)) (List.replicate (0:Int).toNat ([]:H0)) [] from trivial),(R4.nil h)⟩,T⟩) ?_)))
 rintro _ l o X ⟨f,aq,d,⟨⟩,⟨⟩,q,ae,m,⟨ac,z,G⟩,c⟩
 replace c:p8 j o f d=some C:=c
 obtain _|o:=o
 ·cases c
 rw[p8.eq_2]at c
 refine ifB c (λU c=>?_) λU c=>?_
 ·refine ld c (T1.mono q J) λK ad x c=>?_
  obtain⟨L,aj,N,rfl⟩:=Wp.slice_cell x
  obtain⟨rfl,ag⟩:=Sl.len x
  obtain⟨g,i,c⟩:=B0 c
  refine Tr.mono (R05 _ L K.length N K x _  i) ?_
  rintro ap w ⟨i,ak,u,rfl,A⟩
  have k:Sub X w:=A.sub
  have y:=A.r
  obtain⟨rfl,ah⟩:=Sl.len y
  obtain⟨am,S,c⟩:=B0 c
  refine aI (M1 S (by first|rw[F2.length (F2.up (r:=I0.toRp) k m),F2.length (show F2 (I0.R w) ([[.slice (some ⟨i,0,none⟩) g.length u]]:List (List Value)) [g] from⟨y,trivial⟩)]|exact congrArg (·+1) (F2.length (F2.up (r:=I0.toRp) k m)))) ?_
  obtain⟨ab,aa,P,_⟩:=A
  exact V1 o ⟨(IntKind.i64.wrap (f+1)),(l++([[.slice (some ⟨i,0,none⟩) g.length u]]:List (List Value))),(d ++ [g]),rfl,rfl,(q.trans k),(J0 _),(F2.append (F2.up (r:=I0.toRp) k m) (show F2 (I0.R w) ([[.slice (some ⟨i,0,none⟩) g.length u]]:List (List Value)) [g] from⟨y,trivial⟩)),⟨_,(F3.snoc aa (X0h z k)),(E08 z q G P)⟩,c⟩
 ·obtain rfl:=oJ c
  try dsimp only[Q0,T0]at e
  intro Z V F
  have Y:New (Wp.slice I0) h V [Z] d:=(Y0.fresh (r:=I0) F z q G)
  obtain⟨M,O,rfl,an,ao,ai⟩:=Y0.out (r:=I0.toRp) F m
  obtain rfl:=oJ e
  exact⟨M,d.length,O,rfl,Y⟩
def k07(h:Hp)(q:List Value)(z:P1)(ae:Y1.R h q z)(r:P1)(a:m02 z=some r):
  Tr Tryz.prog 109 #[.agg q.toArray] h λv h'=>∃(p:List Value),v = .agg p.toArray/\New Y1 h h' p r:=by
 obtain⟨aS,aU,aq,aK,au,aV,M,aL,P,A,N,aM,Q,C,D,E,O,aN,S,F,aW,rfl,rfl,W,X,G,H,I,Y,Z,J,aa⟩:=Y2 ae
 obtain⟨rfl,aA⟩:=sL G
 obtain⟨rfl,aB⟩:=sL H
 obtain⟨rfl,aC⟩:=sL I
 obtain⟨rfl,aD⟩:=sL J
 unfold m02 at a
 dsimp only at a
 refine wk Tryz.f109 ?_
 refine trM a (K0h _ _ _ _ _ G) ?_
 rintro a1 a aY w ⟨ar,aO,av,rfl,l⟩
 have c:Sub h w:=l.sub
 have af:=l.r
 obtain⟨rfl,aF⟩:=sL af
 obtain⟨a5,t,a⟩:=B0 a
 refine Tr.mono (R05 _ M A.length P A (I0.mono c H) _  t) ?_
 rintro aZ x ⟨t,aQ,ax,rfl,m⟩
 have b:Sub w x:=m.sub
 have ah:=m.r
 obtain⟨rfl,aH⟩:=sL ah
 obtain⟨a6,u,a⟩:=B0 a
 refine Tr.mono (R05 _ N C.length Q C (I0.mono (c.trans b) I) _  u) ?_
 rintro a0 y ⟨u,aR,ay,rfl,o⟩
 have d:Sub x y:=o.sub
 have ai:=o.r
 obtain⟨rfl,aJ⟩:=sL ai
 refine trM a (K8 _ [iV D,iV E,.slice O F.length S] (D,E,F) (C0 Y Z (M0.mono ((c.trans b).trans d) J))) ?_
 rintro al a aX ad ⟨az,aP,aw,rfl,i⟩
 have f:Sub y ad:=i.sub
 have K:=i.r
 obtain⟨a2,a3,a4⟩:=al
 dsimp only at a i K
 obtain⟨_,_,_,_,_,_,T,U,ab,ac,ag⟩:=W0 K
 cases T
 cases U
 obtain⟨rfl,aG⟩:=sL ag
 try dsimp only at a
 have aj:=nD (nD (i))
 cases a
 obtain⟨am,g,V,_⟩:=l
 obtain⟨an,k,s,_⟩:=m
 obtain⟨ao,L,j,_⟩:=o
 obtain⟨ap,ak,e,_⟩:=aj
 exact⟨_,rfl,(NB.fin (NB.pair (NB.int W) (NB.pair (NB.int X) (NB.pair (NB.mk g ((b.trans d).trans f) V sr) (NB.pair (NB.mk k (d.trans f) s c) (NB.pair (NB.mk L f j (c.trans b)) (NB.pair (NB.pair (NB.int ab) (NB.pair (NB.int ac) (NB.mk ak sr e ((c.trans b).trans d)) NB.d0) NB.d0) (NB.int aa) NB.de) (NB.da (NB.da NB.de (NB.da NB.de (NB.dl L sr e))) NB.de)) (NB.da (NB.dl k sr j) (NB.da (NB.da NB.de (NB.da NB.de (NB.dl k d e))) NB.de))) (NB.da (NB.dl g sr s) (NB.da (NB.dl g b j) (NB.da (NB.da NB.de (NB.da NB.de (NB.dl g (b.trans d) e))) NB.de)))) NB.d0) NB.d0) (((c.trans b).trans d).trans f))⟩
def L0d(h:Hp)(L:List Value)(aa:C1)(az:G3.R h L aa)(r:C1)(b:l03 aa=some r):
  Tr Tryz.prog 108 #[.agg L.toArray] h λv h'=>∃(K:List Value),v = .agg K.toArray/\New G3 h h' K r:=by
 obtain⟨bi,aG,a8,aO,ab,rfl,rfl,ao,ac⟩:=I2 az
 obtain⟨rfl,aY⟩:=sL ac
 unfold l03 at b
 dsimp only at b
 refine wk Tryz.f108 ?_
 obtain⟨F,am,b⟩:=B0 b
 refine eX { vars:=[12],boxes:=[2],owns:=[0],nilsB:=[(2,1,32,9,136)] } (eX (λvs os h'=>∃ e f k c,vs.tail = [iV e,iV f]/\os = [k]/\Sub h h'/\F0 e/\F0 f/\F2 (Y1.R h') k c/\(∃ Bs,F3 (Y1.W h') k c Bs/\R4 h Bs.flatten)/\C6 ab (N1 vs) e f c=some F) (eX (λ_ _=>0) (aI (eX P0 ⟨_,_,_,_,rfl,rfl,sr,(by decide),ao,(show F2 (Y1.R h) [] [] from trivial),⟨_,(show F3 (Y1.W h) [] [] [] from trivial),(R4.nil h)⟩,am⟩) ?_)))
 rintro _ _ k i ax ⟨e,f,bA,c,⟨⟩,⟨⟩,j,aX,T,g,⟨aN,D,S⟩,a⟩
 replace a:C6 ab i e f c=some F:=a
 obtain _|i:=i
 ·cases a
 rw[C6.eq_2]at a
 refine ifB a (λan a=>?_) λan a=>?_
 ·obtain⟨bn,al,a⟩:=B0 a
  obtain⟨ah,aP,ai,aA⟩:=Sl.getI (r:=Y1.toRp) (M3.mono j ac) al (by decide)
  refine aI ah ?_
  obtain⟨bo,bp,aH,ba,aR,bq,aJ,bb,aS,br,aK,bc,aU,bs,bt,bu,aL,bd,aV,bv,bx,rfl,rfl,ap,aq,ad,ae,af,ar,au,ag,av⟩:=Y2 aA
  obtain⟨rfl,aZ⟩:=sL ad
  obtain⟨rfl,a0⟩:=sL ae
  obtain⟨rfl,a1⟩:=sL af
  obtain⟨rfl,a2⟩:=sL ag
  try dsimp only at a
  refine eX _ (aI ai ?_)
  refine w3 ?_
  refine aI ?_ trivial
  refine trM a (k07 _ _ _ (Q2 ap aq ad ae af ar au ag av)) ?_
  rintro bz a bm x ⟨aQ,rfl,E⟩
  have d:Sub ax x:=E.sub
  have aB:=E.r
  obtain⟨l,m,G,be,M,o,H,bf,N,p,I,bg,O,q,s,t,J,bh,P,u,w,rfl,rfl,U,V,y,z,A,X,Y,C,Z⟩:=Y2 aB
  obtain⟨rfl,a3⟩:=sL y
  obtain⟨rfl,a4⟩:=sL z
  obtain⟨rfl,a5⟩:=sL A
  obtain⟨rfl,a6⟩:=sL C
  try dsimp only at a
  refine aI (by first|exact trivial|exact rfl) ?_
  refine aI ?_ trivial
  refine aI (by first|exact trivial|exact rfl) ?_
  refine aI ?_ trivial
  obtain⟨bj,ak,a⟩:=B0 a
  refine aI (M1 ak (by first|rw[fL (F2.up (r:=Y1.toRp) d g),fL (show F2 (Y1.R x) ([[iV l,iV m,.slice G o.length M,.slice H p.length N,.slice I q.length O,iV s,iV t,.slice J u.length P,iV w]]:LV) [(l,m,o,p,q,(s,t,u),w)] from⟨(Q2 U V y z A X Y C Z),trivial⟩)]|exact congrArg (·+1) (fL (F2.up (r:=Y1.toRp) d g)))) ?_
  obtain⟨aF,aD,aj,_⟩:=E
  refine aI (by first|exact trivial|exact rfl) ?_
  refine aI ?_ trivial
  refine aI (by first|exact trivial|exact rfl) ?_
  exact V1 i ⟨_,_,_,_,rfl,rfl,(j.trans d),(J0 _),T,(fA (F2.up (r:=Y1.toRp) d g) (show F2 (Y1.R x) ([[iV l,iV m,.slice G o.length M,.slice H p.length N,.slice I q.length O,iV s,iV t,.slice J u.length P,iV w]]:LV) [(l,m,o,p,q,(s,t,u),w)] from⟨(Q2 U V y z A X Y C Z),trivial⟩)),⟨_,(F3.snoc aD (X0h D d)),(E08 D j S aj)⟩,a⟩
 ·cases a
  try dsimp only[Q0,T0]at b
  intro aC aw Q
  have ay:New (Wp.slice Y1) h aw [aC] c:=(Y0.fresh (r:=Y1) Q D j S)
  obtain⟨aM,aW,rfl,bk,bl,a7⟩:=Y0.out (r:=Y1.toRp) Q g
  cases b
  exact⟨_,rfl,(nP (nI T) ay)⟩
def R0i(h:Hp)(aQ:List Value)(a0:C1)(bp:G3.R h aQ a0)(aR:List Value)(a1:P1)(bq:Y1.R h aR a1)(r:C1×Bool)(a:n04 a0 a1=some r):
  Tr Tryz.prog 27 #[.agg aQ.toArray,.agg aR.toArray] h λv h'=>∃(aP:List Value),v = .tuple #[.agg aP.toArray,.bool r.2]/\New G3 h h' aP r.1:=by
 obtain⟨L,aD,ca,aK,M,rfl,rfl,ap,Y⟩:=I2 bp
 obtain⟨rfl,bR⟩:=sL Y
 obtain⟨N,O,aF,cb,aL,P,aG,cc,aM,Q,aH,cd,aN,S,T,U,aJ,ce,aO,V,X,rfl,rfl,E,F,z,A,C,G,H,D,I⟩:=Y2 bq
 obtain⟨rfl,bS⟩:=sL z
 obtain⟨rfl,bU⟩:=sL A
 obtain⟨rfl,bV⟩:=sL C
 obtain⟨rfl,bW⟩:=sL D
 unfold n04 at a
 dsimp only at a
 refine wk Tryz.f27 ?_
 refine trM a (L0d _ _ _ (Q1 ap Y)) ?_
 rintro cA a cy aq ⟨bI,rfl,az⟩
 have b:Sub h aq:=az.sub
 have br:=az.r
 obtain⟨cE,bG,cf,bL,cG,rfl,rfl,J,bs⟩:=I2 br
 obtain⟨rfl,bX⟩:=sL bs
 try dsimp only at a
 have ay:=nD (az)
 rcases New.two ay with⟨rfl,rfl,rfl⟩|⟨bP,cr,rfl⟩
 ·skip
  refine trV a (D04 _ [iV L,.slice aD M.length aK] (L,M) (Q1 ap (M3.mono b Y))) λcI a=>?_
  refine trG a (λq=>O06 _ [iV N,iV O,.slice aF P.length aL,.slice aG Q.length aM,.slice aH S.length aN,iV T,iV U,.slice aJ V.length aO,iV X] (N,O,P,Q,S,(T,U,V),X) (Q2 E F (T1.mono b z) (I0.mono b A) (I0.mono b C) G H (M0.mono b D) I)) λcJ a=>?_
  refine ifB a (λbh a=>?_) λbh a=>?_
  ·cases a
   exact⟨_,rfl,(nP (nI J) ((New.nilSlice (r:=Y1)).mono b))⟩
  ·refine w3 ?_
   refine aI ?_ trivial
   refine trM a (k07 _ _ _ (Q2 E F (T1.mono b z) (I0.mono b A) (I0.mono b C) G H (M0.mono b D) I)) ?_
   rintro cK a cw K ⟨bK,rfl,aB⟩
   have bA:Sub aq K:=aB.sub
   have bu:=aB.r
   obtain⟨c,d,ad,ck,al,e,ae,cl,am,f,af,cm,an,g,i,j,ag,cn,ao,k,l,rfl,rfl,aU,aV,au,av,aw,aW,aX,ax,aY⟩:=Y2 bu
   obtain⟨rfl,b2⟩:=sL au
   obtain⟨rfl,b3⟩:=sL av
   obtain⟨rfl,b5⟩:=sL aw
   obtain⟨rfl,b6⟩:=sL ax
   try dsimp only at a
   refine aI (by first|exact trivial|exact rfl) ?_
   refine aI ?_ trivial
   refine aI (by first|exact trivial|exact rfl) ?_
   refine aI ?_ trivial
   refine Or.inl ?_
   obtain⟨cs,bd,a⟩:=B0 a
   refine aI (M1 bd (fL (show F2 (Y1.R K) ([[iV c,iV d,.slice ad e.length al,.slice ae f.length am,.slice af g.length an,iV i,iV j,.slice ag k.length ao,iV l]]:LV) [(c,d,e,f,g,(i,j,k),l)] from⟨(Q2 aU aV au av aw aW aX ax aY),trivial⟩))) ?_
   obtain⟨a7,bD,bb,_⟩:=aB
   refine aI (by first|exact trivial|exact rfl) ?_
   refine aI ?_ trivial
   refine aI (by first|exact trivial|exact rfl) ?_
   intro bB bn aS
   have bo:New (Wp.slice Y1) h bn [bB] [(c,d,e,f,g,(i,j,k),l)]:=(Y0.fresh (r:=Y1) aS (show F3 (Y1.W K) ([[iV c,iV d,.slice ad e.length al,.slice ae f.length am,.slice af g.length an,iV i,iV j,.slice ag k.length ao,iV l]]:LV) [(c,d,e,f,g,(i,j,k),l)] [a7] from⟨bD,trivial⟩) (b.trans bA) (R4.older b bb))
   obtain⟨bH,bM,rfl,cu,cv,b7⟩:=Y0.out (r:=Y1.toRp) aS (show F2 (Y1.R K) ([[iV c,iV d,.slice ad e.length al,.slice ae f.length am,.slice af g.length an,iV i,iV j,.slice ag k.length ao,iV l]]:LV) [(c,d,e,f,g,(i,j,k),l)] from⟨(Q2 aU aV au av aw aW aX ax aY),trivial⟩)
   cases a
   exact⟨_,rfl,(nP (nI J) bo)⟩
 ·skip
  refine trV a (D04 _ [iV L,.slice aD M.length aK] (L,M) (Q1 ap (M3.mono b Y))) λcC a=>?_
  refine trG a (λq=>O06 _ [iV N,iV O,.slice aF P.length aL,.slice aG Q.length aM,.slice aH S.length aN,iV T,iV U,.slice aJ V.length aO,iV X] (N,O,P,Q,S,(T,U,V),X) (Q2 E F (T1.mono b z) (I0.mono b A) (I0.mono b C) G H (M0.mono b D) I)) λcD a=>?_
  refine ifB a (λbg a=>?_) λbg a=>?_
  ·cases a
   exact⟨_,rfl,(nP (nI J) ay)⟩
  ·refine w3 ?_
   refine aI ?_ trivial
   refine trM a (k07 _ _ _ (Q2 E F (T1.mono b z) (I0.mono b A) (I0.mono b C) G H (M0.mono b D) I)) ?_
   rintro cH a cx ar ⟨bJ,rfl,aA⟩
   have bz:Sub aq ar:=aA.sub
   have bt:=aA.r
   obtain⟨m,o,Z,cg,ah,p,aa,ch,ai,s,ab,ci,aj,t,u,w,ac,cj,ak,x,y,rfl,rfl,bi,bj,a2,a3,a4,bk,bl,a5,bm⟩:=Y2 bt
   obtain⟨rfl,bY⟩:=sL a2
   obtain⟨rfl,bZ⟩:=sL a3
   obtain⟨rfl,b0⟩:=sL a4
   obtain⟨rfl,b1⟩:=sL a5
   try dsimp only at a
   refine aI (by first|exact trivial|exact rfl) ?_
   refine aI ?_ trivial
   refine aI (by first|exact trivial|exact rfl) ?_
   refine aI ?_ trivial
   obtain⟨ct,be,a⟩:=B0 a
   obtain⟨aC,bE,bc,_⟩:=aA
   obtain⟨bC,bv,aZ,a8⟩:=New.app ay bz
   refine eX bC (aI bv (aI (M1 be (by first|rw[aZ,fL (show F2 (Y1.R ar) ([[iV m,iV o,.slice Z p.length ah,.slice aa s.length ai,.slice ab t.length aj,iV u,iV w,.slice ac x.length ak,iV y]]:LV) [(m,o,p,s,t,(u,w,x),y)] from⟨(Q2 bi bj a2 a3 a4 bk bl a5 bm),trivial⟩)]|(rw[aZ];rfl))) ?_))
   intro cz bQ bf
   obtain⟨a6,bO,cq,co,bN,rfl⟩:=a8 ([[iV m,iV o,.slice Z p.length ah,.slice aa s.length ai,.slice ab t.length aj,iV u,iV w,.slice ac x.length ak,iV y]]:LV) [(m,o,p,s,t,(u,w,x),y)] [aC] _ _ (show F3 (Y1.W ar) ([[iV m,iV o,.slice Z p.length ah,.slice aa s.length ai,.slice ab t.length aj,iV u,iV w,.slice ac x.length ak,iV y]]:LV) [(m,o,p,s,t,(u,w,x),y)] [aC] from⟨bE,trivial⟩) (R4.older sr bc) bf
   have bx:=a6.r
   obtain⟨ba,b8⟩:=sL bx
   subst ba
   refine aI (by first|exact trivial|exact rfl) ?_
   refine aI ?_ trivial
   refine aI (by first|exact trivial|exact rfl) ?_
   cases a
   exact⟨_,rfl,(nP (nI J) a6)⟩
def H0b(h:Hp)(j:Option Addr)(o l:Nat)(f:O1)(q:T1.R h [.slice j o l] f)(k:Option Addr)(p m:Nat)(g:O1)(s:T1.R h [.slice k p m] g)(r:Bool)(b:Q7 f g=some r):
  Tr Tryz.prog 59 #[.slice j o l,.slice k p m] h λv h'=>v = .bool r/\h'=h:=by
 obtain⟨rfl,N⟩:=sL q
 obtain⟨rfl,O⟩:=sL s
 unfold Q7 at b
 refine wkF Tryz.f59 ?_
 refine ifB b (λF b=>?_) λF b=>?_
 ·cases b
  exact aI rfl sr
 ·obtain⟨i,E,b⟩:=B0 b
  refine eX { vars:=[5] } (eX (λvs os h'=>∃ d,vs.tail = [iV d]/\os = []/\Sub h h'/\F0 d/\W3 f g (N1 vs) d=some i) (eX (λ_ _=>0) (aI (eX P0 ⟨_,rfl,rfl,sr,(by decide),E⟩) ?_)))
  rintro _ e M ⟨d,⟨⟩,⟨⟩,c,L,a⟩
  replace a:W3 f g e d=some i:=a
  obtain _|e:=e
  ·cases a
  rw[W3.eq_2]at a
  refine ifB a (λH a=>?_) λH a=>?_
  ·refine w1 ?_
   refine ld a (T1.mono c q) λw J t a=>?_
   obtain⟨y,A,rfl,P⟩:=slL t
   refine ld a (T1.mono c s) λx K u a=>?_
   obtain⟨z,C,rfl,Q⟩:=slL u
   obtain⟨I,D,a⟩:=B0 a
   refine eX (.bool I) (aI (z04 _ y w.length A w t z x.length C x u _  D) ?_)
   refine ifB a (λG a=>?_) λG a=>?_
   ·cases a
    try dsimp only[P2,l3]at b
    cases b
    exact aI rfl c
   ·exact V1 e ⟨_,rfl,rfl,c,(J0 _),a⟩
  ·cases a
   try dsimp only[Q0,T0]at b
   cases b
   exact aI rfl c
def c0f(h:Hp)(b:List Value)(d:P1)(U:Y1.R h b d)(c:List Value)(k:P1)(V:Y1.R h c k)(r:Bool)(a:W00 d k=some r):
  Tr Tryz.prog 9 #[.agg b.toArray,.agg c.toArray] h λv h'=>v = .bool r/\h'=h:=by
 obtain⟨ay,az,W,ao,Y,aA,D,ap,J,e,E,aq,K,f,g,i,F,ar,L,j,aB,rfl,rfl,aa,ab,t,u,w,P,Q,x,ac⟩:=Y2 U
 obtain⟨rfl,ag⟩:=sL t
 obtain⟨rfl,ah⟩:=sL u
 obtain⟨rfl,ai⟩:=sL w
 obtain⟨rfl,aj⟩:=sL x
 obtain⟨aC,aD,X,au,Z,aF,G,av,M,l,H,aw,N,m,o,p,I,ax,O,s,aG,rfl,rfl,ad,ae,y,z,A,S,T,C,af⟩:=Y2 V
 obtain⟨rfl,ak⟩:=sL y
 obtain⟨rfl,al⟩:=sL z
 obtain⟨rfl,am⟩:=sL A
 obtain⟨rfl,an⟩:=sL C
 unfold W00 at a
 dsimp only at a
 refine wkF Tryz.f9 ?_
 refine trG a (λq=>H0b _ _ _ _ _ t _ _ _ _ y) λaH a=>?_
 refine trG a (λq=>z04 _ D e.length J e u G l.length M l z) λaJ a=>?_
 refine trG a (λq=>z04 _ E f.length K f w H m.length N m A) λaK a=>?_
 refine trG a (λq=>Z03 _ [iV g,iV i,.slice F j.length L] (g,i,j) (C0 P Q x) [iV o,iV p,.slice I s.length O] (o,p,s) (C0 S T C)) λaL a=>?_
 cases a
 exact aI rfl sr
def G02(h:Hp)(g:List Value)(j:C1)(X:G3.R h g j)(i:List Value)(l:C1)(Y:G3.R h i l)(r:Bool)(b:K3 j l=some r):
  Tr Tryz.prog 29 #[.agg g.toArray,.agg i.toArray] h λv h'=>v = .bool r/\h'=h:=by
 obtain⟨a1,ac,aQ,am,k,rfl,rfl,aA,o⟩:=I2 X
 obtain⟨rfl,aF⟩:=sL o
 obtain⟨a2,ad,aR,an,m,rfl,rfl,aB,p⟩:=I2 Y
 obtain⟨rfl,aG⟩:=sL p
 unfold K3 at b
 dsimp only at b
 refine wkF Tryz.f29 ?_
 refine ifB b (λJ b=>?_) λJ b=>?_
 ·cases b
  exact aI rfl sr
 ·obtain⟨f,I,b⟩:=B0 b
  refine eX { vars:=[5] } (eX (λvs os h'=>∃ d,vs.tail = [iV d]/\os = []/\Sub h h'/\F0 d/\Y3 k m (N1 vs) d=some f) (eX (λ_ _=>0) (aI (eX P0 ⟨_,rfl,rfl,sr,(by decide),I⟩) ?_)))
  rintro _ e aD ⟨d,⟨⟩,⟨⟩,c,aC,a⟩
  replace a:Y3 k m e d=some f:=a
  obtain _|e:=e
  ·cases a
  rw[Y3.eq_2]at a
  refine ifB a (λL a=>?_) λL a=>?_
  ·refine w1 ?_
   obtain⟨a3,F,a⟩:=B0 a
   obtain⟨A,ao,D,Z⟩:=Sl.getI (r:=Y1.toRp) (M3.mono c o) F (by decide)
   refine aI A ?_
   obtain⟨a4,a5,ae,aS,aq,a6,af,aU,ar,a7,ag,aV,au,a8,ba,bb,ah,aW,av,bc,bd,rfl,rfl,M,N,q,s,t,O,P,u,Q⟩:=Y2 Z
   obtain⟨rfl,aH⟩:=sL q
   obtain⟨rfl,aJ⟩:=sL s
   obtain⟨rfl,aK⟩:=sL t
   obtain⟨rfl,aL⟩:=sL u
   try dsimp only at a
   refine eX _ (aI D ?_)
   obtain⟨be,G,a⟩:=B0 a
   obtain⟨C,ap,E,aa⟩:=Sl.getI (r:=Y1.toRp) (M3.mono c p) G (by decide)
   refine aI C ?_
   obtain⟨bf,bg,ai,aX,aw,bh,aj,aY,ax,bi,ak,aZ,ay,bj,bk,bl,al,a0,az,bm,bn,rfl,rfl,S,T,w,x,y,U,V,z,W⟩:=Y2 aa
   obtain⟨rfl,aM⟩:=sL w
   obtain⟨rfl,aN⟩:=sL x
   obtain⟨rfl,aO⟩:=sL y
   obtain⟨rfl,aP⟩:=sL z
   try dsimp only at a
   refine eX _ (aI E ?_)
   obtain⟨ab,H,a⟩:=B0 a
   refine eX (.bool ab) (aI (c0f _ _ _ (Q2 M N q s t O P u Q) _ _ (Q2 S T w x y U V z W) _  H) ?_)
   refine ifB a (λK a=>?_) λK a=>?_
   ·cases a
    try dsimp only[P2,l3]at b
    cases b
    exact aI rfl c
   ·exact V1 e ⟨_,rfl,rfl,c,(J0 _),a⟩
  ·cases a
   try dsimp only[Q0,T0]at b
   cases b
   exact aI rfl c
def S0i(h:Hp)(o:List Value)(t:C1)(G:G3.R h o t)(f:Int)(ad:F0 f)(r:H0)(c:P01 t f=some r):
  Tr Tryz.prog 39 #[.agg o.toArray,iV f] h λv h'=>∃(l:Option Addr) (s m:Nat),v = .slice l s m/\I0.R h' [.slice l s m] r/\Sub h h':=by
 obtain⟨ax,O,aq,V,u,rfl,rfl,ac,w⟩:=I2 G
 obtain⟨rfl,ak⟩:=sL w
 unfold P01 at c
 dsimp only at c
 refine wk Tryz.f39 ?_
 obtain⟨k,D,c⟩:=B0 c
 refine eX { vars:=[6],owns:=[0] } (eX (λvs os h'=>∃ b j i,vs.tail = [iV b]/\os = [j]/\Sub h h'/\F0 b/\F2 (Wp.int.R h') j i/\W5 u f (N1 vs) b i=some k) (eX (λ_ _=>0) (aI (eX P0 ⟨_,_,_,rfl,rfl,sr,(by decide),(show F2 (Wp.int.R h) ([]:LV) ([]:H0) from trivial),D⟩) ?_)))
 rintro _ j e q ⟨b,aM,i,⟨⟩,⟨⟩,g,p,d,a⟩
 replace a:W5 u f e b i=some k:=a
 obtain _|e:=e
 ·cases a
 rw[W5.eq_2]at a
 refine ifB a (λE a=>?_) λE a=>?_
 ·obtain⟨aA,C,a⟩:=B0 a
  obtain⟨x,W,y,H⟩:=Sl.getI (r:=Y1.toRp) (M3.mono g w) C (by decide)
  refine aI x ?_
  obtain⟨aB,aC,P,ar,X,aD,Q,au,Y,aF,S,av,Z,aG,aH,aJ,T,aw,aa,aK,aL,rfl,rfl,ae,af,I,J,K,ag,ah,L,ai⟩:=Y2 H
  obtain⟨rfl,al⟩:=sL I
  obtain⟨rfl,am⟩:=sL J
  obtain⟨rfl,an⟩:=sL K
  obtain⟨rfl,ao⟩:=sL L
  try dsimp only at a
  refine eX _ (aI y ?_)
  refine ifB a (λF a=>?_) λF a=>?_
  ·obtain⟨ay,A,a⟩:=B0 a
   refine aI (M1 A (by first|rw[fL d,fL (show F2 (Wp.int.R q) ([[iV b]]:LV) [b] from⟨⟨rfl,p⟩,trivial⟩)]|exact congrArg (·+1) (fL d))) ?_
   exact V1 e ⟨_,_,_,rfl,rfl,g,(J0 _),(fA d (show F2 (Wp.int.R q) ([[iV b]]:LV) [b] from⟨⟨rfl,p⟩,trivial⟩)),a⟩
  ·exact V1 e ⟨_,_,_,rfl,rfl,g,(J0 _),d,a⟩
 ·cases a
  try dsimp only[Q0,T0]at c
  intro az aj z
  obtain⟨U,ab,rfl,M,N,ap⟩:=Y0.out (r:=Wp.int.toRp) z d
  cases c
  exact⟨_,_,_,rfl,M,(g.trans N)⟩
def Y08(h:Hp)(b:Int)(d:F0 b)(r:C1×Bool)(a:X00 b=some r):
  Tr Tryz.prog 35 #[iV b] h λv h'=>∃(c:List Value),v = .tuple #[.agg c.toArray,.bool r.2]/\New G3 h h' c r.1:=by
 unfold X00 at a
 refine wk Tryz.f35 ?_
 refine trV a (Q4 _ b d 1 (by decide) 3 (by decide)) λf a=>?_
 refine ifB a (λe a=>?_) λe a=>?_
 ·cases a
  exact⟨_,rfl,(nP (nI (show F0 (0) from(by decide))) ((New.nilSlice (r:=Y1)).mono sr))⟩
 ·cases a
  exact⟨_,rfl,(nP (nI d) ((New.nilSlice (r:=Y1)).mono sr))⟩
def I0b(h:Hp)(j:Option Addr)(o l:Nat)(f:O1)(q:T1.R h [.slice j o l] f)(k:Option Addr)(p m:Nat)(g:O1)(s:T1.R h [.slice k p m] g)(r:Bool)(b:L00 f g=some r):
  Tr Tryz.prog 104 #[.slice j o l,.slice k p m] h λv h'=>v = .bool r/\h'=h:=by
 obtain⟨rfl,L⟩:=sL q
 obtain⟨rfl,M⟩:=sL s
 unfold L00 at b
 refine wkF Tryz.f104 ?_
 refine ifB b (λy b=>?_) λy b=>?_
 ·cases b
  exact aI rfl sr
 ·obtain⟨i,x,b⟩:=B0 b
  refine eX { vars:=[13] } (eX (λvs os h'=>∃ d,vs.tail = [iV d]/\os = []/\Sub h h'/\F0 d/\O6 f g (N1 vs) d=some i) (eX (λ_ _=>0) (aI (eX P0 ⟨_,rfl,rfl,sr,(by decide),x⟩) ?_)))
  rintro _ e K ⟨d,⟨⟩,⟨⟩,c,J,a⟩
  replace a:O6 f g e d=some i:=a
  obtain _|e:=e
  ·cases a
  rw[O6.eq_2]at a
  refine ifB a (λA a=>?_) λA a=>?_
  ·refine w1 ?_
   refine ld a (T1.mono c q) λP F t a=>?_
   obtain⟨D,H,rfl,N⟩:=slL t
   refine ld a (T1.mono c s) λQ G u a=>?_
   obtain⟨E,I,rfl,O⟩:=slL u
   obtain⟨C,w,a⟩:=B0 a
   refine eX (.bool C) (aI (A04 _ _ _ _ _ t _ _ _ _ u _  w) ?_)
   refine ifB a (λz a=>?_) λz a=>?_
   ·cases a
    try dsimp only[P2,l3]at b
    cases b
    exact aI rfl c
   ·exact V1 e ⟨_,rfl,rfl,c,(J0 _),a⟩
  ·cases a
   try dsimp only[Q0,T0]at b
   cases b
   exact aI rfl c
def d0f(h:Hp)(b:List Value)(d:P1)(w:Y1.R h b d)(c:List Value)(e:P1)(x:Y1.R h c e)(r:Bool)(a:C02 d e=some r):
  Tr Tryz.prog 23 #[.agg b.toArray,.agg c.toArray] h λv h'=>v = .bool r/\h'=h:=by
 obtain⟨am,an,y,ae,H,ao,z,af,I,ap,A,ag,J,aq,ar,au,C,ah,K,av,aw,rfl,rfl,P,Q,f,g,i,p,s,j,S⟩:=Y2 w
 obtain⟨rfl,W⟩:=sL f
 obtain⟨rfl,X⟩:=sL g
 obtain⟨rfl,Y⟩:=sL i
 obtain⟨rfl,Z⟩:=sL j
 obtain⟨ax,ay,D,ai,L,az,E,aj,M,aA,F,ak,N,aB,aC,aD,G,al,O,aF,aG,rfl,rfl,T,U,k,l,m,t,u,o,V⟩:=Y2 x
 obtain⟨rfl,aa⟩:=sL k
 obtain⟨rfl,ab⟩:=sL l
 obtain⟨rfl,ac⟩:=sL m
 obtain⟨rfl,ad⟩:=sL o
 unfold C02 at a
 dsimp only at a
 refine wkF Tryz.f23 ?_
 refine trG a (λq=>I0b _ _ _ _ _ f _ _ _ _ k) λaH a=>?_
 refine trG a (λq=>A04 _ _ _ _ _ g _ _ _ _ l) λaJ a=>?_
 refine trG a (λq=>A04 _ _ _ _ _ i _ _ _ _ m) λaK a=>?_
 refine trG a (λq=>Z05 _ _ _ (C0 p s j) _ _ (C0 t u o)) λaL a=>?_
 cases a
 exact aI rfl sr
def J0b(h:Hp)(g:List Value)(j:C1)(X:G3.R h g j)(i:List Value)(l:C1)(Y:G3.R h i l)(r:Bool)(b:M00 j l=some r):
  Tr Tryz.prog 44 #[.agg g.toArray,.agg i.toArray] h λv h'=>v = .bool r/\h'=h:=by
 obtain⟨a1,ac,aQ,am,k,rfl,rfl,aA,o⟩:=I2 X
 obtain⟨rfl,aF⟩:=sL o
 obtain⟨a2,ad,aR,an,m,rfl,rfl,aB,p⟩:=I2 Y
 obtain⟨rfl,aG⟩:=sL p
 unfold M00 at b
 dsimp only at b
 refine wkF Tryz.f44 ?_
 refine ifB b (λJ b=>?_) λJ b=>?_
 ·cases b
  exact aI rfl sr
 ·obtain⟨f,I,b⟩:=B0 b
  refine eX { vars:=[23] } (eX (λvs os h'=>∃ d,vs.tail = [iV d]/\os = []/\Sub h h'/\F0 d/\P6 k m (N1 vs) d=some f) (eX (λ_ _=>0) (aI (eX P0 ⟨_,rfl,rfl,sr,(by decide),I⟩) ?_)))
  rintro _ e aD ⟨d,⟨⟩,⟨⟩,c,aC,a⟩
  replace a:P6 k m e d=some f:=a
  obtain _|e:=e
  ·cases a
  rw[P6.eq_2]at a
  refine ifB a (λL a=>?_) λL a=>?_
  ·refine w1 ?_
   obtain⟨a3,F,a⟩:=B0 a
   obtain⟨A,ao,D,Z⟩:=Sl.getI (r:=Y1.toRp) (M3.mono c o) F (by decide)
   refine aI A ?_
   obtain⟨a4,a5,ae,aS,aq,a6,af,aU,ar,a7,ag,aV,au,a8,ba,bb,ah,aW,av,bc,bd,rfl,rfl,M,N,q,s,t,O,P,u,Q⟩:=Y2 Z
   obtain⟨rfl,aH⟩:=sL q
   obtain⟨rfl,aJ⟩:=sL s
   obtain⟨rfl,aK⟩:=sL t
   obtain⟨rfl,aL⟩:=sL u
   try dsimp only at a
   refine eX _ (aI D ?_)
   obtain⟨be,G,a⟩:=B0 a
   obtain⟨C,ap,E,aa⟩:=Sl.getI (r:=Y1.toRp) (M3.mono c p) G (by decide)
   refine aI C ?_
   obtain⟨bf,bg,ai,aX,aw,bh,aj,aY,ax,bi,ak,aZ,ay,bj,bk,bl,al,a0,az,bm,bn,rfl,rfl,S,T,w,x,y,U,V,z,W⟩:=Y2 aa
   obtain⟨rfl,aM⟩:=sL w
   obtain⟨rfl,aN⟩:=sL x
   obtain⟨rfl,aO⟩:=sL y
   obtain⟨rfl,aP⟩:=sL z
   try dsimp only at a
   refine eX _ (aI E ?_)
   obtain⟨ab,H,a⟩:=B0 a
   refine eX (.bool ab) (aI (d0f _ _ _ (Q2 M N q s t O P u Q) _ _ (Q2 S T w x y U V z W) _  H) ?_)
   refine ifB a (λK a=>?_) λK a=>?_
   ·cases a
    try dsimp only[P2,l3]at b
    cases b
    exact aI rfl c
   ·exact V1 e ⟨_,rfl,rfl,c,(J0 _),a⟩
  ·cases a
   try dsimp only[Q0,T0]at b
   cases b
   exact aI rfl c
def T0i(h:Hp)(o:List Value)(t:C1)(G:G3.R h o t)(f:Int)(ad:F0 f)(r:H0)(c:R02 t f=some r):
  Tr Tryz.prog 38 #[.agg o.toArray,iV f] h λv h'=>∃(l:Option Addr) (s m:Nat),v = .slice l s m/\I0.R h' [.slice l s m] r/\Sub h h':=by
 obtain⟨ax,O,aq,V,u,rfl,rfl,ac,w⟩:=I2 G
 obtain⟨rfl,ak⟩:=sL w
 unfold R02 at c
 dsimp only at c
 refine wk Tryz.f38 ?_
 obtain⟨k,D,c⟩:=B0 c
 refine eX { vars:=[12],owns:=[0] } (eX (λvs os h'=>∃ b j i,vs.tail = [iV b]/\os = [j]/\Sub h h'/\F0 b/\F2 (Wp.int.R h') j i/\j9 u f (N1 vs) b i=some k) (eX (λ_ _=>0) (aI (eX P0 ⟨_,_,_,rfl,rfl,sr,(by decide),(show F2 (Wp.int.R h) ([]:LV) ([]:H0) from trivial),D⟩) ?_)))
 rintro _ j e q ⟨b,aM,i,⟨⟩,⟨⟩,g,p,d,a⟩
 replace a:j9 u f e b i=some k:=a
 obtain _|e:=e
 ·cases a
 rw[j9.eq_2]at a
 refine ifB a (λE a=>?_) λE a=>?_
 ·obtain⟨aA,C,a⟩:=B0 a
  obtain⟨x,W,y,H⟩:=Sl.getI (r:=Y1.toRp) (M3.mono g w) C (by decide)
  refine aI x ?_
  obtain⟨aB,aC,P,ar,X,aD,Q,au,Y,aF,S,av,Z,aG,aH,aJ,T,aw,aa,aK,aL,rfl,rfl,ae,af,I,J,K,ag,ah,L,ai⟩:=Y2 H
  obtain⟨rfl,al⟩:=sL I
  obtain⟨rfl,am⟩:=sL J
  obtain⟨rfl,an⟩:=sL K
  obtain⟨rfl,ao⟩:=sL L
  try dsimp only at a
  refine eX _ (aI y ?_)
  refine ifB a (λF a=>?_) λF a=>?_
  ·obtain⟨ay,A,a⟩:=B0 a
   refine aI (M1 A (by first|rw[fL d,fL (show F2 (Wp.int.R q) ([[iV b]]:LV) [b] from⟨⟨rfl,p⟩,trivial⟩)]|exact congrArg (·+1) (fL d))) ?_
   exact V1 e ⟨_,_,_,rfl,rfl,g,(J0 _),(fA d (show F2 (Wp.int.R q) ([[iV b]]:LV) [b] from⟨⟨rfl,p⟩,trivial⟩)),a⟩
  ·exact V1 e ⟨_,_,_,rfl,rfl,g,(J0 _),d,a⟩
 ·cases a
  try dsimp only[Q0,T0]at c
  intro az aj z
  obtain⟨U,ab,rfl,M,N,ap⟩:=Y0.out (r:=Wp.int.toRp) z d
  cases c
  exact⟨_,_,_,rfl,M,(g.trans N)⟩
def e0f(h:Hp)(b:Int)(d:F0 b)(r:C1×Bool)(a:D02 b=some r):
  Tr Tryz.prog 34 #[iV b] h λv h'=>∃(c:List Value),v = .tuple #[.agg c.toArray,.bool r.2]/\New G3 h h' c r.1:=by
 unfold D02 at a
 refine wk Tryz.f34 ?_
 refine trV a (p6 _ _ d 1 (by decide) 3 (by decide)) λf a=>?_
 refine ifB a (λe a=>?_) λe a=>?_
 ·cases a
  exact⟨_,rfl,(nP (nI (show F0 (0) from(by decide))) ((New.nilSlice (r:=Y1)).mono sr))⟩
 ·cases a
  exact⟨_,rfl,(nP (nI d) ((New.nilSlice (r:=Y1)).mono sr))⟩
end Go.Proofs.YtcpjomkcdlggaaaGreat
