/- Texts of the claim, joined: The walks of batch bs1 and others. -/
import Derived.Test.YtkjhghloldgioaaGreatPart18
import Derived.Test.YtkjhghloldgioaaGreatChecked
import Derived.Test.YtkjhghloldgioaaGreatH35
import Derived.Test.YtkjhghloldgioaaGreatPart26
import Derived.Test.YtkjhghloldgioaaGreatPart21
import Derived.Test.YtkjhghloldgioaaGreatSE
import Derived.Test.YtkjhghloldgioaaGreatH40
import Derived.Test.YtkjhghloldgioaaGreatH41
import Derived.Test.YtkjhghloldgioaaGreatPart17
import Derived.Test.YtkjhghloldgioaaGreatH36
namespace Go.Proofs.YtkjhghloldgioaaGreat
open Go.H
set_option linter.unusedVariables false
set_option linter.unusedSimpArgs false
set_option maxRecDepth 10000
set_option maxHeartbeats 0
theorem t0h(h:Hp)(X:List Value)(ac:j0)(bh:C1.R h X ac)(r:K0)(d:u03 ac=some r):
  Tr Tryz.prog 296 #[.agg X.toArray] h λv f=>∃(U:Option Addr) (ab W:Nat),v = .slice U ab W/\I0.R f [.slice U ab W] r/\Sub h f:=by
 obtain⟨z,A,am,ca,ay,B,rfl,rfl,K,aa,N⟩:=C0 bh
 obtain⟨rfl,b0⟩:=Sl.len N
 unfold u03 at d
 dsimp only at d
 refine A2 (args:=[.agg #[.int .i64 z,.int .i64 A,.slice am B.length ay]]) (fn:=Tryz.f296) rfl ?_
 refine trV d (I7 _ _ _ (l0 K aa N)) λcx d=>?_
 refine ifB d (λaY d=>?_) λaY d=>?_
 ·intro cs bK aL
  obtain⟨aq,aC,rfl,bp,bs,b8⟩:=Z0.out (r:=E1.toRp) aL (show F2 (E1.R h) ([]:List (List Value)) ([]:K0) from trivial)
  obtain rfl:=oJ d
  exact⟨aq,(([]:K0)).length,aC,rfl,bp,bs⟩
 ·refine trM d (L03 _ _ K) ?_
  rintro s d cw bf ⟨V,cc,Y,rfl,D,I⟩
  obtain⟨rfl,b4⟩:=Sl.len D
  obtain⟨S,aW,d⟩:=z0 d
  refine eX { vars:=[3,6],boxes:=[],owns:=[1],fuel:=true,pubs:=[3,9] } (eX (λvs os f=>∃(t:Option Addr) (L w:Nat) (o:K0) (k:Int) (F:List (List Value)) (E:List Int),vs.tail = [.slice t L w,.int .i64 k]/\os = [F]/\Sub bf f/\I0.R f [.slice t L w] o/\J0 k/\F2 (Wp.int.R f) F E/\g00 s z A B (Z1 vs) o k E=some S) (eX (λ_ _=>0) ?_))
  intro cr bI aJ
  obtain⟨ap,aB,rfl,bn,ah,b6⟩:=Z0.out (r:=E1.toRp) aJ (F2.up (r:=E1.toRp) I (show F2 (E1.R h) ([]:List (List Value)) ([]:K0) from trivial))
  refine aI (eX T0 ⟨ap,(([]:K0)).length,aB,([]:K0),0,([[.int .i64 0]]:List (List Value)),[0],rfl,rfl,ah,bn,(by decide),(F2.up (r:=Wp.int.toRp) (I.trans ah) (show F2 (Wp.int.R h) ([[.int .i64 0]]:List (List Value)) [0] from⟨⟨rfl,(by decide)⟩,trivial⟩)),aW⟩) ?_
  rintro _ _ F H be ⟨t,L,w,o,k,cC,E,⟨⟩,⟨⟩,n,O,bE,Z,c⟩
  replace c:g00 s z A B H o k E=some S:=c
  obtain _|H:=H
  ·cases c
  rw[g00.eq_2]at c
  obtain⟨rfl,b1⟩:=Sl.len O
  obtain⟨bg,aM,c⟩:=z0 c
  obtain rfl:F.length=bg:=(F2.length Z).trans (oJ aM)
  obtain⟨ce,bD,c⟩:=z0 c
  refine ifB c (λaZ c=>?_) λaZ c=>?_
  ·obtain⟨T,aX,c⟩:=z0 c
   refine eX { vars:=[3,7],boxes:=[],owns:=[1],fuel:=true } (eX (λvs os f=>∃ u M x l g p m,vs.tail = [.slice u M x,.int .i64 g]/\os = [p]/\Sub be f/\I0.R f [.slice u M x] l/\J0 g/\F2 (Wp.int.R f) p m/\S6 s k z A B (Z1 vs) l g m=some T) (eX (λ_ _=>0) (aI (eX T0 ⟨t,o.length,w,o,0,F,E,rfl,rfl,(Sub.refl _),O,(by decide),Z,aX⟩) ?_)))
   rintro _ _ p q y ⟨u,M,x,l,g,cD,m,⟨⟩,⟨⟩,i,C,bF,e,a⟩
   replace a:S6 s k z A B q l g m=some T:=a
   obtain _|q:=q
   ·cases a
   rw[S6.eq_2]at a
   obtain⟨rfl,b2⟩:=Sl.len C
   refine ifB a (λa0 a=>?_) λa0 a=>?_
   ·refine Or.inl (aI (aI (by kernel_rfl) (by kernel_rfl)) ?_)
    obtain⟨cy,aP,a⟩:=z0 a
    obtain⟨ar,bv,aD,bi⟩:=J5 e aP
    refine aI ar ?_
    obtain⟨rfl,a4⟩:=bi
    refine eX _ (aI aD ?_)
    refine ldI a (D0.mono (n.trans i) D) λcz ba a=>?_
    obtain⟨b,aQ,a⟩:=z0 a
    refine eX (.int .i64 b) (aI (G00 _ _ _ (l0 K aa (I0.mono ((I.trans n).trans i) N)) _ a4 _ ba _  aQ) ?_)
    obtain⟨cf,aN,a⟩:=z0 a
    have j:J0 b:=E2 aN
    obtain⟨bt,aR,a⟩:=z0 a
    refine eX (.bool bt) (aI ?_ ?_)
    ·intro a3
     intro ct bJ aK
     obtain⟨bu,bC,rfl,bo,cq,b7⟩:=Z0.out (r:=Wp.int.toRp) aK e
     exact K03 _ _ _ _ _ bo _ j _ (T7 aR a3)
    refine ifB a (λa1 a=>?_) λa1 a=>?_
    ·exact L2 q ⟨u,l.length,x,l,(IntKind.i64.wrap (g+1)),p,m,rfl,rfl,i,C,(M0 _),e,a⟩
    ·obtain⟨cg,aO,a⟩:=z0 a
     refine aI (P1 aO (by first|rw[F2.length e,F2.length (show F2 (Wp.int.R y) ([[.int .i64 b]]:List (List Value)) [b] from⟨⟨rfl,j⟩,trivial⟩)]|exact congrArg (·+1) (F2.length e))) ?_
     refine ldI a (D0.mono (n.trans i) D) λcA bG a=>?_
     refine ifB a (λa2 a=>?_) λa2 a=>?_
     ·refine Or.inr (Or.inr (Or.inr (Or.inr (eX 11 (aI (aI (by kernel_rfl) (by kernel_rfl)) ?_)))))
      obtain⟨ai,aS,a⟩:=z0 a
      obtain⟨au,bx,aE,bj⟩:=J5 (F2.append e (show F2 (Wp.int.R y) ([[.int .i64 b]]:List (List Value)) [b] from⟨⟨rfl,j⟩,trivial⟩)) aS
      obtain⟨rfl,bb⟩:=bj
      refine Or.inl ?_
      apply eX
      refine aI ?_ ?_
      ·intro bL ch
       exact aI au (aI rfl (aI rfl rfl))
      refine Or.inl (eX (.val (.int .i64 ai)) (aI ?_ ?_))
      ·intro bM ci
       exact eX _ (aI aE (aI rfl (aI rfl rfl)))
      obtain⟨aj,aT,a⟩:=z0 a
      obtain⟨av,bz,aF,bk⟩:=Sl.getI (r:=Wp.int.toRp) (D0.mono (n.trans i) D) aT (by decide)
      obtain⟨rfl,bc⟩:=bk
      refine Or.inl (eX (.hel (.slice V s.length Y) g 1 0) (aI ?_ ?_))
      ·intro bN cj
       exact aI av (aI rfl (aI rfl rfl))
      refine Or.inl (eX (.val (.int .i64 aj)) (aI ?_ ?_))
      ·intro bO bq
       exact eX _ (aI (Z9.up bq aF) (aI rfl (aI rfl rfl)))
      refine Or.inl (eX (.agg [.val (.int .i64 ai),.val (.int .i64 aj),.val (.int .i64 b)]) (aI ?_ ?_))
      ·intro bP ck
       exact aI rfl (aI rfl rfl)
      intro bQ P
      refine trM a (R01 _ _ _ _ _ (I0.mono P C) _ _ (M1 bb bc j)) ?_
      rintro ak a cu bR ⟨an,cb,az,rfl,ad,af⟩
      obtain⟨rfl,b3⟩:=Sl.len ad
      exact L2 q ⟨an,ak.length,az,ak,(IntKind.i64.wrap (g+1)),(p++([[.int .i64 b]]:List (List Value))),(m ++ [b]),rfl,rfl,((i.trans P).trans af),ad,(M0 _),(F2.up (r:=Wp.int.toRp) (P.trans af) (F2.append e (show F2 (Wp.int.R y) ([[.int .i64 b]]:List (List Value)) [b] from⟨⟨rfl,j⟩,trivial⟩))),a⟩
     ·refine Or.inr (Or.inr (Or.inr (Or.inr (eX 12 (aI (aI (by kernel_rfl) (by kernel_rfl)) ?_)))))
      obtain⟨G,aU,a⟩:=z0 a
      obtain⟨aw,bA,aG,bl⟩:=Sl.getI (r:=Wp.int.toRp) (D0.mono (n.trans i) D) aU (by decide)
      obtain⟨rfl,bH⟩:=bl
      refine Or.inl (eX (.hel (.slice V s.length Y) g 1 0) (aI ?_ ?_))
      ·intro bS cl
       exact aI aw (aI rfl (aI rfl rfl))
      refine Or.inl (eX (.val (.int .i64 G)) (aI ?_ ?_))
      ·intro bT br
       exact eX _ (aI (Z9.up br aG) (aI rfl (aI rfl rfl)))
      refine Or.inl (eX (.val (.int .i64 (IntKind.i64.wrap (0-G)))) (aI ?_ ?_))
      ·intro bU cm
       exact aI rfl (aI rfl rfl)
      obtain⟨J,aV,a⟩:=z0 a
      obtain⟨ax,bB,aH,bm⟩:=J5 (F2.append e (show F2 (Wp.int.R y) ([[.int .i64 b]]:List (List Value)) [b] from⟨⟨rfl,j⟩,trivial⟩)) aV
      obtain⟨rfl,bd⟩:=bm
      refine Or.inl ?_
      apply eX
      refine aI ?_ ?_
      ·intro bV cn
       exact aI ax (aI rfl (aI rfl rfl))
      refine Or.inl (eX (.val (.int .i64 J)) (aI ?_ ?_))
      ·intro bW co
       exact eX _ (aI aH (aI rfl (aI rfl rfl)))
      refine Or.inl (eX (.agg [.val (.int .i64 b),.val (.int .i64 (IntKind.i64.wrap (0-G))),.val (.int .i64 J)]) (aI ?_ ?_))
      ·intro bX cp
       exact aI rfl (aI rfl rfl)
      intro bY Q
      refine trM a (R01 _ _ _ _ _ (I0.mono Q C) [.int .i64 b,.int .i64 (IntKind.i64.wrap (0-G)),.int .i64 J] (b,(IntKind.i64.wrap (0-G)),J) (M1 j (M0 _) bd)) ?_
      rintro al a cv bZ ⟨ao,cd,aA,rfl,ae,ag⟩
      obtain⟨rfl,b5⟩:=Sl.len ae
      exact L2 q ⟨ao,al.length,aA,al,(IntKind.i64.wrap (g+1)),(p++([[.int .i64 b]]:List (List Value))),(m ++ [b]),rfl,rfl,((i.trans Q).trans ag),ae,(M0 _),(F2.up (r:=Wp.int.toRp) (Q.trans ag) (F2.append e (show F2 (Wp.int.R y) ([[.int .i64 b]]:List (List Value)) [b] from⟨⟨rfl,j⟩,trivial⟩))),a⟩
   ·obtain rfl:=oJ a
    try dsimp only[U0,Y0]at c
    exact L2 H ⟨u,l.length,x,l,(IntKind.i64.wrap (k+1)),p,m,rfl,rfl,(n.trans i),C,(M0 _),e,c⟩
  ·obtain rfl:=oJ c
   try dsimp only[U0,Y0]at d
   obtain rfl:=oJ d
   exact⟨t,o.length,w,rfl,O,(I.trans n)⟩
theorem a0d(h:Hp)(G:List Value)(Q:j0)(an:C1.R h G Q)(r:K0)(e:K01 Q=some r):
  Tr Tryz.prog 213 #[.agg G.toArray] h λv f=>∃(E:Option Addr) (P F:Nat),v = .slice E P F/\I0.R f [.slice E P F] r/\Sub h f:=by
 obtain⟨A,B,Z,aN,ab,p,rfl,rfl,J,K,s⟩:=C0 an
 obtain⟨rfl,aK⟩:=Sl.len s
 unfold K01 at e
 dsimp only at e
 refine A2 (args:=[.agg #[.int .i64 A,.int .i64 B,.slice Z p.length ab]]) (fn:=Tryz.f213) rfl ?_
 refine trM e (t0h _ _ _ (l0 J K s)) ?_
 rintro z e aR O ⟨av,aO,az,rfl,S,y⟩
 obtain⟨rfl,aL⟩:=Sl.len S
 obtain⟨D,ai,e⟩:=z0 e
 refine eX { vars:=[5],boxes:=[],owns:=[0],fuel:=true } (eX (λvs os f=>∃ d u i,vs.tail = [.int .i64 d]/\os = [u]/\Sub O f/\J0 d/\F2 (E1.R f) u i/\V5 p A B z (Z1 vs) d i=some D) (eX (λ_ _=>0) (aI (eX T0 ⟨0,[],([]:K0),rfl,rfl,(Sub.refl _),(by decide),(show F2 (E1.R O) ([]:List (List Value)) ([]:K0) from trivial),ai⟩) ?_)))
 rintro _ u o am ⟨d,aW,i,⟨⟩,⟨⟩,g,aB,n,a⟩
 replace a:V5 p A B z o d i=some D:=a
 obtain _|o:=o
 ·cases a
 rw[V5.eq_2]at a
 refine trG a (λq=>I7 _ _ _ (l0 J K (I0.mono (y.trans g) s))) λaV a=>?_
 refine ifB a (λaj a=>?_) λaj a=>?_
 ·obtain⟨C,ah,a⟩:=z0 a
  refine eX { vars:=[6,7],boxes:=[],owns:=[],fuel:=true } (eX (λvs os f=>∃ t j,vs.tail = [.bool t,.int .i64 j]/\os = []/\Sub am f/\J0 j/\V6 z p d (Z1 vs) t j=some C) (eX (λ_ _=>0) (aI (eX T0 ⟨false,0,rfl,rfl,(Sub.refl _),(by decide),ah⟩) ?_)))
  rintro _ _ x w ⟨t,j,⟨⟩,⟨⟩,c,aA,b⟩
  replace b:V6 z p d x t j=some C:=b
  obtain _|x:=x
  ·cases b
  rw[V6.eq_2]at b
  refine ifB b (λak b=>?_) λak b=>?_
  ·refine Or.inl (aI (aI (by kernel_rfl) (by kernel_rfl)) ?_)
   obtain⟨aS,af,b⟩:=z0 b
   obtain⟨aw,H,ao⟩:=Sl.getG (r:=E1.toRp) (I0.mono (g.trans c) S) af (by decide) (H0d w)
   refine aI (λq=>(H q).1) ?_
   obtain⟨T,U,V,rfl,rfl,aC,aD,aE⟩:=U1 ao
   try dsimp only at b
   refine eX _ (aI (λq=>(H q).2) ?_)
   obtain⟨aT,ag,b⟩:=z0 b
   obtain⟨ax,I,ap⟩:=Sl.getG (r:=E1.toRp) (I0.mono ((y.trans g).trans c) s) ag (by decide) (H0d w)
   refine aI (λq=>(I q).1) ?_
   obtain⟨W,X,Y,rfl,rfl,aF,aG,aH⟩:=U1 ap
   try dsimp only at b
   refine eX _ (aI (λq=>(I q).2) ?_)
   refine eX (eqE (T,U,V) (W,X,Y)) (aI (λ_=>(x0f _ _ _ rfl _ _ _ _ _ _)) ?_)
   exact L2 x ⟨(bif t then true else(eqE (T,U,V) (W,X,Y))),(IntKind.i64.wrap (j+1)),rfl,rfl,c,(M0 _),b⟩
  ·obtain rfl:=oJ b
   try dsimp only[U0,Y0]at a
   refine ifB a (λal a=>?_) λal a=>?_
   ·refine ld a (I0.mono ((y.trans g).trans c) s) λaU ay aq a=>?_
    obtain⟨k,l,m,rfl,rfl,L,M,N⟩:=U1 aq
    try dsimp only at a
    obtain⟨aP,ae,a⟩:=z0 a
    refine aI (P1 ae (by first|rw[F2.length (F2.up (r:=E1.toRp) c n),F2.length (show F2 (E1.R w) ([[.int .i64 k,.int .i64 l,.int .i64 m]]:List (List Value)) [(k,l,m)] from⟨(M1 L M N),trivial⟩)]|exact congrArg (·+1) (F2.length (F2.up (r:=E1.toRp) c n)))) ?_
    exact L2 o ⟨(IntKind.i64.wrap (d+1)),(u++([[.int .i64 k,.int .i64 l,.int .i64 m]]:List (List Value))),(i ++ [(k,l,m)]),rfl,rfl,(g.trans c),(M0 _),(F2.append (F2.up (r:=E1.toRp) c n) (show F2 (E1.R w) ([[.int .i64 k,.int .i64 l,.int .i64 m]]:List (List Value)) [(k,l,m)] from⟨(M1 L M N),trivial⟩)),a⟩
   ·exact L2 o ⟨(IntKind.i64.wrap (d+1)),u,i,rfl,rfl,(g.trans c),(M0 _),(F2.up (r:=E1.toRp) c n),a⟩
 ·obtain rfl:=oJ a
  try dsimp only[U0,Y0]at e
  intro aQ aJ ad
  obtain⟨aa,ac,rfl,ar,au,aM⟩:=Z0.out (r:=E1.toRp) ad n
  obtain rfl:=oJ e
  exact⟨aa,i.length,ac,rfl,ar,((y.trans g).trans au)⟩
theorem U0h(h:Hp)(C:List Value)(O:j0)(aO:C1.R h C O)(D:List Value)(P:N0)(aP:E1.R h D P)(r:B0)(a:Y03 O P=some r):
  Tr Tryz.prog 231 #[.agg C.toArray,.agg D.toArray] h λv n=>∃(A:Option Addr) (N B:Nat),v = .slice A N B/\D0.R n [.slice A N B] r/\Sub h n:=by
 obtain⟨aM,aN,aj,bI,ap,t,rfl,rfl,i,j,e⟩:=C0 aO
 obtain⟨rfl,bu⟩:=Sl.len e
 obtain⟨k,b,l,rfl,rfl,J,o,K⟩:=U1 aP
 unfold Y03 at a
 dsimp only at a
 refine A2 (args:=[.agg #[.int .i64 aM,.int .i64 aN,.slice aj t.length ap],.agg #[.int .i64 k,.int .i64 b,.int .i64 l]]) (fn:=Tryz.f231) rfl ?_
 obtain⟨z,aB,a⟩:=z0 a
 refine eX { vars:=[5,6],boxes:=[],owns:=[],fuel:=true } (eX (λvs os n=>∃ m g,vs.tail = [.bool m,.int .i64 g]/\os = []/\Sub h n/\J0 g/\R9 t k b l (Z1 vs) m g=some z) (eX (λ_ _=>0) (aI (eX T0 ⟨false,0,rfl,rfl,(Sub.refl _),(by decide),aB⟩) ?_)))
 rintro _ _ p f ⟨m,g,⟨⟩,⟨⟩,d,bl,c⟩
 replace c:R9 t k b l p m g=some z:=c
 obtain _|p:=p
 ·cases c
 rw[R9.eq_2]at c
 refine ifB c (λaE c=>?_) λaE c=>?_
 ·refine Or.inl (aI (aI (by kernel_rfl) (by kernel_rfl)) ?_)
  obtain⟨cg,aA,c⟩:=z0 c
  obtain⟨ba,E,aS⟩:=Sl.getG (r:=E1.toRp) (I0.mono d e) aA (by decide) (H0d f)
  refine aI (λq=>(E q).1) ?_
  obtain⟨ag,ah,ai,rfl,rfl,bm,bn,bo⟩:=U1 aS
  try dsimp only at c
  refine eX _ (aI (λq=>(E q).2) ?_)
  refine eX (eqE (ag,ah,ai) (k,b,l)) (aI (λ_=>(x0f _ _ _ rfl _ _ _ _ _ _)) ?_)
  exact L2 p ⟨(bif m then true else(eqE (ag,ah,ai) (k,b,l))),(IntKind.i64.wrap (g+1)),rfl,rfl,d,(M0 _),c⟩
 ·obtain rfl:=oJ c
  try dsimp only[U0,Y0]at a
  refine trV a (I7 _ _ _ (l0 i j (I0.mono d e))) λch a=>?_
  refine ifB a (λaF a=>?_) λaF a=>?_
  ·intro bY bp ax
   obtain⟨ao,au,rfl,aV,aY,bF⟩:=Z0.out (r:=Wp.int.toRp) ax (show F2 (Wp.int.R f) ([]:List (List Value)) ([]:B0) from trivial)
   obtain rfl:=oJ a
   exact⟨ao,(([]:B0)).length,au,rfl,aV,(d.trans aY)⟩
  ·refine Or.inr (Or.inr (Or.inl (aI (aI (by kernel_rfl) (by kernel_rfl)) ?_)))
   refine Or.inr ?_
   refine Or.inr ?_
   refine Or.inr ?_
   refine Or.inr ?_
   refine Or.inr ?_
   refine Or.inr ?_
   refine Or.inr ?_
   refine Or.inr (eX 0 (eX 1 (aI (aI rfl (aI rfl rfl)) ?_)))
   refine aI ?_ ?_
   ·skip
    obtain⟨ca,F,a⟩:=z0 a
    refine Tr.mono (g04 _ _ _ (l0 i j (I0.mono d e)) _ J _  F) ?_
    rintro bZ s ⟨F,bJ,bb,rfl,u⟩
    have bX:Sub f s:=u.sub
    have aQ:=u.r
    obtain⟨rfl,bv⟩:=Sl.len aQ
    refine aI trivial (aI (by first|exact trivial|exact rfl) ?_)
    refine aI trivial (aI (by first|exact trivial|exact rfl) ?_)
    obtain⟨bV,ay,a⟩:=z0 a
    obtain⟨aZ,aT,L,ak⟩:=New.app u (Sub.refl _)
    refine eX aZ (aI aT (aI (P1 ay (by first|rw[L,F2.length (show F2 (Wp.int.R s) ([[.int .i64 b]]:List (List Value)) [b] from⟨⟨rfl,o⟩,trivial⟩)]|(rw[L];rfl))) ?_))
    intro b7 aK aC
    obtain⟨x,bj,bT,bR,bh,rfl⟩:=ak _ _ _ _ _ (F3.ofPlain (G05 _) (show F2 (Wp.int.R s) ([[.int .i64 b]]:List (List Value)) [b] from⟨⟨rfl,o⟩,trivial⟩)) l4.ofPlain aC
    have X:=x.r
    obtain⟨av,bG⟩:=Sl.len X
    subst av
    refine aI trivial (aI (by first|exact trivial|exact rfl) ?_)
    obtain⟨cb,G,a⟩:=z0 a
    refine Tr.mono (g04 _ _ _ (l0 i j (I0.mono (d.trans x.sub) e)) _ K _  G) ?_
    rintro b0 aG ⟨G,bK,bc,rfl,ae⟩
    have Z:Sub aK aG:=ae.sub
    have Q:=ae.r
    obtain⟨rfl,bx⟩:=Sl.len Q
    refine aI trivial (aI (by first|exact trivial|exact rfl) ?_)
    refine trM a (c03 _ _ _ _ _ Q) ?_
    rintro cc a b1 bq ⟨a3,bL,bd,rfl,S,aa⟩
    obtain⟨rfl,bz⟩:=Sl.len S
    refine aI trivial (aI (by first|exact trivial|exact rfl) ?_)
    refine trM a (N05 _ _ _ _ _ (D0.mono (Z.trans aa) X) _ _ _ _ S) ?_
    rintro a1 a b2 br ⟨am,bM,aq,rfl,T,aW⟩
    obtain⟨rfl,bA⟩:=Sl.len T
    refine aI trivial (aI (by first|exact trivial|exact rfl) ?_)
    refine aI trivial (aI (by first|exact trivial|exact rfl) ?_)
    obtain rfl:=oJ a
    exact⟨am,a1.length,aq,rfl,T,((((d.trans x.sub).trans Z).trans aa).trans aW)⟩
   ·skip
    refine aI trivial (aI (by first|exact trivial|exact rfl) ?_)
    obtain⟨cd,H,a⟩:=z0 a
    refine Tr.mono (g04 _ _ _ (l0 i j (I0.mono d e)) _ J _  H) ?_
    rintro b3 aH ⟨H,bN,be,rfl,w⟩
    have ab:Sub f aH:=w.sub
    have aR:=w.r
    obtain⟨rfl,bB⟩:=Sl.len aR
    refine aI trivial (aI (by first|exact trivial|exact rfl) ?_)
    obtain⟨bW,az,a⟩:=z0 a
    obtain⟨a0,aU,M,al⟩:=New.app w (Sub.refl _)
    refine eX a0 (aI aU (aI (P1 az (by first|rw[M,F2.length (F2.up (r:=Wp.int.toRp) ab (show F2 (Wp.int.R f) ([[.int .i64 b]]:List (List Value)) [b] from⟨⟨rfl,o⟩,trivial⟩))]|(rw[M];rfl))) ?_))
    intro b8 aL aD
    obtain⟨y,bk,bU,bS,bi,rfl⟩:=al _ _ _ _ _ (F3.ofPlain (G05 _) (F2.up (r:=Wp.int.toRp) ab (show F2 (Wp.int.R f) ([[.int .i64 b]]:List (List Value)) [b] from⟨⟨rfl,o⟩,trivial⟩))) l4.ofPlain aD
    have Y:=y.r
    obtain⟨aw,bH⟩:=Sl.len Y
    subst aw
    refine aI trivial (aI (by first|exact trivial|exact rfl) ?_)
    obtain⟨ce,I,a⟩:=z0 a
    refine Tr.mono (g04 _ _ _ (l0 i j (I0.mono (d.trans y.sub) e)) _ K _  I) ?_
    rintro b4 aJ ⟨I,bO,bf,rfl,af⟩
    have ac:Sub aL aJ:=af.sub
    have U:=af.r
    obtain⟨rfl,bC⟩:=Sl.len U
    refine aI trivial (aI (by first|exact trivial|exact rfl) ?_)
    refine trM a (c03 _ _ _ _ _ U) ?_
    rintro cf a b5 bs ⟨a4,bP,bg,rfl,V,ad⟩
    obtain⟨rfl,bD⟩:=Sl.len V
    refine aI trivial (aI (by first|exact trivial|exact rfl) ?_)
    refine trM a (N05 _ _ _ _ _ (D0.mono (ac.trans ad) Y) _ _ _ _ V) ?_
    rintro a2 a b6 bt ⟨an,bQ,ar,rfl,W,aX⟩
    obtain⟨rfl,bE⟩:=Sl.len W
    refine aI trivial (aI (by first|exact trivial|exact rfl) ?_)
    refine aI trivial (aI (by first|exact trivial|exact rfl) ?_)
    obtain rfl:=oJ a
    exact⟨an,a2.length,ar,rfl,W,((((d.trans y.sub).trans ac).trans ad).trans aX)⟩
theorem u0h(h:Hp)(I:List Value)(L:j0)(aw:C1.R h I L)(r:Y1)(d:v03 L=some r):
  Tr Tryz.prog 123 #[.agg I.toArray] h λv j=>∃(G:Option Addr) (K H:Nat),v = .slice G K H/\j2.R j [.slice G K H] r/\Sub h j:=by
 obtain⟨A,B,P,a1,X,C,rfl,rfl,y,z,o⟩:=C0 aw
 obtain⟨rfl,aV⟩:=Sl.len o
 unfold v03 at d
 dsimp only at d
 refine A2 (args:=[.agg #[.int .i64 A,.int .i64 B,.slice P C.length X]]) (fn:=Tryz.f123) rfl ?_
 refine trV d (z8 _ _ _ (l0 y z o)) λbg d=>?_
 refine ifB d (λan d=>?_) λan d=>?_
 ·intro bd aT af
  obtain⟨V,ac,rfl,aA,aE,a0⟩:=Z0.out (r:=D0.toRp) af (show F2 (D0.R h) ([]:List (List Value)) ([]:Y1) from trivial)
  obtain rfl:=oJ d
  exact⟨V,(([]:Y1)).length,ac,rfl,aA,aE⟩
 ·refine trM d (a0d _ _ _ (l0 y z o)) ?_
  rintro E d bf ar ⟨S,a3,Z,rfl,N,D⟩
  obtain⟨rfl,aW⟩:=Sl.len N
  obtain⟨F,al,d⟩:=z0 d
  refine eX { vars:=[5],boxes:=[],owns:=[0],fuel:=true } (eX (λvs os j=>∃ g t i,vs.tail = [.int .i64 g]/\os = [t]/\Sub ar j/\J0 g/\F2 (D0.R j) t i/\j9 E A B C (Z1 vs) g i=some F) (eX (λ_ _=>0) (aI (eX T0 ⟨0,[],([]:Y1),rfl,rfl,(Sub.refl _),(by decide),(F2.up (r:=D0.toRp) D (show F2 (D0.R h) ([]:List (List Value)) ([]:Y1) from trivial)),al⟩) ?_)))
  rintro _ t n aN ⟨g,bi,i,⟨⟩,⟨⟩,s,aM,m,b⟩
  replace b:j9 E A B C n g i=some F:=b
  obtain _|n:=n
  ·cases b
  rw[j9.eq_2]at b
  refine ifB b (λam b=>?_) λam b=>?_
  ·refine Or.inr (Or.inr (Or.inr (Or.inl (aI (aI (by kernel_rfl) (by kernel_rfl)) ?_))))
   obtain⟨bh,ah,b⟩:=z0 b
   obtain⟨W,aK,ad,ax⟩:=Sl.getI (r:=E1.toRp) (I0.mono s N) ah (by decide)
   obtain⟨aF,aG,aH,rfl,rfl,ao,ap,aq⟩:=U1 ax
   try dsimp only at b
   refine Or.inl (eX (.hel (.slice S E.length Z) g 3 0) (aI ?_ ?_))
   ·intro aO bb
    exact aI W (aI rfl (aI rfl rfl))
   refine Or.inl (eX (.agg [.val (.int .i64 aF),.val (.int .i64 aG),.val (.int .i64 aH)]) (aI ?_ ?_))
   ·intro aP aB
    exact eX _ (aI (Z9.up aB ad) (aI rfl (aI rfl rfl)))
   obtain⟨f,ai,b⟩:=z0 b
   refine Or.inr (eX (λv x=>∃(a:Option Addr) (c:Nat),v = .slice a f.length c/\D0.R x [.slice a f.length c] f/\f.length<=9223372036854775807) (aI (λv aj ak k q=>by obtain⟨a,c,e,r,l⟩:=q;exact⟨a,c,e,D0.mono k r,l⟩) (aI ?_ ?_)))
   ·intro aQ aC
    refine Tr.mono (U0h _ _ _ (l0 y z (I0.mono ((D.trans s).trans aC) o)) _ _ (M1 ao ap aq) _ ai) ?_
    rintro _ aU ⟨Q,a2,Y,rfl,M,k⟩
    obtain⟨rfl,au⟩:=Sl.len M
    exact aI M5 (aI k ⟨Q,Y,rfl,M,au⟩)
   refine Or.inr (eX (λv x=>∃(a:Option Addr) (c:Nat),v = .slice a f.length c/\D0.R x [.slice a f.length c] f/\f.length<=9223372036854775807) (aI (λv aj ak k q=>by obtain⟨a,c,e,r,l⟩:=q;exact⟨a,c,e,D0.mono k r,l⟩) (aI ?_ ?_)))
   ·intro aR bc
    rintro _ ⟨T,aa,rfl,ay,av⟩
    exact aI M5 (aI (Sub.refl _) ⟨T,aa,rfl,ay,av⟩)
   intro J p
   rintro _ ⟨u,w,rfl,O,aX⟩
   rintro _ ⟨aJ,aL,rfl,ba,aY⟩
   obtain⟨a4,ag,b⟩:=z0 b
   refine aI (P1 ag (by first|rw[F2.length (F2.up (r:=D0.toRp) p m),F2.length (show F2 (D0.R J) ([[.slice u f.length w]]:List (List Value)) [f] from⟨O,trivial⟩)]|exact congrArg (·+1) (F2.length (F2.up (r:=D0.toRp) p m)))) ?_
   exact L2 n ⟨(IntKind.i64.wrap (g+1)),(t++([[.slice u f.length w]]:List (List Value))),(i ++ [f]),rfl,rfl,(s.trans p),(M0 _),(F2.append (F2.up (r:=D0.toRp) p m) (show F2 (D0.R J) ([[.slice u f.length w]]:List (List Value)) [f] from⟨O,trivial⟩)),b⟩
  ·obtain rfl:=oJ b
   try dsimp only[U0,Y0]at d
   intro be aS ae
   obtain⟨U,ab,rfl,az,aD,aZ⟩:=Z0.out (r:=D0.toRp) ae m
   obtain rfl:=oJ d
   exact⟨U,i.length,ab,rfl,az,((D.trans s).trans aD)⟩
theorem b0d(h:Hp)(u:List Value)(A:j0)(N:C1.R h u A)(d:Int)(y:J0 d)(k:Option Addr)(z l:Nat)(e:B0)(B:D0.R h [.slice k z l] e)(r:Int)(b:L01 A d e=some r):
  Tr Tryz.prog 275 #[.agg u.toArray,.int .i64 d,.slice k z l] h λv m=>v = .int .i64 r/\m=h:=by
 obtain⟨n,j,C,T,D,o,rfl,rfl,w,x,p⟩:=C0 N
 obtain⟨rfl,Q⟩:=Sl.len p
 obtain⟨rfl,S⟩:=Sl.len B
 unfold L01 at b
 dsimp only at b
 refine Tr.forget (A2 (args:=[.agg #[.int .i64 n,.int .i64 j,.slice C o.length D],.int .i64 d,.slice k e.length l]) (fn:=Tryz.f275) rfl ?_)
 refine trV b (I7 _ _ _ (l0 w x p)) λV b=>?_
 refine trG b (λq=>C5 _ _ y 0 (by decide) (IntKind.i64.wrap (j-1)) (M0 _)) λX b=>?_
 refine ifB b (λI b=>?_) λI b=>?_
 ·obtain rfl:=oJ b
  exact aI rfl (Sub.refl _)
 ·obtain⟨t,G,b⟩:=z0 b
  refine eX { vars:=[1,7],boxes:=[],owns:=[],fuel:=true } (eX (λvs os m=>∃ g c,vs.tail = [.int .i64 g,.int .i64 c]/\os = []/\Sub h m/\J0 g/\J0 c/\Y6 e n j o (Z1 vs) g c=some t) (eX (λ_ _=>0) (aI (eX T0 ⟨d,0,rfl,rfl,(Sub.refl _),y,(by decide),G⟩) ?_)))
  rintro _ _ i P ⟨g,c,⟨⟩,⟨⟩,f,K,O,a⟩
  replace a:Y6 e n j o i g c=some t:=a
  obtain _|i:=i
  ·cases a
  rw[Y6.eq_2]at a
  refine ifB a (λJ a=>?_) λJ a=>?_
  ·refine Or.inl (aI (aI (by kernel_rfl) (by kernel_rfl)) ?_)
   refine ldI a (D0.mono f B) λW L a=>?_
   obtain⟨s,F,a⟩:=z0 a
   refine eX (.int .i64 s) (aI (G00 _ _ _ (l0 w x (I0.mono f p)) _ K _ L _  F) ?_)
   obtain⟨U,E,a⟩:=z0 a
   have M:J0 s:=E2 E
   refine ifB a (λH a=>?_) λH a=>?_
   ·obtain rfl:=oJ a
    try dsimp only[T4,Z4]at b
    obtain rfl:=oJ b
    exact aI rfl f
   ·exact L2 i ⟨s,(IntKind.i64.wrap (c+1)),rfl,rfl,f,M,(M0 _),a⟩
  ·obtain rfl:=oJ a
   try dsimp only[U0,Y0]at b
   obtain rfl:=oJ b
   exact aI rfl f
theorem E07(h:Hp)(P:List Value)(W:j0)(bh:C1.R h P W)(E:Option Addr)(V F:Nat)(I:B0)(y:D0.R h [.slice E V F] I)(r:j0×Bool)(b:H5 W I=some r):
  Tr Tryz.prog 181 #[.agg P.toArray,.slice E V F] h λv T=>∃(O:List Value),v = .tuple #[.agg O.toArray,.bool r.2]/\C1.R T O r.1/\Sub h T:=by
 obtain⟨bc,bd,ai,cv,am,be,rfl,rfl,s,o,t⟩:=C0 bh
 obtain⟨rfl,ck⟩:=Sl.len t
 obtain⟨rfl,cl⟩:=Sl.len y
 unfold H5 at b
 dsimp only at b
 refine A2 (args:=[.agg #[.int .i64 bc,.int .i64 bd,.slice ai be.length am],.slice E I.length F]) (fn:=Tryz.f181) rfl ?_
 refine trV b (z8 _ _ _ (l0 s o t)) λcQ b=>?_
 refine trG b (λq=>u05 _ _ s _ _ _ _ y) λcR b=>?_
 refine ifB b (λaH b=>?_) λaH b=>?_
 ·obtain rfl:=oJ b
  exact⟨([.int .i64 0,.int .i64 0,.slice none 0 0]),rfl,(l0 (by decide) (by decide) (b09 E1 h)),(Sub.refl _)⟩
 ·refine trV b (b0d _ _ _ (l0 s o t) 0 (by decide) _ _ _ _ y) λbC b=>?_
  obtain⟨cD,aA,b⟩:=z0 b
  have b4:J0 bC:=E2 aA
  refine Or.inr (Or.inr (Or.inr (Or.inl (aI (aI (by kernel_rfl) (by kernel_rfl)) ?_))))
  obtain⟨D,aD,b⟩:=z0 b
  refine Or.inr (eX (λv i=>∃(a:Option Addr) (c:Nat),v = .slice a D.length c/\D0.R i [.slice a D.length c] D/\D.length<=9223372036854775807) (aI (λv z A j q=>by obtain⟨a,c,e,r,l⟩:=q;exact⟨a,c,e,D0.mono j r,l⟩) (aI ?_ ?_)))
  ·intro ci br
   obtain⟨bg,bv,au,ay⟩:=Sl.cutI (r:=Wp.int.toRp) (D0.mono br y) aD
   refine aI bg (eX bv (aI au ?_))
   intro v H _
   obtain⟨a,c,rfl,r⟩:=ay v H
   exact aI M5 (aI (Sub.refl _) ⟨a,c,rfl,r,(Sl.len r).2⟩)
  obtain⟨bL,aE,b⟩:=z0 b
  obtain⟨L,ah⟩:=bL
  try dsimp only at b
  obtain⟨cC,az,b⟩:=z0 b
  have U:J0 L:=E2 az
  refine Or.inl (eX (.val (.tuple #[.int .i64 L,.bool ah])) (aI ?_ ?_))
  ·intro b7 bo
   rintro _ ⟨bN,bY,rfl,bj,cq⟩
   exact Tr.val (X08 _ _ _ (l0 s o (I0.mono bo t)) 0 (by decide) _ _ _ _ bj _ aE) (aI rfl (aI rfl rfl))
  refine Or.inl (eX (.val (.int .i64 L)) (aI ?_ ?_))
  ·intro b8 cH
   exact aI rfl (aI rfl rfl)
  refine Or.inl (eX (.val (.bool ah)) (aI ?_ ?_))
  ·intro ca cI
   exact aI rfl (aI rfl rfl)
  intro a0 p
  rintro _ ⟨bO,bZ,rfl,cE,cr⟩
  refine trM b (J7 _ _ _ (l0 s o (I0.mono p t))) ?_
  rintro bx b cM a1 ⟨b3,cw,bW,rfl,J⟩
  have u:Sub a0 a1:=J.sub
  have X:=J.r
  obtain⟨cS,cT,cU⟩:=bx
  dsimp only at b J X
  obtain⟨_,_,_,_,_,_,aq,av,aK,aL,Y⟩:=C0 X
  cases aq
  cases av
  obtain⟨rfl,cm⟩:=Sl.len Y
  try dsimp only at b
  refine ifB b (λaF b=>?_) λaF b=>?_
  ·refine trM b (f0e _ _ _ (l0 s o (I0.mono (p.trans u) t))) ?_
   rintro bz b cN a2 ⟨bS,rfl,Z,B⟩
   obtain⟨cV,cZ⟩:=bz
   dsimp only at b Z
   obtain⟨cW,cX,bM,cx,bX,cY,rfl,rfl,aM,aN,aa⟩:=C0 Z
   obtain⟨rfl,cn⟩:=Sl.len aa
   try dsimp only at b
   refine ifB b (λaG b=>?_) λaG b=>?_
   ·obtain rfl:=oJ b
    exact⟨([.int .i64 0,.int .i64 0,.slice none 0 0]),rfl,(l0 (by decide) (by decide) (b09 E1 a2)),((p.trans u).trans B)⟩
   ·refine Or.inr (Or.inr (Or.inr (Or.inr (eX 12 (aI (aI (by kernel_rfl) (by kernel_rfl)) ?_)))))
    obtain⟨C,aB,b⟩:=z0 b
    refine Or.inr (eX (λv i=>∃(a:Option Addr) (c:Nat),v = .slice a C.length c/\D0.R i [.slice a C.length c] C/\C.length<=9223372036854775807) (aI (λv z A j q=>by obtain⟨a,c,e,r,l⟩:=q;exact⟨a,c,e,D0.mono j r,l⟩) (aI ?_ ?_)))
    ·intro cb bp
     obtain⟨bf,bu,ar,ax⟩:=Sl.cutI (r:=Wp.int.toRp) (D0.mono (((p.trans u).trans B).trans bp) y) aB
     refine aI bf (eX bu (aI ar ?_))
     intro v H _
     obtain⟨a,c,rfl,r⟩:=ax v H
     exact aI M5 (aI (Sub.refl _) ⟨a,c,rfl,r,(Sl.len r).2⟩)
    obtain⟨bA,aC,b⟩:=z0 b
    obtain⟨bB,K⟩:=bA
    try dsimp only at b
    obtain⟨m,n,g⟩:=bB
    try dsimp only at b
    refine Or.inr (eX (λv i=>∃(k:Value),v = .tuple #[k,.bool K]/\(λv i=>∃(d:Option Addr) (f:Nat),v = .agg #[.int .i64 m,.int .i64 n,.slice d g.length f]/\J0 m/\J0 n/\I0.R i [.slice d g.length f] g/\g.length<=9223372036854775807) k i) (aI (λv z A j q=>by obtain⟨k,e,G⟩:=q;exact⟨k,e,(by obtain⟨d,f,e,w,x,f2,f3⟩:=G;exact⟨d,f,e,w,x,I0.mono j f2,f3⟩)⟩) (aI ?_ ?_)))
    ·intro cc bq
     rintro _ ⟨bP,b0,rfl,bk,cs⟩
     refine Tr.mono (a0a _ _ _ (l0 aM aN (I0.mono bq aa)) _ U _ _ _ _ bk _ o _ aC) ?_
     rintro _ cj ⟨bT,rfl,bi,j⟩
     obtain⟨c4,c5,M,cA,Q,c6,rfl,aw,aS,aT,af⟩:=C0 bi
     cases aw
     obtain⟨rfl,a4⟩:=Sl.len af
     exact aI M5 (aI j ⟨(.agg #[.int .i64 m,.int .i64 n,.slice M g.length Q]),rfl,⟨M,Q,rfl,aS,aT,af,a4⟩⟩)
    refine Or.inr (eX (λv i=>∃(k:Value),v = .tuple #[k,.bool K]/\(λv i=>∃(d:Option Addr) (f:Nat),v = .agg #[.int .i64 m,.int .i64 n,.slice d g.length f]/\J0 m/\J0 n/\I0.R i [.slice d g.length f] g/\g.length<=9223372036854775807) k i) (aI (λv z A j q=>by obtain⟨k,e,G⟩:=q;exact⟨k,e,(by obtain⟨d,f,e,w,x,f2,f3⟩:=G;exact⟨d,f,e,w,x,I0.mono j f2,f3⟩)⟩) (aI ?_ ?_)))
    ·intro cd cJ
     rintro _ ⟨_,rfl,⟨N,S,rfl,aU,aV,bl,ba⟩⟩
     exact aI M5 (aI (Sub.refl _) ⟨(.agg #[.int .i64 m,.int .i64 n,.slice N g.length S]),rfl,⟨N,S,rfl,aU,aV,bl,ba⟩⟩)
    refine Or.inr (eX (λv i=>∃(d:Option Addr) (f:Nat),v = .agg #[.int .i64 m,.int .i64 n,.slice d g.length f]/\J0 m/\J0 n/\I0.R i [.slice d g.length f] g/\g.length<=9223372036854775807) (aI (λv z A j q=>by obtain⟨d,f,e,w,x,f2,f3⟩:=q;exact⟨d,f,e,w,x,I0.mono j f2,f3⟩) (aI ?_ ?_)))
    ·intro ce cK
     rintro _ ⟨_,rfl,⟨al,ap,rfl,aW,aX,bm,bb⟩⟩
     exact aI M5 (aI (Sub.refl _) ⟨al,ap,rfl,aW,aX,bm,bb⟩)
    refine Or.inl (eX (.val (.bool K)) (aI ?_ ?_))
    ·intro cf cL
     rintro _ ⟨_,rfl,⟨bQ,b1,rfl,b5,b6,cG,ct⟩⟩
     exact aI rfl (aI rfl rfl)
    intro a3 ag
    rintro _ ⟨bR,b2,rfl,aY,aZ,bn,cu⟩
    rintro _ _
    rintro _ _
    rintro _ _
    refine ifB b (λaJ b=>?_) λaJ b=>?_
    ·obtain rfl:=oJ b
     exact⟨([.int .i64 0,.int .i64 0,.slice none 0 0]),rfl,(l0 (by decide) (by decide) (b09 E1 a3)),(((p.trans u).trans B).trans ag)⟩
    ·refine trM b (Y08 _ _ _ (l0 aY aZ bn) _ o) ?_
     rintro bD b cO cg ⟨bU,rfl,ab,bs⟩
     obtain⟨c0,c1⟩:=bD
     dsimp only at b ab
     obtain⟨bE,bF,aj,cy,an,bG,rfl,rfl,aO,aP,ac⟩:=C0 ab
     obtain⟨rfl,co⟩:=Sl.len ac
     try dsimp only at b
     obtain rfl:=oJ b
     exact⟨([.int .i64 bE,.int .i64 bF,.slice aj bG.length an]),rfl,(l0 aO aP ac),((((p.trans u).trans B).trans ag).trans bs)⟩
  ·refine trM b (Y08 _ _ _ (l0 aK aL Y) _ U) ?_
   rintro bH b cP ch ⟨bV,rfl,ad,bt⟩
   obtain⟨c2,c3⟩:=bH
   dsimp only at b ad
   obtain⟨bI,bJ,ak,cz,ao,bK,rfl,rfl,aQ,aR,ae⟩:=C0 ad
   obtain⟨rfl,cp⟩:=Sl.len ae
   try dsimp only at b
   obtain rfl:=oJ b
   exact⟨([.int .i64 bI,.int .i64 bJ,.slice ak bK.length ao]),rfl,(l0 aQ aR ae),((p.trans u).trans bt)⟩
theorem c0d(h:Hp)(b:Int)(s:J0 b)(c:Option Addr)(i d:Nat)(e:Y1)(j:j2.R h [.slice c i d] e)(r:j0×Bool)(a:N01 b e=some r):
  Tr Tryz.prog 192 #[.int .i64 b,.slice c i d] h λv g=>∃(f:List Value),v = .tuple #[.agg f.toArray,.bool r.2]/\C1.R g f r.1/\Sub h g:=by
 obtain⟨rfl,K⟩:=Sl.len j
 unfold N01 at a
 refine A2 (args:=[.int .i64 b,.slice c e.length d]) (fn:=Tryz.f192) rfl ?_
 refine trM a (a0f _ _ s _ _ _ _ j) ?_
 rintro B a P y ⟨G,rfl,k,n⟩
 obtain⟨S,W⟩:=B
 dsimp only at a k
 obtain⟨T,U,F,N,I,V,rfl,rfl,t,u,l⟩:=C0 k
 obtain⟨rfl,L⟩:=Sl.len l
 try dsimp only at a
 refine ifB a (λq a=>?_) λq a=>?_
 ·obtain rfl:=oJ a
  exact⟨([.int .i64 0,.int .i64 0,.slice none 0 0]),rfl,(l0 (by decide) (by decide) (b09 E1 y)),n⟩
 ·refine trM a (m08 _ _ _ (l0 t u l)) ?_
  rintro X a Q J ⟨H,rfl,z,A⟩
  obtain⟨C,D,o,O,p,E,rfl,rfl,w,x,m⟩:=C0 z
  obtain⟨rfl,M⟩:=Sl.len m
  try dsimp only at a
  obtain rfl:=oJ a
  exact⟨([.int .i64 C,.int .i64 D,.slice o E.length p]),rfl,(l0 w x m),(n.trans A)⟩
theorem N00(h:Hp)(i:List Value)(l:j0)(A:C1.R h i l)(b:Option Addr)(k c:Nat)(e:Y1)(m:j2.R h [.slice b k c] e)(r:Bool)(a:Y5 l e=some r):
  Tr Tryz.prog 176 #[.agg i.toArray,.slice b k c] h λv t=>v = .bool r/\t=h:=by
 obtain⟨x,y,p,J,s,z,rfl,rfl,d,j,f⟩:=C0 A
 obtain⟨rfl,G⟩:=Sl.len f
 obtain⟨rfl,H⟩:=Sl.len m
 unfold Y5 at a
 dsimp only at a
 refine Tr.forget (A2 (args:=[.agg #[.int .i64 x,.int .i64 y,.slice p z.length s],.slice b e.length c]) (fn:=Tryz.f176) rfl ?_)
 refine trM a (c0d _ _ d _ _ _ _ m) ?_
 rintro B a L F ⟨D,rfl,n,g⟩
 obtain⟨M,Q⟩:=B
 dsimp only at a n
 obtain⟨N,O,C,K,E,P,rfl,rfl,u,w,o⟩:=C0 n
 obtain⟨rfl,I⟩:=Sl.len o
 try dsimp only at a
 refine trG a (λq=>z8 _ _ _ (l0 d j (I0.mono g f))) λS a=>?_
 refine trG a (λq=>N06 _ _ _ (l0 d j (I0.mono g f)) _ _ (l0 u w o)) λT a=>?_
 obtain rfl:=oJ a
 exact aI rfl g
theorem J0b(h:Hp)(q:List Value)(w:j0)(E:C1.R h q w)(g:Option Addr)(u i:Nat)(e:Y1)(x:j2.R h [.slice g u i] e)(r:Bool)(b:n01 w e=some r):
  Tr Tryz.prog 179 #[.agg q.toArray,.slice g u i] h λv j=>v = .bool r/\j=h:=by
 obtain⟨k,l,y,O,z,m,rfl,rfl,s,t,n⟩:=C0 E
 obtain⟨rfl,L⟩:=Sl.len n
 obtain⟨rfl,M⟩:=Sl.len x
 unfold n01 at b
 dsimp only at b
 refine Tr.forget (A2 (args:=[.agg #[.int .i64 k,.int .i64 l,.slice y m.length z],.slice g e.length i]) (fn:=Tryz.f179) rfl ?_)
 obtain⟨p,B,b⟩:=z0 b
 refine eX { vars:=[5],boxes:=[],owns:=[],fuel:=true } (eX (λvs os j=>∃ d,vs.tail = [.int .i64 d]/\os = []/\Sub h j/\J0 d/\H6 e k l m (Z1 vs) d=some p) (eX (λ_ _=>0) (aI (eX T0 ⟨0,rfl,rfl,(Sub.refl _),(by decide),B⟩) ?_)))
 rintro _ f K ⟨d,⟨⟩,⟨⟩,c,J,a⟩
 replace a:H6 e k l m f d=some p:=a
 obtain _|f:=f
 ·cases a
 rw[H6.eq_2]at a
 refine ifB a (λC a=>?_) λC a=>?_
 ·refine Or.inl (aI (aI (by kernel_rfl) (by kernel_rfl)) ?_)
  refine ld a (j2.mono c x) λQ H o a=>?_
  obtain⟨G,P,I,rfl⟩:=Wp.slice_cell o
  obtain⟨rfl,N⟩:=Sl.len o
  obtain⟨F,A,a⟩:=z0 a
  refine eX (.bool F) (aI (Q05 _ _ _ (l0 s t (I0.mono c n)) _ _ _ _ o _  A) ?_)
  refine ifB a (λD a=>?_) λD a=>?_
  ·obtain rfl:=oJ a
   try dsimp only[T4,Z4]at b
   obtain rfl:=oJ b
   exact aI rfl c
  ·exact L2 f ⟨(IntKind.i64.wrap (d+1)),rfl,rfl,c,(M0 _),a⟩
 ·obtain rfl:=oJ a
  try dsimp only[U0,Y0]at b
  refine trV b (z8 _ _ _ (l0 s t (I0.mono c n))) λS b=>?_
  obtain rfl:=oJ b
  exact aI rfl c
theorem V0h(h:Hp)(b:List Value)(c:j0)(o:C1.R h b c)(r:Int)(a:W02 c=some r):
  Tr Tryz.prog 117 #[.agg b.toArray] h λv g=>v = .int .i64 r/\g=h:=by
 obtain⟨l,m,e,q,f,n,rfl,rfl,j,k,d⟩:=C0 o
 obtain⟨rfl,p⟩:=Sl.len d
 unfold W02 at a
 dsimp only at a
 refine Tr.forget (A2 (args:=[.agg #[.int .i64 l,.int .i64 m,.slice e n.length f]]) (fn:=Tryz.f117) rfl ?_)
 refine trV a (z8 _ _ _ (l0 j k d)) λs a=>?_
 refine ifB a (λi a=>?_) λi a=>?_
 ·obtain rfl:=oJ a
  exact aI rfl (Sub.refl _)
 ·obtain rfl:=oJ a
  exact aI rfl (Sub.refl _)
theorem v0h(h:Hp)(b:List Value)(c:j0)(o:C1.R h b c)(r:Int)(a:w03 c=some r):
  Tr Tryz.prog 118 #[.agg b.toArray] h λv g=>v = .int .i64 r/\g=h:=by
 obtain⟨l,m,e,q,f,n,rfl,rfl,j,k,d⟩:=C0 o
 obtain⟨rfl,p⟩:=Sl.len d
 unfold w03 at a
 dsimp only at a
 refine Tr.forget (A2 (args:=[.agg #[.int .i64 l,.int .i64 m,.slice e n.length f]]) (fn:=Tryz.f118) rfl ?_)
 refine trV a (c0a _ _ _ (l0 j k d)) λs a=>?_
 refine ifB a (λi a=>?_) λi a=>?_
 ·obtain rfl:=oJ a
  exact aI rfl (Sub.refl _)
 ·obtain rfl:=oJ a
  exact aI rfl (Sub.refl _)
theorem S04(h:Hp)(J:List Value)(N:Z2)(ba:Q1.R h J N)(r:Bool)(b:C9 N=some r):
  Tr Tryz.prog 80 #[.agg J.toArray] h λv az=>v = .bool r/\az=h:=by
 obtain⟨aW,aX,W,ca,ae,aY,X,cb,af,aZ,Y,cc,ag,a0,a1,a2,Z,cd,ah,a3,a4,rfl,rfl,bJ,M,p,u,O,m,n,k,bK⟩:=O3 ba
 obtain⟨rfl,b0⟩:=Sl.len p
 obtain⟨rfl,b1⟩:=Sl.len u
 obtain⟨rfl,b2⟩:=Sl.len O
 obtain⟨rfl,b3⟩:=Sl.len k
 unfold C9 at b
 dsimp only at b
 refine Tr.forget (A2 (args:=[.agg #[.int .i64 aW,.int .i64 aX,.slice W aY.length ae,.slice X aZ.length af,.slice Y a0.length ag,.int .i64 a1,.int .i64 a2,.slice Z a3.length ah,.int .i64 a4]]) (fn:=Tryz.f80) rfl ?_)
 refine trV b (V08 _ _ M _ _ _ _ p) λco b=>?_
 refine trG b (λq=>u05 _ _ M _ _ _ _ u) λcp b=>?_
 refine trG b (λq=>z8 _ _ _ (l0 m n k)) λcu b=>?_
 refine ifB b (λaD b=>?_) λaD b=>?_
 ·obtain rfl:=oJ b
  exact aI rfl (Sub.refl _)
 ·refine ifB b (λaF b=>?_) λaF b=>?_
  ·refine Or.inr (Or.inr (Or.inr (Or.inl (aI (aI (by kernel_rfl) (by kernel_rfl)) ?_))))
   obtain⟨bv,ax,b⟩:=z0 b
   refine Or.inl (eX (.val (.bool bv)) (aI ?_ ?_))
   ·intro bZ V
    exact Tr.val (N00 _ _ _ (l0 m n (I0.mono V k)) _ _ _ _ (j2.mono V p) _ ax) (aI rfl (aI rfl rfl))
   obtain⟨D,ay,b⟩:=z0 b
   refine Or.inr (eX (λv f=>∃(a:Option Addr) (c:Nat),v = .slice a D.length c/\j2.R f [.slice a D.length c] D/\D.length<=9223372036854775807) (aI (λv y z d q=>by obtain⟨a,c,e,r,l⟩:=q;exact⟨a,c,e,j2.mono d r,l⟩) (aI ?_ ?_)))
   ·intro bP bi A
    refine Tr.mono (u0h _ _ _ (l0 m n (I0.mono bi k)) _ (T7 ay A)) ?_
    rintro _ F ⟨ac,cg,ak,rfl,S,d⟩
    obtain⟨rfl,aS⟩:=Sl.len S
    exact aI M5 (aI d ⟨ac,ak,rfl,S,aS⟩)
   obtain⟨B,ap,b⟩:=z0 b
   refine Or.inr (eX (λv f=>∃(a:Option Addr) (c:Nat),v = .slice a B.length c/\D0.R f [.slice a B.length c] B/\B.length<=9223372036854775807) (aI (λv y z d q=>by obtain⟨a,c,e,r,l⟩:=q;exact⟨a,c,e,D0.mono d r,l⟩) (aI ?_ ?_)))
   ·intro bQ bj A
    rintro _ ⟨bx,bE,rfl,bc,b4⟩
    refine Tr.mono (e0f _ _ _ _ _ bc _ _ _ _ (D0.mono bj O) _ (T7 ap A)) ?_
    rintro _ F ⟨aa,ce,ai,rfl,P,d⟩
    obtain⟨rfl,aQ⟩:=Sl.len P
    exact aI M5 (aI d ⟨aa,ai,rfl,P,aQ⟩)
   obtain⟨bo,aq,b⟩:=z0 b
   refine Or.inl (eX (.val (.bool bo)) (aI ?_ ?_))
   ·intro bR bk A
    rintro _ ⟨bz,bF,rfl,bd,b5⟩
    exact Tr.val (X0c _ _ _ _ _ bd _ _ _ _ (D0.mono bk u) _ (T7 aq A)) (aI rfl (aI rfl rfl))
   intro bS bl
   obtain rfl:=oJ b
   exact aI rfl bl
  ·refine ifB b (λaA b=>?_) λaA b=>?_
   ·refine trV b (J0b _ _ _ (l0 m n k) _ _ _ _ p) λcq b=>?_
    refine trG b (λq=>Q05 _ _ _ (l0 m n k) _ _ _ _ u) λcr b=>?_
    obtain rfl:=oJ b
    exact aI rfl (Sub.refl _)
   ·refine ifB b (λaB b=>?_) λaB b=>?_
    ·refine trV b (N00 _ _ _ (l0 m n k) _ _ _ _ p) λcs b=>?_
     refine trG b (λq=>Q05 _ _ _ (l0 m n k) _ _ _ _ u) λct b=>?_
     obtain rfl:=oJ b
     exact aI rfl (Sub.refl _)
    ·refine ifB b (λaC b=>?_) λaC b=>?_
     ·refine Or.inr (Or.inr (Or.inr (Or.inr (eX 10 (aI (aI (by kernel_rfl) (by kernel_rfl)) ?_)))))
      obtain⟨C,ar,b⟩:=z0 b
      refine Or.inr (eX (λv f=>∃(a:Option Addr) (c:Nat),v = .slice a C.length c/\D0.R f [.slice a C.length c] C/\C.length<=9223372036854775807) (aI (λv y z d q=>by obtain⟨a,c,e,r,l⟩:=q;exact⟨a,c,e,D0.mono d r,l⟩) (aI ?_ ?_)))
      ·intro bT bm
       refine Tr.mono (c03 _ _ _ _ _ (D0.mono bm u) _ ar) ?_
       rintro _ F ⟨ab,cf,aj,rfl,Q,d⟩
       obtain⟨rfl,aR⟩:=Sl.len Q
       exact aI M5 (aI d ⟨ab,aj,rfl,Q,aR⟩)
      obtain⟨bp,au,b⟩:=z0 b
      obtain⟨bq,G⟩:=bp
      try dsimp only at b
      obtain⟨s,t,j⟩:=bq
      try dsimp only at b
      refine Or.inr (eX (λv f=>∃(o:Value),v = .tuple #[o,.bool G]/\(λv f=>∃(g:Option Addr) (i:Nat),v = .agg #[.int .i64 s,.int .i64 t,.slice g j.length i]/\J0 s/\J0 t/\I0.R f [.slice g j.length i] j/\j.length<=9223372036854775807) o f) (aI (λv y z d q=>by obtain⟨o,e,E⟩:=q;exact⟨o,e,(by obtain⟨g,i,e,w,x,f2,f3⟩:=E;exact⟨g,i,e,w,x,I0.mono d f2,f3⟩)⟩) (aI ?_ ?_)))
      ·intro bU bn
       rintro _ ⟨bA,bG,rfl,be,b6⟩
       refine Tr.mono (E07 _ _ _ (l0 m n (I0.mono bn k)) _ _ _ _ be _ au) ?_
       rintro _ F ⟨bD,rfl,bb,d⟩
       obtain⟨cw,cx,H,ch,K,cy,rfl,am,aH,aJ,T⟩:=C0 bb
       cases am
       obtain⟨rfl,aT⟩:=Sl.len T
       exact aI M5 (aI d ⟨(.agg #[.int .i64 s,.int .i64 t,.slice H j.length K]),rfl,⟨H,K,rfl,aH,aJ,T,aT⟩⟩)
      refine Or.inr (eX (λv f=>∃(o:Value),v = .tuple #[o,.bool G]/\(λv f=>∃(g:Option Addr) (i:Nat),v = .agg #[.int .i64 s,.int .i64 t,.slice g j.length i]/\J0 s/\J0 t/\I0.R f [.slice g j.length i] j/\j.length<=9223372036854775807) o f) (aI (λv y z d q=>by obtain⟨o,e,E⟩:=q;exact⟨o,e,(by obtain⟨g,i,e,w,x,f2,f3⟩:=E;exact⟨g,i,e,w,x,I0.mono d f2,f3⟩)⟩) (aI ?_ ?_)))
      ·intro bV cl
       rintro _ ⟨_,rfl,⟨I,L,rfl,aK,aL,bf,aU⟩⟩
       exact aI M5 (aI (Sub.refl _) ⟨(.agg #[.int .i64 s,.int .i64 t,.slice I j.length L]),rfl,⟨I,L,rfl,aK,aL,bf,aU⟩⟩)
      refine Or.inr (eX (λv f=>∃(g:Option Addr) (i:Nat),v = .agg #[.int .i64 s,.int .i64 t,.slice g j.length i]/\J0 s/\J0 t/\I0.R f [.slice g j.length i] j/\j.length<=9223372036854775807) (aI (λv y z d q=>by obtain⟨g,i,e,w,x,f2,f3⟩:=q;exact⟨g,i,e,w,x,I0.mono d f2,f3⟩) (aI ?_ ?_)))
      ·intro bW cm
       rintro _ ⟨_,rfl,⟨ad,al,rfl,aM,aN,bg,aV⟩⟩
       exact aI M5 (aI (Sub.refl _) ⟨ad,al,rfl,aM,aN,bg,aV⟩)
      refine Or.inl (eX (.val (.bool G)) (aI ?_ ?_))
      ·intro bX cn
       rintro _ ⟨_,rfl,⟨bB,bH,rfl,bN,bO,ck,b7⟩⟩
       exact aI rfl (aI rfl rfl)
      intro bY U
      rintro _ ⟨bC,bI,rfl,aO,aP,bh,b8⟩
      rintro _ _
      rintro _ _
      rintro _ _
      refine trG b (λq=>N00 _ _ _ (l0 aO aP bh) _ _ _ _ (j2.mono U p)) λcv b=>?_
      obtain rfl:=oJ b
      exact aI rfl U
     ·refine ifB b (λaE b=>?_) λaE b=>?_
      ·refine Or.inl (aI (aI (by kernel_rfl) (by kernel_rfl)) ?_)
       obtain⟨br,av,b⟩:=z0 b
       refine eX (.bool br) (aI (N00 _ _ _ (l0 m n k) _ _ _ _ p _  av) ?_)
       refine trG b (λq=>V0h _ _ _ (l0 m n k)) λbs b=>?_
       obtain⟨ci,an,b⟩:=z0 b
       have bL:J0 bs:=E2 an
       obtain rfl:=oJ b
       exact aI rfl (Sub.refl _)
      ·refine ifB b (λaG b=>?_) λaG b=>?_
       ·refine Or.inl (aI (aI (by kernel_rfl) (by kernel_rfl)) ?_)
        obtain⟨bt,aw,b⟩:=z0 b
        refine eX (.bool bt) (aI (N00 _ _ _ (l0 m n k) _ _ _ _ p _  aw) ?_)
        refine trG b (λq=>v0h _ _ _ (l0 m n k)) λbu b=>?_
        obtain⟨cj,ao,b⟩:=z0 b
        have bM:J0 bu:=E2 ao
        obtain rfl:=oJ b
        exact aI rfl (Sub.refl _)
       ·obtain rfl:=oJ b
        exact aI rfl (Sub.refl _)
theorem R7(h:Hp)(d:List Value)(i:j0)(y:C1.R h d i)(r:j0)(a:H4 i=some r):
  Tr Tryz.prog 137 #[.agg d.toArray] h λv s=>∃(f:Nat) (g c:Nat),v = .agg ([.int .i64 r.1,.int .i64 r.2.1,.slice (some ⟨f,0,none⟩) g c]:List Value).toArray/\New C1 h s [.int .i64 r.1,.int .i64 r.2.1,.slice (some ⟨f,0,none⟩) g c] r:=by
 obtain⟨w,x,l,D,m,j,rfl,rfl,t,u,k⟩:=C0 y
 obtain⟨rfl,B⟩:=Sl.len k
 unfold H4 at a
 dsimp only at a
 refine A2 (args:=[.agg #[.int .i64 w,.int .i64 x,.slice l j.length m]]) (fn:=Tryz.f137) rfl ?_
 refine Or.inr (Or.inr (Or.inl (aI (aI (by kernel_rfl) (by kernel_rfl)) ?_)))
 refine Or.inr ?_
 refine Or.inr ?_
 refine Or.inr ?_
 refine Or.inr ?_
 refine Or.inl (eX 0 (aI (aI rfl rfl) ?_))
 refine aI trivial (aI (by first|exact trivial|exact rfl) ?_)
 obtain⟨z,o,b⟩:=Sl.rows (r:=E1.toRp) k
 refine eX z (aI o ?_)
 obtain⟨E,p,a⟩:=z0 a
 refine aI (P1 p (by first|rw[F2.length (show F2 (E1.R h) ([]:List (List Value)) ([]:K0) from trivial),F2.length b]|exact congrArg (·+1) (F2.length (show F2 (E1.R h) ([]:List (List Value)) ([]:K0) from trivial)))) ?_
 refine aI trivial (aI (by first|exact trivial|exact rfl) ?_)
 refine aI trivial (aI (by first|exact trivial|exact rfl) ?_)
 refine aI trivial (aI (by first|exact trivial|exact rfl) ?_)
 intro H A e
 obtain⟨q,n,rfl,F,G,C⟩:=Z0.outS (r:=E1.toRp) e (F2.append (show F2 (E1.R h) ([]:List (List Value)) ([]:K0) from trivial) b)
 obtain rfl:=oJ a
 exact⟨q,((([]:K0)++j)).length,n,rfl,(New.pair (New.int t) (New.pair (New.int u) (Z0.newPlain (r:=E1) e (F2.append (show F2 (E1.R h) ([]:List (List Value)) ([]:K0) from trivial) b) (Z09 _))))⟩
theorem f0f(h:Hp)(l:List Value)(m:j0)(A:C1.R h l m)(f:Int)(F:J0 f)(r:Int)(e:G02 m f=some r):
  Tr Tryz.prog 302 #[.agg l.toArray,.int .i64 f] h λv i=>v = .int .i64 r/\i=h:=by
 obtain⟨y,z,o,M,p,j,rfl,rfl,D,E,n⟩:=C0 A
 obtain⟨rfl,L⟩:=Sl.len n
 unfold G02 at e
 dsimp only at e
 refine Tr.forget (A2 (args:=[.agg #[.int .i64 y,.int .i64 z,.slice o j.length p],.int .i64 f]) (fn:=Tryz.f302) rfl ?_)
 obtain⟨k,q,e⟩:=z0 e
 refine eX { vars:=[5,11],boxes:=[],owns:=[],fuel:=true } (eX (λvs os i=>∃ b c,vs.tail = [.int .i64 b,.int .i64 c]/\os = []/\Sub h i/\J0 b/\J0 c/\t6 j f (Z1 vs) b c=some k) (eX (λ_ _=>0) (aI (eX T0 ⟨0,0,rfl,rfl,(Sub.refl _),(by decide),(by decide),q⟩) ?_)))
 rintro _ _ d K ⟨b,c,⟨⟩,⟨⟩,g,x,G,a⟩
 replace a:t6 j f d b c=some k:=a
 obtain _|d:=d
 ·cases a
 rw[t6.eq_2]at a
 refine ifB a (λt a=>?_) λt a=>?_
 ·refine ld a (I0.mono g n) λN C B a=>?_
  obtain⟨O,P,Q,rfl,rfl,H,I,J⟩:=U1 B
  try dsimp only at a
  refine ifB a (λu a=>?_) λu a=>?_
  ·refine ifB a (λw a=>?_) λw a=>?_
   ·exact L2 d ⟨(IntKind.i64.wrap ((IntKind.i64.wrap (b+1))+1)),(IntKind.i64.wrap (c+1)),rfl,rfl,g,(M0 _),(M0 _),a⟩
   ·exact L2 d ⟨(IntKind.i64.wrap (b+1)),(IntKind.i64.wrap (c+1)),rfl,rfl,g,(M0 _),(M0 _),a⟩
  ·refine ifB a (λs a=>?_) λs a=>?_
   ·exact L2 d ⟨(IntKind.i64.wrap (b+1)),(IntKind.i64.wrap (c+1)),rfl,rfl,g,(M0 _),(M0 _),a⟩
   ·exact L2 d ⟨b,(IntKind.i64.wrap (c+1)),rfl,rfl,g,x,(M0 _),a⟩
 ·obtain rfl:=oJ a
  try dsimp only[U0,Y0]at e
  obtain rfl:=oJ e
  exact aI rfl g
theorem M03(h:Hp)(i:Option Addr)(o k:Nat)(d:K0)(q:I0.R h [.slice i o k] d)(j:Option Addr)(p l:Nat)(e:K0)(s:I0.R h [.slice j p l] e)(r:Bool)(b:E3 d e=some r):
  Tr Tryz.prog 207 #[.slice i o k,.slice j p l] h λv m=>v = .bool r/\m=h:=by
 obtain⟨rfl,Q⟩:=Sl.len q
 obtain⟨rfl,S⟩:=Sl.len s
 unfold E3 at b
 refine Tr.forget (A2 (args:=[.slice i d.length k,.slice j e.length l]) (fn:=Tryz.f207) rfl ?_)
 refine ifB b (λu b=>?_) λu b=>?_
 ·obtain rfl:=oJ b
  exact aI rfl (Sub.refl _)
 ·obtain⟨n,t,b⟩:=z0 b
  refine eX { vars:=[13],boxes:=[],owns:=[],fuel:=true } (eX (λvs os m=>∃ c,vs.tail = [.int .i64 c]/\os = []/\Sub h m/\J0 c/\T1 d e (Z1 vs) c=some n) (eX (λ_ _=>0) (aI (eX T0 ⟨0,rfl,rfl,(Sub.refl _),(by decide),t⟩) ?_)))
  rintro _ g P ⟨c,⟨⟩,⟨⟩,f,I,a⟩
  replace a:T1 d e g c=some n:=a
  obtain _|g:=g
  ·cases a
  rw[T1.eq_2]at a
  refine ifB a (λw a=>?_) λw a=>?_
  ·refine Or.inl (aI (aI (by kernel_rfl) (by kernel_rfl)) ?_)
   refine ld a (I0.mono f q) λT G y a=>?_
   obtain⟨A,B,C,rfl,rfl,J,K,L⟩:=U1 y
   try dsimp only at a
   refine ld a (I0.mono f s) λU H z a=>?_
   obtain⟨D,E,F,rfl,rfl,M,N,O⟩:=U1 z
   try dsimp only at a
   refine eX (!eqE (A,B,C) (D,E,F)) (aI (D0k _ _ _ rfl _ _ _ _ _ _) ?_)
   refine ifB a (λx a=>?_) λx a=>?_
   ·obtain rfl:=oJ a
    try dsimp only[T4,Z4]at b
    obtain rfl:=oJ b
    exact aI rfl f
   ·exact L2 g ⟨(IntKind.i64.wrap (c+1)),rfl,rfl,f,(M0 _),a⟩
  ·obtain rfl:=oJ a
   try dsimp only[U0,Y0]at b
   obtain rfl:=oJ b
   exact aI rfl f
theorem O06(h:Hp)(b:List Value)(d:j0)(w:C1.R h b d)(c:List Value)(e:j0)(x:C1.R h c e)(r:Bool)(a:d00 d e=some r):
  Tr Tryz.prog 97 #[.agg b.toArray,.agg c.toArray] h λv m=>v = .bool r/\m=h:=by
 obtain⟨n,o,i,E,k,p,rfl,rfl,y,z,f⟩:=C0 w
 obtain⟨rfl,C⟩:=Sl.len f
 obtain⟨s,t,j,F,l,u,rfl,rfl,A,B,g⟩:=C0 x
 obtain⟨rfl,D⟩:=Sl.len g
 unfold d00 at a
 dsimp only at a
 refine Tr.forget (A2 (args:=[.agg #[.int .i64 n,.int .i64 o,.slice i p.length k],.agg #[.int .i64 s,.int .i64 t,.slice j u.length l]]) (fn:=Tryz.f97) rfl ?_)
 refine trG a (λq=>M03 _ _ _ _ _ f _ _ _ _ g) λG a=>?_
 obtain rfl:=oJ a
 exact aI rfl (Sub.refl _)
theorem L0a(h:Hp)(G:List Value)(J:j0)(ao:C1.R h G J)(i:Int)(aH:J0 i)(r:(List Bool))(e:M00 J i=some r):
  Tr Tryz.prog 301 #[.agg G.toArray,.int .i64 i] h λv f=>∃(E:Option Addr) (I F:Nat),v = .slice E I F/\(Wp.slice Wp.bool).R f [.slice E I F] r/\Sub h f:=by
 obtain⟨an,q,L,aQ,T,s,rfl,rfl,aF,aG,K⟩:=C0 ao
 obtain⟨rfl,aO⟩:=Sl.len K
 unfold M00 at e
 dsimp only at e
 refine A2 (args:=[.agg #[.int .i64 an,.int .i64 q,.slice L s.length T],.int .i64 i]) (fn:=Tryz.f301) rfl ?_
 obtain⟨aR,ab,e⟩:=z0 e
 refine aI (E2 ab) ?_
 obtain⟨aX,ae,e⟩:=z0 e
 obtain⟨P,aC,X,au⟩:=J5 (F2.rep (p:=Wp.bool.R h) (a:=[.bool false]) (b:=false) rfl (q.toNat)) ae
 refine aI P ?_
 obtain rfl:=au
 refine eX _ (aI X ?_)
 obtain⟨C,ah,e⟩:=z0 e
 refine eX { vars:=[6],boxes:=[],owns:=[0],fuel:=true,kept:=[0] } (eX (λvs os f=>∃ w x m,vs.tail = [.bool w]/\os = [x]/\Sub h f/\F2 (Wp.bool.R f) x m/\O5 s (Z1 vs) w m=some C) (eX (λ_ _=>0) (aI (eX T0 ⟨true,((List.replicate q.toNat ([.bool false]:List Value)).set i.toNat [.bool true]),((List.replicate q.toNat (false:Bool)).set i.toNat true),rfl,rfl,(Sub.refl _),(F2.set (p:=Wp.bool.R h) (a:=[.bool true]) (b:=true) rfl i.toNat (F2.rep (p:=Wp.bool.R h) (a:=[.bool false]) (b:=false) rfl (q.toNat))),ah⟩) ?_)))
 rintro _ x t am ⟨w,a1,m,⟨⟩,⟨⟩,A,H,d⟩
 replace d:O5 s t w m=some C:=d
 obtain _|t:=t
 ·cases d
 rw[O5.eq_2]at d
 refine ifB d (λal d=>?_) λal d=>?_
 ·obtain⟨D,ai,d⟩:=z0 d
  refine eX { vars:=[6,19],boxes:=[],owns:=[0],fuel:=true,kept:=[0] } (eX (λvs os f=>∃ l j n k,vs.tail = [.bool l,.int .i64 j]/\os = [n]/\Sub am f/\J0 j/\F2 (Wp.bool.R f) n k/\O4 s (Z1 vs) l j k=some D) (eX (λ_ _=>0) (aI (eX T0 ⟨false,0,x,m,rfl,rfl,(Sub.refl _),(by decide),H,ai⟩) ?_)))
  rintro _ _ n o z ⟨l,j,a0,k,⟨⟩,⟨⟩,u,aJ,g,c⟩
  replace c:O4 s o l j k=some D:=c
  obtain _|o:=o
  ·cases c
  rw[O4.eq_2]at c
  refine ifB c (λaj c=>?_) λaj c=>?_
  ·refine ld c (I0.mono (A.trans u) K) λaT az ap c=>?_
   obtain⟨y,aU,B,rfl,rfl,aK,aL,aM⟩:=U1 ap
   try dsimp only at c
   refine Or.inl (aI (aI (by kernel_rfl) (by kernel_rfl)) ?_)
   obtain⟨aV,ac,c⟩:=z0 c
   obtain⟨N,aA,V,aq⟩:=J5 g ac
   refine aI N ?_
   obtain rfl:=aq
   refine eX _ (aI V ?_)
   obtain⟨aW,ad,c⟩:=z0 c
   obtain⟨O,aB,W,ar⟩:=J5 g ad
   refine aI O ?_
   obtain rfl:=ar
   refine eX _ (aI W ?_)
   refine ifB c (λak c=>?_) λak c=>?_
   ·obtain⟨aY,af,c⟩:=z0 c
    obtain⟨Q,aD,Y,av⟩:=J5 g af
    refine aI Q ?_
    obtain rfl:=av
    refine eX _ (aI Y ?_)
    obtain⟨aZ,ag,c⟩:=z0 c
    obtain⟨S,aE,Z,aw⟩:=J5 (F2.set (p:=Wp.bool.R z) (a:=[.bool true]) (b:=true) rfl y.toNat g) ag
    refine aI S ?_
    obtain rfl:=aw
    refine eX _ (aI Z ?_)
    exact L2 o ⟨true,(IntKind.i64.wrap (j+1)),((n.set y.toNat [.bool true]).set B.toNat [.bool true]),((k.set y.toNat true).set B.toNat true),rfl,rfl,u,(M0 _),(F2.set (p:=Wp.bool.R z) (a:=[.bool true]) (b:=true) rfl B.toNat (F2.set (p:=Wp.bool.R z) (a:=[.bool true]) (b:=true) rfl y.toNat g)),c⟩
   ·exact L2 o ⟨l,(IntKind.i64.wrap (j+1)),n,k,rfl,rfl,u,(M0 _),g,c⟩
  ·obtain rfl:=oJ c
   try dsimp only[U0,Y0]at d
   exact L2 t ⟨l,n,k,rfl,rfl,(A.trans u),g,d⟩
 ·obtain rfl:=oJ d
  try dsimp only[U0,Y0]at e
  intro aS aN aa
  obtain⟨M,U,rfl,ax,ay,aP⟩:=Z0.out (r:=Wp.bool.toRp) aa H
  obtain rfl:=oJ e
  exact⟨M,m.length,U,rfl,ax,(A.trans ay)⟩
theorem d0a(h:Hp)(c:Int)(B:J0 c)(r:B0)(f:t00 c=some r):
  Tr Tryz.prog 309 #[.int .i64 c] h λv e=>∃(l:Option Addr) (p m:Nat),v = .slice l p m/\D0.R e [.slice l p m] r/\Sub h e:=by
 unfold t00 at f
 refine A2 (args:=[.int .i64 c]) (fn:=Tryz.f309) rfl ?_
 obtain⟨k,x,f⟩:=z0 f
 refine eX { vars:=[4],boxes:=[],owns:=[0],fuel:=true } (eX (λvs os e=>∃ a j d,vs.tail = [.int .i64 a]/\os = [j]/\Sub h e/\J0 a/\F2 (Wp.int.R e) j d/\T8 c (Z1 vs) a d=some k) (eX (λ_ _=>0) (aI (eX T0 ⟨1,[],([]:B0),rfl,rfl,(Sub.refl _),(by decide),(show F2 (Wp.int.R h) ([]:List (List Value)) ([]:B0) from trivial),x⟩) ?_)))
 rintro _ j i o ⟨a,G,d,⟨⟩,⟨⟩,q,n,g,b⟩
 replace b:T8 c i a d=some k:=b
 obtain _|i:=i
 ·cases b
 rw[T8.eq_2]at b
 refine ifB b (λy b=>?_) λy b=>?_
 ·obtain⟨E,w,b⟩:=z0 b
  refine aI (P1 w (by first|rw[F2.length g,F2.length (show F2 (Wp.int.R o) ([[.int .i64 a],[.int .i64 (IntKind.i64.wrap (0-a))]]:List (List Value)) [a,(IntKind.i64.wrap (0-a))] from⟨⟨rfl,n⟩,⟨⟨rfl,(M0 _)⟩,trivial⟩⟩)]|exact congrArg (·+2) (F2.length g))) ?_
  exact L2 i ⟨(IntKind.i64.wrap (a+1)),(j++([[.int .i64 a],[.int .i64 (IntKind.i64.wrap (0-a))]]:List (List Value))),(d ++ [a,(IntKind.i64.wrap (0-a))]),rfl,rfl,q,(M0 _),(F2.append g (show F2 (Wp.int.R o) ([[.int .i64 a],[.int .i64 (IntKind.i64.wrap (0-a))]]:List (List Value)) [a,(IntKind.i64.wrap (0-a))] from⟨⟨rfl,n⟩,⟨⟨rfl,(M0 _)⟩,trivial⟩⟩)),b⟩
 ·obtain rfl:=oJ b
  try dsimp only[U0,Y0]at f
  intro F C u
  obtain⟨s,t,rfl,z,A,D⟩:=Z0.out (r:=Wp.int.toRp) u g
  obtain rfl:=oJ f
  exact⟨s,d.length,t,rfl,z,(q.trans A)⟩
theorem w05(h:Hp)(c:Option Addr)(l d:Nat)(b:K0)(o:I0.R h [.slice c l d] b)(r:K0)(a:X00 b=some r):
  Tr Tryz.prog 251 #[.slice c l d] h λv x=>∃(e:Option Addr) (k f:Nat),v = .slice e k f/\New I0 h x [.slice e k f] r:=by
 obtain⟨rfl,E⟩:=Sl.len o
 unfold X00 at a
 refine A2 (args:=[.slice c b.length d]) (fn:=Tryz.f251) rfl ?_
 obtain⟨y,s,g⟩:=Sl.rows (r:=E1.toRp) o
 refine eX y (aI s ?_)
 obtain⟨H,u,a⟩:=z0 a
 refine aI (P1 u (by first|rw[F2.length (show F2 (E1.R h) ([]:List (List Value)) ([]:K0) from trivial),F2.length g]|exact congrArg (·+1) (F2.length (show F2 (E1.R h) ([]:List (List Value)) ([]:K0) from trivial)))) ?_
 refine Or.inl ?_
 intro N B t
 obtain⟨I,w,a⟩:=z0 a
 refine Tr.mono (L0m _ t (F2.append (show F2 (E1.R h) ([]:List (List Value)) ([]:K0) from trivial) g) (E2 w)) ?_
 rintro _ C ⟨rfl,O,i,m⟩
 obtain⟨z,A,rfl,J,L,F⟩:=Z0.out (r:=E1.toRp) i m
 refine Tr.mono (M0m _ i m) ?_
 rintro _ D ⟨P,j,n⟩
 obtain⟨p,q,rfl,K,M,G⟩:=Z0.out (r:=E1.toRp) j n
 obtain rfl:=oJ a
 exact⟨p,((X04 eqE (Y07 S0 (([]:K0)++b)))).length,q,rfl,(Z0.newPlain (r:=E1) j n (Z09 _))⟩
theorem e0a(h:Hp)(X:List Value)(ae:j0)(aW:C1.R h X ae)(I:Option Addr)(ad J:Nat)(w:B0)(ah:D0.R h [.slice I ad J] w)(r:j0)(d:l03 ae w=some r):
  Tr Tryz.prog 291 #[.agg X.toArray,.slice I ad J] h λv e=>∃(W:List Value),v = .agg W.toArray/\New C1 h e W r:=by
 obtain⟨af,i,ai,bH,ap,P,rfl,rfl,aQ,bn,ag⟩:=C0 aW
 obtain⟨rfl,bE⟩:=Sl.len ag
 obtain⟨rfl,aU⟩:=Sl.len ah
 unfold l03 at d
 dsimp only at d
 refine A2 (args:=[.agg #[.int .i64 af,.int .i64 i,.slice ai P.length ap],.slice I w.length J]) (fn:=Tryz.f291) rfl ?_
 obtain⟨bJ,aA,d⟩:=z0 d
 refine aI (E2 aA) ?_
 obtain⟨aV,az,d⟩:=z0 d
 obtain rfl:(List.replicate i.toNat ([.int .i64 0]:List Value)).length=aV:=(F2.length (F2.rep (p:=Wp.int.R h) (a:=[.int .i64 0]) (b:=0) ⟨rfl,(by decide)⟩ (i.toNat))).trans (oJ az)
 obtain⟨bK,bm,d⟩:=z0 d
 obtain⟨V,aL,d⟩:=z0 d
 refine eX { vars:=[17],boxes:=[],owns:=[0],fuel:=true,kept:=[0] } (eX (λvs os e=>∃ g C y,vs.tail = [.int .i64 g]/\os = [C]/\Sub h e/\J0 g/\F2 (Wp.int.R e) C y/\Z00 ((List.replicate i.toNat ([.int .i64 0]:List Value))).length (Z1 vs) g y=some V) (eX (λ_ _=>0) (aI (eX T0 ⟨0,(List.replicate i.toNat ([.int .i64 0]:List Value)),(List.replicate i.toNat (0:Int)),rfl,rfl,(Sub.refl _),(by decide),(F2.rep (p:=Wp.int.R h) (a:=[.int .i64 0]) (b:=0) ⟨rfl,(by decide)⟩ (i.toNat)),aL⟩) ?_)))
 rintro _ C E ac ⟨g,b3,y,⟨⟩,⟨⟩,G,bp,K,c⟩
 replace c:Z00 ((List.replicate i.toNat ([.int .i64 0]:List Value))).length E g y=some V:=c
 obtain _|E:=E
 ·cases c
 rw[Z00.eq_2]at c
 refine ifB c (λaP c=>?_) λaP c=>?_
 ·obtain⟨bU,aC,c⟩:=z0 c
  obtain⟨ak,be,ar,aX⟩:=J5 K aC
  refine aI ak ?_
  obtain⟨rfl,bq⟩:=aX
  refine eX _ (aI ar ?_)
  exact L2 E ⟨(IntKind.i64.wrap (g+1)),(C.set g.toNat [.int .i64 (-1)]),(y.set g.toNat (-1)),rfl,rfl,G,(M0 _),(F2.set (p:=Wp.int.R ac) (a:=[.int .i64 (-1)]) (b:=(-1)) ⟨rfl,(by decide)⟩ g.toNat K),c⟩
 ·obtain rfl:=oJ c
  try dsimp only[U0,Y0]at d
  obtain⟨T,aJ,d⟩:=z0 d
  refine eX { vars:=[26],boxes:=[],owns:=[0],fuel:=true,kept:=[0] } (eX (λvs os e=>∃ f H o,vs.tail = [.int .i64 f]/\os = [H]/\Sub ac e/\J0 f/\F2 (Wp.int.R e) H o/\Y00 w (Z1 vs) f o=some T) (eX (λ_ _=>0) (aI (eX T0 ⟨0,C,y,rfl,rfl,(Sub.refl _),(by decide),K,aJ⟩) ?_)))
  rintro _ H D N ⟨f,b1,o,⟨⟩,⟨⟩,F,aR,u,c⟩
  replace c:Y00 w D f o=some T:=c
  obtain _|D:=D
  ·cases c
  rw[Y00.eq_2]at c
  refine ifB c (λaM c=>?_) λaM c=>?_
  ·refine ldI c (D0.mono (G.trans F) ah) λS br c=>?_
   obtain⟨bV,aD,c⟩:=z0 c
   obtain⟨al,bf,au,aY⟩:=J5 u aD
   refine aI al ?_
   obtain⟨rfl,bs⟩:=aY
   refine eX _ (aI au ?_)
   exact L2 D ⟨(IntKind.i64.wrap (f+1)),(H.set S.toNat [.int .i64 f]),(o.set S.toNat f),rfl,rfl,F,(M0 _),(F2.set (p:=Wp.int.R N) (a:=[.int .i64 f]) (b:=f) ⟨rfl,aR⟩ S.toNat u),c⟩
  ·obtain rfl:=oJ c
   try dsimp only[U0,Y0]at d
   obtain⟨U,aK,d⟩:=z0 d
   refine eX { vars:=[44],boxes:=[2],owns:=[1],fuel:=true,nilsB:=[(2,2,166,3,24)] } (eX (λvs os e=>∃ s k l B x,vs.tail = [.int .i64 s,.int .i64 k,.int .i64 l]/\os = [B]/\Sub N e/\J0 s/\J0 k/\J0 l/\F2 (E1.R e) B x/\n00 P o (Z1 vs) s k l x=some U) (eX (λ_ _=>0) (aI (eX T0 ⟨0,af,((w.length:Nat):Int),[],([]:K0),rfl,rfl,(Sub.refl _),(by decide),aQ,(n0r aU),(show F2 (E1.R N) [] [] from trivial),aK⟩) ?_)))
   rintro _ _ _ B A O ⟨s,k,l,b2,x,⟨⟩,⟨⟩,j,bo,L,M,z,c⟩
   replace c:n00 P o A s k l x=some U:=c
   obtain _|A:=A
   ·cases c
   rw[n00.eq_2]at c
   refine ifB c (λaN c=>?_) λaN c=>?_
   ·refine ld c (I0.mono ((G.trans F).trans j) ag) λbW bg aZ c=>?_
    obtain⟨bX,t,bY,rfl,rfl,bt,Z,bu⟩:=U1 aZ
    try dsimp only at c
    obtain⟨bZ,aE,c⟩:=z0 c
    obtain⟨am,bh,av,a0⟩:=J5 (F2.up (r:=Wp.int.toRp) j u) aE
    refine aI am ?_
    obtain⟨rfl,bv⟩:=a0
    refine eX _ (aI av ?_)
    obtain⟨b0,aF,c⟩:=z0 c
    obtain⟨bi,Y,a1⟩:=F05 (F2.up (r:=Wp.int.toRp) j u) aF (n0g O)
    refine aI (λq=>(Y q).1) ?_
    obtain⟨rfl,bx⟩:=a1
    refine eX _ (aI (λq=>(Y q).2) ?_)
    refine ifB c (λaO c=>?_) λaO c=>?_
    ·refine Or.inr (Or.inr (Or.inl (aI (aI (by kernel_rfl) (by kernel_rfl)) ?_)))
     obtain⟨m,aG,c⟩:=z0 c
     obtain⟨an,bj,aw,a2⟩:=J5 (F2.up (r:=Wp.int.toRp) j u) aG
     obtain⟨rfl,aa⟩:=a2
     refine Or.inl ?_
     apply eX
     refine aI ?_ ?_
     ·intro bz bM
      exact aI an (aI rfl (aI rfl rfl))
     refine Or.inl (eX (.val (.int .i64 m)) (aI ?_ ?_))
     ·intro bA bN
      exact eX _ (aI aw (aI rfl (aI rfl rfl)))
     obtain⟨n,aH,c⟩:=z0 c
     obtain⟨ao,bk,ax,a3⟩:=J5 (F2.up (r:=Wp.int.toRp) j u) aH
     obtain⟨rfl,ab⟩:=a3
     refine Or.inl ?_
     apply eX
     refine aI ?_ ?_
     ·intro bB bO
      exact aI ao (aI rfl (aI rfl rfl))
     refine Or.inl (eX (.val (.int .i64 n)) (aI ?_ ?_))
     ·intro bC bP
      exact eX _ (aI ax (aI rfl (aI rfl rfl)))
     refine Or.inl (eX (.agg [.val (.int .i64 m),.val (.int .i64 t),.val (.int .i64 n)]) (aI ?_ ?_))
     ·intro bD bQ
      exact aI rfl (aI rfl rfl)
     refine Or.inr ?_
     refine Or.inr ?_
     refine Or.inr ?_
     refine Or.inl (eX 0 (aI (aI rfl rfl) ?_))
     refine aI trivial (aI (by first|exact trivial|exact rfl) ?_)
     obtain⟨bL,aB,c⟩:=z0 c
     refine aI (P1 aB (by first|rw[F2.length z,F2.length (show F2 (E1.R O) ([[.int .i64 m,.int .i64 t,.int .i64 n]]:List (List Value)) [(m,t,n)] from⟨(M1 aa Z ab),trivial⟩)]|exact congrArg (·+1) (F2.length z))) ?_
     refine aI trivial (aI (by first|exact trivial|exact rfl) ?_)
     refine aI trivial (aI (by first|exact trivial|exact rfl) ?_)
     exact L2 A ⟨(IntKind.i64.wrap (s+1)),k,l,(B++([[.int .i64 m,.int .i64 t,.int .i64 n]]:List (List Value))),(x ++ [(m,t,n)]),rfl,rfl,j,(M0 _),L,M,(F2.append z (show F2 (E1.R O) ([[.int .i64 m,.int .i64 t,.int .i64 n]]:List (List Value)) [(m,t,n)] from⟨(M1 aa Z ab),trivial⟩)),c⟩
    ·exact L2 A ⟨(IntKind.i64.wrap (s+1)),k,l,B,x,rfl,rfl,j,(M0 _),L,M,z,c⟩
   ·obtain rfl:=oJ c
    try dsimp only[U0,Y0]at d
    refine Or.inl ?_
    intro bS aS ay
    obtain⟨bd,bl,rfl,ba,bb,bG⟩:=Z0.out (r:=E1.toRp) ay z
    refine trM d (w05 _ _ _ _ _ ba) ?_
    rintro bc d bT aT ⟨aj,bI,aq,rfl,Q⟩
    have bR:Sub aS aT:=Q.sub
    have a4:=Q.r
    obtain⟨rfl,bF⟩:=Sl.len a4
    obtain rfl:=oJ d
    exact⟨([.int .i64 k,.int .i64 l,.slice aj bc.length aq]),rfl,(New.pair (New.int L) (New.pair (New.int M) (New.from Q (((G.trans F).trans j).trans bb))))⟩
theorem T04(h:Hp)(Y:List Value)(an:j0)(bm:C1.R h Y an)(f:Int)(be:J0 f)(r:B0×Y1)(g:o8 an f=some r):
  Tr Tryz.prog 236 #[.agg Y.toArray,.int .i64 f] h λv e=>∃(U:Option Addr) (ak W:Nat) (V:Option Addr) (al X:Nat),v = .tuple #[.slice U ak W,.slice V al X]/\D0.R e [.slice U ak W] r.1/\j2.R e [.slice V al X] r.2/\Sub h e:=by
 obtain⟨B,j,ay,b8,aG,C,rfl,rfl,ag,bd,ap⟩:=C0 bm
 obtain⟨rfl,bX⟩:=Sl.len ap
 unfold o8 at g
 dsimp only at g
 refine A2 (args:=[.agg #[.int .i64 B,.int .i64 j,.slice ay C.length aG],.int .i64 f]) (fn:=Tryz.f236) rfl ?_
 obtain⟨ck,aT,g⟩:=z0 g
 refine aI (E2 aT) ?_
 obtain⟨cw,aY,g⟩:=z0 g
 obtain⟨aD,bH,aL,bo⟩:=J5 (F2.rep (p:=Wp.opt.R h) (a:=[.slice none 0 0]) (b:=none) (D0t h) (j.toNat)) aY
 refine aI aD ?_
 obtain⟨bC,cb,bM,rfl,ch,bj⟩:=bo
 obtain⟨rfl,bZ⟩:=Sl.len bj
 intro cr M aQ
 obtain⟨af,aa,rfl,bx,P,b7⟩:=Z0.outS (r:=Wp.int.toRp) aQ (show F2 (Wp.int.R h) ([]:List (List Value)) ([]:B0) from trivial)
 refine eX _ (aI aL ?_)
 obtain⟨T,a3,g⟩:=z0 g
 refine eX { vars:=[8],boxes:=[],owns:=[0,2],fuel:=true,kept:=[0] } (eX (λvs os e=>∃ u8 I w E u,vs.tail = [.int .i64 u8]/\os = [I,E]/\Sub M e/\J0 u8/\F2 (Wp.opt.R e) I w/\F2 (Wp.int.R e) E u/\T5 B j C (Z1 vs) u8 w u=some T) (eX (λ_ _=>0) (aI (eX T0 ⟨0,((List.replicate j.toNat ([.slice none 0 0]:List Value)).set f.toNat [.slice (some ⟨af,0,none⟩) (([]:B0)).length aa]),((List.replicate j.toNat (none:Option B0)).set f.toNat (some ([]:B0))),([[.int .i64 f]]:List (List Value)),[f],rfl,rfl,(Sub.refl _),(by decide),(F2.set (p:=Wp.opt.R M) (a:=[.slice (some ⟨af,0,none⟩) (([]:B0)).length aa]) (b:=some ([]:B0)) (E0t bx) f.toNat (F2.up (r:=Wp.opt.toRp) P (F2.rep (p:=Wp.opt.R h) (a:=[.slice none 0 0]) (b:=none) (D0t h) (j.toNat)))),(show F2 (Wp.int.R M) ([[.int .i64 f]]:List (List Value)) [f] from⟨⟨rfl,be⟩,trivial⟩),a3⟩) ?_)))
 rintro _ I E G bU ⟨u8,cD,w,cz,u,⟨⟩,⟨⟩,O,bT,ac,F,d⟩
 replace d:T5 B j C G u8 w u=some T:=d
 obtain _|G:=G
 ·cases d
 rw[T5.eq_2]at d
 obtain⟨bh,aS,d⟩:=z0 d
 obtain rfl:E.length=bh:=(F2.length F).trans (oJ aS)
 obtain⟨cl,bR,d⟩:=z0 d
 refine ifB d (λba d=>?_) λba d=>?_
 ·obtain⟨aw,aX,d⟩:=z0 d
  obtain⟨aC,bG,aK,bn⟩:=J5 F aX
  refine aI aC ?_
  obtain⟨rfl,bf⟩:=bn
  refine eX _ (aI aK ?_)
  refine trM d (d0a _ _ ag) ?_
  rintro ax d cq bg ⟨bB,ca,bL,rfl,aq,H⟩
  obtain⟨rfl,bY⟩:=Sl.len aq
  obtain⟨S,a2,d⟩:=z0 d
  refine eX { vars:=[36],boxes:=[],owns:=[0,2],fuel:=true,kept:=[0] } (eX (λvs os e=>∃ l x m y n,vs.tail = [.int .i64 l]/\os = [x,y]/\Sub bg e/\J0 l/\F2 (Wp.opt.R e) x m/\F2 (Wp.int.R e) y n/\S3 ax B j C aw (Z1 vs) l m n=some S) (eX (λ_ _=>0) (aI (eX T0 ⟨0,I,w,E,u,rfl,rfl,(Sub.refl _),(by decide),(F2.up (r:=Wp.opt.toRp) H ac),(F2.up (r:=Wp.int.toRp) H F),a2⟩) ?_)))
  rintro _ x y A ai ⟨l,cA,m,cC,n,⟨⟩,⟨⟩,D,bS,t,z,c⟩
  replace c:S3 ax B j C aw A l m n=some S:=c
  obtain _|A:=A
  ·cases c
  rw[S3.eq_2]at c
  refine ifB c (λbb c=>?_) λbb c=>?_
  ·refine ldI c (D0.mono D aq) λk K c=>?_
   refine trV c (d03 _ _ _ (l0 ag bd (I0.mono (((P.trans O).trans H).trans D) ap)) _ bf _ K) λi c=>?_
   obtain⟨cm,aU,c⟩:=z0 c
   have ah:J0 i:=E2 aU
   obtain⟨bA,aZ,c⟩:=z0 c
   obtain⟨bI,ab,bp⟩:=F05 t aZ (C0u ai)
   refine aI (λq=>(ab q).1) ?_
   obtain⟨bD,cc,bN,rfl,bi,bk⟩:=bp
   obtain⟨rfl,b0⟩:=Sl.len bk
   refine eX _ (aI (λq=>(ab q).2) ?_)
   refine eX (bA.isNone) (aI (λ_=>by rw[←bi];exact B0u _ _ _ rfl _ _ _) ?_)
   refine ifB c (λbc c=>?_) λbc c=>?_
   ·obtain⟨cx,a0,c⟩:=z0 c
    obtain⟨aE,bJ,aM,bq⟩:=J5 t a0
    refine aI aE ?_
    obtain⟨bE,cd,bO,rfl,ci,ao⟩:=bq
    obtain⟨rfl,b1⟩:=Sl.len ao
    refine eX _ (aI aM ?_)
    obtain⟨J,ad,c⟩:=z0 c
    refine Tr.mono (h04 _ _ _ _ _ ao _  ad) ?_
    rintro cs L ⟨ad,ce,bP,rfl,Q⟩
    have cp:Sub ai L:=Q.sub
    have br:=Q.r
    obtain⟨rfl,b2⟩:=Sl.len br
    obtain⟨cn,aV,c⟩:=z0 c
    obtain⟨bz,bt,aj,az⟩:=New.app Q (Sub.refl _)
    refine eX bz (aI bt (aI (P1 aV (by first|rw[aj,F2.length (show F2 (Wp.int.R L) ([[.int .i64 k]]:List (List Value)) [k] from⟨⟨rfl,K⟩,trivial⟩)]|(rw[aj];rfl))) ?_))
    intro cv N a4
    obtain⟨s,ae,am,cg,Z,rfl⟩:=az _ _ _ _ _ (F3.ofPlain (G05 _) (show F2 (Wp.int.R L) ([[.int .i64 k]]:List (List Value)) [k] from⟨⟨rfl,K⟩,trivial⟩)) l4.ofPlain a4
    have ar:=s.r
    obtain⟨aO,b4⟩:=Sl.len ar
    subst aO
    obtain⟨cy,a1,c⟩:=z0 c
    obtain⟨aF,bK,aN,bs⟩:=J5 (F2.up (r:=Wp.opt.toRp) s.sub t) a1
    refine aI aF ?_
    obtain⟨bF,cf,bQ,rfl,cj,bl⟩:=bs
    obtain⟨rfl,b3⟩:=Sl.len bl
    refine eX _ (aI aN ?_)
    obtain⟨co,aW,c⟩:=z0 c
    refine aI (P1 aW (by first|rw[F2.length (F2.up (r:=Wp.int.toRp) s.sub z),F2.length (show F2 (Wp.int.R N) ([[.int .i64 i]]:List (List Value)) [i] from⟨⟨rfl,ah⟩,trivial⟩)]|exact congrArg (·+1) (F2.length (F2.up (r:=Wp.int.toRp) s.sub z)))) ?_
    exact L2 A ⟨(IntKind.i64.wrap (l+1)),(x.set i.toNat [.slice (some ⟨ae,am,none⟩) (J ++ [k]).length Z]),(m.set i.toNat (some (J ++ [k]))),(y++([[.int .i64 i]]:List (List Value))),(n ++ [i]),rfl,rfl,(D.trans s.sub),(M0 _),(F2.set (p:=Wp.opt.R N) (a:=[.slice (some ⟨ae,am,none⟩) (J ++ [k]).length Z]) (b:=some (J ++ [k])) (E0t ar) i.toNat (F2.up (r:=Wp.opt.toRp) s.sub t)),(F2.append (F2.up (r:=Wp.int.toRp) s.sub z) (show F2 (Wp.int.R N) ([[.int .i64 i]]:List (List Value)) [i] from⟨⟨rfl,ah⟩,trivial⟩)),c⟩
   ·exact L2 A ⟨(IntKind.i64.wrap (l+1)),x,m,y,n,rfl,rfl,D,(M0 _),t,z,c⟩
  ·obtain rfl:=oJ c
   try dsimp only[U0,Y0]at d
   exact L2 G ⟨(IntKind.i64.wrap (u8+1)),x,m,y,n,rfl,rfl,((O.trans H).trans D),(M0 _),t,z,d⟩
 ·obtain rfl:=oJ d
  try dsimp only[U0,Y0]at g
  intro ct bV aP
  obtain⟨aA,aH,rfl,bu,au,b5⟩:=Z0.out (r:=Wp.int.toRp) aP F
  intro cu bW aR
  obtain⟨aB,aJ,rfl,bv,av,b6⟩:=Z0.out (r:=D0.toRp) aR (F2.ofOpt (F2.up (r:=Wp.opt.toRp) au ac))
  obtain rfl:=oJ g
  exact⟨aA,u.length,aH,aB,(List.map (λo:Option B0=>o.getD ([]:B0)) w).length,aJ,rfl,(D0.mono av bu),bv,(((P.trans O).trans au).trans av)⟩
theorem e09(h:Hp)(f:List Value)(l:j0)(A:C1.R h f l)(r:B0)(a:Y9 l=some r):
  Tr Tryz.prog 303 #[.agg f.toArray] h λv g=>∃(d:Option Addr) (k e:Nat),v = .slice d k e/\D0.R g [.slice d k e] r/\Sub h g:=by
 obtain⟨x,y,n,O,q,z,rfl,rfl,i,j,b⟩:=C0 A
 obtain⟨rfl,K⟩:=Sl.len b
 unfold Y9 at a
 dsimp only at a
 refine A2 (args:=[.agg #[.int .i64 x,.int .i64 y,.slice n z.length q]]) (fn:=Tryz.f303) rfl ?_
 refine trV a (C01 _ _ _ (l0 i j b)) λU a=>?_
 refine ifB a (λw a=>?_) λw a=>?_
 ·intro S I u
  obtain⟨p,t,rfl,B,D,N⟩:=Z0.out (r:=Wp.int.toRp) u (show F2 (Wp.int.R h) ([]:List (List Value)) ([]:B0) from trivial)
  obtain rfl:=oJ a
  exact⟨p,(([]:B0)).length,t,rfl,B,D⟩
 ·refine trM a (T04 _ _ _ (l0 i j b) 0 (by decide)) ?_
  rintro E a T J ⟨o,P,s,G,Q,H,rfl,c,m,C⟩
  obtain⟨F,V⟩:=E
  dsimp only at a c m
  obtain⟨rfl,L⟩:=Sl.len c
  obtain⟨rfl,M⟩:=Sl.len m
  obtain rfl:=oJ a
  exact⟨o,F.length,s,rfl,c,C⟩
theorem a05(h:Hp)(j:List Value)(k:j0)(J:C1.R h j k)(r:j0)(a:D8 k=some r):
  Tr Tryz.prog 221 #[.agg j.toArray] h λv x=>∃(i:List Value),v = .agg i.toArray/\New C1 h x i r:=by
 obtain⟨G,H,n,af,p,I,rfl,rfl,c,d,b⟩:=C0 J
 obtain⟨rfl,ab⟩:=Sl.len b
 unfold D8 at a
 dsimp only at a
 refine A2 (args:=[.agg #[.int .i64 G,.int .i64 H,.slice n I.length p]]) (fn:=Tryz.f221) rfl ?_
 refine trV a (C01 _ _ _ (l0 c d b)) λan a=>?_
 refine ifB a (λy a=>?_) λy a=>?_
 ·refine trM a (R7 _ _ _ (l0 c d b)) ?_
  rintro U a al E ⟨w,ah,s,rfl,e⟩
  have aj:Sub h E:=e.sub
  have l:=e.r
  obtain⟨V,W,X⟩:=U
  dsimp only at a e l
  obtain⟨_,_,_,_,_,_,t,u,B,C,M⟩:=C0 l
  cases t
  cases u
  obtain⟨rfl,ad⟩:=Sl.len M
  try dsimp only at a
  have P:=New.sndI (New.sndI (e))
  obtain rfl:=oJ a
  exact⟨([.int .i64 V,.int .i64 W,.slice (some ⟨w,0,none⟩) X.length s]),rfl,(New.pair (New.int B) (New.pair (New.int C) P))⟩
 ·refine Or.inr (Or.inr (Or.inl (aI (aI (by kernel_rfl) (by kernel_rfl)) ?_)))
  refine Or.inr ?_
  refine Or.inr ?_
  refine Or.inr ?_
  refine Or.inl (eX 2 (aI (aI rfl rfl) ?_))
  refine trM a (e09 _ _ _ (l0 c d b)) ?_
  rintro ap a am F ⟨Y,ai,aa,rfl,m,f⟩
  obtain⟨rfl,ae⟩:=Sl.len m
  refine aI (aI rfl f) (aI (by first|exact trivial|exact rfl) ?_)
  refine trM a (e0a _ _ _ (l0 c d (I0.mono f b)) _ _ _ _ m) ?_
  rintro ao a ak D ⟨Z,rfl,g⟩
  have N:Sub F D:=g.sub
  have K:=g.r
  obtain⟨Q,S,o,ag,q,T,rfl,rfl,z,A,L⟩:=C0 K
  obtain⟨rfl,ac⟩:=Sl.len L
  try dsimp only at a
  have O:=New.sndI (New.sndI (g))
  refine aI (aI rfl N) (aI (by first|exact trivial|exact rfl) ?_)
  refine aI trivial (aI (by first|exact trivial|exact rfl) ?_)
  obtain rfl:=oJ a
  exact⟨([.int .i64 Q,.int .i64 S,.slice o T.length q]),rfl,(New.pair (New.int z) (New.pair (New.int A) (New.from O f)))⟩
theorem n08(h:Hp)(al:List Value)(aF:j0)(bR:C1.R h al aF)(r:j0×B0)(c:U8 aF=some r):
  Tr Tryz.prog 220 #[.agg al.toArray] h λv d=>∃(ak:List Value) (ai:Option Addr) (aE aj:Nat),v = .tuple #[.agg ak.toArray,.slice ai aE aj]/\New C1 h d ak r.1/\D0.R d [.slice ai aE aj] r.2:=by
 obtain⟨bN,U,aU,cz,a2,bO,rfl,rfl,av,aw,V⟩:=C0 bR
 obtain⟨rfl,cp⟩:=Sl.len V
 unfold U8 at c
 dsimp only at c
 refine A2 (args:=[.agg #[.int .i64 bN,.int .i64 U,.slice aU bO.length a2]]) (fn:=Tryz.f220) rfl ?_
 refine trM c (R7 _ _ _ (l0 av aw V)) ?_
 rintro b7 c cO H ⟨aq,cA,am,rfl,N⟩
 have X:Sub h H:=N.sub
 have aH:=N.r
 obtain⟨aO,aP,ab⟩:=b7
 dsimp only at c N aH
 obtain⟨_,_,_,_,_,_,bc,be,aA,aB,bS⟩:=C0 aH
 cases bc
 cases be
 obtain⟨rfl,cr⟩:=Sl.len bS
 try dsimp only at c
 have aL:=New.sndI (New.sndI (N))
 refine trV c (t02 _ _ _ (l0 av aw (I0.mono X V))) λcV c=>?_
 refine ifB c (λbB c=>?_) λbB c=>?_
 ·intro cS cm bh
  obtain⟨aX,a4,rfl,bX,b2,cu⟩:=Z0.out (r:=Wp.int.toRp) bh (show F2 (Wp.int.R H) ([]:List (List Value)) ([]:B0) from trivial)
  obtain rfl:=oJ c
  exact⟨([.int .i64 aO,.int .i64 aP,.slice (some ⟨aq,0,none⟩) ab.length am]),aX,(([]:B0)).length,a4,rfl,(New.pair (New.int aA) (New.pair (New.int aB) (New.mono aL b2))),bX⟩
 ·obtain⟨ae,bo,c⟩:=z0 c
  refine eX { vars:=[6],boxes:=[],owns:=[0],fuel:=true } (eX (λvs os d=>∃ g M n,vs.tail = [.int .i64 g]/\os = [M]/\Sub H d/\J0 g/\F2 (Wp.int.R d) M n/\t7 U (Z1 vs) g n=some ae) (eX (λ_ _=>0) (aI (eX T0 ⟨0,[],([]:B0),rfl,rfl,(Sub.refl _),(by decide),(show F2 (Wp.int.R H) ([]:List (List Value)) ([]:B0) from trivial),bo⟩) ?_)))
  rintro _ M I aC ⟨g,cX,n,⟨⟩,⟨⟩,L,ax,u,a⟩
  replace a:t7 U I g n=some ae:=a
  obtain _|I:=I
  ·cases a
  rw[t7.eq_2]at a
  refine ifB a (λbt a=>?_) λbt a=>?_
  ·obtain⟨cG,bi,a⟩:=z0 a
   refine aI (P1 bi (by first|rw[F2.length u,F2.length (show F2 (Wp.int.R aC) ([[.int .i64 g]]:List (List Value)) [g] from⟨⟨rfl,ax⟩,trivial⟩)]|exact congrArg (·+1) (F2.length u))) ?_
   exact L2 I ⟨(IntKind.i64.wrap (g+1)),(M++([[.int .i64 g]]:List (List Value))),(n ++ [g]),rfl,rfl,L,(M0 _),(F2.append u (show F2 (Wp.int.R aC) ([[.int .i64 g]]:List (List Value)) [g] from⟨⟨rfl,ax⟩,trivial⟩)),a⟩
  ·obtain rfl:=oJ a
   try dsimp only[U0,Y0]at c
   obtain⟨af,bp,c⟩:=z0 c
   refine eX { vars:=[5],boxes:=[2],owns:=[],fuel:=true,pubs:=[5] } (eX (λvs os d=>∃(C:Option Addr) (S t:Nat) (A:B0) (l:Int) (i:Int) (D:Option Addr) (T E:Nat) (o:K0),vs.tail = [.slice C S t,.int .i64 l,.int .i64 i,.slice D T E]/\os = []/\Sub h d/\New D0 h d [.slice C S t] A/\J0 l/\J0 i/\New I0 h d [.slice D T E] o/\K6 (Z1 vs) A l i o=some af) (eX (λ_ _=>0) ?_))
   intro cN cj ap
   obtain⟨aY,ba,rfl,cK,aK,cv⟩:=Z0.out (r:=Wp.int.toRp) ap u
   refine aI (eX T0 ⟨aY,n.length,ba,n,aO,aP,(some ⟨aq,0,none⟩),ab.length,am,ab,rfl,rfl,((X.trans L).trans aK),(New.from (Z0.newPlain (r:=Wp.int) ap u (G05 _)) (X.trans L)),aA,aB,(New.mono aL (L.trans aK)),bp⟩) ?_
   rintro _ _ _ _ J ck ⟨C,S,t,A,l,i,D,T,E,o,⟨⟩,⟨⟩,cM,aM,F,G,aN,a⟩
   replace a:K6 J A l i o=some af:=a
   obtain _|J:=J
   ·cases a
   rw[K6.eq_2]at a
   have aG:=aM.r
   obtain⟨rfl,bJ⟩:=Sl.len aG
   have K:=aN.r
   obtain⟨rfl,cq⟩:=Sl.len K
   refine trM a (L0a _ _ _ (l0 F G K) 0 (by decide)) ?_
   rintro aQ a cP bF ⟨cc,cC,cg,rfl,aJ,p⟩
   obtain⟨rfl,cs⟩:=Sl.len aJ
   obtain⟨ag,bq,a⟩:=z0 a
   refine eX { vars:=[8,9],boxes:=[],owns:=[],fuel:=true } (eX (λvs os d=>∃ k m,vs.tail = [.int .i64 k,.int .i64 m]/\os = []/\Sub bF d/\J0 k/\J0 m/\M4 i l o aQ (Z1 vs) k m=some ag) (eX (λ_ _=>0) (aI (eX T0 ⟨0,1,rfl,rfl,(Sub.refl _),(by decide),(by decide),bq⟩) ?_)))
   rintro _ _ x Q ⟨k,m,⟨⟩,⟨⟩,j,bC,ay,b⟩
   replace b:M4 i l o aQ x k m=some ag:=b
   obtain _|x:=x
   ·cases b
   rw[M4.eq_2]at b
   refine ifB b (λbu b=>?_) λbu b=>?_
   ·refine trV b (f0f _ _ _ (l0 F G (I0.mono (p.trans j) K)) _ ay) λb8 b=>?_
    obtain⟨cH,bj,b⟩:=z0 b
    have ci:J0 b8:=E2 bj
    obtain⟨cU,bm,b⟩:=z0 b
    obtain⟨ce,ao,bT⟩:=Sl.getG (r:=Wp.bool.toRp) ((Wp.slice Wp.bool).mono j aJ) bm (by decide) (o0r Q)
    refine aI (λq=>(ao q).1) ?_
    obtain rfl:=bT
    refine eX _ (aI (λq=>(ao q).2) ?_)
    refine ifB b (λbv b=>?_) λbv b=>?_
    ·exact L2 x ⟨m,(IntKind.i64.wrap (m+1)),rfl,rfl,j,ay,(M0 _),b⟩
    ·exact L2 x ⟨k,(IntKind.i64.wrap (m+1)),rfl,rfl,j,bC,(M0 _),b⟩
   ·obtain rfl:=oJ b
    try dsimp only[U0,Y0]at a
    refine ifB a (λbx a=>?_) λbx a=>?_
    ·obtain rfl:=oJ a
     try dsimp only[T4,Z4]at c
     obtain rfl:=oJ c
     exact⟨([.int .i64 l,.int .i64 i,.slice D o.length E]),C,A.length,t,rfl,(New.pair (New.int F) (New.pair (New.int G) (New.mono aN (p.trans j)))),(D0.mono (p.trans j) aG)⟩
    ·obtain⟨ah,br,a⟩:=z0 a
     refine eX { vars:=[11],boxes:=[],owns:=[1],fuel:=true } (eX (λvs os d=>∃ f B s,vs.tail = [.int .i64 f]/\os = [B]/\Sub Q d/\J0 f/\F2 (Wp.int.R d) B s/\J6 i k (Z1 vs) f s=some ah) (eX (λ_ _=>0) (aI (eX T0 ⟨0,[],([]:B0),rfl,rfl,(Sub.refl _),(by decide),(show F2 (Wp.int.R Q) ([]:List (List Value)) ([]:B0) from trivial),br⟩) ?_)))
     rintro _ B y aD ⟨f,cY,s,⟨⟩,⟨⟩,z,az,w,b⟩
     replace b:J6 i k y f s=some ah:=b
     obtain _|y:=y
     ·cases b
     rw[J6.eq_2]at b
     refine ifB b (λbz b=>?_) λbz b=>?_
     ·refine ifB b (λbA b=>?_) λbA b=>?_
      ·obtain⟨cI,bk,b⟩:=z0 b
       refine aI (P1 bk (by first|rw[F2.length w,F2.length (show F2 (Wp.int.R aD) ([[.int .i64 f]]:List (List Value)) [f] from⟨⟨rfl,az⟩,trivial⟩)]|exact congrArg (·+1) (F2.length w))) ?_
       exact L2 y ⟨(IntKind.i64.wrap (f+1)),(B++([[.int .i64 f]]:List (List Value))),(s ++ [f]),rfl,rfl,z,(M0 _),(F2.append w (show F2 (Wp.int.R aD) ([[.int .i64 f]]:List (List Value)) [f] from⟨⟨rfl,az⟩,trivial⟩)),b⟩
      ·exact L2 y ⟨(IntKind.i64.wrap (f+1)),B,s,rfl,rfl,z,(M0 _),w,b⟩
     ·obtain rfl:=oJ b
      try dsimp only[U0,Y0]at a
      refine Or.inl ?_
      intro cQ bG bg
      obtain⟨cd,ch,rfl,bY,Y,cw⟩:=Z0.out (r:=Wp.int.toRp) bg w
      refine trM a (e0a _ _ _ (l0 F G (I0.mono (((p.trans j).trans z).trans Y) K)) _ _ _ _ bY) ?_
      rintro cW a cR bH ⟨cf,rfl,Z⟩
      have b0:Sub bG bH:=Z.sub
      have bU:=Z.r
      obtain⟨ca,cb,aW,cD,a3,aR,rfl,rfl,bD,bE,bV⟩:=C0 bU
      obtain⟨rfl,ct⟩:=Sl.len bV
      try dsimp only at a
      have b5:=New.sndI (New.sndI (Z))
      obtain⟨ac,ar,a⟩:=z0 a
      obtain⟨ad,au,a⟩:=z0 a
      obtain⟨cJ,bl,a⟩:=z0 a
      obtain⟨bP,a0,an,bn,bM,aS,aT,b3,b4,bd,bQ,a1,co,cy,bW,b1,bK,bL,aV⟩:=New.drop aM ((((p.trans j).trans z).trans Y).trans b0) ar au (f0u bJ ar au)
      subst bd
      refine Or.inr (Or.inr (Or.inl (aI (aI (by kernel_rfl) (by kernel_rfl)) ?_)))
      refine Or.inl (eX (.val (.slice (some ⟨bn,bM,none⟩) ac.length t)) (aI ?_ ?_))
      ·intro O W
       obtain⟨vs,e⟩:=an O W
       exact aI a0 (eX vs (aI e (λv _ P=>aI (congrArg AV.val (bP v P)) (aI rfl rfl))))
      refine Or.inl (eX (.val (.int .i64 (IntKind.i64.wrap (k+1)))) (aI ?_ ?_))
      ·intro cl cL
       exact aI rfl (aI rfl rfl)
      refine Or.inl (eX (.val (.slice aS ad.length aT)) (aI ?_ ?_))
      ·intro O W
       obtain⟨vs,e⟩:=an O W
       exact aI a1 (eX vs (aI e (λv _ P=>aI (congrArg AV.val (bQ v P)) (aI rfl rfl))))
      refine Or.inr ?_
      refine Or.inl (eX 0 (aI (aI rfl rfl) ?_))
      refine eX b4 (aI b1 (eX b3 (aI bW (aI (P1 bl (by rw[bK,bL])) ?_))))
      intro cT cn bs
      obtain⟨aa,⟨aZ,cE,bb,rfl⟩,bI⟩:=aV _ _ bs
      have bZ:=aa.r
      obtain⟨bf,cx⟩:=Sl.len bZ
      subst bf
      refine aI trivial (aI (by first|exact trivial|exact rfl) ?_)
      have b6:=bI E1.slice _ _ _ b5 (((p.trans j).trans z).trans Y)
      exact L2 J ⟨aZ,(ac++ad).length,bb,(ac++ad),ca,cb,aW,aR.length,a3,aR,rfl,rfl,aa.sub,aa,bD,bE,b6,a⟩
theorem a01(h:Hp)(n:List Value)(o:j0)(T:C1.R h n o)(r:Bool)(a:R6 o=some r):
  Tr Tryz.prog 111 #[.agg n.toArray] h λv H=>v = .bool r/\H=h:=by
 obtain⟨Q,p,y,aC,A,S,rfl,rfl,f,g,b⟩:=C0 T
 obtain⟨rfl,ay⟩:=Sl.len b
 unfold R6 at a
 dsimp only at a
 refine Tr.forget (A2 (args:=[.agg #[.int .i64 Q,.int .i64 p,.slice y S.length A]]) (fn:=Tryz.f111) rfl ?_)
 refine trV a (C01 _ _ _ (l0 f g b)) λaJ a=>?_
 refine ifB a (λI a=>?_) λI a=>?_
 ·obtain rfl:=oJ a
  exact aI rfl (Sub.refl _)
 ·refine trM a (n08 _ _ _ (l0 f g b)) ?_
  rintro ac a aH O ⟨ai,ag,aE,al,rfl,m,s⟩
  obtain⟨aK,aN⟩:=ac
  dsimp only at a m s
  have l:Sub h O:=m.sub
  have U:=m.r
  obtain⟨aL,ad,af,aD,ak,aM,rfl,rfl,ap,aq,V⟩:=C0 U
  obtain⟨rfl,az⟩:=Sl.len V
  try dsimp only at a
  obtain⟨rfl,aA⟩:=Sl.len s
  refine Or.inr (Or.inr (Or.inr (Or.inl (aI (aI (by kernel_rfl) (by kernel_rfl)) ?_))))
  refine Or.inl (eX (.val (.bool (decide (ad=p)))) (aI ?_ ?_))
  ·intro av aG
   exact aI rfl (aI rfl rfl)
  obtain⟨ae,G,a⟩:=z0 a
  obtain⟨w,x,i⟩:=ae
  try dsimp only at a
  refine Or.inr (eX (λv J=>∃(c:Option Addr) (d:Nat),v = .agg #[.int .i64 w,.int .i64 x,.slice c i.length d]/\J0 w/\J0 x/\I0.R J [.slice c i.length d] i/\i.length<=9223372036854775807) (aI (λv an ao k q=>by obtain⟨c,d,e,D,E,f2,f3⟩:=q;exact⟨c,d,e,D,E,I0.mono k f2,f3⟩) (aI ?_ ?_)))
  ·intro aw Y j
   refine Tr.mono (a05 _ _ _ (l0 f g (I0.mono (l.trans Y) b)) _ (T7 G j)) ?_
   rintro _ ax ⟨aj,rfl,u⟩
   have k:=u.sub
   have W:=u.r
   obtain⟨aO,aP,z,aF,B,aQ,rfl,C,K,L,t⟩:=C0 W
   cases C
   obtain⟨rfl,P⟩:=Sl.len t
   exact aI M5 (aI k ⟨z,B,rfl,K,L,t,P⟩)
  obtain⟨ab,F,a⟩:=z0 a
  refine Or.inl (eX (.val (.bool ab)) (aI ?_ ?_))
  ·intro ar Z j
   rintro _ ⟨ah,am,rfl,M,N,X,aB⟩
   exact Tr.val (O06 _ _ _ (l0 M N X) _ _ (l0 f g (I0.mono (l.trans Z) b)) _ (T7 F j)) (aI rfl (aI rfl rfl))
  intro au aa
  obtain rfl:=oJ a
  exact aI rfl (l.trans aa)
theorem f0a(h:Hp)(b:Int)(g:J0 b)(c:Int)(k:J0 c)(d:Int)(i:J0 d)(r:N0)(a:q03 b c d=some r):
  Tr Tryz.prog 203 #[.int .i64 b,.int .i64 c,.int .i64 d] h λv f=>∃(e:List Value),v = .agg e.toArray/\E1.R f e r/\Sub h f:=by
 unfold q03 at a
 refine A2 (args:=[.int .i64 b,.int .i64 c,.int .i64 d]) (fn:=Tryz.f203) rfl ?_
 refine ifB a (λj a=>?_) λj a=>?_
 ·obtain rfl:=oJ a
  exact⟨([.int .i64 d,.int .i64 (IntKind.i64.wrap (0-c)),.int .i64 b]),rfl,(M1 i (M0 _) g),(Sub.refl _)⟩
 ·obtain rfl:=oJ a
  exact⟨([.int .i64 b,.int .i64 c,.int .i64 d]),rfl,(M1 g k i),(Sub.refl _)⟩
theorem N03(h:Hp)(k:Option Addr)(p l:Nat)(d:K0)(s:I0.R h [.slice k p l] d)(o:List Value)(q:N0)(x:E1.R h o q)(r:Int)(b:K5 d q=some r):
  Tr Tryz.prog 202 #[.slice k p l,.agg o.toArray] h λv m=>v = .int .i64 r/\m=h:=by
 obtain⟨rfl,L⟩:=Sl.len s
 obtain⟨f,g,i,rfl,rfl,D,E,F⟩:=U1 x
 unfold K5 at b
 dsimp only at b
 refine Tr.forget (A2 (args:=[.slice k d.length l,.agg #[.int .i64 f,.int .i64 g,.int .i64 i]]) (fn:=Tryz.f202) rfl ?_)
 obtain⟨n,t,b⟩:=z0 b
 refine eX { vars:=[8],boxes:=[],owns:=[],fuel:=true } (eX (λvs os m=>∃ c,vs.tail = [.int .i64 c]/\os = []/\Sub h m/\J0 c/\D2 d f g i (Z1 vs) c=some n) (eX (λ_ _=>0) (aI (eX T0 ⟨0,rfl,rfl,(Sub.refl _),(by decide),t⟩) ?_)))
 rintro _ e K ⟨c,⟨⟩,⟨⟩,j,G,a⟩
 replace a:D2 d f g i e c=some n:=a
 obtain _|e:=e
 ·cases a
 rw[D2.eq_2]at a
 refine ifB a (λu a=>?_) λu a=>?_
 ·refine Or.inl (aI (aI (by kernel_rfl) (by kernel_rfl)) ?_)
  refine ld a (I0.mono j s) λM C y a=>?_
  obtain⟨z,A,B,rfl,rfl,H,I,J⟩:=U1 y
  try dsimp only at a
  refine eX (eqE (f,g,i) (z,A,B)) (aI (x0f _ _ _ rfl _ _ _ _ _ _) ?_)
  refine ifB a (λw a=>?_) λw a=>?_
  ·obtain rfl:=oJ a
   try dsimp only[T4,Z4]at b
   obtain rfl:=oJ b
   exact aI rfl j
  ·exact L2 e ⟨(IntKind.i64.wrap (c+1)),rfl,rfl,j,(M0 _),a⟩
 ·obtain rfl:=oJ a
  try dsimp only[U0,Y0]at b
  obtain rfl:=oJ b
  exact aI rfl j
theorem Y02(h:Hp)(b:Option Addr)(f c:Nat)(d:K0)(i:I0.R h [.slice b f c] d)(e:List Value)(g:N0)(s:E1.R h e g)(r:Bool)(a:Q3 d g=some r):
  Tr Tryz.prog 285 #[.slice b f c,.agg e.toArray] h λv k=>v = .bool r/\k=h:=by
 obtain⟨rfl,w⟩:=Sl.len i
 obtain⟨o,p,q,rfl,rfl,l,m,n⟩:=U1 s
 unfold Q3 at a
 dsimp only at a
 refine Tr.forget (A2 (args:=[.slice b d.length c,.agg #[.int .i64 o,.int .i64 p,.int .i64 q]]) (fn:=Tryz.f285) rfl ?_)
 refine trV a (N03 _ _ _ _ _ i _ _ (M1 l m n)) λt a=>?_
 obtain⟨x,j,a⟩:=z0 a
 have u:J0 t:=E2 j
 obtain rfl:=oJ a
 exact aI rfl (Sub.refl _)
theorem U04(h:Hp)(c:Int)(l:J0 c)(e:Nat)(k:TypeId)(d:Int)(m:J0 d)(b:Int)(n:J0 b)(f:h e=some (.cells #[.int .i64 d,.int .i64 b] k (0,0)))(r:Int)(a:O7 c (d,b)=some r):
  Tr Tryz.prog 366 #[.int .i64 c,ptr e 0] h λv g=>v = .int .i64 r/\g=h:=by
 unfold O7 at a
 dsimp only at a
 refine Tr.forget (A2 (args:=[.int .i64 c,ptr e 0]) (fn:=Tryz.f366) rfl ?_)
 refine eX (.int .i64 b) (aI ⟨rfl,by simp[Hp.cell,(f)]⟩ ?_)
 refine ifB a (λi a=>?_) λi a=>?_
 ·refine eX (.int .i64 d) (aI ⟨rfl,by simp[Hp.cell,(f)]⟩ ?_)
  obtain rfl:=oJ a
  exact aI rfl (Sub.refl _)
 ·refine eX (.int .i64 b) (aI ⟨rfl,by simp[Hp.cell,(f)]⟩ ?_)
  refine ifB a (λj a=>?_) λj a=>?_
  ·obtain rfl:=oJ a
   exact aI rfl (Sub.refl _)
  ·obtain rfl:=oJ a
   exact aI rfl (Sub.refl _)
theorem g0a(h:Hp)(T:List Value)(am:j0)(a2:C1.R h T am)(s:Int)(W:J0 s)(C:Option Addr)(al D:Nat)(t:B0)(K:D0.R h [.slice C al D] t)(f:Int)(G:J0 f)(r:j0×Bool)(b:l02 am s t f=some r):
  Tr Tryz.prog 288 #[.agg T.toArray,.int .i64 s,.slice C al D,.int .i64 f] h λv y=>∃(S:List Value),v = .tuple #[.agg S.toArray,.bool r.2]/\New C1 h y S r.1:=by
 obtain⟨aZ,a0,ax,bx,aB,a1,rfl,rfl,o,z,u⟩:=C0 a2
 obtain⟨rfl,bp⟩:=Sl.len u
 obtain⟨rfl,bq⟩:=Sl.len K
 unfold l02 at b
 dsimp only at b
 refine A2 (args:=[.agg #[.int .i64 aZ,.int .i64 a0,.slice ax a1.length aB],.int .i64 s,.slice C t.length D,.int .i64 f]) (fn:=Tryz.f288) rfl ?_
 refine trM b (R7 _ _ _ (l0 o z u)) ?_
 rintro bi b bI aV ⟨V,bz,U,rfl,B⟩
 have w:Sub h aV:=B.sub
 have ao:=B.r
 obtain⟨av,aw,P⟩:=bi
 dsimp only at b B ao
 obtain⟨_,_,_,_,_,_,aF,aG,Z,aa,a3⟩:=C0 ao
 cases aF
 cases aG
 obtain⟨rfl,bs⟩:=Sl.len a3
 try dsimp only at b
 have au:=New.sndI (New.sndI (B))
 refine trV b (t02 _ _ _ (l0 o z (I0.mono w u))) λbP b=>?_
 refine trG b (λq=>s02 _ _ _ (l0 o z (I0.mono w u)) _ W) λbQ b=>?_
 refine trG b (λq=>s02 _ _ _ (l0 o z (I0.mono w u)) _ G) λbR b=>?_
 refine trG b (λq=>v05 _ _ o _ _ _ _ (D0.mono w K)) λbS b=>?_
 refine ifB b (λaT b=>?_) λaT b=>?_
 ·obtain rfl:=oJ b
  exact⟨([.int .i64 av,.int .i64 aw,.slice (some ⟨V,0,none⟩) P.length U]),rfl,(New.pair (New.int Z) (New.pair (New.int aa) au))⟩
 ·obtain⟨Q,aO,b⟩:=z0 b
  refine eX { vars:=[11,66],boxes:=[2],owns:=[],fuel:=true } (eX (λvs os y=>∃ x g d c F J I E e,vs.tail = [.int .i64 x,.int .i64 g,.int .i64 d,.int .i64 c,.slice (some ⟨F,J,none⟩) I E]/\os = []/\Sub h y/\J0 x/\J0 g/\J0 d/\J0 c/\New I0 h y [.slice (some ⟨F,J,none⟩) I E] e/\P7 t f (Z1 vs) x g d c e=some Q) (eX (λ_ _=>0) (aI (eX T0 ⟨s,0,av,aw,V,0,P.length,U,P,rfl,rfl,w,W,(by decide),Z,aa,au,aO⟩) ?_)))
  rintro _ _ _ _ _ p aU ⟨x,g,d,c,F,J,I,E,e,⟨⟩,⟨⟩,ap,X,bm,H,A,L,a⟩
  replace a:P7 t f p x g d c e=some Q:=a
  obtain _|p:=p
  ·cases a
  rw[P7.eq_2]at a
  have an:=L.r
  obtain⟨rfl,br⟩:=Sl.len an
  refine ifB a (λaR a=>?_) λaR a=>?_
  ·refine ldI a (D0.mono ap K) λbM Y a=>?_
   refine ifB a (λaS a=>?_) λaS a=>?_
   ·refine Or.inr (Or.inr (Or.inl (aI (aI (by kernel_rfl) (by kernel_rfl)) ?_)))
    refine Or.inr ?_
    refine Or.inr ?_
    refine Or.inr ?_
    refine Or.inr ?_
    refine Or.inl (eX 1 (aI (aI rfl rfl) ?_))
    refine trM a (f0a _ _ X _ Y _ A) ?_
    rintro bN a bG ah ⟨bk,rfl,a4,aq⟩
    obtain⟨i,j,k,rfl,rfl,ab,ac,ad⟩:=U1 a4
    try dsimp only at a
    refine aI (aI rfl aq) (aI (by first|exact trivial|exact rfl) ?_)
    refine aI trivial (aI (by first|exact trivial|exact rfl) ?_)
    obtain⟨bD,aK,a⟩:=z0 a
    obtain⟨bg,bc,aj,ay⟩:=New.app L aq
    refine eX bg (aI bc (aI (P1 aK (by first|rw[aj,F2.length (show F2 (E1.R ah) ([[.int .i64 i,.int .i64 j,.int .i64 k]]:List (List Value)) [(i,j,k)] from⟨(M1 ab ac ad),trivial⟩)]|(rw[aj];rfl))) ?_))
    intro bK bn aP
    obtain⟨N,aM,aX,bB,aD,rfl⟩:=ay _ _ _ _ _ (F3.ofPlain (Z09 _) (show F2 (E1.R ah) ([[.int .i64 i,.int .i64 j,.int .i64 k]]:List (List Value)) [(i,j,k)] from⟨(M1 ab ac ad),trivial⟩)) l4.ofPlain aP
    have be:=N.r
    obtain⟨aH,bu⟩:=Sl.len be
    subst aH
    refine aI trivial (aI (by first|exact trivial|exact rfl) ?_)
    refine aI trivial (aI (by first|exact trivial|exact rfl) ?_)
    exact L2 p ⟨c,(IntKind.i64.wrap (g+1)),d,(IntKind.i64.wrap (c+1)),aM,aX,(e ++ [(i,j,k)]).length,aD,(e ++ [(i,j,k)]),rfl,rfl,N.sub,A,(M0 _),H,(M0 _),N,a⟩
   ·refine Or.inr (Or.inr (Or.inl (aI (aI (by kernel_rfl) (by kernel_rfl)) ?_)))
    refine Or.inr ?_
    refine Or.inr ?_
    refine Or.inr ?_
    refine Or.inr ?_
    refine Or.inl (eX 1 (aI (aI rfl rfl) ?_))
    refine trM a (f0a _ _ X _ Y _ G) ?_
    rintro bO a bH ai ⟨bl,rfl,ba,ar⟩
    obtain⟨l,m,n,rfl,rfl,ae,af,ag⟩:=U1 ba
    try dsimp only at a
    refine aI (aI rfl ar) (aI (by first|exact trivial|exact rfl) ?_)
    refine aI trivial (aI (by first|exact trivial|exact rfl) ?_)
    obtain⟨bE,aL,a⟩:=z0 a
    obtain⟨bh,bd,ak,az⟩:=New.app L ar
    refine eX bh (aI bd (aI (P1 aL (by first|rw[ak,F2.length (show F2 (E1.R ai) ([[.int .i64 l,.int .i64 m,.int .i64 n]]:List (List Value)) [(l,m,n)] from⟨(M1 ae af ag),trivial⟩)]|(rw[ak];rfl))) ?_))
    intro bL bo aQ
    obtain⟨O,aN,aY,bC,aE,rfl⟩:=az _ _ _ _ _ (F3.ofPlain (Z09 _) (show F2 (E1.R ai) ([[.int .i64 l,.int .i64 m,.int .i64 n]]:List (List Value)) [(l,m,n)] from⟨(M1 ae af ag),trivial⟩)) l4.ofPlain aQ
    have bf:=O.r
    obtain⟨aJ,bv⟩:=Sl.len bf
    subst aJ
    refine aI trivial (aI (by first|exact trivial|exact rfl) ?_)
    refine aI trivial (aI (by first|exact trivial|exact rfl) ?_)
    exact L2 p ⟨f,(IntKind.i64.wrap (g+1)),d,c,aN,aY,(e ++ [(l,m,n)]).length,aE,(e ++ [(l,m,n)]),rfl,rfl,O.sub,G,(M0 _),H,A,O,a⟩
  ·obtain rfl:=oJ a
   try dsimp only[U0,Y0]at b
   refine trM b (w05 _ _ _ _ _ an) ?_
   rintro bj b bJ aW ⟨aA,bA,aC,rfl,M⟩
   have bF:Sub aU aW:=M.sub
   have bb:=M.r
   obtain⟨rfl,bt⟩:=Sl.len bb
   obtain rfl:=oJ b
   exact⟨([.int .i64 d,.int .i64 c,.slice aA bj.length aC]),rfl,(New.pair (New.int H) (New.pair (New.int A) (New.from M ap)))⟩
theorem g0f(h:Hp)(b:Int)(d:J0 b)(r:j0×Bool)(a:L02 b=some r):
  Tr Tryz.prog 282 #[.int .i64 b] h λv e=>∃(c:List Value),v = .tuple #[.agg c.toArray,.bool r.2]/\New C1 h e c r.1:=by
 unfold L02 at a
 refine A2 (args:=[.int .i64 b]) (fn:=Tryz.f282) rfl ?_
 refine trV a (I8 _ _ d 1 (by decide) 3 (by decide)) λg a=>?_
 refine ifB a (λf a=>?_) λf a=>?_
 ·obtain rfl:=oJ a
  exact⟨([.int .i64 0,.int .i64 0,.slice none 0 0]),rfl,(New.pair (New.int (by decide)) (New.pair (New.int (by decide)) ((New.nilSlice (r:=E1)).mono (Sub.refl _))))⟩
 ·obtain rfl:=oJ a
  exact⟨([.int .i64 b,.int .i64 1,.slice none 0 0]),rfl,(New.pair (New.int d) (New.pair (New.int (by decide)) ((New.nilSlice (r:=E1)).mono (Sub.refl _))))⟩
theorem h0f(h:Hp)(g:List Value)(j:j0)(B:C1.R h g j)(c:Option Addr)(i d:Nat)(e:B0)(l:D0.R h [.slice c i d] e)(r:j0×Bool)(a:M02 j e=some r):
  Tr Tryz.prog 206 #[.agg g.toArray,.slice c i d] h λv q=>∃(f:List Value),v = .tuple #[.agg f.toArray,.bool r.2]/\New C1 h q f r.1:=by
 obtain⟨y,z,m,N,o,A,rfl,rfl,s,t,k⟩:=C0 B
 obtain⟨rfl,K⟩:=Sl.len k
 obtain⟨rfl,L⟩:=Sl.len l
 unfold M02 at a
 dsimp only at a
 refine A2 (args:=[.agg #[.int .i64 y,.int .i64 z,.slice m A.length o],.slice c e.length d]) (fn:=Tryz.f206) rfl ?_
 refine trM a (g0a _ _ _ (l0 s t k) 0 (by decide) _ _ _ _ l 0 (by decide)) ?_
 rintro F a Q x ⟨J,rfl,b⟩
 obtain⟨S,T⟩:=F
 dsimp only at a b
 have P:Sub h x:=b.sub
 have C:=b.r
 obtain⟨G,H,n,O,p,I,rfl,rfl,u,w,D⟩:=C0 C
 obtain⟨rfl,M⟩:=Sl.len D
 try dsimp only at a
 have E:=New.sndI (New.sndI (b))
 obtain rfl:=oJ a
 exact⟨([.int .i64 G,.int .i64 H,.slice n I.length p]),rfl,(New.pair (New.int u) (New.pair (New.int w) E))⟩
theorem i0f(h:Hp)(l:Int)(B:J0 l)(p:Option Addr)(D q:Nat)(j:Y1)(w:j2.R h [.slice p D q] j)(r:j0×Bool)(b:N02 l j=some r):
  Tr Tryz.prog 195 #[.int .i64 l,.slice p D q] h λv k=>∃(A:List Value),v = .tuple #[.agg A.toArray,.bool r.2]/\New C1 h k A r.1:=by
 obtain⟨rfl,aq⟩:=Sl.len w
 unfold N02 at b
 refine A2 (args:=[.int .i64 l,.slice p j.length q]) (fn:=Tryz.f195) rfl ?_
 refine trV b (W08 _ _ B _ _ _ _ w) λaC b=>?_
 refine ifB b (λP b=>?_) λP b=>?_
 ·obtain rfl:=oJ b
  exact⟨([.int .i64 0,.int .i64 0,.slice none 0 0]),rfl,(New.pair (New.int (by decide)) (New.pair (New.int (by decide)) ((New.nilSlice (r:=E1)).mono (Sub.refl _))))⟩
 ·refine trM b (g0f _ _ B) ?_
  rintro ah b aB C ⟨an,rfl,o⟩
  obtain⟨aG,aH⟩:=ah
  dsimp only at b o
  have F:Sub h C:=o.sub
  have Z:=o.r
  obtain⟨ai,aj,J,az,L,H,rfl,rfl,T,U,aa⟩:=C0 Z
  obtain⟨rfl,aw⟩:=Sl.len aa
  try dsimp only at b
  have ad:=New.sndI (New.sndI (o))
  obtain⟨z,M,b⟩:=z0 b
  refine eX { vars:=[22],boxes:=[1],owns:=[],fuel:=true } (eX (λvs os k=>∃ u8 e c f u g d,vs.tail = [.int .i64 u8,.int .i64 e,.int .i64 c,.slice f u g]/\os = []/\Sub C k/\J0 u8/\J0 e/\J0 c/\New I0 h k [.slice f u g] d/\g7 j (Z1 vs) u8 e c d=some z) (eX (λ_ _=>0) (aI (eX T0 ⟨0,ai,aj,J,H.length,L,H,rfl,rfl,(Sub.refl _),(by decide),T,U,ad,M⟩) ?_)))
  rintro _ _ _ _ i V ⟨u8,e,c,f,u,g,d,⟨⟩,⟨⟩,m,ap,t,s,y,a⟩
  replace a:g7 j i u8 e c d=some z:=a
  obtain _|i:=i
  ·cases a
  rw[g7.eq_2]at a
  have E:=y.r
  obtain⟨rfl,ar⟩:=Sl.len E
  refine ifB a (λN a=>?_) λN a=>?_
  ·refine ld a (j2.mono (F.trans m) w) λaD al x a=>?_
   obtain⟨ak,ax,ao,rfl⟩:=Wp.slice_cell x
   obtain⟨rfl,au⟩:=Sl.len x
   refine ifB a (λO a=>?_) λO a=>?_
   ·refine trM a (h0f _ _ _ (l0 t s E) _ _ _ _ x) ?_
    rintro ae a aA W ⟨am,rfl,n⟩
    obtain⟨aE,aF⟩:=ae
    dsimp only at a n
    have ab:Sub V W:=n.sub
    have X:=n.r
    obtain⟨af,ag,I,ay,K,G,rfl,rfl,Q,S,Y⟩:=C0 X
    obtain⟨rfl,av⟩:=Sl.len Y
    try dsimp only at a
    have ac:=New.sndI (New.sndI (n))
    exact L2 i ⟨(IntKind.i64.wrap (u8+1)),af,ag,I,G.length,K,G,rfl,rfl,(m.trans ab),(M0 _),Q,S,(New.from ac (F.trans m)),a⟩
   ·exact L2 i ⟨(IntKind.i64.wrap (u8+1)),e,c,f,d.length,g,d,rfl,rfl,m,(M0 _),t,s,y,a⟩
  ·obtain rfl:=oJ a
   try dsimp only[U0,Y0]at b
   obtain rfl:=oJ b
   exact⟨([.int .i64 e,.int .i64 c,.slice f d.length g]),rfl,(New.pair (New.int t) (New.pair (New.int s) y))⟩
theorem E0k(h:Hp)(H:List Value)(K:j0)(an:C1.R h H K)(r:q00)(u:L04 K=some r):
  Tr Tryz.prog 365 #[.agg H.toArray] h λv o=>∃(F:Option Addr) (J G:Nat),v = .slice F J G/\Z0j.R o [.slice F J G] r/\Sub h o:=by
 obtain⟨ak,al,O,aL,Q,B,rfl,rfl,aA,aB,C⟩:=C0 an
 obtain⟨rfl,aH⟩:=Sl.len C
 unfold L04 at u
 dsimp only at u
 refine A2 (args:=[.agg #[.int .i64 ak,.int .i64 al,.slice O B.length Q]]) (fn:=Tryz.f365) rfl ?_
 obtain⟨D,aa,u⟩:=z0 u
 refine eX { vars:=[12],boxes:=[],owns:=[0],fuel:=true } (eX (λvs os o=>∃ w A x,vs.tail = [.int .i64 w]/\os = [A]/\Sub h o/\J0 w/\F2 (a6.R o) A x/\w00 B (Z1 vs) w x=some D) (eX (λ_ _=>0) (aI (eX T0 ⟨0,[],([]:q00),rfl,rfl,(Sub.refl _),(by decide),(show F2 (a6.R h) ([]:List (List Value)) ([]:q00) from trivial),aa⟩) ?_)))
 rintro _ A y aj ⟨w,aU,x,⟨⟩,⟨⟩,z,aD,I,f⟩
 replace f:w00 B y w x=some D:=f
 obtain _|y:=y
 ·cases f
 rw[w00.eq_2]at f
 refine ifB f (λah f=>?_) λah f=>?_
 ·refine ld f (I0.mono z C) λaS ay ap f=>?_
  obtain⟨c,M,a,rfl,rfl,q,aF,j⟩:=U1 ap
  try dsimp only at f
  obtain⟨N,Z,f⟩:=z0 f
  obtain⟨am,au,T,V⟩:=Sl.cutI (r:=E1.toRp) (I0.mono z C) Z
  refine aI am (eX au (aI T ?_))
  intro av ai _
  obtain⟨aw,az,rfl,L⟩:=V av ai
  have aJ:=(Sl.len L).2
  obtain⟨E,ab,f⟩:=z0 f
  refine eX { vars:=[23],boxes:=[],owns:=[0],fuel:=true } (eX (λvs os o=>∃ k n l,vs.tail = [.int .i64 k]/\os = [n]/\Sub aj o/\J0 k/\F2 (a6.R o) n l/\l6 N M c a (Z1 vs) k l=some E) (eX (λ_ _=>0) (aI (eX T0 ⟨0,A,x,rfl,rfl,(Sub.refl _),(by decide),I,ab⟩) ?_)))
  rintro _ n s m ⟨k,aT,l,⟨⟩,⟨⟩,t,aC,g,e⟩
  replace e:l6 N M c a s k l=some E:=e
  obtain _|s:=s
  ·cases e
  rw[l6.eq_2]at e
  refine ifB e (λac e=>?_) λac e=>?_
  ·refine ld e (I0.mono t L) λaQ ax ao e=>?_
   obtain⟨d,aR,b,rfl,rfl,p,aE,i⟩:=U1 ao
   try dsimp only at e
   refine ifB e (λad e=>?_) λad e=>?_
   ·exact L2 s ⟨(IntKind.i64.wrap (k+1)),n,l,rfl,rfl,t,(M0 _),g,e⟩
   ·refine ifB e (λae e=>?_) λae e=>?_
    ·obtain⟨aM,W,e⟩:=z0 e
     refine aI (P1 W (by first|rw[F2.length g,F2.length (show F2 (a6.R m) ([[.int .i64 (if b<a then b else a),.int .i64 (if b>a then b else a)]]:List (List Value)) [((if b<a then b else a),(if b>a then b else a))] from⟨(j3 (i00 i j) (i00 i j)),trivial⟩)]|exact congrArg (·+1) (F2.length g))) ?_
     refine ifB e (λaf e=>?_) λaf e=>?_
     ·obtain⟨aN,X,e⟩:=z0 e
      refine aI (P1 X (by first|rw[F2.length (F2.append g (show F2 (a6.R m) ([[.int .i64 (if b<a then b else a),.int .i64 (if b>a then b else a)]]:List (List Value)) [((if b<a then b else a),(if b>a then b else a))] from⟨(j3 (i00 i j) (i00 i j)),trivial⟩)),F2.length (show F2 (a6.R m) ([[.int .i64 (if d<c then d else c),.int .i64 (if d>c then d else c)]]:List (List Value)) [((if d<c then d else c),(if d>c then d else c))] from⟨(j3 (i00 p q) (i00 p q)),trivial⟩)]|exact congrArg (·+1) (F2.length (F2.append g (show F2 (a6.R m) ([[.int .i64 (if b<a then b else a),.int .i64 (if b>a then b else a)]]:List (List Value)) [((if b<a then b else a),(if b>a then b else a))] from⟨(j3 (i00 i j) (i00 i j)),trivial⟩))))) ?_
      exact L2 s ⟨(IntKind.i64.wrap (k+1)),((n++([[.int .i64 (if b<a then b else a),.int .i64 (if b>a then b else a)]]:List (List Value)))++([[.int .i64 (if d<c then d else c),.int .i64 (if d>c then d else c)]]:List (List Value))),((l ++ [((if b<a then b else a),(if b>a then b else a))]) ++ [((if d<c then d else c),(if d>c then d else c))]),rfl,rfl,t,(M0 _),(F2.append (F2.append g (show F2 (a6.R m) ([[.int .i64 (if b<a then b else a),.int .i64 (if b>a then b else a)]]:List (List Value)) [((if b<a then b else a),(if b>a then b else a))] from⟨(j3 (i00 i j) (i00 i j)),trivial⟩)) (show F2 (a6.R m) ([[.int .i64 (if d<c then d else c),.int .i64 (if d>c then d else c)]]:List (List Value)) [((if d<c then d else c),(if d>c then d else c))] from⟨(j3 (i00 p q) (i00 p q)),trivial⟩)),e⟩
     ·exact L2 s ⟨(IntKind.i64.wrap (k+1)),(n++([[.int .i64 (if b<a then b else a),.int .i64 (if b>a then b else a)]]:List (List Value))),(l ++ [((if b<a then b else a),(if b>a then b else a))]),rfl,rfl,t,(M0 _),(F2.append g (show F2 (a6.R m) ([[.int .i64 (if b<a then b else a),.int .i64 (if b>a then b else a)]]:List (List Value)) [((if b<a then b else a),(if b>a then b else a))] from⟨(j3 (i00 i j) (i00 i j)),trivial⟩)),e⟩
    ·refine ifB e (λag e=>?_) λag e=>?_
     ·obtain⟨aO,Y,e⟩:=z0 e
      refine aI (P1 Y (by first|rw[F2.length g,F2.length (show F2 (a6.R m) ([[.int .i64 (if d<c then d else c),.int .i64 (if d>c then d else c)]]:List (List Value)) [((if d<c then d else c),(if d>c then d else c))] from⟨(j3 (i00 p q) (i00 p q)),trivial⟩)]|exact congrArg (·+1) (F2.length g))) ?_
      exact L2 s ⟨(IntKind.i64.wrap (k+1)),(n++([[.int .i64 (if d<c then d else c),.int .i64 (if d>c then d else c)]]:List (List Value))),(l ++ [((if d<c then d else c),(if d>c then d else c))]),rfl,rfl,t,(M0 _),(F2.append g (show F2 (a6.R m) ([[.int .i64 (if d<c then d else c),.int .i64 (if d>c then d else c)]]:List (List Value)) [((if d<c then d else c),(if d>c then d else c))] from⟨(j3 (i00 p q) (i00 p q)),trivial⟩)),e⟩
     ·exact L2 s ⟨(IntKind.i64.wrap (k+1)),n,l,rfl,rfl,t,(M0 _),g,e⟩
  ·obtain rfl:=oJ e
   try dsimp only[U0,Y0]at f
   exact L2 y ⟨(IntKind.i64.wrap (w+1)),n,l,rfl,rfl,(z.trans t),(M0 _),g,f⟩
 ·obtain rfl:=oJ f
  try dsimp only[U0,Y0]at u
  intro aP aG U
  obtain⟨P,S,rfl,aq,ar,aK⟩:=Z0.out (r:=a6.toRp) U I
  obtain rfl:=oJ u
  exact⟨P,x.length,S,rfl,aq,(z.trans ar)⟩
theorem h0e(h:Hp)(d:List Value)(i:j0)(w:C1.R h d i)(r:T6×Bool)(a:e01 i=some r):
  Tr Tryz.prog 346 #[.agg d.toArray] h λv e=>∃(c:List Value),v = .tuple #[.agg c.toArray,.bool r.2]/\a6.R e c r.1/\Sub h e:=by
 obtain⟨s,t,l,G,m,u,rfl,rfl,f,g,b⟩:=C0 w
 obtain⟨rfl,E⟩:=Sl.len b
 unfold e01 at a
 dsimp only at a
 refine A2 (args:=[.agg #[.int .i64 s,.int .i64 t,.slice l u.length m]]) (fn:=Tryz.f346) rfl ?_
 refine trV a (t02 _ _ _ (l0 f g b)) λJ a=>?_
 refine ifB a (λn a=>?_) λn a=>?_
 ·obtain rfl:=oJ a
  exact⟨([.int .i64 0,.int .i64 0]),rfl,(j3 (by decide) (by decide)),(Sub.refl _)⟩
 ·refine trM a (E0k _ _ _ (l0 f g b)) ?_
  rintro K a I D ⟨A,H,C,rfl,j,k⟩
  obtain⟨rfl,F⟩:=Sl.len j
  refine ifB a (λo a=>?_) λo a=>?_
  ·obtain rfl:=oJ a
   exact⟨([.int .i64 0,.int .i64 0]),rfl,(j3 (by decide) (by decide)),k⟩
  ·refine ld a j λL B x a=>?_
   obtain⟨y,z,rfl,rfl,p,q⟩:=I04 x
   try dsimp only at a
   obtain rfl:=oJ a
   exact⟨([.int .i64 y,.int .i64 z]),rfl,(j3 p q),k⟩
theorem h0a(h:Hp)(C:List Value)(L:j0)(az:C1.R h C L)(D:List Value)(M:T6)(aA:a6.R h D M)(r:j0×Bool)(b:Z8 L M=some r):
  Tr Tryz.prog 347 #[.agg C.toArray,.agg D.toArray] h λv i=>∃(B:List Value),v = .tuple #[.agg B.toArray,.bool r.2]/\New C1 h i B r.1:=by
 obtain⟨aw,ax,T,aY,W,ay,rfl,rfl,F,G,u⟩:=C0 az
 obtain⟨rfl,aV⟩:=Sl.len u
 obtain⟨d,f,rfl,rfl,H,I⟩:=I04 aA
 unfold Z8 at b
 dsimp only at b
 refine A2 (args:=[.agg #[.int .i64 aw,.int .i64 ax,.slice T ay.length W],.agg #[.int .i64 d,.int .i64 f]]) (fn:=Tryz.f347) rfl ?_
 refine trM b (R7 _ _ _ (l0 F G u)) ?_
 rintro aJ b bb K ⟨p,aZ,E,rfl,o⟩
 have O:Sub h K:=o.sub
 have N:=o.r
 obtain⟨Q,S,l⟩:=aJ
 dsimp only at b o N
 obtain⟨_,_,_,_,_,_,Y,Z,J,an,aC⟩:=C0 N
 cases Y
 cases Z
 obtain⟨rfl,aW⟩:=Sl.len aC
 try dsimp only at b
 have x:=New.sndI (New.sndI (o))
 refine trV b (t02 _ _ _ (l0 F G (I0.mono O u))) λbk b=>?_
 refine ifB b (λah b=>?_) λah b=>?_
 ·obtain rfl:=oJ b
  exact⟨([.int .i64 Q,.int .i64 S,.slice (some ⟨p,0,none⟩) l.length E]),rfl,(New.pair (New.int J) (New.pair (New.int an) x))⟩
 ·intro c s
  have aa:(Hp.set K c (.cells #[.int .i64 d,.int .i64 f] 246 (0,0))) c=some (.cells #[.int .i64 d,.int .i64 f] 246 (0,0)):=Hp.set_same _ _ _
  have av:c≠p:=λe=>New.blk x (Sub.refl _) (e▸s)
  obtain⟨A,af,b⟩:=z0 b
  refine eX { vars:=[39],boxes:=[],owns:=[],fuel:=true } (eX (λvs os i=>∃ g j,vs.tail = [.int .i64 g]/\os = []/\Sub h i/\J0 g/\New I0 h i [.slice (some ⟨p,0,none⟩) l.length E] j/\i c=some (.cells #[.int .i64 d,.int .i64 f] 246 (0,0))/\o5 l d f (Z1 vs) g j=some A) (eX (λ_ _=>0) (aI (eX T0 ⟨0,l,rfl,rfl,(O.trans (Sub.set s)),(by decide),(New.mono x (Sub.set s)),aa,af⟩) ?_)))
  rintro _ n ap ⟨g,j,⟨⟩,⟨⟩,aH,aO,P,t,a⟩
  replace a:o5 l d f n g j=some A:=a
  obtain _|n:=n
  ·cases a
  rw[o5.eq_2]at a
  have w:=P.r
  refine ifB a (λag a=>?_) λag a=>?_
  ·refine ld a w λbd aL aB a=>?_
   obtain⟨be,z,bf,rfl,rfl,aj,ak,al⟩:=U1 aB
   try dsimp only at a
   refine Or.inr (Or.inr (Or.inl (aI (aI (by kernel_rfl) (by kernel_rfl)) ?_)))
   obtain⟨k,ad,a⟩:=z0 a
   obtain⟨a1,ab,a⟩:=z0 a
   have am:J0 k:=E2 ab
   refine Or.inl (eX (.val (.int .i64 k)) (aI ?_ ?_))
   ·intro aS aF
    exact Tr.val (U04 _ _ aj c 246 _ H _ I (aF _ _ t) _ ad) (aI rfl (aI rfl rfl))
   obtain⟨m,ae,a⟩:=z0 a
   obtain⟨a2,ac,a⟩:=z0 a
   have ao:J0 m:=E2 ac
   refine Or.inl (eX (.val (.int .i64 m)) (aI ?_ ?_))
   ·intro aT aG
    exact Tr.val (U04 _ _ al c 246 _ H _ I (aG _ _ t) _ ae) (aI rfl (aI rfl rfl))
   refine Or.inl (eX (.agg [.val (.int .i64 k),.val (.int .i64 z),.val (.int .i64 m)]) (aI ?_ ?_))
   ·intro aU a4
    exact aI rfl (aI rfl rfl)
   refine Or.inr ?_
   refine Or.inr ?_
   refine Or.inl (eX 0 (aI (aI rfl rfl) ?_))
   obtain⟨bg,q,a⟩:=z0 a
   obtain⟨V,aM,aN,aD⟩:=Sl.getI (r:=E1.toRp) w q (by decide)
   refine aI V ?_
   obtain⟨bh,bi,bj,rfl,rfl,aP,aQ,aR⟩:=U1 aD
   try dsimp only at a
   refine aI trivial (aI (by first|exact trivial|exact rfl) ?_)
   refine New.put (r:=E1) P (Sub.refl _) (s0t q).1 (new:=[.int .i64 k,.int .i64 z,.int .i64 m]) (By:=[]) (Z09 _ _ _ (M1 am ak ao)) (l4.nil _) rfl (s0t q).2 ?_
   intro aq w28 au _
   have a3:=w28.r
   have ai:aq c=some (.cells #[.int .i64 d,.int .i64 f] 246 (0,0)):=(au c av).trans t
   refine aI trivial (aI (by first|exact trivial|exact rfl) ?_)
   exact L2 n ⟨(IntKind.i64.wrap (g+1)),(j.set g.toNat (k,z,m)),rfl,rfl,w28.sub,(M0 _),w28,(ai),a⟩
  ·obtain rfl:=oJ a
   try dsimp only[U0,Y0]at b
   refine trM b (w05 _ _ _ _ _ w) ?_
   rintro aK b bc ar ⟨U,a0,X,rfl,y⟩
   have ba:Sub ap ar:=y.sub
   have aE:=y.r
   obtain⟨rfl,aX⟩:=Sl.len aE
   obtain rfl:=oJ b
   exact⟨([.int .i64 Q,.int .i64 (IntKind.i64.wrap (S-1)),.slice U aK.length X]),rfl,(New.pair (New.int J) (New.pair (New.int (M0 _)) (New.from y aH)))⟩
theorem j0f(h:Hp)(k:List Value)(p:j0)(M:C1.R h k p)(r:j0×T6×Bool)(a:O02 p=some r):
  Tr Tryz.prog 331 #[.agg k.toArray] h λv l=>∃(i:List Value) (j:List Value),v = .tuple #[.agg i.toArray,.agg j.toArray,.bool r.2.2]/\New C1 h l i r.1/\a6.R l j r.2.1:=by
 obtain⟨J,K,t,aj,w,L,rfl,rfl,f,g,b⟩:=C0 M
 obtain⟨rfl,ag⟩:=Sl.len b
 unfold O02 at a
 dsimp only at a
 refine A2 (args:=[.agg #[.int .i64 J,.int .i64 K,.slice t L.length w]]) (fn:=Tryz.f331) rfl ?_
 refine trM a (h0e _ _ _ (l0 f g b)) ?_
 rintro T a ap o ⟨ae,rfl,q,c⟩
 obtain⟨ar,au⟩:=T
 dsimp only at a q
 obtain⟨U,V,rfl,rfl,m,n⟩:=I04 q
 try dsimp only at a
 refine ifB a (λC a=>?_) λC a=>?_
 ·refine trM a (R7 _ _ _ (l0 f g (I0.mono c b))) ?_
  rintro W a aq I ⟨B,ak,x,rfl,d⟩
  have am:Sub o I:=d.sub
  have s:=d.r
  obtain⟨X,Y,Z⟩:=W
  dsimp only at a d s
  obtain⟨_,_,_,_,_,_,z,A,D,E,N⟩:=C0 s
  cases z
  cases A
  obtain⟨rfl,ah⟩:=Sl.len N
  try dsimp only at a
  have S:=New.sndI (New.sndI (d))
  obtain rfl:=oJ a
  exact⟨([.int .i64 X,.int .i64 Y,.slice (some ⟨B,0,none⟩) Z.length x]),([.int .i64 0,.int .i64 0]),rfl,(New.pair (New.int D) (New.pair (New.int E) (New.from S c))),(j3 (by decide) (by decide))⟩
 ·refine trM a (h0a _ _ _ (l0 f g (I0.mono c b)) _ _ (j3 m n)) ?_
  rintro aa a ao H ⟨af,rfl,e⟩
  obtain⟨av,aw⟩:=aa
  dsimp only at a e
  have an:Sub o H:=e.sub
  have O:=e.r
  obtain⟨ab,ac,u,al,y,ad,rfl,rfl,F,G,P⟩:=C0 O
  obtain⟨rfl,ai⟩:=Sl.len P
  try dsimp only at a
  have Q:=New.sndI (New.sndI (e))
  refine Or.inr (Or.inr (Or.inl (aI (aI (by kernel_rfl) (by kernel_rfl)) ?_)))
  refine Or.inr ?_
  refine Or.inr ?_
  refine Or.inl (eX 0 (aI (aI rfl rfl) ?_))
  refine aI trivial (aI (by first|exact trivial|exact rfl) ?_)
  refine aI trivial (aI (by first|exact trivial|exact rfl) ?_)
  obtain rfl:=oJ a
  exact⟨([.int .i64 ab,.int .i64 ac,.slice u ad.length y]),([.int .i64 U,.int .i64 V]),rfl,(New.pair (New.int F) (New.pair (New.int G) (New.from Q c))),(j3 m n)⟩
theorem w0h(h:Hp)(A:List Value)(G:j0)(ao:C1.R h A G)(r:j0×q00)(b:r03 G=some r):
  Tr Tryz.prog 283 #[.agg A.toArray] h λv c=>∃(z:List Value) (x:Option Addr) (F y:Nat),v = .tuple #[.agg z.toArray,.slice x F y]/\New C1 h c z r.1/\Z0j.R c [.slice x F y] r.2:=by
 obtain⟨al,am,P,aO,T,an,rfl,rfl,ae,af,H⟩:=C0 ao
 obtain⟨rfl,aJ⟩:=Sl.len H
 unfold r03 at b
 dsimp only at b
 refine A2 (args:=[.agg #[.int .i64 al,.int .i64 am,.slice P an.length T]]) (fn:=Tryz.f283) rfl ?_
 refine trM b (R7 _ _ _ (l0 ae af H)) ?_
 rintro az b aU t ⟨ab,aQ,V,rfl,p⟩
 have av:Sub h t:=p.sub
 have J:=p.r
 obtain⟨aD,aE,O⟩:=az
 dsimp only at b p J
 obtain⟨_,_,_,_,_,_,X,Y,ai,aj,ar⟩:=C0 J
 cases X
 cases Y
 obtain⟨rfl,aM⟩:=Sl.len ar
 try dsimp only at b
 have ay:=New.sndI (New.sndI (p))
 obtain⟨w,ac,b⟩:=z0 b
 refine eX { vars:=[],boxes:=[2],owns:=[0],fuel:=true } (eX (λvs os c=>∃ e f k u l u8 o g,vs.tail = [.int .i64 e,.int .i64 f,.slice k u l]/\os = [o]/\Sub t c/\J0 e/\J0 f/\New I0 h c [.slice k u l] u8/\F2 (a6.R c) o g/\a9 (Z1 vs) e f u8 g=some w) (eX (λ_ _=>0) (aI (eX T0 ⟨aD,aE,(some ⟨ab,0,none⟩),O.length,V,O,[],([]:q00),rfl,rfl,(Sub.refl _),ai,aj,ay,(show F2 (a6.R t) ([]:List (List Value)) ([]:q00) from trivial),ac⟩) ?_)))
 rintro _ _ _ o n ak ⟨e,f,k,u,l,u8,aY,g,⟨⟩,⟨⟩,L,B,C,M,m,a⟩
 replace a:a9 n e f u8 g=some w:=a
 obtain _|n:=n
 ·cases a
 rw[a9.eq_2]at a
 have I:=M.r
 obtain⟨rfl,aK⟩:=Sl.len I
 refine trM a (j0f _ _ _ (l0 B C I)) ?_
 rintro aA a aS s ⟨aF,aG,rfl,q,K⟩
 obtain⟨aV,aW,aX⟩:=aA
 dsimp only at a q K
 have d:Sub ak s:=q.sub
 have ap:=q.r
 obtain⟨aB,aC,Q,aP,U,N,rfl,rfl,ag,ah,aq⟩:=C0 ap
 obtain⟨rfl,aL⟩:=Sl.len aq
 try dsimp only at a
 have ax:=New.sndI (New.sndI (q))
 obtain⟨i,j,rfl,rfl,D,E⟩:=I04 K
 try dsimp only at a
 refine ifB a (λad a=>?_) λad a=>?_
 ·intro aT aH Z
  obtain⟨S,W,rfl,au,aw,aN⟩:=Z0.out (r:=a6.toRp) Z (F2.up (r:=a6.toRp) d m)
  obtain rfl:=oJ a
  try dsimp only[T4,Z4]at b
  obtain rfl:=oJ b
  exact⟨([.int .i64 e,.int .i64 f,.slice k u8.length l]),S,g.length,W,rfl,(New.pair (New.int B) (New.pair (New.int C) (New.mono M (d.trans aw)))),au⟩
 ·obtain⟨aR,aa,a⟩:=z0 a
  refine aI (P1 aa (by first|rw[F2.length (F2.up (r:=a6.toRp) d m),F2.length (show F2 (a6.R s) ([[.int .i64 i,.int .i64 j]]:List (List Value)) [(i,j)] from⟨(j3 D E),trivial⟩)]|exact congrArg (·+1) (F2.length (F2.up (r:=a6.toRp) d m)))) ?_
  exact L2 n ⟨aB,aC,Q,N.length,U,N,(o++([[.int .i64 i,.int .i64 j]]:List (List Value))),(g ++ [(i,j)]),rfl,rfl,(L.trans d),ag,ah,(New.from ax (av.trans L)),(F2.append (F2.up (r:=a6.toRp) d m) (show F2 (a6.R s) ([[.int .i64 i,.int .i64 j]]:List (List Value)) [(i,j)] from⟨(j3 D E),trivial⟩)),a⟩
theorem i0e(h:Hp)(e:List Value)(l:j0)(E:C1.R h e l)(r:j0×Bool)(a:m02 l=some r):
  Tr Tryz.prog 289 #[.agg e.toArray] h λv x=>∃(d:List Value),v = .tuple #[.agg d.toArray,.bool r.2]/\New C1 h x d r.1:=by
 obtain⟨B,C,s,K,t,D,rfl,rfl,i,j,c⟩:=C0 E
 obtain⟨rfl,I⟩:=Sl.len c
 unfold m02 at a
 dsimp only at a
 refine A2 (args:=[.agg #[.int .i64 B,.int .i64 C,.slice s D.length t]]) (fn:=Tryz.f289) rfl ?_
 refine trM a (R7 _ _ _ (l0 i j c)) ?_
 rintro H a M A ⟨g,L,f,rfl,b⟩
 have G:Sub h A:=b.sub
 have m:=b.r
 obtain⟨o,p,q⟩:=H
 dsimp only at a b m
 obtain⟨_,_,_,_,_,_,u,w,k,z,F⟩:=C0 m
 cases u
 cases w
 obtain⟨rfl,J⟩:=Sl.len F
 try dsimp only at a
 have n:=New.sndI (New.sndI (b))
 refine trV a (t02 _ _ _ (l0 i j (I0.mono G c))) λN a=>?_
 refine ifB a (λy a=>?_) λy a=>?_
 ·obtain rfl:=oJ a
  exact⟨([.int .i64 o,.int .i64 p,.slice (some ⟨g,0,none⟩) q.length f]),rfl,(New.pair (New.int k) (New.pair (New.int z) n))⟩
 ·obtain rfl:=oJ a
  exact⟨([.int .i64 o,.int .i64 (IntKind.i64.wrap (p+1)),.slice (some ⟨g,0,none⟩) q.length f]),rfl,(New.pair (New.int k) (New.pair (New.int (M0 _)) n))⟩
theorem M0a(h:Hp)(E:List Value)(J:j0)(ae:C1.R h E J)(r:K0)(c:J9 J=some r):
  Tr Tryz.prog 292 #[.agg E.toArray] h λv d=>∃(C:Option Addr) (I D:Nat),v = .slice C I D/\I0.R d [.slice C I D] r/\Sub h d:=by
 obtain⟨m,n,M,ax,P,o,rfl,rfl,t,G,x⟩:=C0 ae
 obtain⟨rfl,ar⟩:=Sl.len x
 unfold J9 at c
 dsimp only at c
 refine A2 (args:=[.agg #[.int .i64 m,.int .i64 n,.slice M o.length P]]) (fn:=Tryz.f292) rfl ?_
 refine trV c (C01 _ _ _ (l0 t G x)) λaE c=>?_
 refine ifB c (λaa c=>?_) λaa c=>?_
 ·intro aC aq U
  obtain⟨O,S,rfl,ag,ai,aw⟩:=Z0.out (r:=E1.toRp) U (show F2 (E1.R h) ([]:List (List Value)) ([]:K0) from trivial)
  obtain rfl:=oJ c
  exact⟨O,(([]:K0)).length,S,rfl,ag,ai⟩
 ·obtain⟨B,Y,c⟩:=z0 c
  refine eX { vars:=[4],boxes:=[],owns:=[0],fuel:=true } (eX (λvs os d=>∃ u8 s g,vs.tail = [.int .i64 u8]/\os = [s]/\Sub h d/\J0 u8/\F2 (E1.R d) s g/\Q5 n m o (Z1 vs) u8 g=some B) (eX (λ_ _=>0) (aI (eX T0 ⟨0,[],([]:K0),rfl,rfl,(Sub.refl _),(by decide),(show F2 (E1.R h) ([]:List (List Value)) ([]:K0) from trivial),Y⟩) ?_)))
  rintro _ s q ao ⟨u8,aG,g,⟨⟩,⟨⟩,y,u,F,b⟩
  replace b:Q5 n m o q u8 g=some B:=b
  obtain _|q:=q
  ·cases b
  rw[Q5.eq_2]at b
  refine ifB b (λZ b=>?_) λZ b=>?_
  ·refine trM b (d0a _ _ t) ?_
   rintro L b aB ad ⟨ak,ay,al,rfl,K,z⟩
   obtain⟨rfl,au⟩:=Sl.len K
   obtain⟨A,X,b⟩:=z0 b
   refine eX { vars:=[22],boxes:=[],owns:=[0],fuel:=true } (eX (λvs os d=>∃ e i f,vs.tail = [.int .i64 e]/\os = [i]/\Sub ad d/\J0 e/\F2 (E1.R d) i f/\i4 L m n o u8 (Z1 vs) e f=some A) (eX (λ_ _=>0) (aI (eX T0 ⟨0,s,g,rfl,rfl,(Sub.refl _),(by decide),(F2.up (r:=E1.toRp) z F),X⟩) ?_)))
   rintro _ i l H ⟨e,aF,f,⟨⟩,⟨⟩,p,am,k,a⟩
   replace a:i4 L m n o u8 l e f=some A:=a
   obtain _|l:=l
   ·cases a
   rw[i4.eq_2]at a
   refine ifB a (λab a=>?_) λab a=>?_
   ·refine ldI a (D0.mono p K) λj w a=>?_
    refine trV a (d03 _ _ _ (l0 t G (I0.mono ((y.trans z).trans p) x)) _ u _ w) λaj a=>?_
    obtain⟨az,V,a⟩:=z0 a
    have an:J0 aj:=E2 V
    refine ifB a (λac a=>?_) λac a=>?_
    ·obtain⟨aA,W,a⟩:=z0 a
     refine aI (P1 W (by first|rw[F2.length k,F2.length (show F2 (E1.R H) ([[.int .i64 u8,.int .i64 j,.int .i64 (-1)]]:List (List Value)) [(u8,j,(-1))] from⟨(M1 u w (by decide)),trivial⟩)]|exact congrArg (·+1) (F2.length k))) ?_
     exact L2 l ⟨(IntKind.i64.wrap (e+1)),(i++([[.int .i64 u8,.int .i64 j,.int .i64 (-1)]]:List (List Value))),(f ++ [(u8,j,(-1))]),rfl,rfl,p,(M0 _),(F2.append k (show F2 (E1.R H) ([[.int .i64 u8,.int .i64 j,.int .i64 (-1)]]:List (List Value)) [(u8,j,(-1))] from⟨(M1 u w (by decide)),trivial⟩)),a⟩
    ·exact L2 l ⟨(IntKind.i64.wrap (e+1)),i,f,rfl,rfl,p,(M0 _),k,a⟩
   ·obtain rfl:=oJ a
    try dsimp only[U0,Y0]at b
    exact L2 q ⟨(IntKind.i64.wrap (u8+1)),i,f,rfl,rfl,((y.trans z).trans p),(M0 _),k,b⟩
  ·obtain rfl:=oJ b
   try dsimp only[U0,Y0]at c
   intro aD ap T
   obtain⟨N,Q,rfl,af,ah,av⟩:=Z0.out (r:=E1.toRp) T F
   obtain rfl:=oJ c
   exact⟨N,g.length,Q,rfl,af,(y.trans ah)⟩
theorem o08(h:Hp)(f:List Value)(j:j0)(I:C1.R h f j)(r:j0)(a:c9 j=some r):
  Tr Tryz.prog 196 #[.agg f.toArray] h λv u=>∃(e:List Value),v = .agg e.toArray/\New C1 h u e r:=by
 obtain⟨F,G,p,an,s,H,rfl,rfl,w,x,k⟩:=C0 I
 obtain⟨rfl,ah⟩:=Sl.len k
 unfold c9 at a
 dsimp only at a
 refine A2 (args:=[.agg #[.int .i64 F,.int .i64 G,.slice p H.length s]]) (fn:=Tryz.f196) rfl ?_
 refine trM a (w0h _ _ _ (l0 w x k)) ?_
 rintro Q a ax g ⟨aa,X,ap,ae,rfl,b,m⟩
 obtain⟨aB,aF⟩:=Q
 dsimp only at a b m
 have N:Sub h g:=b.sub
 have J:=b.r
 obtain⟨aC,aD,W,ao,ad,aE,rfl,rfl,y,z,l⟩:=C0 J
 obtain⟨rfl,ai⟩:=Sl.len l
 try dsimp only at a
 have az:=New.sndI (New.sndI (b))
 obtain⟨rfl,aj⟩:=Sl.len m
 refine trM a (n08 _ _ _ (l0 y z l)) ?_
 rintro S a ay i ⟨ab,Z,ar,ag,rfl,c,o⟩
 obtain⟨aG,aL⟩:=S
 dsimp only at a c o
 have O:Sub g i:=c.sub
 have K:=c.r
 obtain⟨aH,aJ,Y,aq,af,aK,rfl,rfl,A,B,n⟩:=C0 K
 obtain⟨rfl,ak⟩:=Sl.len n
 try dsimp only at a
 have aA:=New.sndI (New.sndI (c))
 obtain⟨rfl,al⟩:=Sl.len o
 refine trM a (a05 _ _ _ (l0 A B n)) ?_
 rintro aM a aw E ⟨ac,rfl,d⟩
 have av:Sub i E:=d.sub
 have L:=d.r
 obtain⟨T,U,q,au,t,V,rfl,rfl,C,D,M⟩:=C0 L
 obtain⟨rfl,am⟩:=Sl.len M
 try dsimp only at a
 have P:=New.sndI (New.sndI (d))
 obtain rfl:=oJ a
 exact⟨([.int .i64 T,.int .i64 U,.slice q V.length t]),rfl,(New.pair (New.int C) (New.pair (New.int D) (New.from P (N.trans O))))⟩
theorem P06(h:Hp)(e:List Value)(g:j0)(x:C1.R h e g)(b:Option Addr)(f c:Nat)(d:B0)(j:D0.R h [.slice b f c] d)(r:Bool)(a:e00 g d=some r):
  Tr Tryz.prog 279 #[.agg e.toArray,.slice b f c] h λv p=>v = .bool r/\p=h:=by
 obtain⟨t,u,k,F,l,w,rfl,rfl,q,s,i⟩:=C0 x
 obtain⟨rfl,D⟩:=Sl.len i
 obtain⟨rfl,E⟩:=Sl.len j
 unfold e00 at a
 dsimp only at a
 refine Tr.forget (A2 (args:=[.agg #[.int .i64 t,.int .i64 u,.slice k w.length l],.slice b d.length c]) (fn:=Tryz.f279) rfl ?_)
 obtain⟨y,o,a⟩:=z0 a
 obtain⟨z,A⟩:=y
 try dsimp only at a
 refine Tr.val (q07 _ _ _ (l0 q s i) 0 (by decide) _ _ _ _ j _  o) ?_
 obtain⟨G,m,a⟩:=z0 a
 have B:J0 z:=E2 m
 obtain⟨H,n,a⟩:=z0 a
 have C:J0 A:=E2 n
 obtain rfl:=oJ a
 exact aI rfl (Sub.refl _)
theorem i0a(h:Hp)(j:List Value)(n:j0)(E:C1.R h j n)(r:Bool)(b:A00 n=some r):
  Tr Tryz.prog 210 #[.agg j.toArray] h λv y=>v = .bool r/\y=h:=by
 obtain⟨B,C,p,X,t,D,rfl,rfl,k,m,g⟩:=C0 E
 obtain⟨rfl,V⟩:=Sl.len g
 unfold A00 at b
 dsimp only at b
 refine Tr.forget (A2 (args:=[.agg #[.int .i64 B,.int .i64 C,.slice p D.length t]]) (fn:=Tryz.f210) rfl ?_)
 refine aI (by kernel_rfl) ?_
 obtain⟨I,w,b⟩:=z0 b
 refine Or.inl (eX (.val (.bool I)) (aI ?_ ?_))
 ·intro Q G
  exact Tr.val (a01 _ _ _ (l0 k m (I0.mono G g)) _ w) (aI rfl (aI rfl rfl))
 obtain⟨d,x,b⟩:=z0 b
 refine Or.inr (eX (λv z=>∃(a:Option Addr) (c:Nat),v = .slice a d.length c/\I0.R z [.slice a d.length c] d/\d.length<=9223372036854775807) (aI (λv M N i q=>by obtain⟨a,c,e,r,l⟩:=q;exact⟨a,c,e,I0.mono i r,l⟩) (aI ?_ ?_)))
 ·intro S H f
  refine Tr.mono (M0a _ _ _ (l0 k m (I0.mono H g)) _ (T7 x f)) ?_
  rintro _ U ⟨s,Y,u,rfl,o,i⟩
  obtain⟨rfl,A⟩:=Sl.len o
  exact aI M5 (aI i ⟨s,u,rfl,o,A⟩)
 obtain⟨Z,L,b⟩:=z0 b
 refine Or.inl (eX (.val (.int .i64 ((d.length:Nat):Int))) (aI ?_ ?_))
 ·intro T ac f
  rintro _ ⟨J,K,rfl,aa,W⟩
  exact aI rfl (aI rfl rfl)
 refine Or.inl (eX (.val (.bool (decide (((d.length:Nat):Int)=0)))) (aI ?_ ?_))
 ·intro O ab f
  exact aI rfl (aI rfl rfl)
 intro P F
 obtain rfl:=oJ b
 exact aI rfl F
theorem k0f(h:Hp)(x:List Value)(C:j0)(ag:C1.R h x C)(d:Int)(y:J0 d)(r:j0×Bool)(a:P9 C d=some r):
  Tr Tryz.prog 209 #[.agg x.toArray,.int .i64 d] h λv k=>∃(w:List Value),v = .tuple #[.agg w.toArray,.bool r.2]/\New C1 h k w r.1:=by
 obtain⟨ae,p,G,aK,I,af,rfl,rfl,l,m,i⟩:=C0 ag
 obtain⟨rfl,aE⟩:=Sl.len i
 unfold P9 at a
 dsimp only at a
 refine A2 (args:=[.agg #[.int .i64 ae,.int .i64 p,.slice G af.length I],.int .i64 d]) (fn:=Tryz.f209) rfl ?_
 refine trV a (C01 _ _ _ (l0 l m i)) λaW a=>?_
 refine trG a (λq=>s02 _ _ _ (l0 l m i) _ y) λaX a=>?_
 refine ifB a (λU a=>?_) λU a=>?_
 ·refine trM a (R7 _ _ _ (l0 l m i)) ?_
  rintro au a aU ad ⟨P,aN,K,rfl,o⟩
  have aQ:Sub h ad:=o.sub
  have E:=o.r
  obtain⟨av,aw,ax⟩:=au
  dsimp only at a o E
  obtain⟨_,_,_,_,_,_,L,M,Z,aa,ak⟩:=C0 E
  cases L
  cases M
  obtain⟨rfl,aH⟩:=Sl.len ak
  try dsimp only at a
  have ao:=New.sndI (New.sndI (o))
  obtain rfl:=oJ a
  exact⟨([.int .i64 av,.int .i64 aw,.slice (some ⟨P,0,none⟩) ax.length K]),rfl,(New.pair (New.int Z) (New.pair (New.int aa) ao))⟩
 ·obtain⟨u,Q,a⟩:=z0 a
  refine eX { vars:=[7],boxes:=[],owns:=[0],fuel:=true } (eX (λvs os k=>∃ c j e,vs.tail = [.int .i64 c]/\os = [j]/\Sub h k/\J0 c/\F2 (Wp.int.R k) j e/\t8 p d (Z1 vs) c e=some u) (eX (λ_ _=>0) (aI (eX T0 ⟨0,([[.int .i64 d]]:List (List Value)),[d],rfl,rfl,(Sub.refl _),(by decide),(show F2 (Wp.int.R h) ([[.int .i64 d]]:List (List Value)) [d] from⟨⟨rfl,y⟩,trivial⟩),Q⟩) ?_)))
  rintro _ j g A ⟨c,a3,e,⟨⟩,⟨⟩,n,z,f,b⟩
  replace b:t8 p d g c e=some u:=b
  obtain _|g:=g
  ·cases b
  rw[t8.eq_2]at b
  refine ifB b (λS b=>?_) λS b=>?_
  ·refine ifB b (λT b=>?_) λT b=>?_
   ·obtain⟨aO,O,b⟩:=z0 b
    refine aI (P1 O (by first|rw[F2.length f,F2.length (show F2 (Wp.int.R A) ([[.int .i64 c]]:List (List Value)) [c] from⟨⟨rfl,z⟩,trivial⟩)]|exact congrArg (·+1) (F2.length f))) ?_
    exact L2 g ⟨(IntKind.i64.wrap (c+1)),(j++([[.int .i64 c]]:List (List Value))),(e ++ [c]),rfl,rfl,n,(M0 _),(F2.append f (show F2 (Wp.int.R A) ([[.int .i64 c]]:List (List Value)) [c] from⟨⟨rfl,z⟩,trivial⟩)),b⟩
   ·exact L2 g ⟨(IntKind.i64.wrap (c+1)),j,e,rfl,rfl,n,(M0 _),f,b⟩
  ·obtain rfl:=oJ b
   try dsimp only[U0,Y0]at a
   refine Or.inl ?_
   intro aR ab N
   obtain⟨az,aD,rfl,al,F,aJ⟩:=Z0.out (r:=Wp.int.toRp) N f
   refine trM a (e0a _ _ _ (l0 l m (I0.mono (n.trans F) i)) _ _ _ _ al) ?_
   rintro aY a aS B ⟨aA,rfl,s⟩
   have am:Sub ab B:=s.sub
   have ah:=s.r
   obtain⟨aZ,a0,ay,aL,aC,a1,rfl,rfl,V,W,D⟩:=C0 ah
   obtain⟨rfl,aF⟩:=Sl.len D
   try dsimp only at a
   have aV:=New.sndI (New.sndI (s))
   refine trM a (o08 _ _ _ (l0 V W D)) ?_
   rintro a2 a aT ac ⟨aB,rfl,t⟩
   have aP:Sub B ac:=t.sub
   have ai:=t.r
   obtain⟨ap,aq,H,aM,J,ar,rfl,rfl,X,Y,aj⟩:=C0 ai
   obtain⟨rfl,aG⟩:=Sl.len aj
   try dsimp only at a
   have an:=New.sndI (New.sndI (t))
   obtain rfl:=oJ a
   exact⟨([.int .i64 ap,.int .i64 aq,.slice H ar.length J]),rfl,(New.pair (New.int X) (New.pair (New.int Y) (New.from an ((n.trans F).trans am))))⟩
theorem j0e(h:Hp)(C:List Value)(L:j0)(aj:C1.R h C L)(r:K0)(b:p02 L=some r):
  Tr Tryz.prog 284 #[.agg C.toArray] h λv k=>∃(A:Option Addr) (K B:Nat),v = .slice A K B/\New I0 h k [.slice A K B] r:=by
 obtain⟨o,p,P,aS,S,q,rfl,rfl,D,E,s⟩:=C0 aj
 obtain⟨rfl,aL⟩:=Sl.len s
 unfold p02 at b
 dsimp only at b
 refine A2 (args:=[.agg #[.int .i64 o,.int .i64 p,.slice P q.length S]]) (fn:=Tryz.f284) rfl ?_
 refine trM b (T04 _ _ _ (l0 D E s) 0 (by decide)) ?_
 rintro aq b a3 af ⟨ax,aU,aE,ay,aV,aF,rfl,u,w,x⟩
 obtain⟨bc,N⟩:=aq
 dsimp only at b u w
 obtain⟨rfl,aN⟩:=Sl.len u
 obtain⟨rfl,aO⟩:=Sl.len w
 obtain⟨O,Z,b⟩:=z0 b
 obtain⟨ai,ao,U,W⟩:=Sl.cutI (r:=Wp.int.toRp) u Z
 refine aI ai (eX ao (aI U ?_))
 intro ap ac _
 obtain⟨az,aG,rfl,M⟩:=W ap ac
 have aQ:=(Sl.len M).2
 obtain⟨z,aa,b⟩:=z0 b
 refine eX { vars:=[20],boxes:=[],owns:=[0],fuel:=true } (eX (λvs os k=>∃ c n i,vs.tail = [.int .i64 c]/\os = [n]/\Sub af k/\J0 c/\F2 (E1.R k) n i/\C7 O N o p q (Z1 vs) c i=some z) (eX (λ_ _=>0) (aI (eX T0 ⟨0,[],([]:K0),rfl,rfl,(Sub.refl _),(by decide),(F2.up (r:=E1.toRp) x (show F2 (E1.R h) ([]:List (List Value)) ([]:K0) from trivial)),aa⟩) ?_)))
 rintro _ n l aK ⟨c,bd,i,⟨⟩,⟨⟩,g,aJ,j,a⟩
 replace a:C7 O N o p q l c i=some z:=a
 obtain _|l:=l
 ·cases a
 rw[C7.eq_2]at a
 refine ifB a (λab a=>?_) λab a=>?_
 ·refine ldI a (D0.mono g M) λa4 F a=>?_
  refine ld a (j2.mono g w) λba aB t a=>?_
  obtain⟨aw,aT,aD,rfl⟩:=Wp.slice_cell t
  obtain⟨rfl,aM⟩:=Sl.len t
  refine ldI a t λar ad a=>?_
  refine trV a (d03 _ _ _ (l0 D E (I0.mono (x.trans g) s)) _ F (IntKind.i64.wrap (0-ar)) (M0 _)) λau a=>?_
  obtain⟨aX,X,a⟩:=z0 a
  have ae:J0 au:=E2 X
  refine trM a (f0a _ _ ae _ ad _ F) ?_
  rintro bb a a0 J ⟨aC,rfl,ak,m⟩
  obtain⟨d,e,f,rfl,rfl,G,H,I⟩:=U1 ak
  try dsimp only at a
  obtain⟨aY,Y,a⟩:=z0 a
  refine aI (P1 Y (by first|rw[F2.length (F2.up (r:=E1.toRp) m j),F2.length (show F2 (E1.R J) ([[.int .i64 d,.int .i64 e,.int .i64 f]]:List (List Value)) [(d,e,f)] from⟨(M1 G H I),trivial⟩)]|exact congrArg (·+1) (F2.length (F2.up (r:=E1.toRp) m j)))) ?_
  exact L2 l ⟨(IntKind.i64.wrap (c+1)),(n++([[.int .i64 d,.int .i64 e,.int .i64 f]]:List (List Value))),(i ++ [(d,e,f)]),rfl,rfl,(g.trans m),(M0 _),(F2.append (F2.up (r:=E1.toRp) m j) (show F2 (E1.R J) ([[.int .i64 d,.int .i64 e,.int .i64 f]]:List (List Value)) [(d,e,f)] from⟨(M1 G H I),trivial⟩)),a⟩
 ·obtain rfl:=oJ a
  try dsimp only[U0,Y0]at b
  refine Or.inl ?_
  intro a1 ag V
  obtain⟨aA,aH,rfl,am,an,aR⟩:=Z0.out (r:=E1.toRp) V j
  refine trM b (w05 _ _ _ _ _ am) ?_
  rintro av b a2 ah ⟨Q,aW,T,rfl,y⟩
  have aZ:Sub ag ah:=y.sub
  have al:=y.r
  obtain⟨rfl,aP⟩:=Sl.len al
  obtain rfl:=oJ b
  exact⟨Q,av.length,T,rfl,(New.from y ((x.trans g).trans an))⟩
theorem d0d(h:Hp)(y:List Value)(G:j0)(Y:C1.R h y G)(r:K0)(b:J01 G=some r):
  Tr Tryz.prog 199 #[.agg y.toArray] h λv m=>∃(w:Option Addr) (F x:Nat),v = .slice w F x/\New I0 h m [.slice w F x] r:=by
 obtain⟨W,X,K,ak,N,s,rfl,rfl,B,C,n⟩:=C0 Y
 obtain⟨rfl,ag⟩:=Sl.len n
 unfold J01 at b
 dsimp only at b
 refine A2 (args:=[.agg #[.int .i64 W,.int .i64 X,.slice K s.length N]]) (fn:=Tryz.f199) rfl ?_
 refine trV b (C01 _ _ _ (l0 B C n)) λaw b=>?_
 refine ifB b (λV b=>?_) λV b=>?_
 ·intro au af A
  obtain⟨M,P,rfl,ao,aq,aj⟩:=Z0.out (r:=E1.toRp) A (show F2 (E1.R h) ([]:List (List Value)) ([]:K0) from trivial)
  obtain rfl:=oJ b
  exact⟨M,(([]:K0)).length,P,rfl,(Z0.newPlain (r:=E1) A (show F2 (E1.R h) ([]:List (List Value)) ([]:K0) from trivial) (Z09 _))⟩
 ·refine trM b (j0e _ _ _ (l0 B C n)) ?_
  rintro J b av E ⟨aa,al,ac,rfl,I⟩
  have t:Sub h E:=I.sub
  have H:=I.r
  obtain⟨rfl,ah⟩:=Sl.len H
  obtain⟨u,S,b⟩:=z0 b
  refine eX { vars:=[17],boxes:=[],owns:=[0],fuel:=true } (eX (λvs os m=>∃ c l d,vs.tail = [.int .i64 c]/\os = [l]/\Sub E m/\J0 c/\F2 (E1.R m) l d/\U5 s J (Z1 vs) c d=some u) (eX (λ_ _=>0) (aI (eX T0 ⟨0,[],([]:K0),rfl,rfl,(Sub.refl _),(by decide),(F2.up (r:=E1.toRp) t (show F2 (E1.R h) ([]:List (List Value)) ([]:K0) from trivial)),S⟩) ?_)))
  rintro _ l j D ⟨c,az,d,⟨⟩,⟨⟩,k,ad,e,a⟩
  replace a:U5 s J j c d=some u:=a
  obtain _|j:=j
  ·cases a
  rw[U5.eq_2]at a
  refine ifB a (λT a=>?_) λT a=>?_
  ·refine ld a (I0.mono (t.trans k) n) λax ab Z a=>?_
   obtain⟨f,g,i,rfl,rfl,o,p,q⟩:=U1 Z
   try dsimp only at a
   refine trV a (Y02 _ _ _ _ _ (I0.mono k H) _ _ (M1 o p q)) λay a=>?_
   refine ifB a (λU a=>?_) λU a=>?_
   ·obtain⟨am,Q,a⟩:=z0 a
    refine aI (P1 Q (by first|rw[F2.length e,F2.length (show F2 (E1.R D) ([[.int .i64 f,.int .i64 g,.int .i64 i]]:List (List Value)) [(f,g,i)] from⟨(M1 o p q),trivial⟩)]|exact congrArg (·+1) (F2.length e))) ?_
    exact L2 j ⟨(IntKind.i64.wrap (c+1)),(l++([[.int .i64 f,.int .i64 g,.int .i64 i]]:List (List Value))),(d ++ [(f,g,i)]),rfl,rfl,k,(M0 _),(F2.append e (show F2 (E1.R D) ([[.int .i64 f,.int .i64 g,.int .i64 i]]:List (List Value)) [(f,g,i)] from⟨(M1 o p q),trivial⟩)),a⟩
   ·exact L2 j ⟨(IntKind.i64.wrap (c+1)),l,d,rfl,rfl,k,(M0 _),e,a⟩
  ·obtain rfl:=oJ a
   try dsimp only[U0,Y0]at b
   intro ar ae z
   obtain⟨L,O,rfl,an,ap,ai⟩:=Z0.out (r:=E1.toRp) z e
   obtain rfl:=oJ b
   exact⟨L,d.length,O,rfl,(New.from (Z0.newPlain (r:=E1) z e (Z09 _)) (t.trans k))⟩
theorem x0h(h:Hp)(X:List Value)(ai:j0)(bf:C1.R h X ai)(r:Y1)(f:t03 ai=some r):
  Tr Tryz.prog 127 #[.agg X.toArray] h λv t=>∃(Q:Option Addr) (ah W:Nat),v = .slice Q ah W/\j2.R t [.slice Q ah W] r/\Sub h t:=by
 obtain⟨bc,bd,au,cc,aC,be,rfl,rfl,K,L,B⟩:=C0 bf
 obtain⟨rfl,bY⟩:=Sl.len B
 unfold t03 at f
 dsimp only at f
 refine A2 (args:=[.agg #[.int .i64 bc,.int .i64 bd,.slice au be.length aC]]) (fn:=Tryz.f127) rfl ?_
 refine trV f (a01 _ _ _ (l0 K L B)) λcu f=>?_
 refine ifB f (λa1 f=>?_) λa1 f=>?_
 ·intro cr bU aP
  obtain⟨az,aH,rfl,bn,bt,cb⟩:=Z0.out (r:=D0.toRp) aP (show F2 (D0.R h) ([]:List (List Value)) ([]:Y1) from trivial)
  obtain rfl:=oJ f
  exact⟨az,(([]:Y1)).length,aH,rfl,bn,bt⟩
 ·refine trM f (T04 _ _ _ (l0 K L B) 0 (by decide)) ?_
  rintro bz f ct a3 ⟨bB,ci,bI,S,cj,Y,rfl,am,C,O⟩
  obtain⟨cw,H⟩:=bz
  dsimp only at f am C
  obtain⟨rfl,b2⟩:=Sl.len am
  obtain⟨rfl,b3⟩:=Sl.len C
  refine trM f (d0d _ _ _ (l0 K L (I0.mono O B))) ?_
  rintro ar f cq ad ⟨bA,cd,bH,rfl,ao⟩
  have E:Sub a3 ad:=ao.sub
  have aj:=ao.r
  obtain⟨rfl,bZ⟩:=Sl.len aj
  obtain⟨P,aZ,f⟩:=z0 f
  refine eX { vars:=[21],boxes:=[],owns:=[0],fuel:=true } (eX (λvs os t=>∃ p F s,vs.tail = [.int .i64 p]/\os = [F]/\Sub ad t/\J0 p/\F2 (D0.R t) F s/\i9 ar H (Z1 vs) p s=some P) (eX (λ_ _=>0) (aI (eX T0 ⟨0,[],([]:Y1),rfl,rfl,(Sub.refl _),(by decide),(F2.up (r:=D0.toRp) (O.trans E) (show F2 (D0.R h) ([]:List (List Value)) ([]:Y1) from trivial)),aZ⟩) ?_)))
  rintro _ F A bO ⟨p,cx,s,⟨⟩,⟨⟩,u,bL,x,b⟩
  replace b:i9 ar H A p s=some P:=b
  obtain _|A:=A
  ·cases b
  rw[i9.eq_2]at b
  refine ifB b (λa0 b=>?_) λa0 b=>?_
  ·refine ld b (I0.mono u aj) λcv bE bg b=>?_
   obtain⟨bu,G,bv,rfl,rfl,bM,a2,bN⟩:=U1 bg
   try dsimp only at b
   refine Or.inr (Or.inr (Or.inr (Or.inr (eX 18 (aI (aI (by kernel_rfl) (by kernel_rfl)) ?_)))))
   obtain⟨w,aS,b⟩:=z0 b
   obtain⟨aA,bF,aJ,M⟩:=Sl.getI (r:=D0.toRp) (j2.mono (E.trans u) C) aS (by decide)
   obtain⟨I,ce,J,rfl⟩:=Wp.slice_cell M
   obtain⟨rfl,b0⟩:=Sl.len M
   refine Or.inl (eX (.hel (.slice S H.length Y) bu 1 0) (aI ?_ ?_))
   ·intro bP cl
    exact aI aA (aI rfl (aI rfl rfl))
   refine Or.inl (eX (.val (.slice I w.length J)) (aI ?_ ?_))
   ·intro bQ bo
    exact eX _ (aI (Z9.up bo aJ) (aI rfl (aI rfl rfl)))
   obtain⟨g,aT,b⟩:=z0 b
   refine Or.inr (eX (λv i=>∃(a:Option Addr) (c:Nat),v = .slice a g.length c/\D0.R i [.slice a g.length c] g/\g.length<=9223372036854775807) (aI (λv y z d q=>by obtain⟨a,c,e,r,l⟩:=q;exact⟨a,c,e,D0.mono d r,l⟩) (aI ?_ ?_)))
   ·intro ae cm
    have aK:[G]=g:=oJ aT
    intro v k hf
    obtain⟨a,c,rfl,r,d,l⟩:=Z0.out (r:=Wp.int.toRp) (xs:=g) hf (show F2 (Wp.int.R ae) [[.int .i64 G]] g from aK▸(show F2 (Wp.int.R ae) [[.int .i64 G]] [G] from⟨⟨rfl,a2⟩,trivial⟩))
    exact aI ⟨rfl,rfl,rfl,[_],rfl⟩ (aI d ⟨a,c,rfl,r,l⟩)
   obtain⟨bx,aU,b⟩:=z0 b
   obtain⟨aB,bG,aL,N⟩:=Sl.getI (r:=D0.toRp) (j2.mono (E.trans u) C) aU (by decide)
   obtain⟨av,cf,aD,rfl⟩:=Wp.slice_cell N
   obtain⟨rfl,b1⟩:=Sl.len N
   refine Or.inl (eX (.hel (.slice S H.length Y) bv 1 0) (aI ?_ ?_))
   ·intro bR cn
    exact aI aB (aI rfl (aI rfl rfl))
   refine Or.inl (eX (.val (.slice av bx.length aD)) (aI ?_ ?_))
   ·intro bS bp
    exact eX _ (aI (Z9.up bp aL) (aI rfl (aI rfl rfl)))
   obtain⟨j,aV,b⟩:=z0 b
   refine Or.inr (eX (λv i=>∃(a:Option Addr) (c:Nat),v = .slice a j.length c/\D0.R i [.slice a j.length c] j/\j.length<=9223372036854775807) (aI (λv y z d q=>by obtain⟨a,c,e,r,l⟩:=q;exact⟨a,c,e,D0.mono d r,l⟩) (aI ?_ ?_)))
   ·intro bT bq
    refine Tr.mono (R04 _ _ _ _ _ (D0.mono bq N) _ aV) ?_
    rintro _ a4 ⟨aw,cg,aE,rfl,ap⟩
    have d:=ap.sub
    have ak:=ap.r
    obtain⟨rfl,ba⟩:=Sl.len ak
    exact aI M5 (aI d ⟨aw,aE,rfl,ak,ba⟩)
   obtain⟨o,aW,b⟩:=z0 b
   refine Or.inr (eX (λv i=>∃(a:Option Addr) (c:Nat),v = .slice a o.length c/\j2.R i [.slice a o.length c] o/\o.length<=9223372036854775807) (aI (λv y z d q=>by obtain⟨a,c,e,r,l⟩:=q;exact⟨a,c,e,j2.mono d r,l⟩) (aI ?_ ?_)))
   ·intro af br
    rintro _ ⟨T,Z,rfl,bh,b4⟩
    rintro _ ⟨U,aa,rfl,bi,b5⟩
    have aM:[w,g,j]=o:=oJ aW
    intro v k hf
    obtain⟨a,c,rfl,r,d,l⟩:=Z0.out (r:=D0.toRp) (xs:=o) hf (show F2 (D0.R af) [[.slice I w.length J],[.slice T g.length Z],[.slice U j.length aa]] o from aM▸(show F2 (D0.R af) [[.slice I w.length J],[.slice T g.length Z],[.slice U j.length aa]] [w,g,j] from⟨(D0.mono br M),⟨bh,⟨bi,trivial⟩⟩⟩))
    exact aI ⟨rfl,rfl,rfl,[_],rfl⟩ (aI d ⟨a,c,rfl,r,l⟩)
   obtain⟨m,aX,b⟩:=z0 b
   refine Or.inr (eX (λv i=>∃(a:Option Addr) (c:Nat),v = .slice a m.length c/\D0.R i [.slice a m.length c] m/\m.length<=9223372036854775807) (aI (λv y z d q=>by obtain⟨a,c,e,r,l⟩:=q;exact⟨a,c,e,D0.mono d r,l⟩) (aI ?_ ?_)))
   ·intro bV co
    rintro _ ⟨bC,bJ,rfl,bj,b6⟩
    refine Tr.mono (M06 _ _ _ _ _ bj _ aX) ?_
    rintro _ a4 ⟨ax,ch,aF,rfl,aq⟩
    have d:=aq.sub
    have al:=aq.r
    obtain⟨rfl,bb⟩:=Sl.len al
    exact aI M5 (aI d ⟨ax,aF,rfl,al,bb⟩)
   obtain⟨n,aY,b⟩:=z0 b
   refine Or.inr (eX (λv i=>∃(a:Option Addr) (c:Nat),v = .slice a n.length c/\j2.R i [.slice a n.length c] n/\n.length<=9223372036854775807) (aI (λv y z d q=>by obtain⟨a,c,e,r,l⟩:=q;exact⟨a,c,e,j2.mono d r,l⟩) (aI ?_ ?_)))
   ·intro ag cp
    rintro _ ⟨V,ab,rfl,bk,b7⟩
    have aN:[m]=n:=oJ aY
    intro v k hf
    obtain⟨a,c,rfl,r,d,l⟩:=Z0.out (r:=D0.toRp) (xs:=n) hf (show F2 (D0.R ag) [[.slice V m.length ab]] n from aN▸(show F2 (D0.R ag) [[.slice V m.length ab]] [m] from⟨bk,trivial⟩))
    exact aI ⟨rfl,rfl,rfl,[_],rfl⟩ (aI d ⟨a,c,rfl,r,l⟩)
   intro bW D
   rintro _ ⟨bD,bK,rfl,bl,b8⟩
   rintro _ _
   rintro _ _
   rintro _ _
   rintro _ _
   obtain⟨an,aO,ac⟩:=Sl.rows (r:=D0.toRp) bl
   refine eX an (aI aO ?_)
   obtain⟨ck,aR,b⟩:=z0 b
   refine aI (P1 aR (by first|rw[F2.length (F2.up (r:=D0.toRp) D x),F2.length ac]|exact congrArg (·+1) (F2.length (F2.up (r:=D0.toRp) D x)))) ?_
   exact L2 A ⟨(IntKind.i64.wrap (p+1)),(F++an),(s++n),rfl,rfl,(u.trans D),(M0 _),(F2.append (F2.up (r:=D0.toRp) D x) ac),b⟩
  ·obtain rfl:=oJ b
   try dsimp only[U0,Y0]at f
   intro cs bX aQ
   obtain⟨ay,aG,rfl,bm,bs,ca⟩:=Z0.out (r:=D0.toRp) aQ x
   obtain rfl:=oJ f
   exact⟨ay,s.length,aG,rfl,bm,(((O.trans E).trans u).trans bs)⟩
theorem K0b(h:Hp)(z:List Value)(D:j0)(W:C1.R h z D)(m:Option Addr)(C n:Nat)(g:Y1)(E:j2.R h [.slice m C n] g)(r:Bool)(d:f00 D g=some r):
  Tr Tryz.prog 187 #[.agg z.toArray,.slice m C n] h λv o=>v = .bool r/\o=h:=by
 obtain⟨p,s,J,ax,L,t,rfl,rfl,A,B,u⟩:=C0 W
 obtain⟨rfl,aq⟩:=Sl.len u
 obtain⟨rfl,ar⟩:=Sl.len E
 unfold f00 at d
 dsimp only at d
 refine Tr.forget (A2 (args:=[.agg #[.int .i64 p,.int .i64 s,.slice J t.length L],.slice m g.length n]) (fn:=Tryz.f187) rfl ?_)
 refine trV d (a01 _ _ _ (l0 A B u)) λaC d=>?_
 refine ifB d (λQ d=>?_) λQ d=>?_
 ·obtain rfl:=oJ d
  exact aI rfl (Sub.refl _)
 ·obtain⟨y,P,d⟩:=z0 d
  refine eX { vars:=[12],boxes:=[],owns:=[],fuel:=true } (eX (λvs os o=>∃ f,vs.tail = [.int .i64 f]/\os = []/\Sub h o/\J0 f/\E6 g p s t (Z1 vs) f=some y) (eX (λ_ _=>0) (aI (eX T0 ⟨0,rfl,rfl,(Sub.refl _),(by decide),P⟩) ?_)))
  rintro _ j ao ⟨f,⟨⟩,⟨⟩,i,aj,b⟩
  replace b:E6 g p s t j f=some y:=b
  obtain _|j:=j
  ·cases b
  rw[E6.eq_2]at b
  refine ifB b (λT b=>?_) λT b=>?_
  ·refine ld b (j2.mono i E) λaD ad w b=>?_
   obtain⟨aa,ay,ae,rfl⟩:=Wp.slice_cell w
   obtain⟨rfl,au⟩:=Sl.len w
   refine Or.inr (Or.inr (Or.inr (Or.inl (aI (aI (by kernel_rfl) (by kernel_rfl)) ?_))))
   obtain⟨k,O,b⟩:=z0 b
   refine Or.inr (eX (λv U=>∃(a:Option Addr) (c:Nat),v = .slice a k.length c/\D0.R U [.slice a k.length c] k/\k.length<=9223372036854775807) (aI (λv ah ai x q=>by obtain⟨a,c,e,r,l⟩:=q;exact⟨a,c,e,D0.mono x r,l⟩) (aI ?_ ?_)))
   ·intro ak Y
    refine Tr.mono (O05 _ _ _ _ _ (D0.mono Y w) _ O) ?_
    rintro _ ap ⟨K,az,M,rfl,H⟩
    have x:=H.sub
    have F:=H.r
    obtain⟨rfl,V⟩:=Sl.len F
    exact aI M5 (aI x ⟨K,M,rfl,F,V⟩)
   obtain⟨I,N,b⟩:=z0 b
   refine Or.inl (eX (.val (.bool I)) (aI ?_ ?_))
   ·intro al Z
    rintro _ ⟨ab,af,rfl,X,av⟩
    exact Tr.val (P06 _ _ _ (l0 A B (I0.mono (i.trans Z) u)) _ _ _ _ X _ N) (aI rfl (aI rfl rfl))
   refine Or.inl (eX (.val (.bool (!I))) (aI ?_ ?_))
   ·intro am aB
    exact aI rfl (aI rfl rfl)
   intro an G
   rintro _ ⟨ac,ag,rfl,aA,aw⟩
   refine ifB b (λS b=>?_) λS b=>?_
   ·obtain rfl:=oJ b
    try dsimp only[T4,Z4]at d
    obtain rfl:=oJ d
    exact aI rfl (i.trans G)
   ·exact L2 j ⟨(IntKind.i64.wrap (f+1)),rfl,rfl,(i.trans G),(M0 _),b⟩
  ·obtain rfl:=oJ b
   try dsimp only[U0,Y0]at d
   obtain rfl:=oJ d
   exact aI rfl i
theorem l0f(h:Hp)(p:Option Addr)(K u:Nat)(i:Y1)(C:j2.R h [.slice p K u] i)(q:Option Addr)(L w:Nat)(B:B0)(M:D0.R h [.slice q L w] B)(r:B0)(b:R02 i B=some r):
  Tr Tryz.prog 186 #[.slice p K u,.slice q L w] h λv m=>∃(G:Option Addr) (J H:Nat),v = .slice G J H/\D0.R m [.slice G J H] r/\Sub h m:=by
 obtain⟨rfl,ai⟩:=Sl.len C
 obtain⟨rfl,aB⟩:=Sl.len M
 unfold R02 at b
 refine A2 (args:=[.slice p i.length u,.slice q B.length w]) (fn:=Tryz.f186) rfl ?_
 obtain⟨S,aa,b⟩:=z0 b
 obtain⟨aj,an,V,X⟩:=Sl.cutI (r:=Wp.int.toRp) M aa
 refine aI aj (eX an (aI V ?_))
 intro ao af _
 obtain⟨aq,ax,rfl,N⟩:=X ao af
 have aC:=(Sl.len N).2
 obtain⟨F,ab,b⟩:=z0 b
 refine eX { vars:=[15],boxes:=[],owns:=[0],fuel:=true } (eX (λvs os m=>∃ d j f,vs.tail = [.int .i64 d]/\os = [j]/\Sub h m/\J0 d/\F2 (D0.R m) j f/\B6 S i (Z1 vs) d f=some F) (eX (λ_ _=>0) (aI (eX T0 ⟨0,[],([]:Y1),rfl,rfl,(Sub.refl _),(by decide),(show F2 (D0.R h) ([]:List (List Value)) ([]:Y1) from trivial),ab⟩) ?_)))
 rintro _ j g A ⟨d,aW,f,⟨⟩,⟨⟩,e,aA,c,a⟩
 replace a:B6 S i g d f=some F:=a
 obtain _|g:=g
 ·cases a
 rw[B6.eq_2]at a
 refine ifB a (λae a=>?_) λae a=>?_
 ·refine ldI a (D0.mono e N) λaU I a=>?_
  refine trV a (I8 _ _ I 1 (by decide) _ (n0r ai)) λaV a=>?_
  refine ifB a (λac a=>?_) λac a=>?_
  ·refine ld a (j2.mono e C) λk av n a=>?_
   obtain⟨s,aJ,x,rfl⟩:=Wp.slice_cell n
   obtain⟨rfl,aD⟩:=Sl.len n
   obtain⟨aN,Y,a⟩:=z0 a
   refine aI (P1 Y (by first|rw[F2.length c,F2.length (show F2 (D0.R A) ([[.slice s k.length x]]:List (List Value)) [k] from⟨n,trivial⟩)]|exact congrArg (·+1) (F2.length c))) ?_
   exact L2 g ⟨(IntKind.i64.wrap (d+1)),(j++([[.slice s k.length x]]:List (List Value))),(f ++ [k]),rfl,rfl,e,(M0 _),(F2.append c (show F2 (D0.R A) ([[.slice s k.length x]]:List (List Value)) [k] from⟨n,trivial⟩)),a⟩
  ·refine trV a (I8 _ _ I (IntKind.i64.wrap (0-((i.length:Nat):Int))) (M0 _) (-1) (by decide)) λaS a=>?_
   refine ifB a (λad a=>?_) λad a=>?_
   ·refine ld a (j2.mono e C) λaT aw D a=>?_
    obtain⟨ar,aK,ay,rfl⟩:=Wp.slice_cell D
    obtain⟨rfl,aE⟩:=Sl.len D
    refine trM a (R04 _ _ _ _ _ D) ?_
    rintro l a aP z ⟨t,aL,y,rfl,P⟩
    have o:Sub A z:=P.sub
    have E:=P.r
    obtain⟨rfl,aF⟩:=Sl.len E
    obtain⟨aO,Z,a⟩:=z0 a
    refine aI (P1 Z (by first|rw[F2.length (F2.up (r:=D0.toRp) o c),F2.length (show F2 (D0.R z) ([[.slice t l.length y]]:List (List Value)) [l] from⟨E,trivial⟩)]|exact congrArg (·+1) (F2.length (F2.up (r:=D0.toRp) o c)))) ?_
    exact L2 g ⟨(IntKind.i64.wrap (d+1)),(j++([[.slice t l.length y]]:List (List Value))),(f ++ [l]),rfl,rfl,(e.trans o),(M0 _),(F2.append (F2.up (r:=D0.toRp) o c) (show F2 (D0.R z) ([[.slice t l.length y]]:List (List Value)) [l] from⟨E,trivial⟩)),a⟩
   ·exact L2 g ⟨(IntKind.i64.wrap (d+1)),j,f,rfl,rfl,e,(M0 _),c,a⟩
 ·obtain rfl:=oJ a
  try dsimp only[U0,Y0]at b
  refine Or.inl ?_
  intro aQ ag W
  obtain⟨au,az,rfl,ak,am,aH⟩:=Z0.out (r:=D0.toRp) W c
  refine trM b (M06 _ _ _ _ _ ak) ?_
  rintro ap b aR ah ⟨T,aM,U,rfl,Q⟩
  have al:Sub ag ah:=Q.sub
  have O:=Q.r
  obtain⟨rfl,aG⟩:=Sl.len O
  obtain rfl:=oJ b
  exact⟨T,ap.length,U,rfl,O,((e.trans am).trans al)⟩
theorem L0b(h:Hp)(t:List Value)(y:V1)(W:L1.R h t y)(r:B0)(d:o01 y=some r):
  Tr Tryz.prog 20 #[.agg t.toArray] h λv f=>∃(p:Option Addr) (x s:Nat),v = .slice p x s/\D0.R f [.slice p x s] r/\Sub h f:=by
 obtain⟨l,D,aR,G,m,rfl,rfl,az,n⟩:=K3 W
 obtain⟨rfl,aG⟩:=Sl.len n
 unfold o01 at d
 dsimp only at d
 refine A2 (args:=[.agg #[.int .i64 l,.slice D m.length G]]) (fn:=Tryz.f20) rfl ?_
 obtain⟨o,N,d⟩:=z0 d
 refine eX { vars:=[4],boxes:=[],owns:=[0],fuel:=true } (eX (λvs os f=>∃ b j c,vs.tail = [.int .i64 b]/\os = [j]/\Sub h f/\J0 b/\F2 (Wp.int.R f) j c/\A5 m l (Z1 vs) b c=some o) (eX (λ_ _=>0) (aI (eX T0 ⟨0,[],([]:B0),rfl,rfl,(Sub.refl _),(by decide),(show F2 (Wp.int.R h) ([]:List (List Value)) ([]:B0) from trivial),N⟩) ?_)))
 rintro _ j g k ⟨b,bs,c,⟨⟩,⟨⟩,i,w,e,a⟩
 replace a:A5 m l g b c=some o:=a
 obtain _|g:=g
 ·cases a
 rw[A5.eq_2]at a
 refine ifB a (λP a=>?_) λP a=>?_
 ·refine Or.inl (aI (aI (by kernel_rfl) (by kernel_rfl)) ?_)
  obtain⟨a2,L,a⟩:=z0 a
  obtain⟨F,an,I,X⟩:=Sl.getI (r:=Q1.toRp) (U4.mono i n) L (by decide)
  refine aI F ?_
  obtain⟨a3,a4,af,aS,ap,ba,ag,aT,aq,bb,ah,aU,ar,bc,bd,be,ai,aV,au,bf,bg,rfl,rfl,aA,aB,Y,Z,aa,aC,aD,ab,aE⟩:=O3 X
  obtain⟨rfl,aH⟩:=Sl.len Y
  obtain⟨rfl,aJ⟩:=Sl.len Z
  obtain⟨rfl,aK⟩:=Sl.len aa
  obtain⟨rfl,aL⟩:=Sl.len ab
  try dsimp only at a
  refine eX _ (aI I ?_)
  obtain⟨bh,M,a⟩:=z0 a
  obtain⟨ao,u,ac⟩:=Sl.getG (r:=Q1.toRp) (U4.mono i n) M (by decide) (W0s k)
  refine aI (λq=>(u q).1) ?_
  obtain⟨bi,bj,aj,aW,av,bk,ak,aX,aw,bl,al,aY,ax,bm,bn,bo,am,aZ,ay,bp,bq,rfl,rfl,Q,S,z,A,B,T,U,C,V⟩:=O3 ac
  obtain⟨rfl,aM⟩:=Sl.len z
  obtain⟨rfl,aN⟩:=Sl.len A
  obtain⟨rfl,aO⟩:=Sl.len B
  obtain⟨rfl,aP⟩:=Sl.len C
  try dsimp only at a
  refine eX _ (aI (λq=>(u q).2) ?_)
  refine trG a (λq=>S04 _ _ _ (V2 Q S z A B T U C V)) λbr a=>?_
  refine ifB a (λO a=>?_) λO a=>?_
  ·obtain⟨a0,K,a⟩:=z0 a
   refine aI (P1 K (by first|rw[F2.length e,F2.length (show F2 (Wp.int.R k) ([[.int .i64 b]]:List (List Value)) [b] from⟨⟨rfl,w⟩,trivial⟩)]|exact congrArg (·+1) (F2.length e))) ?_
   exact L2 g ⟨(IntKind.i64.wrap (b+1)),(j++([[.int .i64 b]]:List (List Value))),(c ++ [b]),rfl,rfl,i,(M0 _),(F2.append e (show F2 (Wp.int.R k) ([[.int .i64 b]]:List (List Value)) [b] from⟨⟨rfl,w⟩,trivial⟩)),a⟩
  ·exact L2 g ⟨(IntKind.i64.wrap (b+1)),j,c,rfl,rfl,i,(M0 _),e,a⟩
 ·obtain rfl:=oJ a
  try dsimp only[U0,Y0]at d
  intro a1 aF J
  obtain⟨E,H,rfl,ad,ae,aQ⟩:=Z0.out (r:=Wp.int.toRp) J e
  obtain rfl:=oJ d
  exact⟨E,c.length,H,rfl,ad,(i.trans ae)⟩
theorem r07(h:Hp)(j:List Value)(m:V1)(C:L1.R h j m)(r:Bool)(b:P01 m=some r):
  Tr Tryz.prog 16 #[.agg j.toArray] h λv y=>v = .bool r/\y=h:=by
 obtain⟨B,p,W,t,g,rfl,rfl,k,n⟩:=K3 C
 obtain⟨rfl,U⟩:=Sl.len n
 unfold P01 at b
 dsimp only at b
 refine Tr.forget (A2 (args:=[.agg #[.int .i64 B,.slice p g.length t]]) (fn:=Tryz.f16) rfl ?_)
 refine aI (by kernel_rfl) ?_
 obtain⟨F,w,b⟩:=z0 b
 refine Or.inl (eX (.val (.bool F)) (aI ?_ ?_))
 ·intro O ac
  exact Tr.val (C5 _ _ k 1 (by decide) 3 (by decide) _ w) (aI rfl (aI rfl rfl))
 refine Or.inl (eX (.val (.int .i64 ((g.length:Nat):Int))) (aI ?_ ?_))
 ·intro P ad f
  exact aI rfl (aI rfl rfl)
 refine Or.inl (eX (.val (.bool (decide (((g.length:Nat):Int)<=12)))) (aI ?_ ?_))
 ·intro Q ae f
  exact aI rfl (aI rfl rfl)
 obtain⟨d,x,b⟩:=z0 b
 refine Or.inr (eX (λv z=>∃(a:Option Addr) (c:Nat),v = .slice a d.length c/\D0.R z [.slice a d.length c] d/\d.length<=9223372036854775807) (aI (λv J K i q=>by obtain⟨a,c,e,r,l⟩:=q;exact⟨a,c,e,D0.mono i r,l⟩) (aI ?_ ?_)))
 ·intro S D f
  refine Tr.mono (L0b _ _ _ (Q6 k (U4.mono D n)) _ (T7 x f)) ?_
  rintro _ T ⟨s,X,u,rfl,o,i⟩
  obtain⟨rfl,A⟩:=Sl.len o
  exact aI M5 (aI i ⟨s,u,rfl,o,A⟩)
 obtain⟨Y,I,b⟩:=z0 b
 refine Or.inl (eX (.val (.int .i64 ((d.length:Nat):Int))) (aI ?_ ?_))
 ·intro L aa f
  rintro _ ⟨G,H,rfl,Z,V⟩
  exact aI rfl (aI rfl rfl)
 refine Or.inl (eX (.val (.bool (decide (((d.length:Nat):Int)=0)))) (aI ?_ ?_))
 ·intro M ab f
  exact aI rfl (aI rfl rfl)
 intro N E
 obtain rfl:=oJ b
 exact aI rfl E
end Go.Proofs.YtkjhghloldgioaaGreat
