/- Texts of the claim, joined: The walks of batch sp2 and others. -/
import Derived.Test.YtkjhghloldgioaaGreatPart18
import Derived.Test.YtkjhghloldgioaaGreatChecked
import Derived.Test.YtkjhghloldgioaaGreatH35
import Derived.Test.YtkjhghloldgioaaGreatPart26
import Derived.Test.YtkjhghloldgioaaGreatPart17
import Derived.Test.YtkjhghloldgioaaGreatH36
import Derived.Test.YtkjhghloldgioaaGreatPart28
import Derived.Test.YtkjhghloldgioaaGreatH41
import Derived.Test.YtkjhghloldgioaaGreatPart21
namespace Go.Proofs.YtkjhghloldgioaaGreat
open Go.H
set_option linter.unusedVariables false
set_option linter.unusedSimpArgs false
set_option maxRecDepth 10000
set_option maxHeartbeats 0
theorem R02(h:Hp)(J:List Value)(Q:l0)(az:Y0.R h J Q)(t:Option Addr)(P u:Nat)(C:J0)(D:M0.R h [.slice t P u] C)(r:J0×Bool)(b:j01 Q C=some r):
  Tr Tryz.prog 94 #[.agg J.toArray,.slice t P u] h λv m=>∃(H:Option Addr) (O I:Nat),v = .tuple #[.slice H O I,.bool r.2]/\New M0 h m [.slice H O I] r.1:=by
 obtain⟨z,A,Y,a1,ac,B,rfl,rfl,w,x,p⟩:=B0 az
 obtain⟨rfl,aT⟩:=Sl.len p
 obtain⟨rfl,aU⟩:=Sl.len D
 unfold j01 at b
 dsimp only at b
 refine J2 (args:=[.agg #[.int .i64 z,.int .i64 A,.slice Y B.length ac],.slice t C.length u]) (fn:=Tryz.f94) rfl ?_
 refine trV b (O0d _ _ _ (z0 w x p) _ _ _ _ D) λbm b=>?_
 refine ifB b (λao b=>?_) λao b=>?_
 ·intro bh aS K
  obtain⟨ab,af,rfl,bc,be,a0⟩:=H1.out (r:=Wp.int.toRp) K (show F2 (Wp.int.R h) ([]:List (List Value)) ([]:J0) from trivial)
  obtain rfl:=oJ b
  exact⟨ab,(([]:J0)).length,af,rfl,(H1.newPlain (r:=Wp.int) K (show F2 (Wp.int.R h) ([]:List (List Value)) ([]:J0) from trivial) (S0e _))⟩
 ·refine trM b (C0b _ _ _ (z0 w x p)) ?_
  rintro X b bl y ⟨aJ,a4,aN,rfl,V⟩
  have E:Sub h y:=V.sub
  have T:=V.r
  obtain⟨rfl,aX⟩:=Sl.len T
  refine trM b (C04 _ _ _ _ _ (M0.mono E D)) ?_
  rintro W b bf N ⟨aH,a2,aM,rfl,U⟩
  have q:Sub y N:=U.sub
  have S:=U.r
  obtain⟨rfl,aV⟩:=Sl.len S
  obtain⟨G,am,b⟩:=C0 b
  refine eX { vars:=[8,24],boxes:=[],owns:=[0],fuel:=true } (eX (λvs os m=>∃ l g k e,vs.tail = [.int .i64 l,.int .i64 g]/\os = [k]/\Sub N m/\I0 l/\I0 g/\F2 (Wp.int.R m) k e/\l5 W z A B X (P1 vs) l g e=some G) (eX (λ_ _=>0) (aI (eX U0 ⟨0,0,[],([]:J0),rfl,rfl,(Sub.refl _),(by decide),(by decide),(F2.up (r:=Wp.int.toRp) q (show F2 (Wp.int.R y) ([]:List (List Value)) ([]:J0) from trivial)),am⟩) ?_)))
  rintro _ _ k j aR ⟨l,g,bs,e,⟨⟩,⟨⟩,i,L,aP,f,a⟩
  replace a:l5 W z A B X j l g e=some G:=a
  obtain _|j:=j
  ·cases a
  rw[l5.eq_2]at a
  refine ifB a (λan a=>?_) λan a=>?_
  ·refine ldI a (M0.mono i S) λbn M a=>?_
   refine trV a (z7 _ _ _ (z0 w x (D0.mono ((E.trans q).trans i) p)) _ L _ M) λs a=>?_
   obtain⟨a5,ai,a⟩:=C0 a
   have n:I0 s:=K1 ai
   refine trM a (a06 _ _ L _ M _ n) ?_
   rintro bo a bg o ⟨aL,rfl,aA,d⟩
   obtain⟨bp,bq,br,rfl,rfl,ar,au,av⟩:=M1 aA
   try dsimp only at a
   refine trV a (F9 _ _ _ _ _ (D0.mono ((q.trans i).trans d) T) _ _ (E1 ar au av)) λc a=>?_
   obtain⟨a6,aj,a⟩:=C0 a
   have aQ:I0 c:=K1 aj
   refine ifB a (λap a=>?_) λap a=>?_
   ·refine ifB a (λaq a=>?_) λaq a=>?_
    ·obtain⟨ba,ak,a⟩:=C0 a
     refine aI (T1 ak (by first|rw[F2.length (F2.up (r:=Wp.int.toRp) d f),F2.length (show F2 (Wp.int.R o) ([[.int .i64 (IntKind.i64.wrap (c+1))]]:List (List Value)) [(IntKind.i64.wrap (c+1))] from⟨⟨rfl,(P0 _)⟩,trivial⟩)]|exact congrArg (·+1) (F2.length (F2.up (r:=Wp.int.toRp) d f)))) ?_
     exact C2 j ⟨s,(IntKind.i64.wrap (g+1)),(k++([[.int .i64 (IntKind.i64.wrap (c+1))]]:List (List Value))),(e ++ [(IntKind.i64.wrap (c+1))]),rfl,rfl,(i.trans d),n,(P0 _),(F2.append (F2.up (r:=Wp.int.toRp) d f) (show F2 (Wp.int.R o) ([[.int .i64 (IntKind.i64.wrap (c+1))]]:List (List Value)) [(IntKind.i64.wrap (c+1))] from⟨⟨rfl,(P0 _)⟩,trivial⟩)),a⟩
    ·obtain⟨bb,al,a⟩:=C0 a
     refine aI (T1 al (by first|rw[F2.length (F2.up (r:=Wp.int.toRp) d f),F2.length (show F2 (Wp.int.R o) ([[.int .i64 (IntKind.i64.wrap ((IntKind.i64.wrap (0-c))-1))]]:List (List Value)) [(IntKind.i64.wrap ((IntKind.i64.wrap (0-c))-1))] from⟨⟨rfl,(P0 _)⟩,trivial⟩)]|exact congrArg (·+1) (F2.length (F2.up (r:=Wp.int.toRp) d f)))) ?_
     exact C2 j ⟨s,(IntKind.i64.wrap (g+1)),(k++([[.int .i64 (IntKind.i64.wrap ((IntKind.i64.wrap (0-c))-1))]]:List (List Value))),(e ++ [(IntKind.i64.wrap ((IntKind.i64.wrap (0-c))-1))]),rfl,rfl,(i.trans d),n,(P0 _),(F2.append (F2.up (r:=Wp.int.toRp) d f) (show F2 (Wp.int.R o) ([[.int .i64 (IntKind.i64.wrap ((IntKind.i64.wrap (0-c))-1))]]:List (List Value)) [(IntKind.i64.wrap ((IntKind.i64.wrap (0-c))-1))] from⟨⟨rfl,(P0 _)⟩,trivial⟩)),a⟩
   ·exact C2 j ⟨s,(IntKind.i64.wrap (g+1)),k,e,rfl,rfl,(i.trans d),n,(P0 _),(F2.up (r:=Wp.int.toRp) d f),a⟩
  ·obtain rfl:=oJ a
   try dsimp only[V0,Z0]at b
   intro bi aw ag
   obtain⟨aa,ae,rfl,aC,aE,aY⟩:=H1.out (r:=Wp.int.toRp) ag f
   refine Or.inl ?_
   intro bj ax ah
   obtain⟨aK,aO,rfl,aD,aF,aZ⟩:=H1.out (r:=M0.toRp) ah (show F2 (M0.R aw) ([[.slice aa e.length ae]]:List (List Value)) [e] from⟨aC,trivial⟩)
   refine trM b (C08 _ _ _ _ _ aD) ?_
   rintro aG b bk ay ⟨Z,a3,ad,rfl,F⟩
   have bd:Sub ax ay:=F.sub
   have aB:=F.r
   obtain⟨rfl,aW⟩:=Sl.len aB
   obtain rfl:=oJ b
   exact⟨Z,aG.length,ad,rfl,(New.from F ((((E.trans q).trans i).trans aE).trans aF))⟩
theorem N08(h:Hp)(ae:List Value)(am:l0)(be:Y0.R h ae am)(r:l0×Bool)(d:l8 am=some r):
  Tr Tryz.prog 287 #[.agg ae.toArray] h λv e=>∃(ad:List Value),v = .tuple #[.agg ad.toArray,.bool r.2]/\New Y0 h e ad r.1:=by
 obtain⟨E,F,ar,bS,ay,G,rfl,rfl,C,D,z⟩:=B0 be
 obtain⟨rfl,bM⟩:=Sl.len z
 unfold l8 at d
 dsimp only at d
 refine J2 (args:=[.agg #[.int .i64 E,.int .i64 F,.slice ar G.length ay]]) (fn:=Tryz.f287) rfl ?_
 refine trV d (K9 _ _ _ (z0 C D z)) λce d=>?_
 refine ifB d (λaZ d=>?_) λaZ d=>?_
 ·obtain rfl:=oJ d
  exact⟨([.int .i64 0,.int .i64 0,.slice none 0 0]),rfl,(New.pair (New.int (by decide)) (New.pair (New.int (by decide)) ((New.nilSlice (r:=R0)).mono (Sub.refl _))))⟩
 ·refine trM d (W5 _ _ _ (z0 C D z)) ?_
  rintro bs d cc bb ⟨aQ,bT,az,rfl,T⟩
  have bn:Sub h bb:=T.sub
  have ao:=T.r
  obtain⟨bu,bv,aq⟩:=bs
  dsimp only at d T ao
  obtain⟨_,_,_,_,_,_,aC,aF,a5,a6,bg⟩:=B0 ao
  cases aC
  cases aF
  obtain⟨rfl,bP⟩:=Sl.len bg
  try dsimp only at d
  have bp:=New.sndI (New.sndI (T))
  obtain⟨ac,aW,d⟩:=C0 d
  refine eX { vars:=[5],boxes:=[2],owns:=[],fuel:=true } (eX (λvs os e=>∃ u8 y u K Q V I A,vs.tail = [.int .i64 u8,.int .i64 y,.int .i64 u,.slice (some ⟨K,Q,none⟩) V I]/\os = []/\Sub h e/\I0 u8/\I0 y/\I0 u/\New D0 h e [.slice (some ⟨K,Q,none⟩) V I] A/\Y4 E F G (P1 vs) u8 y u A=some ac) (eX (λ_ _=>0) (aI (eX U0 ⟨1,bu,bv,aQ,0,aq.length,az,aq,rfl,rfl,bn,(by decide),a5,a6,bp,aW⟩) ?_)))
  rintro _ _ _ _ O M ⟨u8,y,u,K,Q,V,I,A,⟨⟩,⟨⟩,H,U,ai,af,ap,c⟩
  replace c:Y4 E F G O u8 y u A=some ac:=c
  obtain _|O:=O
  ·cases c
  rw[Y4.eq_2]at c
  have an:=ap.r
  obtain⟨rfl,bN⟩:=Sl.len an
  refine ifB c (λaY c=>?_) λaY c=>?_
  ·obtain⟨aa,aU,c⟩:=C0 c
   refine eX { vars:=[8],boxes:=[],owns:=[0,1],fuel:=true } (eX (λvs os e=>∃ b i f o g,vs.tail = [.int .i64 b]/\os = [i,o]/\Sub M e/\I0 b/\F2 (Wp.int.R e) i f/\F2 (Wp.int.R e) o g/\A3 F E G u8 (P1 vs) b f g=some aa) (eX (λ_ _=>0) (aI (eX U0 ⟨0,[],([]:J0),[],([]:J0),rfl,rfl,(Sub.refl _),(by decide),(show F2 (Wp.int.R M) ([]:List (List Value)) ([]:J0) from trivial),(show F2 (Wp.int.R M) ([]:List (List Value)) ([]:J0) from trivial),aU⟩) ?_)))
   rintro _ i o t s ⟨b,cf,f,cg,g,⟨⟩,⟨⟩,l,j,m,k,a⟩
   replace a:A3 F E G u8 t b f g=some aa:=a
   obtain _|t:=t
   ·cases a
   rw[A3.eq_2]at a
   refine ifB a (λa0 a=>?_) λa0 a=>?_
   ·refine trV a (z7 _ _ _ (z0 C D (D0.mono (H.trans l) z)) _ j _ U) λbq a=>?_
    obtain⟨bW,aJ,a⟩:=C0 a
    have bD:I0 bq:=K1 aJ
    refine ifB a (λa1 a=>?_) λa1 a=>?_
    ·obtain⟨bX,aK,a⟩:=C0 a
     refine aI (T1 aK (by first|rw[F2.length m,F2.length (show F2 (Wp.int.R s) ([[.int .i64 b]]:List (List Value)) [b] from⟨⟨rfl,j⟩,trivial⟩)]|exact congrArg (·+1) (F2.length m))) ?_
     refine trV a (z7 _ _ _ (z0 C D (D0.mono (H.trans l) z)) _ j (IntKind.i64.wrap (0-u8)) (P0 _)) λbr a=>?_
     obtain⟨bY,aL,a⟩:=C0 a
     have bE:I0 br:=K1 aL
     refine ifB a (λa2 a=>?_) λa2 a=>?_
     ·obtain⟨bZ,aM,a⟩:=C0 a
      refine aI (T1 aM (by first|rw[F2.length k,F2.length (show F2 (Wp.int.R s) ([[.int .i64 b]]:List (List Value)) [b] from⟨⟨rfl,j⟩,trivial⟩)]|exact congrArg (·+1) (F2.length k))) ?_
      exact C2 t ⟨(IntKind.i64.wrap (b+1)),(i++([[.int .i64 b]]:List (List Value))),(f ++ [b]),(o++([[.int .i64 b]]:List (List Value))),(g ++ [b]),rfl,rfl,l,(P0 _),(F2.append m (show F2 (Wp.int.R s) ([[.int .i64 b]]:List (List Value)) [b] from⟨⟨rfl,j⟩,trivial⟩)),(F2.append k (show F2 (Wp.int.R s) ([[.int .i64 b]]:List (List Value)) [b] from⟨⟨rfl,j⟩,trivial⟩)),a⟩
     ·exact C2 t ⟨(IntKind.i64.wrap (b+1)),(i++([[.int .i64 b]]:List (List Value))),(f ++ [b]),o,g,rfl,rfl,l,(P0 _),(F2.append m (show F2 (Wp.int.R s) ([[.int .i64 b]]:List (List Value)) [b] from⟨⟨rfl,j⟩,trivial⟩)),k,a⟩
    ·refine trV a (z7 _ _ _ (z0 C D (D0.mono (H.trans l) z)) _ j (IntKind.i64.wrap (0-u8)) (P0 _)) λbt a=>?_
     obtain⟨b0,aN,a⟩:=C0 a
     have bF:I0 bt:=K1 aN
     refine ifB a (λa3 a=>?_) λa3 a=>?_
     ·obtain⟨b1,aO,a⟩:=C0 a
      refine aI (T1 aO (by first|rw[F2.length k,F2.length (show F2 (Wp.int.R s) ([[.int .i64 b]]:List (List Value)) [b] from⟨⟨rfl,j⟩,trivial⟩)]|exact congrArg (·+1) (F2.length k))) ?_
      exact C2 t ⟨(IntKind.i64.wrap (b+1)),i,f,(o++([[.int .i64 b]]:List (List Value))),(g ++ [b]),rfl,rfl,l,(P0 _),m,(F2.append k (show F2 (Wp.int.R s) ([[.int .i64 b]]:List (List Value)) [b] from⟨⟨rfl,j⟩,trivial⟩)),a⟩
     ·exact C2 t ⟨(IntKind.i64.wrap (b+1)),i,f,o,g,rfl,rfl,l,(P0 _),m,k,a⟩
   ·obtain rfl:=oJ a
    try dsimp only[V0,Z0]at c
    obtain⟨bc,aH,c⟩:=C0 c
    obtain rfl:i.length=bc:=(F2.length m).trans (oJ aH)
    obtain⟨b2,bB,c⟩:=C0 c
    obtain⟨ab,aV,c⟩:=C0 c
    refine eX { vars:=[59],boxes:=[2],owns:=[],fuel:=true } (eX (λvs os e=>∃ B w x L S W J n,vs.tail = [.int .i64 B,.int .i64 w,.int .i64 x,.slice (some ⟨L,S,none⟩) W J]/\os = []/\Sub h e/\I0 B/\I0 w/\I0 x/\New D0 h e [.slice (some ⟨L,S,none⟩) W J] n/\W4 (i).length f g u8 (P1 vs) B w x n=some ab) (eX (λ_ _=>0) (aI (eX U0 ⟨0,y,u,K,Q,A.length,I,A,rfl,rfl,(H.trans l),(by decide),ai,af,(New.mono ap l),aV⟩) ?_)))
    rintro _ _ _ _ P N ⟨B,w,x,L,S,W,J,n,⟨⟩,⟨⟩,bm,bC,ag,ah,X,a⟩
    replace a:W4 (i).length f g u8 P B w x n=some ab:=a
    obtain _|P:=P
    ·cases a
    rw[W4.eq_2]at a
    have bf:=X.r
    obtain⟨rfl,bO⟩:=Sl.len bf
    refine ifB a (λa4 a=>?_) λa4 a=>?_
    ·refine Or.inr (Or.inr (Or.inl (aI (aI (by kernel_rfl) (by kernel_rfl)) ?_)))
     obtain⟨p,aR,a⟩:=C0 a
     obtain⟨aw,bz,aD,bh⟩:=K5 (show F2 (Wp.int.R N) i f from m) aR
     obtain⟨rfl,aj⟩:=bh
     refine Or.inl ?_
     apply eX
     refine aI ?_ ?_
     ·intro bG b4
      exact aI aw (aI rfl (aI rfl rfl))
     refine Or.inl (eX (.val (.int .i64 p)) (aI ?_ ?_))
     ·intro bH b5
      exact eX _ (aI aD (aI rfl (aI rfl rfl)))
     obtain⟨q,aS,a⟩:=C0 a
     obtain⟨ax,bA,aE,bi⟩:=K5 (show F2 (Wp.int.R N) o g from k) aS
     obtain⟨rfl,ak⟩:=bi
     refine Or.inl ?_
     apply eX
     refine aI ?_ ?_
     ·intro bI b6
      exact aI ax (aI rfl (aI rfl rfl))
     refine Or.inl (eX (.val (.int .i64 q)) (aI ?_ ?_))
     ·intro bJ b7
      exact eX _ (aI aE (aI rfl (aI rfl rfl)))
     refine Or.inl (eX (.agg [.val (.int .i64 p),.val (.int .i64 u8),.val (.int .i64 q)]) (aI ?_ ?_))
     ·intro bK b8
      exact aI rfl (aI rfl rfl)
     refine Or.inr ?_
     refine Or.inr ?_
     refine Or.inr ?_
     refine Or.inl (eX 0 (aI (aI rfl rfl) ?_))
     refine aI trivial (aI (by first|exact trivial|exact rfl) ?_)
     obtain⟨b3,aP,a⟩:=C0 a
     obtain⟨bo,bk,al,au⟩:=New.app X (Sub.refl _)
     refine eX bo (aI bk (aI (T1 aP (by first|rw[al,F2.length (show F2 (R0.R N) ([[.int .i64 p,.int .i64 u8,.int .i64 q]]:List (List Value)) [(p,u8,q)] from⟨(E1 aj U ak),trivial⟩)]|(rw[al];rfl))) ?_))
     intro cd bL aX
     obtain⟨Z,aT,bd,bV,aB,rfl⟩:=au _ _ _ _ _ (F3.ofPlain (s07 _) (show F2 (R0.R N) ([[.int .i64 p,.int .i64 u8,.int .i64 q]]:List (List Value)) [(p,u8,q)] from⟨(E1 aj U ak),trivial⟩)) o6.ofPlain aX
     have bl:=Z.r
     obtain⟨aG,bR⟩:=Sl.len bl
     subst aG
     refine aI trivial (aI (by first|exact trivial|exact rfl) ?_)
     refine aI trivial (aI (by first|exact trivial|exact rfl) ?_)
     exact C2 P ⟨(IntKind.i64.wrap (B+1)),w,x,aT,bd,(n ++ [(p,u8,q)]).length,aB,(n ++ [(p,u8,q)]),rfl,rfl,Z.sub,(P0 _),ag,ah,Z,a⟩
    ·obtain rfl:=oJ a
     try dsimp only[V0,Z0]at c
     exact C2 O ⟨(IntKind.i64.wrap (u8+1)),w,x,L,S,n.length,J,n,rfl,rfl,bm,(P0 _),ag,ah,X,c⟩
  ·obtain rfl:=oJ c
   try dsimp only[V0,Z0]at d
   refine trM d (d03 _ _ _ _ _ an) ?_
   rintro bx d cb ba ⟨av,bU,aA,rfl,Y⟩
   have ca:Sub M ba:=Y.sub
   have bj:=Y.r
   obtain⟨rfl,bQ⟩:=Sl.len bj
   obtain rfl:=oJ d
   exact⟨([.int .i64 y,.int .i64 u,.slice av bx.length aA]),rfl,(New.pair (New.int ai) (New.pair (New.int af) (New.from Y H)))⟩
theorem O08(h:Hp)(N:List Value)(T:l0)(ay:Y0.R h N T)(y:Option Addr)(S A:Nat)(d:Y1)(E:Z1.R h [.slice y S A] d)(r:l0×Bool)(b:n8 T d=some r):
  Tr Tryz.prog 205 #[.agg N.toArray,.slice y S A] h λv e=>∃(M:List Value),v = .tuple #[.agg M.toArray,.bool r.2]/\New Y0 h e M r.1:=by
 obtain⟨p,s,K,bc,L,i,rfl,rfl,m,C,t⟩:=B0 ay
 obtain⟨rfl,a1⟩:=Sl.len t
 obtain⟨rfl,a2⟩:=Sl.len E
 unfold n8 at b
 dsimp only at b
 refine J2 (args:=[.agg #[.int .i64 p,.int .i64 s,.slice K i.length L],.slice y d.length A]) (fn:=Tryz.f205) rfl ?_
 refine trV b (U01 _ _ _ (z0 m C t)) λbo b=>?_
 refine ifB b (λaj b=>?_) λaj b=>?_
 ·obtain rfl:=oJ b
  exact⟨([.int .i64 0,.int .i64 0,.slice none 0 0]),rfl,(New.pair (New.int (by decide)) (New.pair (New.int (by decide)) ((New.nilSlice (r:=R0)).mono (Sub.refl _))))⟩
 ·obtain⟨J,ag,b⟩:=C0 b
  refine eX { vars:=[26],boxes:=[],owns:=[],fuel:=true } (eX (λvs os e=>∃ g,vs.tail = [.int .i64 g]/\os = []/\Sub h e/\I0 g/\Z4 d p s i (P1 vs) g=some J) (eX (λ_ _=>0) (aI (eX U0 ⟨0,rfl,rfl,(Sub.refl _),(by decide),ag⟩) ?_)))
  rintro _ o ax ⟨g,⟨⟩,⟨⟩,c,aY,a⟩
  replace a:Z4 d p s i o g=some J:=a
  obtain _|o:=o
  ·cases a
  rw[Z4.eq_2]at a
  refine ifB a (λam a=>?_) λam a=>?_
  ·refine ld a (Z1.mono c E) λbB aT u a=>?_
   obtain⟨aO,bh,aW,rfl⟩:=Wp.slice_cell u
   obtain⟨rfl,bb⟩:=Sl.len u
   refine trV a (T01 _ _ m _ _ _ _ u) λbC a=>?_
   refine trG a (λq=>x05 _ _ _ (z0 m C (D0.mono c t)) _ _ _ _ u) λbp a=>?_
   refine ifB a (λah a=>?_) λah a=>?_
   ·obtain rfl:=oJ a
    try dsimp only[j4,L4]at b
    obtain rfl:=oJ b
    exact⟨([.int .i64 0,.int .i64 0,.slice none 0 0]),rfl,(New.pair (New.int (by decide)) (New.pair (New.int (by decide)) ((New.nilSlice (r:=R0)).mono c)))⟩
   ·exact C2 o ⟨(IntKind.i64.wrap (g+1)),rfl,rfl,c,(P0 _),a⟩
  ·obtain rfl:=oJ a
   try dsimp only[V0,Z0]at b
   obtain⟨I,af,b⟩:=C0 b
   refine eX { vars:=[45],boxes:=[2],owns:=[],fuel:=true } (eX (λvs os e=>∃ f k l z D B w,vs.tail = [.int .i64 f,.int .i64 k,.int .i64 l,.slice z D B]/\os = []/\Sub ax e/\I0 f/\I0 k/\I0 l/\D0.R e [.slice z D B] w/\P5 d (P1 vs) f k l w=some I) (eX (λ_ _=>0) (aI (eX U0 ⟨0,p,s,K,i.length,L,i,rfl,rfl,(Sub.refl _),(by decide),m,C,(D0.mono c t),af⟩) ?_)))
   rintro _ _ _ _ n av ⟨f,k,l,z,D,B,w,⟨⟩,⟨⟩,j,aX,O,P,F,a⟩
   replace a:P5 d n f k l w=some I:=a
   obtain _|n:=n
   ·cases a
   rw[P5.eq_2]at a
   obtain⟨rfl,a3⟩:=Sl.len F
   refine ifB a (λai a=>?_) λai a=>?_
   ·refine ld a (Z1.mono (c.trans j) E) λbq aP G a=>?_
    obtain⟨aM,bd,aU,rfl⟩:=Wp.slice_cell G
    obtain⟨rfl,a4⟩:=Sl.len G
    refine trM a (P09 _ _ _ (z0 O P F) _ _ _ _ G) ?_
    rintro aD a bk a0 ⟨aQ,rfl,U,X⟩
    obtain⟨br,aG,bs⟩:=aD
    dsimp only at a U
    obtain⟨aE,aF,aa,be,ac,Z,rfl,rfl,an,ao,V⟩:=B0 U
    obtain⟨rfl,a5⟩:=Sl.len V
    try dsimp only at a
    obtain⟨bi,ae,a⟩:=C0 a
    have aZ:I0 aG:=K1 ae
    refine ifB a (λak a=>?_) λak a=>?_
    ·obtain rfl:=oJ a
     try dsimp only[j4,L4]at b
     obtain rfl:=oJ b
     exact⟨([.int .i64 0,.int .i64 0,.slice none 0 0]),rfl,(New.pair (New.int (by decide)) (New.pair (New.int (by decide)) ((New.nilSlice (r:=R0)).mono ((c.trans j).trans X))))⟩
    ·exact C2 n ⟨(IntKind.i64.wrap (f+1)),aE,aF,aa,Z.length,ac,Z,rfl,rfl,(j.trans X),(P0 _),an,ao,V,a⟩
   ·obtain rfl:=oJ a
    try dsimp only[V0,Z0]at b
    refine trM b (N08 _ _ _ (z0 O P F)) ?_
    rintro aH b bl Q ⟨aR,rfl,x⟩
    obtain⟨bt,bz⟩:=aH
    dsimp only at b x
    have Y:Sub av Q:=x.sub
    have az:=x.r
    obtain⟨bu,bv,aN,bf,aV,bx,rfl,rfl,ap,aq,W⟩:=B0 az
    obtain⟨rfl,a6⟩:=Sl.len W
    try dsimp only at b
    have bn:=New.sndI (New.sndI (x))
    refine ifB b (λal b=>?_) λal b=>?_
    ·obtain rfl:=oJ b
     exact⟨([.int .i64 0,.int .i64 0,.slice none 0 0]),rfl,(New.pair (New.int (by decide)) (New.pair (New.int (by decide)) ((New.nilSlice (r:=R0)).mono ((c.trans j).trans Y))))⟩
    ·refine trM b (Q02 _ _ _ (z0 ap aq W)) ?_
     rintro bA b bm aw ⟨aS,rfl,H⟩
     have bj:Sub Q aw:=H.sub
     have aA:=H.r
     obtain⟨aJ,aK,ab,bg,ad,aL,rfl,rfl,ar,au,aB⟩:=B0 aA
     obtain⟨rfl,ba⟩:=Sl.len aB
     try dsimp only at b
     have aC:=New.sndI (New.sndI (H))
     obtain rfl:=oJ b
     exact⟨([.int .i64 aJ,.int .i64 aK,.slice ab aL.length ad]),rfl,(New.pair (New.int ar) (New.pair (New.int au) (New.from aC ((c.trans j).trans Y))))⟩
theorem S00(h:Hp)(g:List Value)(j:l0)(D:Y0.R h g j)(c:Option Addr)(i d:Nat)(b:J0)(l:M0.R h [.slice c i d] b)(r:l0×Bool)(a:i7 j b=some r):
  Tr Tryz.prog 95 #[.agg g.toArray,.slice c i d] h λv s=>∃(f:List Value),v = .tuple #[.agg f.toArray,.bool r.2]/\New Y0 h s f r.1:=by
 obtain⟨A,B,n,U,p,C,rfl,rfl,t,u,k⟩:=B0 D
 obtain⟨rfl,P⟩:=Sl.len k
 obtain⟨rfl,Q⟩:=Sl.len l
 unfold i7 at a
 dsimp only at a
 refine J2 (args:=[.agg #[.int .i64 A,.int .i64 B,.slice n C.length p],.slice c b.length d]) (fn:=Tryz.f95) rfl ?_
 refine Or.inl ?_
 intro X y f3
 obtain⟨M,O,rfl,G,m,T⟩:=H1.out (r:=M0.toRp) f3 (show F2 (M0.R h) ([[.slice c b.length d]]:List (List Value)) [b] from⟨l,trivial⟩)
 refine trM a (O08 _ _ _ (z0 t u (D0.mono m k)) _ _ _ _ G) ?_
 rintro I a Y z ⟨N,rfl,e⟩
 obtain⟨Z,aa⟩:=I
 dsimp only at a e
 have W:Sub y z:=e.sub
 have E:=e.r
 obtain⟨J,K,o,V,q,L,rfl,rfl,w,x,F⟩:=B0 E
 obtain⟨rfl,S⟩:=Sl.len F
 try dsimp only at a
 have H:=New.sndI (New.sndI (e))
 obtain rfl:=oJ a
 exact⟨([.int .i64 J,.int .i64 K,.slice o L.length q]),rfl,(New.pair (New.int w) (New.pair (New.int x) (New.from H m)))⟩
theorem j03(h:Hp)(u:List Value)(y:l0)(aa:Y0.R h u y)(f:Option Addr)(x g:Nat)(e:J0)(p:M0.R h [.slice f x g] e)(r:l0×Bool)(a:L01 y e=some r):
  Tr Tryz.prog 96 #[.agg u.toArray,.slice f x g] h λv N=>∃(t:List Value),v = .tuple #[.agg t.toArray,.bool r.2]/\New Y0 h N t r.1:=by
 obtain⟨b,c,i,ay,j,d,rfl,rfl,k,o,l⟩:=B0 aa
 obtain⟨rfl,ar⟩:=Sl.len l
 obtain⟨rfl,au⟩:=Sl.len p
 unfold L01 at a
 dsimp only at a
 refine J2 (args:=[.agg #[.int .i64 b,.int .i64 c,.slice i d.length j],.slice f e.length g]) (fn:=Tryz.f96) rfl ?_
 refine trV a (U01 _ [.int .i64 b,.int .i64 c,.slice i d.length j] (b,c,d) (z0 k o l)) λaJ a=>?_
 refine trG a (λq=>T01 _ b k f e.length g e p) λaL a=>?_
 refine ifB a (λP a=>?_) λP a=>?_
 ·obtain rfl:=oJ a
  exact⟨([.int .i64 0,.int .i64 0,.slice none 0 0]),rfl,(New.pair (New.int (by decide)) (New.pair (New.int (by decide)) ((New.nilSlice (r:=R0)).mono (Sub.refl _))))⟩
 ·refine ifB a (λQ a=>?_) λQ a=>?_
  ·refine trM a (W5 _ [.int .i64 b,.int .i64 c,.slice i d.length j] (b,c,d) (z0 k o l)) ?_
   rintro ak a aG Z ⟨M,aA,I,rfl,m⟩
   have aD:Sub h Z:=m.sub
   have z:=m.r
   obtain⟨al,am,an⟩:=ak
   dsimp only at a m z
   obtain⟨_,_,_,_,_,_,K,L,U,V,ad⟩:=B0 z
   cases K
   cases L
   obtain⟨rfl,aw⟩:=Sl.len ad
   try dsimp only at a
   have ag:=New.sndI (New.sndI (m))
   obtain rfl:=oJ a
   exact⟨([.int .i64 al,.int .i64 am,.slice (some ⟨M,0,none⟩) an.length I]),rfl,(New.pair (New.int U) (New.pair (New.int V) ag))⟩
  ·refine trM a (F07 _ [.int .i64 b,.int .i64 c,.slice i d.length j] (b,c,d) (z0 k o l) f e.length g e p) ?_
   rintro ao a aE w ⟨aq,rfl,n⟩
   obtain⟨aM,aN⟩:=ao
   dsimp only at a n
   have B:Sub h w:=n.sub
   have ae:=n.r
   obtain⟨C,D,G,aB,J,E,rfl,rfl,W,X,A⟩:=B0 ae
   obtain⟨rfl,ax⟩:=Sl.len A
   try dsimp only at a
   have aH:=New.sndI (New.sndI (n))
   refine ifB a (λO a=>?_) λO a=>?_
   ·obtain rfl:=oJ a
    exact⟨([.int .i64 0,.int .i64 0,.slice none 0 0]),rfl,(New.pair (New.int (by decide)) (New.pair (New.int (by decide)) ((New.nilSlice (r:=R0)).mono B)))⟩
   ·refine trM a (Q02 _ [.int .i64 C,.int .i64 D,.slice G E.length J] (C,D,E) (z0 W X A)) ?_
    rintro aK a aF Y ⟨ap,rfl,s⟩
    have aC:Sub w Y:=s.sub
    have ab:=s.r
    obtain⟨ah,ai,F,az,H,aj,rfl,rfl,S,T,ac⟩:=B0 ab
    obtain⟨rfl,av⟩:=Sl.len ac
    try dsimp only at a
    have af:=New.sndI (New.sndI (s))
    obtain rfl:=oJ a
    exact⟨([.int .i64 ah,.int .i64 ai,.slice F aj.length H]),rfl,(New.pair (New.int S) (New.pair (New.int T) (New.from af B)))⟩
theorem M0c(h:Hp)(t:Int)(x:I0 t)(s:Int)(u:I0 s)(Z:Option Addr)(cW aa:Nat)(N:Y1)(ap:Z1.R h [.slice Z cW aa] N)(D:Option Addr)(cX E:Nat)(p:J0)(B:M0.R h [.slice D cX E] p)(r:r00×Bool)(a:L02 t s N p=some r):
  Tr Tryz.prog 37 #[.int .i64 t,.int .i64 s,.slice Z cW aa,.slice D cX E] h λv eT=>∃(ce:List Value),v = .tuple #[.agg ce.toArray,.bool r.2]/\New s00 h eT ce r.1:=by
 obtain⟨rfl,ki⟩:=Sl.len ap
 obtain⟨rfl,kj⟩:=Sl.len B
 unfold L02 at a
 refine J2 (args:=[.int .i64 t,.int .i64 s,.slice Z N.length aa,.slice D p.length E]) (fn:=Tryz.f37) rfl ?_
 refine trM a (D0b _ s u Z N.length aa N ap) ?_
 rintro hG a lq br ⟨ka,rfl,aN⟩
 obtain⟨lO,lP⟩:=hG
 dsimp only at a aN
 have b:Sub h br:=aN.sub
 have gJ:=aN.r
 obtain⟨e,f,n,kQ,o,g,rfl,rfl,l,m,w⟩:=B0 gJ
 obtain⟨rfl,ku⟩:=Sl.len w
 try dsimp only at a
 have G:=New.sndI (New.sndI (aN))
 refine trG a (λq=>T01 _ s u D p.length E p (M0.mono b B)) λma a=>?_
 refine ifB a (λfF a=>?_) λfF a=>?_
 ·obtain rfl:=oJ a
  exact⟨([.int .i64 0,.int .i64 0,.slice none 0 0,.slice none 0 0,.slice none 0 0,.int .i64 0,.int .i64 0,.slice none 0 0,.int .i64 0]),rfl,(NB.fin (NB.pair (NB.int (by decide)) (NB.pair (NB.int (by decide)) (NB.pair (NB.nil (r:=M0)) (NB.pair (NB.nil (r:=Wp.int)) (NB.pair (NB.nil (r:=Wp.int)) (NB.pair (NB.pair (NB.int (by decide)) (NB.pair (NB.int (by decide)) (NB.nil (r:=R0)) NB.d0) NB.d0) (NB.int (by decide)) NB.de) NB.d0) NB.d0) NB.d0) NB.d0) NB.d0) b)⟩
 ·refine Or.inr (Or.inr (Or.inl (aI (aI (by kernel_rfl) (by kernel_rfl)) ?_)))
  refine Or.inr ?_
  refine Or.inr ?_
  refine Or.inr ?_
  refine Or.inr ?_
  refine Or.inr ?_
  refine Or.inr (eX 3 (eX 3 (aI (aI rfl (aI rfl rfl)) ?_)))
  refine aI ?_ ?_
  ·skip
   refine aI trivial (aI (by first|exact trivial|exact rfl) ?_)
   refine trM a (P06 _ Z N.length aa N (Z1.mono b ap)) ?_
   rintro X a ly cV ⟨S,kX,U,rfl,P⟩
   have i:Sub br cV:=P.sub
   have gT:=P.r
   obtain⟨rfl,kB⟩:=Sl.len gT
   refine aI trivial (aI (by first|exact trivial|exact rfl) ?_)
   obtain⟨W,K,a⟩:=C0 a
   refine Tr.mono (M01 _ D p.length E p (M0.mono (b.trans i) B) _  K) ?_
   rintro lb ab ⟨K,kG,T,rfl,O⟩
   have j:Sub cV ab:=O.sub
   have gv:=O.r
   obtain⟨rfl,kk⟩:=Sl.len gv
   refine aI trivial (aI (by first|exact trivial|exact rfl) ?_)
   refine aI trivial (aI (by first|exact trivial|exact rfl) ?_)
   refine aI trivial (aI (by first|exact trivial|exact rfl) ?_)
   refine ifB a (λe2 a=>?_) λe2 a=>?_
   ·refine trM a (R02 _ [.int .i64 e,.int .i64 f,.slice n g.length o] (e,f,g) (z0 l m (D0.mono (i.trans j) w)) D p.length E p (M0.mono ((b.trans i).trans j) B)) ?_
    rintro hN a lj gh ⟨dQ,kL,d3,rfl,aH⟩
    obtain⟨hS,lF⟩:=hN
    dsimp only at a aH
    have ae:Sub ab gh:=aH.sub
    have gC:=aH.r
    obtain⟨rfl,kp⟩:=Sl.len gC
    refine ifB a (λfc a=>?_) λfc a=>?_
    ·obtain rfl:=oJ a
     exact⟨([.int .i64 0,.int .i64 0,.slice none 0 0,.slice none 0 0,.slice none 0 0,.int .i64 0,.int .i64 0,.slice none 0 0,.int .i64 0]),rfl,(NB.fin (NB.pair (NB.int (by decide)) (NB.pair (NB.int (by decide)) (NB.pair (NB.nil (r:=M0)) (NB.pair (NB.nil (r:=Wp.int)) (NB.pair (NB.nil (r:=Wp.int)) (NB.pair (NB.pair (NB.int (by decide)) (NB.pair (NB.int (by decide)) (NB.nil (r:=R0)) NB.d0) NB.d0) (NB.int (by decide)) NB.de) NB.d0) NB.d0) NB.d0) NB.d0) NB.d0) (((b.trans i).trans j).trans ae))⟩
    ·obtain rfl:=oJ a
     obtain⟨iZ,bE,ct,_⟩:=P
     obtain⟨ja,dm,bb,_⟩:=O
     obtain⟨jf,hr,an,_⟩:=aH
     obtain⟨jj,aC,ew,_⟩:=G
     exact⟨([.int .i64 t,.int .i64 s,.slice S X.length U,.slice (some ⟨K,0,none⟩) W.length T,.slice dQ hS.length d3,.int .i64 e,.int .i64 f,.slice n g.length o,.int .i64 0]),rfl,(NB.fin (NB.pair (NB.int x) (NB.pair (NB.int u) (NB.pair (NB.mk bE (j.trans ae) ct b) (NB.pair (NB.mk dm ae bb (b.trans i)) (NB.pair (NB.mk hr (Sub.refl _) an ((b.trans i).trans j)) (NB.pair (NB.pair (NB.int l) (NB.pair (NB.int m) (NB.mk aC ((i.trans j).trans ae) ew (Sub.refl _)) NB.d0) NB.d0) (NB.int (by decide)) NB.de) (NB.da (NB.da NB.de (NB.da NB.de (NB.dr aC (i.trans j) an))) NB.de)) (NB.da (NB.dl dm (Sub.refl _) an) (NB.da (NB.da NB.de (NB.da NB.de (NB.dr aC i bb))) NB.de))) (NB.da (NB.dl bE (Sub.refl _) bb) (NB.da (NB.dl bE j an) (NB.da (NB.da NB.de (NB.da NB.de (NB.dr aC (Sub.refl _) ct))) NB.de)))) NB.d0) NB.d0) (((b.trans i).trans j).trans ae))⟩
   ·refine ifB a (λfp a=>?_) λfp a=>?_
    ·refine trM a (S00 _ [.int .i64 e,.int .i64 f,.slice n g.length o] (e,f,g) (z0 l m (D0.mono (i.trans j) w)) D p.length E p (M0.mono ((b.trans i).trans j) B)) ?_
     rintro h9 a lp gp ⟨kd,rfl,aQ⟩
     obtain⟨lV,lW⟩:=h9
     dsimp only at a aQ
     have ax:Sub ab gp:=aQ.sub
     have gN:=aQ.r
     obtain⟨ia,ib,dV,kT,ee,ic,rfl,rfl,f6,f7,gO⟩:=B0 gN
     obtain⟨rfl,kx⟩:=Sl.len gO
     try dsimp only at a
     have g6:=New.sndI (New.sndI (aQ))
     refine ifB a (λfx a=>?_) λfx a=>?_
     ·obtain rfl:=oJ a
      exact⟨([.int .i64 0,.int .i64 0,.slice none 0 0,.slice none 0 0,.slice none 0 0,.int .i64 0,.int .i64 0,.slice none 0 0,.int .i64 0]),rfl,(NB.fin (NB.pair (NB.int (by decide)) (NB.pair (NB.int (by decide)) (NB.pair (NB.nil (r:=M0)) (NB.pair (NB.nil (r:=Wp.int)) (NB.pair (NB.nil (r:=Wp.int)) (NB.pair (NB.pair (NB.int (by decide)) (NB.pair (NB.int (by decide)) (NB.nil (r:=R0)) NB.d0) NB.d0) (NB.int (by decide)) NB.de) NB.d0) NB.d0) NB.d0) NB.d0) NB.d0) (((b.trans i).trans j).trans ax))⟩
     ·obtain rfl:=oJ a
      obtain⟨jz,bO,eC,_⟩:=P
      obtain⟨jA,dx,cE,_⟩:=O
      obtain⟨jB,hy,bj,_⟩:=g6
      exact⟨([.int .i64 t,.int .i64 s,.slice S X.length U,.slice (some ⟨K,0,none⟩) W.length T,.slice none 0 0,.int .i64 ia,.int .i64 ib,.slice dV ic.length ee,.int .i64 0]),rfl,(NB.fin (NB.pair (NB.int x) (NB.pair (NB.int u) (NB.pair (NB.mk bO (j.trans ax) eC b) (NB.pair (NB.mk dx ax cE (b.trans i)) (NB.pair (NB.nil (r:=Wp.int)) (NB.pair (NB.pair (NB.int f6) (NB.pair (NB.int f7) (NB.mk hy (Sub.refl _) bj ((b.trans i).trans j)) NB.d0) NB.d0) (NB.int (by decide)) NB.de) NB.d0) (NB.da NB.de (NB.da (NB.da NB.de (NB.da NB.de (NB.dl dx (Sub.refl _) bj))) NB.de))) (NB.da (NB.dl bO (Sub.refl _) cE) (NB.da NB.de (NB.da (NB.da NB.de (NB.da NB.de (NB.dl bO j bj))) NB.de)))) NB.d0) NB.d0) (((b.trans i).trans j).trans ax))⟩
    ·refine ifB a (λfy a=>?_) λfy a=>?_
     ·refine trM a (j03 _ _ _ (z0 l m (D0.mono (i.trans j) w)) _ _ _ _ (M0.mono ((b.trans i).trans j) B)) ?_
      rintro ie a lr gq ⟨ke,rfl,aR⟩
      obtain⟨lX,lY⟩:=ie
      dsimp only at a aR
      have ai:Sub ab gq:=aR.sub
      have gP:=aR.r
      obtain⟨b3,b4,cc,kU,ch,b5,rfl,rfl,cR,cS,c0⟩:=B0 gP
      obtain⟨rfl,ky⟩:=Sl.len c0
      try dsimp only at a
      have ha:=New.sndI (New.sndI (aR))
      refine trG a (λq=>n00 _ [.int .i64 b3,.int .i64 b4,.slice cc b5.length ch] (b3,b4,b5) (z0 cR cS c0) [.int .i64 e,.int .i64 f,.slice n g.length o] (e,f,g) (z0 l m (D0.mono ((i.trans j).trans ai) w))) λlZ a=>?_
      refine ifB a (λfz a=>?_) λfz a=>?_
      ·obtain rfl:=oJ a
       exact⟨([.int .i64 0,.int .i64 0,.slice none 0 0,.slice none 0 0,.slice none 0 0,.int .i64 0,.int .i64 0,.slice none 0 0,.int .i64 0]),rfl,(NB.fin (NB.pair (NB.int (by decide)) (NB.pair (NB.int (by decide)) (NB.pair (NB.nil (r:=M0)) (NB.pair (NB.nil (r:=Wp.int)) (NB.pair (NB.nil (r:=Wp.int)) (NB.pair (NB.pair (NB.int (by decide)) (NB.pair (NB.int (by decide)) (NB.nil (r:=R0)) NB.d0) NB.d0) (NB.int (by decide)) NB.de) NB.d0) NB.d0) NB.d0) NB.d0) NB.d0) (((b.trans i).trans j).trans ai))⟩
      ·obtain rfl:=oJ a
       obtain⟨jC,bP,eD,_⟩:=P
       obtain⟨jD,dy,cG,_⟩:=O
       obtain⟨jE,hz,bk,_⟩:=ha
       exact⟨([.int .i64 t,.int .i64 s,.slice S X.length U,.slice (some ⟨K,0,none⟩) W.length T,.slice none 0 0,.int .i64 b3,.int .i64 b4,.slice cc b5.length ch,.int .i64 0]),rfl,(NB.fin (NB.pair (NB.int x) (NB.pair (NB.int u) (NB.pair (NB.mk bP (j.trans ai) eD b) (NB.pair (NB.mk dy ai cG (b.trans i)) (NB.pair (NB.nil (r:=Wp.int)) (NB.pair (NB.pair (NB.int cR) (NB.pair (NB.int cS) (NB.mk hz (Sub.refl _) bk ((b.trans i).trans j)) NB.d0) NB.d0) (NB.int (by decide)) NB.de) NB.d0) (NB.da NB.de (NB.da (NB.da NB.de (NB.da NB.de (NB.dl dy (Sub.refl _) bk))) NB.de))) (NB.da (NB.dl bP (Sub.refl _) cG) (NB.da NB.de (NB.da (NB.da NB.de (NB.da NB.de (NB.dl bP j bk))) NB.de)))) NB.d0) NB.d0) (((b.trans i).trans j).trans ai))⟩
     ·refine ifB a (λfA a=>?_) λfA a=>?_
      ·refine trM a (i9 _ [.int .i64 e,.int .i64 f,.slice n g.length o] (e,f,g) (z0 l m (D0.mono (i.trans j) w)) D p.length E p (M0.mono ((b.trans i).trans j) B)) ?_
       rintro ig a ls gr ⟨kf,rfl,aS⟩
       obtain⟨l1,l2⟩:=ig
       dsimp only at a aS
       have ay:Sub ab gr:=aS.sub
       have gQ:=aS.r
       obtain⟨ih,ii,dW,kV,ef,ij,rfl,rfl,f8,f9,gR⟩:=B0 gQ
       obtain⟨rfl,kz⟩:=Sl.len gR
       try dsimp only at a
       have hb:=New.sndI (New.sndI (aS))
       refine ifB a (λfB a=>?_) λfB a=>?_
       ·obtain rfl:=oJ a
        exact⟨([.int .i64 0,.int .i64 0,.slice none 0 0,.slice none 0 0,.slice none 0 0,.int .i64 0,.int .i64 0,.slice none 0 0,.int .i64 0]),rfl,(NB.fin (NB.pair (NB.int (by decide)) (NB.pair (NB.int (by decide)) (NB.pair (NB.nil (r:=M0)) (NB.pair (NB.nil (r:=Wp.int)) (NB.pair (NB.nil (r:=Wp.int)) (NB.pair (NB.pair (NB.int (by decide)) (NB.pair (NB.int (by decide)) (NB.nil (r:=R0)) NB.d0) NB.d0) (NB.int (by decide)) NB.de) NB.d0) NB.d0) NB.d0) NB.d0) NB.d0) (((b.trans i).trans j).trans ay))⟩
       ·obtain rfl:=oJ a
        obtain⟨jF,bQ,eE,_⟩:=P
        obtain⟨jG,dz,cH,_⟩:=O
        obtain⟨jH,hA,bl,_⟩:=hb
        exact⟨([.int .i64 t,.int .i64 s,.slice S X.length U,.slice (some ⟨K,0,none⟩) W.length T,.slice none 0 0,.int .i64 ih,.int .i64 ii,.slice dW ij.length ef,.int .i64 0]),rfl,(NB.fin (NB.pair (NB.int x) (NB.pair (NB.int u) (NB.pair (NB.mk bQ (j.trans ay) eE b) (NB.pair (NB.mk dz ay cH (b.trans i)) (NB.pair (NB.nil (r:=Wp.int)) (NB.pair (NB.pair (NB.int f8) (NB.pair (NB.int f9) (NB.mk hA (Sub.refl _) bl ((b.trans i).trans j)) NB.d0) NB.d0) (NB.int (by decide)) NB.de) NB.d0) (NB.da NB.de (NB.da (NB.da NB.de (NB.da NB.de (NB.dl dz (Sub.refl _) bl))) NB.de))) (NB.da (NB.dl bQ (Sub.refl _) cH) (NB.da NB.de (NB.da (NB.da NB.de (NB.da NB.de (NB.dl bQ j bl))) NB.de)))) NB.d0) NB.d0) (((b.trans i).trans j).trans ay))⟩
      ·refine ifB a (λfC a=>?_) λfC a=>?_
       ·refine trV a (q04 _ [.int .i64 e,.int .i64 f,.slice n g.length o] (e,f,g) (z0 l m (D0.mono (i.trans j) w))) λdL a=>?_
        obtain⟨k8,eR,a⟩:=C0 a
        have ga:I0 dL:=K1 eR
        refine ifB a (λfD a=>?_) λfD a=>?_
        ·obtain rfl:=oJ a
         exact⟨([.int .i64 0,.int .i64 0,.slice none 0 0,.slice none 0 0,.slice none 0 0,.int .i64 0,.int .i64 0,.slice none 0 0,.int .i64 0]),rfl,(NB.fin (NB.pair (NB.int (by decide)) (NB.pair (NB.int (by decide)) (NB.pair (NB.nil (r:=M0)) (NB.pair (NB.nil (r:=Wp.int)) (NB.pair (NB.nil (r:=Wp.int)) (NB.pair (NB.pair (NB.int (by decide)) (NB.pair (NB.int (by decide)) (NB.nil (r:=R0)) NB.d0) NB.d0) (NB.int (by decide)) NB.de) NB.d0) NB.d0) NB.d0) NB.d0) NB.d0) ((b.trans i).trans j))⟩
        ·obtain rfl:=oJ a
         obtain⟨jI,dA,cI,_⟩:=P
         obtain⟨jJ,hB,bm,_⟩:=O
         obtain⟨jK,bR,eF,_⟩:=G
         exact⟨([.int .i64 t,.int .i64 s,.slice S X.length U,.slice (some ⟨K,0,none⟩) W.length T,.slice none 0 0,.int .i64 e,.int .i64 f,.slice n g.length o,.int .i64 dL]),rfl,(NB.fin (NB.pair (NB.int x) (NB.pair (NB.int u) (NB.pair (NB.mk dA j cI b) (NB.pair (NB.mk hB (Sub.refl _) bm (b.trans i)) (NB.pair (NB.nil (r:=Wp.int)) (NB.pair (NB.pair (NB.int l) (NB.pair (NB.int m) (NB.mk bR (i.trans j) eF (Sub.refl _)) NB.d0) NB.d0) (NB.int ga) NB.de) NB.d0) (NB.da NB.de (NB.da (NB.da NB.de (NB.da NB.de (NB.dr bR i bm))) NB.de))) (NB.da (NB.dl dA (Sub.refl _) bm) (NB.da NB.de (NB.da (NB.da NB.de (NB.da NB.de (NB.dr bR (Sub.refl _) cI))) NB.de)))) NB.d0) NB.d0) ((b.trans i).trans j))⟩
       ·refine ifB a (λfE a=>?_) λfE a=>?_
        ·refine trV a (S03 _ [.int .i64 e,.int .i64 f,.slice n g.length o] (e,f,g) (z0 l m (D0.mono (i.trans j) w))) λdM a=>?_
         obtain⟨k9,eS,a⟩:=C0 a
         have gb:I0 dM:=K1 eS
         refine ifB a (λfG a=>?_) λfG a=>?_
         ·obtain rfl:=oJ a
          exact⟨([.int .i64 0,.int .i64 0,.slice none 0 0,.slice none 0 0,.slice none 0 0,.int .i64 0,.int .i64 0,.slice none 0 0,.int .i64 0]),rfl,(NB.fin (NB.pair (NB.int (by decide)) (NB.pair (NB.int (by decide)) (NB.pair (NB.nil (r:=M0)) (NB.pair (NB.nil (r:=Wp.int)) (NB.pair (NB.nil (r:=Wp.int)) (NB.pair (NB.pair (NB.int (by decide)) (NB.pair (NB.int (by decide)) (NB.nil (r:=R0)) NB.d0) NB.d0) (NB.int (by decide)) NB.de) NB.d0) NB.d0) NB.d0) NB.d0) NB.d0) ((b.trans i).trans j))⟩
         ·obtain rfl:=oJ a
          obtain⟨jL,dB,cJ,_⟩:=P
          obtain⟨jM,hC,bn,_⟩:=O
          obtain⟨jN,bS,eG,_⟩:=G
          exact⟨([.int .i64 t,.int .i64 s,.slice S X.length U,.slice (some ⟨K,0,none⟩) W.length T,.slice none 0 0,.int .i64 e,.int .i64 f,.slice n g.length o,.int .i64 dM]),rfl,(NB.fin (NB.pair (NB.int x) (NB.pair (NB.int u) (NB.pair (NB.mk dB j cJ b) (NB.pair (NB.mk hC (Sub.refl _) bn (b.trans i)) (NB.pair (NB.nil (r:=Wp.int)) (NB.pair (NB.pair (NB.int l) (NB.pair (NB.int m) (NB.mk bS (i.trans j) eG (Sub.refl _)) NB.d0) NB.d0) (NB.int gb) NB.de) NB.d0) (NB.da NB.de (NB.da (NB.da NB.de (NB.da NB.de (NB.dr bS i bn))) NB.de))) (NB.da (NB.dl dB (Sub.refl _) bn) (NB.da NB.de (NB.da (NB.da NB.de (NB.da NB.de (NB.dr bS (Sub.refl _) cJ))) NB.de)))) NB.d0) NB.d0) ((b.trans i).trans j))⟩
        ·refine ifB a (λfH a=>?_) λfH a=>?_
         ·obtain rfl:=oJ a
          exact⟨([.int .i64 0,.int .i64 0,.slice none 0 0,.slice none 0 0,.slice none 0 0,.int .i64 0,.int .i64 0,.slice none 0 0,.int .i64 0]),rfl,(NB.fin (NB.pair (NB.int (by decide)) (NB.pair (NB.int (by decide)) (NB.pair (NB.nil (r:=M0)) (NB.pair (NB.nil (r:=Wp.int)) (NB.pair (NB.nil (r:=Wp.int)) (NB.pair (NB.pair (NB.int (by decide)) (NB.pair (NB.int (by decide)) (NB.nil (r:=R0)) NB.d0) NB.d0) (NB.int (by decide)) NB.de) NB.d0) NB.d0) NB.d0) NB.d0) NB.d0) ((b.trans i).trans j))⟩
         ·obtain rfl:=oJ a
          obtain⟨jO,dC,cK,_⟩:=P
          obtain⟨jP,hD,bo,_⟩:=O
          obtain⟨jQ,bT,eH,_⟩:=G
          exact⟨([.int .i64 t,.int .i64 s,.slice S X.length U,.slice (some ⟨K,0,none⟩) W.length T,.slice none 0 0,.int .i64 e,.int .i64 f,.slice n g.length o,.int .i64 0]),rfl,(NB.fin (NB.pair (NB.int x) (NB.pair (NB.int u) (NB.pair (NB.mk dC j cK b) (NB.pair (NB.mk hD (Sub.refl _) bo (b.trans i)) (NB.pair (NB.nil (r:=Wp.int)) (NB.pair (NB.pair (NB.int l) (NB.pair (NB.int m) (NB.mk bT (i.trans j) eH (Sub.refl _)) NB.d0) NB.d0) (NB.int (by decide)) NB.de) NB.d0) (NB.da NB.de (NB.da (NB.da NB.de (NB.da NB.de (NB.dr bT i bo))) NB.de))) (NB.da (NB.dl dC (Sub.refl _) bo) (NB.da NB.de (NB.da (NB.da NB.de (NB.da NB.de (NB.dr bT (Sub.refl _) cK))) NB.de)))) NB.d0) NB.d0) ((b.trans i).trans j))⟩
  ·skip
   refine trM a (P06 _ Z N.length aa N (Z1.mono b ap)) ?_
   rintro C a lu bs ⟨z,kW,A,rfl,y⟩
   have c:Sub br bs:=y.sub
   have gS:=y.r
   obtain⟨rfl,kA⟩:=Sl.len gS
   refine aI trivial (aI (by first|exact trivial|exact rfl) ?_)
   refine aI ?_ ?_
   ·skip
    refine aI trivial (aI (by first|exact trivial|exact rfl) ?_)
    obtain⟨Y,L,a⟩:=C0 a
    refine Tr.mono (M01 _ D p.length E p (M0.mono (b.trans c) B) _  L) ?_
    rintro lv ac ⟨L,kY,V,rfl,Q⟩
    have k:Sub bs ac:=Q.sub
    have gU:=Q.r
    obtain⟨rfl,kC⟩:=Sl.len gU
    refine aI trivial (aI (by first|exact trivial|exact rfl) ?_)
    refine aI trivial (aI (by first|exact trivial|exact rfl) ?_)
    refine aI trivial (aI (by first|exact trivial|exact rfl) ?_)
    refine ifB a (λfI a=>?_) λfI a=>?_
    ·refine trM a (R02 _ [.int .i64 e,.int .i64 f,.slice n g.length o] (e,f,g) (z0 l m (D0.mono (c.trans k) w)) D p.length E p (M0.mono ((b.trans c).trans k) B)) ?_
     rintro ik a lw gs ⟨dX,kZ,eg,rfl,aT⟩
     obtain⟨il,mb⟩:=ik
     dsimp only at a aT
     have aj:Sub ac gs:=aT.sub
     have gV:=aT.r
     obtain⟨rfl,kD⟩:=Sl.len gV
     refine ifB a (λfJ a=>?_) λfJ a=>?_
     ·obtain rfl:=oJ a
      exact⟨([.int .i64 0,.int .i64 0,.slice none 0 0,.slice none 0 0,.slice none 0 0,.int .i64 0,.int .i64 0,.slice none 0 0,.int .i64 0]),rfl,(NB.fin (NB.pair (NB.int (by decide)) (NB.pair (NB.int (by decide)) (NB.pair (NB.nil (r:=M0)) (NB.pair (NB.nil (r:=Wp.int)) (NB.pair (NB.nil (r:=Wp.int)) (NB.pair (NB.pair (NB.int (by decide)) (NB.pair (NB.int (by decide)) (NB.nil (r:=R0)) NB.d0) NB.d0) (NB.int (by decide)) NB.de) NB.d0) NB.d0) NB.d0) NB.d0) NB.d0) (((b.trans c).trans k).trans aj))⟩
     ·obtain rfl:=oJ a
      obtain⟨jR,bU,cL,_⟩:=y
      obtain⟨jS,dD,bp,_⟩:=Q
      obtain⟨jT,hE,ao,_⟩:=aT
      obtain⟨jU,aD,eI,_⟩:=G
      exact⟨([.int .i64 t,.int .i64 s,.slice z C.length A,.slice (some ⟨L,0,none⟩) Y.length V,.slice dX il.length eg,.int .i64 e,.int .i64 f,.slice n g.length o,.int .i64 0]),rfl,(NB.fin (NB.pair (NB.int x) (NB.pair (NB.int u) (NB.pair (NB.mk bU (k.trans aj) cL b) (NB.pair (NB.mk dD aj bp (b.trans c)) (NB.pair (NB.mk hE (Sub.refl _) ao ((b.trans c).trans k)) (NB.pair (NB.pair (NB.int l) (NB.pair (NB.int m) (NB.mk aD ((c.trans k).trans aj) eI (Sub.refl _)) NB.d0) NB.d0) (NB.int (by decide)) NB.de) (NB.da (NB.da NB.de (NB.da NB.de (NB.dr aD (c.trans k) ao))) NB.de)) (NB.da (NB.dl dD (Sub.refl _) ao) (NB.da (NB.da NB.de (NB.da NB.de (NB.dr aD c bp))) NB.de))) (NB.da (NB.dl bU (Sub.refl _) bp) (NB.da (NB.dl bU k ao) (NB.da (NB.da NB.de (NB.da NB.de (NB.dr aD (Sub.refl _) cL))) NB.de)))) NB.d0) NB.d0) (((b.trans c).trans k).trans aj))⟩
    ·refine ifB a (λfK a=>?_) λfK a=>?_
     ·refine trM a (S00 _ [.int .i64 e,.int .i64 f,.slice n g.length o] (e,f,g) (z0 l m (D0.mono (c.trans k) w)) D p.length E p (M0.mono ((b.trans c).trans k) B)) ?_
      rintro im a lx gt ⟨kg,rfl,aU⟩
      obtain⟨mc,md⟩:=im
      dsimp only at a aU
      have az:Sub ac gt:=aU.sub
      have gW:=aU.r
      obtain⟨io,ip,dY,k0,eh,iq,rfl,rfl,gc,gd,gX⟩:=B0 gW
      obtain⟨rfl,kE⟩:=Sl.len gX
      try dsimp only at a
      have hc:=New.sndI (New.sndI (aU))
      refine ifB a (λfL a=>?_) λfL a=>?_
      ·obtain rfl:=oJ a
       exact⟨([.int .i64 0,.int .i64 0,.slice none 0 0,.slice none 0 0,.slice none 0 0,.int .i64 0,.int .i64 0,.slice none 0 0,.int .i64 0]),rfl,(NB.fin (NB.pair (NB.int (by decide)) (NB.pair (NB.int (by decide)) (NB.pair (NB.nil (r:=M0)) (NB.pair (NB.nil (r:=Wp.int)) (NB.pair (NB.nil (r:=Wp.int)) (NB.pair (NB.pair (NB.int (by decide)) (NB.pair (NB.int (by decide)) (NB.nil (r:=R0)) NB.d0) NB.d0) (NB.int (by decide)) NB.de) NB.d0) NB.d0) NB.d0) NB.d0) NB.d0) (((b.trans c).trans k).trans az))⟩
      ·obtain rfl:=oJ a
       obtain⟨jV,bV,eJ,_⟩:=y
       obtain⟨jW,dE,cM,_⟩:=Q
       obtain⟨jX,hF,bq,_⟩:=hc
       exact⟨([.int .i64 t,.int .i64 s,.slice z C.length A,.slice (some ⟨L,0,none⟩) Y.length V,.slice none 0 0,.int .i64 io,.int .i64 ip,.slice dY iq.length eh,.int .i64 0]),rfl,(NB.fin (NB.pair (NB.int x) (NB.pair (NB.int u) (NB.pair (NB.mk bV (k.trans az) eJ b) (NB.pair (NB.mk dE az cM (b.trans c)) (NB.pair (NB.nil (r:=Wp.int)) (NB.pair (NB.pair (NB.int gc) (NB.pair (NB.int gd) (NB.mk hF (Sub.refl _) bq ((b.trans c).trans k)) NB.d0) NB.d0) (NB.int (by decide)) NB.de) NB.d0) (NB.da NB.de (NB.da (NB.da NB.de (NB.da NB.de (NB.dl dE (Sub.refl _) bq))) NB.de))) (NB.da (NB.dl bV (Sub.refl _) cM) (NB.da NB.de (NB.da (NB.da NB.de (NB.da NB.de (NB.dl bV k bq))) NB.de)))) NB.d0) NB.d0) (((b.trans c).trans k).trans az))⟩
     ·refine ifB a (λfM a=>?_) λfM a=>?_
      ·refine trM a (j03 _ _ _ (z0 l m (D0.mono (c.trans k) w)) _ _ _ _ (M0.mono ((b.trans c).trans k) B)) ?_
       rintro ir a lz gu ⟨kh,rfl,aV⟩
       obtain⟨me,mf⟩:=ir
       dsimp only at a aV
       have ak:Sub ac gu:=aV.sub
       have gY:=aV.r
       obtain⟨b6,b7,cd,k1,ci,b8,rfl,rfl,cT,cU,c1⟩:=B0 gY
       obtain⟨rfl,kF⟩:=Sl.len c1
       try dsimp only at a
       have hd:=New.sndI (New.sndI (aV))
       refine trG a (λq=>n00 _ [.int .i64 b6,.int .i64 b7,.slice cd b8.length ci] (b6,b7,b8) (z0 cT cU c1) [.int .i64 e,.int .i64 f,.slice n g.length o] (e,f,g) (z0 l m (D0.mono ((c.trans k).trans ak) w))) λmg a=>?_
       refine ifB a (λfN a=>?_) λfN a=>?_
       ·obtain rfl:=oJ a
        exact⟨([.int .i64 0,.int .i64 0,.slice none 0 0,.slice none 0 0,.slice none 0 0,.int .i64 0,.int .i64 0,.slice none 0 0,.int .i64 0]),rfl,(NB.fin (NB.pair (NB.int (by decide)) (NB.pair (NB.int (by decide)) (NB.pair (NB.nil (r:=M0)) (NB.pair (NB.nil (r:=Wp.int)) (NB.pair (NB.nil (r:=Wp.int)) (NB.pair (NB.pair (NB.int (by decide)) (NB.pair (NB.int (by decide)) (NB.nil (r:=R0)) NB.d0) NB.d0) (NB.int (by decide)) NB.de) NB.d0) NB.d0) NB.d0) NB.d0) NB.d0) (((b.trans c).trans k).trans ak))⟩
       ·obtain rfl:=oJ a
        obtain⟨jY,bW,eK,_⟩:=y
        obtain⟨iu,c2,cj,_⟩:=Q
        obtain⟨iv,he,aW,_⟩:=hd
        exact⟨([.int .i64 t,.int .i64 s,.slice z C.length A,.slice (some ⟨L,0,none⟩) Y.length V,.slice none 0 0,.int .i64 b6,.int .i64 b7,.slice cd b8.length ci,.int .i64 0]),rfl,(NB.fin (NB.pair (NB.int x) (NB.pair (NB.int u) (NB.pair (NB.mk bW (k.trans ak) eK b) (NB.pair (NB.mk c2 ak cj (b.trans c)) (NB.pair (NB.nil (r:=Wp.int)) (NB.pair (NB.pair (NB.int cT) (NB.pair (NB.int cU) (NB.mk he (Sub.refl _) aW ((b.trans c).trans k)) NB.d0) NB.d0) (NB.int (by decide)) NB.de) NB.d0) (NB.da NB.de (NB.da (NB.da NB.de (NB.da NB.de (NB.dl c2 (Sub.refl _) aW))) NB.de))) (NB.da (NB.dl bW (Sub.refl _) cj) (NB.da NB.de (NB.da (NB.da NB.de (NB.da NB.de (NB.dl bW k aW))) NB.de)))) NB.d0) NB.d0) (((b.trans c).trans k).trans ak))⟩
      ·refine ifB a (λeU a=>?_) λeU a=>?_
       ·refine trM a (i9 _ [.int .i64 e,.int .i64 f,.slice n g.length o] (e,f,g) (z0 l m (D0.mono (c.trans k) w)) D p.length E p (M0.mono ((b.trans c).trans k) B)) ?_
        rintro hH a la ge ⟨jZ,rfl,aE⟩
        obtain⟨lA,lB⟩:=hH
        dsimp only at a aE
        have aq:Sub ac ge:=aE.sub
        have gw:=aE.r
        obtain⟨hI,hJ,dN,kH,dZ,hK,rfl,rfl,fO,fP,gx⟩:=B0 gw
        obtain⟨rfl,kl⟩:=Sl.len gx
        try dsimp only at a
        have gZ:=New.sndI (New.sndI (aE))
        refine ifB a (λeV a=>?_) λeV a=>?_
        ·obtain rfl:=oJ a
         exact⟨([.int .i64 0,.int .i64 0,.slice none 0 0,.slice none 0 0,.slice none 0 0,.int .i64 0,.int .i64 0,.slice none 0 0,.int .i64 0]),rfl,(NB.fin (NB.pair (NB.int (by decide)) (NB.pair (NB.int (by decide)) (NB.pair (NB.nil (r:=M0)) (NB.pair (NB.nil (r:=Wp.int)) (NB.pair (NB.nil (r:=Wp.int)) (NB.pair (NB.pair (NB.int (by decide)) (NB.pair (NB.int (by decide)) (NB.nil (r:=R0)) NB.d0) NB.d0) (NB.int (by decide)) NB.de) NB.d0) NB.d0) NB.d0) NB.d0) NB.d0) (((b.trans c).trans k).trans aq))⟩
        ·obtain rfl:=oJ a
         obtain⟨iw,bt,ei,_⟩:=y
         obtain⟨ix,c3,ck,_⟩:=Q
         obtain⟨iy,hf,aX,_⟩:=gZ
         exact⟨([.int .i64 t,.int .i64 s,.slice z C.length A,.slice (some ⟨L,0,none⟩) Y.length V,.slice none 0 0,.int .i64 hI,.int .i64 hJ,.slice dN hK.length dZ,.int .i64 0]),rfl,(NB.fin (NB.pair (NB.int x) (NB.pair (NB.int u) (NB.pair (NB.mk bt (k.trans aq) ei b) (NB.pair (NB.mk c3 aq ck (b.trans c)) (NB.pair (NB.nil (r:=Wp.int)) (NB.pair (NB.pair (NB.int fO) (NB.pair (NB.int fP) (NB.mk hf (Sub.refl _) aX ((b.trans c).trans k)) NB.d0) NB.d0) (NB.int (by decide)) NB.de) NB.d0) (NB.da NB.de (NB.da (NB.da NB.de (NB.da NB.de (NB.dl c3 (Sub.refl _) aX))) NB.de))) (NB.da (NB.dl bt (Sub.refl _) ck) (NB.da NB.de (NB.da (NB.da NB.de (NB.da NB.de (NB.dl bt k aX))) NB.de)))) NB.d0) NB.d0) (((b.trans c).trans k).trans aq))⟩
       ·refine ifB a (λeW a=>?_) λeW a=>?_
        ·refine trV a (q04 _ [.int .i64 e,.int .i64 f,.slice n g.length o] (e,f,g) (z0 l m (D0.mono (c.trans k) w))) λdF a=>?_
         obtain⟨k2,eL,a⟩:=C0 a
         have fQ:I0 dF:=K1 eL
         refine ifB a (λeY a=>?_) λeY a=>?_
         ·obtain rfl:=oJ a
          exact⟨([.int .i64 0,.int .i64 0,.slice none 0 0,.slice none 0 0,.slice none 0 0,.int .i64 0,.int .i64 0,.slice none 0 0,.int .i64 0]),rfl,(NB.fin (NB.pair (NB.int (by decide)) (NB.pair (NB.int (by decide)) (NB.pair (NB.nil (r:=M0)) (NB.pair (NB.nil (r:=Wp.int)) (NB.pair (NB.nil (r:=Wp.int)) (NB.pair (NB.pair (NB.int (by decide)) (NB.pair (NB.int (by decide)) (NB.nil (r:=R0)) NB.d0) NB.d0) (NB.int (by decide)) NB.de) NB.d0) NB.d0) NB.d0) NB.d0) NB.d0) ((b.trans c).trans k))⟩
         ·obtain rfl:=oJ a
          obtain⟨iz,c4,cl,_⟩:=y
          obtain⟨iA,hg,aY,_⟩:=Q
          obtain⟨iB,bu,ej,_⟩:=G
          exact⟨([.int .i64 t,.int .i64 s,.slice z C.length A,.slice (some ⟨L,0,none⟩) Y.length V,.slice none 0 0,.int .i64 e,.int .i64 f,.slice n g.length o,.int .i64 dF]),rfl,(NB.fin (NB.pair (NB.int x) (NB.pair (NB.int u) (NB.pair (NB.mk c4 k cl b) (NB.pair (NB.mk hg (Sub.refl _) aY (b.trans c)) (NB.pair (NB.nil (r:=Wp.int)) (NB.pair (NB.pair (NB.int l) (NB.pair (NB.int m) (NB.mk bu (c.trans k) ej (Sub.refl _)) NB.d0) NB.d0) (NB.int fQ) NB.de) NB.d0) (NB.da NB.de (NB.da (NB.da NB.de (NB.da NB.de (NB.dr bu c aY))) NB.de))) (NB.da (NB.dl c4 (Sub.refl _) aY) (NB.da NB.de (NB.da (NB.da NB.de (NB.da NB.de (NB.dr bu (Sub.refl _) cl))) NB.de)))) NB.d0) NB.d0) ((b.trans c).trans k))⟩
        ·refine ifB a (λeZ a=>?_) λeZ a=>?_
         ·refine trV a (S03 _ [.int .i64 e,.int .i64 f,.slice n g.length o] (e,f,g) (z0 l m (D0.mono (c.trans k) w))) λdG a=>?_
          obtain⟨k3,eM,a⟩:=C0 a
          have fR:I0 dG:=K1 eM
          refine ifB a (λe0 a=>?_) λe0 a=>?_
          ·obtain rfl:=oJ a
           exact⟨([.int .i64 0,.int .i64 0,.slice none 0 0,.slice none 0 0,.slice none 0 0,.int .i64 0,.int .i64 0,.slice none 0 0,.int .i64 0]),rfl,(NB.fin (NB.pair (NB.int (by decide)) (NB.pair (NB.int (by decide)) (NB.pair (NB.nil (r:=M0)) (NB.pair (NB.nil (r:=Wp.int)) (NB.pair (NB.nil (r:=Wp.int)) (NB.pair (NB.pair (NB.int (by decide)) (NB.pair (NB.int (by decide)) (NB.nil (r:=R0)) NB.d0) NB.d0) (NB.int (by decide)) NB.de) NB.d0) NB.d0) NB.d0) NB.d0) NB.d0) ((b.trans c).trans k))⟩
          ·obtain rfl:=oJ a
           obtain⟨iC,db,cm,_⟩:=y
           obtain⟨iD,hh,aZ,_⟩:=Q
           obtain⟨iE,bv,ek,_⟩:=G
           exact⟨([.int .i64 t,.int .i64 s,.slice z C.length A,.slice (some ⟨L,0,none⟩) Y.length V,.slice none 0 0,.int .i64 e,.int .i64 f,.slice n g.length o,.int .i64 dG]),rfl,(NB.fin (NB.pair (NB.int x) (NB.pair (NB.int u) (NB.pair (NB.mk db k cm b) (NB.pair (NB.mk hh (Sub.refl _) aZ (b.trans c)) (NB.pair (NB.nil (r:=Wp.int)) (NB.pair (NB.pair (NB.int l) (NB.pair (NB.int m) (NB.mk bv (c.trans k) ek (Sub.refl _)) NB.d0) NB.d0) (NB.int fR) NB.de) NB.d0) (NB.da NB.de (NB.da (NB.da NB.de (NB.da NB.de (NB.dr bv c aZ))) NB.de))) (NB.da (NB.dl db (Sub.refl _) aZ) (NB.da NB.de (NB.da (NB.da NB.de (NB.da NB.de (NB.dr bv (Sub.refl _) cm))) NB.de)))) NB.d0) NB.d0) ((b.trans c).trans k))⟩
         ·refine ifB a (λe1 a=>?_) λe1 a=>?_
          ·obtain rfl:=oJ a
           exact⟨([.int .i64 0,.int .i64 0,.slice none 0 0,.slice none 0 0,.slice none 0 0,.int .i64 0,.int .i64 0,.slice none 0 0,.int .i64 0]),rfl,(NB.fin (NB.pair (NB.int (by decide)) (NB.pair (NB.int (by decide)) (NB.pair (NB.nil (r:=M0)) (NB.pair (NB.nil (r:=Wp.int)) (NB.pair (NB.nil (r:=Wp.int)) (NB.pair (NB.pair (NB.int (by decide)) (NB.pair (NB.int (by decide)) (NB.nil (r:=R0)) NB.d0) NB.d0) (NB.int (by decide)) NB.de) NB.d0) NB.d0) NB.d0) NB.d0) NB.d0) ((b.trans c).trans k))⟩
          ·obtain rfl:=oJ a
           obtain⟨iF,dc,cn,_⟩:=y
           obtain⟨iG,hi,a0,_⟩:=Q
           obtain⟨iH,bx,el,_⟩:=G
           exact⟨([.int .i64 t,.int .i64 s,.slice z C.length A,.slice (some ⟨L,0,none⟩) Y.length V,.slice none 0 0,.int .i64 e,.int .i64 f,.slice n g.length o,.int .i64 0]),rfl,(NB.fin (NB.pair (NB.int x) (NB.pair (NB.int u) (NB.pair (NB.mk dc k cn b) (NB.pair (NB.mk hi (Sub.refl _) a0 (b.trans c)) (NB.pair (NB.nil (r:=Wp.int)) (NB.pair (NB.pair (NB.int l) (NB.pair (NB.int m) (NB.mk bx (c.trans k) el (Sub.refl _)) NB.d0) NB.d0) (NB.int (by decide)) NB.de) NB.d0) (NB.da NB.de (NB.da (NB.da NB.de (NB.da NB.de (NB.dr bx c a0))) NB.de))) (NB.da (NB.dl dc (Sub.refl _) a0) (NB.da NB.de (NB.da (NB.da NB.de (NB.da NB.de (NB.dr bx (Sub.refl _) cn))) NB.de)))) NB.d0) NB.d0) ((b.trans c).trans k))⟩
   ·skip
    obtain⟨J,F,a⟩:=C0 a
    refine Tr.mono (M01 _ D p.length E p (M0.mono (b.trans c) B) _  F) ?_
    rintro lc M ⟨F,kI,I,rfl,H⟩
    have d:Sub bs M:=H.sub
    have gy:=H.r
    obtain⟨rfl,km⟩:=Sl.len gy
    refine aI trivial (aI (by first|exact trivial|exact rfl) ?_)
    refine aI ?_ ?_
    ·skip
     refine aI trivial (aI (by first|exact trivial|exact rfl) ?_)
     refine aI trivial (aI (by first|exact trivial|exact rfl) ?_)
     refine aI trivial (aI (by first|exact trivial|exact rfl) ?_)
     refine ifB a (λe3 a=>?_) λe3 a=>?_
     ·refine trM a (R02 _ [.int .i64 e,.int .i64 f,.slice n g.length o] (e,f,g) (z0 l m (D0.mono (c.trans d) w)) D p.length E p (M0.mono ((b.trans c).trans d) B)) ?_
      rintro hL a lg gf ⟨dO,kJ,d1,rfl,aF⟩
      obtain⟨hM,lC⟩:=hL
      dsimp only at a aF
      have ad:Sub M gf:=aF.sub
      have gz:=aF.r
      obtain⟨rfl,kn⟩:=Sl.len gz
      refine ifB a (λe4 a=>?_) λe4 a=>?_
      ·obtain rfl:=oJ a
       exact⟨([.int .i64 0,.int .i64 0,.slice none 0 0,.slice none 0 0,.slice none 0 0,.int .i64 0,.int .i64 0,.slice none 0 0,.int .i64 0]),rfl,(NB.fin (NB.pair (NB.int (by decide)) (NB.pair (NB.int (by decide)) (NB.pair (NB.nil (r:=M0)) (NB.pair (NB.nil (r:=Wp.int)) (NB.pair (NB.nil (r:=Wp.int)) (NB.pair (NB.pair (NB.int (by decide)) (NB.pair (NB.int (by decide)) (NB.nil (r:=R0)) NB.d0) NB.d0) (NB.int (by decide)) NB.de) NB.d0) NB.d0) NB.d0) NB.d0) NB.d0) (((b.trans c).trans d).trans ad))⟩
      ·obtain rfl:=oJ a
       obtain⟨iI,bz,co,_⟩:=y
       obtain⟨iJ,dd,a1,_⟩:=H
       obtain⟨iK,hj,al,_⟩:=aF
       obtain⟨iL,aA,em,_⟩:=G
       exact⟨([.int .i64 t,.int .i64 s,.slice z C.length A,.slice (some ⟨F,0,none⟩) J.length I,.slice dO hM.length d1,.int .i64 e,.int .i64 f,.slice n g.length o,.int .i64 0]),rfl,(NB.fin (NB.pair (NB.int x) (NB.pair (NB.int u) (NB.pair (NB.mk bz (d.trans ad) co b) (NB.pair (NB.mk dd ad a1 (b.trans c)) (NB.pair (NB.mk hj (Sub.refl _) al ((b.trans c).trans d)) (NB.pair (NB.pair (NB.int l) (NB.pair (NB.int m) (NB.mk aA ((c.trans d).trans ad) em (Sub.refl _)) NB.d0) NB.d0) (NB.int (by decide)) NB.de) (NB.da (NB.da NB.de (NB.da NB.de (NB.dr aA (c.trans d) al))) NB.de)) (NB.da (NB.dl dd (Sub.refl _) al) (NB.da (NB.da NB.de (NB.da NB.de (NB.dr aA c a1))) NB.de))) (NB.da (NB.dl bz (Sub.refl _) a1) (NB.da (NB.dl bz d al) (NB.da (NB.da NB.de (NB.da NB.de (NB.dr aA (Sub.refl _) co))) NB.de)))) NB.d0) NB.d0) (((b.trans c).trans d).trans ad))⟩
     ·refine ifB a (λe5 a=>?_) λe5 a=>?_
      ·refine trM a (S00 _ [.int .i64 e,.int .i64 f,.slice n g.length o] (e,f,g) (z0 l m (D0.mono (c.trans d) w)) D p.length E p (M0.mono ((b.trans c).trans d) B)) ?_
       rintro hO a lh gg ⟨j0,rfl,aG⟩
       obtain⟨lD,lE⟩:=hO
       dsimp only at a aG
       have ar:Sub M gg:=aG.sub
       have gA:=aG.r
       obtain⟨hP,hQ,dP,kK,d2,hR,rfl,rfl,fS,fT,gB⟩:=B0 gA
       obtain⟨rfl,ko⟩:=Sl.len gB
       try dsimp only at a
       have g0:=New.sndI (New.sndI (aG))
       refine ifB a (λe6 a=>?_) λe6 a=>?_
       ·obtain rfl:=oJ a
        exact⟨([.int .i64 0,.int .i64 0,.slice none 0 0,.slice none 0 0,.slice none 0 0,.int .i64 0,.int .i64 0,.slice none 0 0,.int .i64 0]),rfl,(NB.fin (NB.pair (NB.int (by decide)) (NB.pair (NB.int (by decide)) (NB.pair (NB.nil (r:=M0)) (NB.pair (NB.nil (r:=Wp.int)) (NB.pair (NB.nil (r:=Wp.int)) (NB.pair (NB.pair (NB.int (by decide)) (NB.pair (NB.int (by decide)) (NB.nil (r:=R0)) NB.d0) NB.d0) (NB.int (by decide)) NB.de) NB.d0) NB.d0) NB.d0) NB.d0) NB.d0) (((b.trans c).trans d).trans ar))⟩
       ·obtain rfl:=oJ a
        obtain⟨iM,bA,en,_⟩:=y
        obtain⟨iN,df,cp,_⟩:=H
        obtain⟨iO,hk,a2,_⟩:=g0
        exact⟨([.int .i64 t,.int .i64 s,.slice z C.length A,.slice (some ⟨F,0,none⟩) J.length I,.slice none 0 0,.int .i64 hP,.int .i64 hQ,.slice dP hR.length d2,.int .i64 0]),rfl,(NB.fin (NB.pair (NB.int x) (NB.pair (NB.int u) (NB.pair (NB.mk bA (d.trans ar) en b) (NB.pair (NB.mk df ar cp (b.trans c)) (NB.pair (NB.nil (r:=Wp.int)) (NB.pair (NB.pair (NB.int fS) (NB.pair (NB.int fT) (NB.mk hk (Sub.refl _) a2 ((b.trans c).trans d)) NB.d0) NB.d0) (NB.int (by decide)) NB.de) NB.d0) (NB.da NB.de (NB.da (NB.da NB.de (NB.da NB.de (NB.dl df (Sub.refl _) a2))) NB.de))) (NB.da (NB.dl bA (Sub.refl _) cp) (NB.da NB.de (NB.da (NB.da NB.de (NB.da NB.de (NB.dl bA d a2))) NB.de)))) NB.d0) NB.d0) (((b.trans c).trans d).trans ar))⟩
      ·refine ifB a (λe7 a=>?_) λe7 a=>?_
       ·refine trM a (j03 _ _ _ (z0 l m (D0.mono (c.trans d) w)) _ _ _ _ (M0.mono ((b.trans c).trans d) B)) ?_
        rintro hT a li gj ⟨j1,rfl,aJ⟩
        obtain⟨lG,lH⟩:=hT
        dsimp only at a aJ
        have af:Sub M gj:=aJ.sub
        have gD:=aJ.r
        obtain⟨bX,bY,ca,kM,cf,bZ,rfl,rfl,cN,cO,cY⟩:=B0 gD
        obtain⟨rfl,kq⟩:=Sl.len cY
        try dsimp only at a
        have g1:=New.sndI (New.sndI (aJ))
        refine trG a (λq=>n00 _ [.int .i64 bX,.int .i64 bY,.slice ca bZ.length cf] (bX,bY,bZ) (z0 cN cO cY) [.int .i64 e,.int .i64 f,.slice n g.length o] (e,f,g) (z0 l m (D0.mono ((c.trans d).trans af) w))) λlI a=>?_
        refine ifB a (λe8 a=>?_) λe8 a=>?_
        ·obtain rfl:=oJ a
         exact⟨([.int .i64 0,.int .i64 0,.slice none 0 0,.slice none 0 0,.slice none 0 0,.int .i64 0,.int .i64 0,.slice none 0 0,.int .i64 0]),rfl,(NB.fin (NB.pair (NB.int (by decide)) (NB.pair (NB.int (by decide)) (NB.pair (NB.nil (r:=M0)) (NB.pair (NB.nil (r:=Wp.int)) (NB.pair (NB.nil (r:=Wp.int)) (NB.pair (NB.pair (NB.int (by decide)) (NB.pair (NB.int (by decide)) (NB.nil (r:=R0)) NB.d0) NB.d0) (NB.int (by decide)) NB.de) NB.d0) NB.d0) NB.d0) NB.d0) NB.d0) (((b.trans c).trans d).trans af))⟩
        ·obtain rfl:=oJ a
         obtain⟨iP,bB,eo,_⟩:=y
         obtain⟨iQ,dg,cq,_⟩:=H
         obtain⟨iS,hl,a3,_⟩:=g1
         exact⟨([.int .i64 t,.int .i64 s,.slice z C.length A,.slice (some ⟨F,0,none⟩) J.length I,.slice none 0 0,.int .i64 bX,.int .i64 bY,.slice ca bZ.length cf,.int .i64 0]),rfl,(NB.fin (NB.pair (NB.int x) (NB.pair (NB.int u) (NB.pair (NB.mk bB (d.trans af) eo b) (NB.pair (NB.mk dg af cq (b.trans c)) (NB.pair (NB.nil (r:=Wp.int)) (NB.pair (NB.pair (NB.int cN) (NB.pair (NB.int cO) (NB.mk hl (Sub.refl _) a3 ((b.trans c).trans d)) NB.d0) NB.d0) (NB.int (by decide)) NB.de) NB.d0) (NB.da NB.de (NB.da (NB.da NB.de (NB.da NB.de (NB.dl dg (Sub.refl _) a3))) NB.de))) (NB.da (NB.dl bB (Sub.refl _) cq) (NB.da NB.de (NB.da (NB.da NB.de (NB.da NB.de (NB.dl bB d a3))) NB.de)))) NB.d0) NB.d0) (((b.trans c).trans d).trans af))⟩
       ·refine ifB a (λe9 a=>?_) λe9 a=>?_
        ·refine trM a (i9 _ [.int .i64 e,.int .i64 f,.slice n g.length o] (e,f,g) (z0 l m (D0.mono (c.trans d) w)) D p.length E p (M0.mono ((b.trans c).trans d) B)) ?_
         rintro hU a lk gk ⟨j2,rfl,aK⟩
         obtain⟨lJ,lK⟩:=hU
         dsimp only at a aK
         have au:Sub M gk:=aK.sub
         have gE:=aK.r
         obtain⟨hV,hW,dR,kN,ea,hX,rfl,rfl,fU,fV,gF⟩:=B0 gE
         obtain⟨rfl,kr⟩:=Sl.len gF
         try dsimp only at a
         have g2:=New.sndI (New.sndI (aK))
         refine ifB a (λfa a=>?_) λfa a=>?_
         ·obtain rfl:=oJ a
          exact⟨([.int .i64 0,.int .i64 0,.slice none 0 0,.slice none 0 0,.slice none 0 0,.int .i64 0,.int .i64 0,.slice none 0 0,.int .i64 0]),rfl,(NB.fin (NB.pair (NB.int (by decide)) (NB.pair (NB.int (by decide)) (NB.pair (NB.nil (r:=M0)) (NB.pair (NB.nil (r:=Wp.int)) (NB.pair (NB.nil (r:=Wp.int)) (NB.pair (NB.pair (NB.int (by decide)) (NB.pair (NB.int (by decide)) (NB.nil (r:=R0)) NB.d0) NB.d0) (NB.int (by decide)) NB.de) NB.d0) NB.d0) NB.d0) NB.d0) NB.d0) (((b.trans c).trans d).trans au))⟩
         ·obtain rfl:=oJ a
          obtain⟨iT,bC,ep,_⟩:=y
          obtain⟨iU,dh,cr,_⟩:=H
          obtain⟨iV,hm,a4,_⟩:=g2
          exact⟨([.int .i64 t,.int .i64 s,.slice z C.length A,.slice (some ⟨F,0,none⟩) J.length I,.slice none 0 0,.int .i64 hV,.int .i64 hW,.slice dR hX.length ea,.int .i64 0]),rfl,(NB.fin (NB.pair (NB.int x) (NB.pair (NB.int u) (NB.pair (NB.mk bC (d.trans au) ep b) (NB.pair (NB.mk dh au cr (b.trans c)) (NB.pair (NB.nil (r:=Wp.int)) (NB.pair (NB.pair (NB.int fU) (NB.pair (NB.int fV) (NB.mk hm (Sub.refl _) a4 ((b.trans c).trans d)) NB.d0) NB.d0) (NB.int (by decide)) NB.de) NB.d0) (NB.da NB.de (NB.da (NB.da NB.de (NB.da NB.de (NB.dl dh (Sub.refl _) a4))) NB.de))) (NB.da (NB.dl bC (Sub.refl _) cr) (NB.da NB.de (NB.da (NB.da NB.de (NB.da NB.de (NB.dl bC d a4))) NB.de)))) NB.d0) NB.d0) (((b.trans c).trans d).trans au))⟩
        ·refine ifB a (λfb a=>?_) λfb a=>?_
         ·refine trV a (q04 _ [.int .i64 e,.int .i64 f,.slice n g.length o] (e,f,g) (z0 l m (D0.mono (c.trans d) w))) λdH a=>?_
          obtain⟨k4,eN,a⟩:=C0 a
          have fW:I0 dH:=K1 eN
          refine ifB a (λfd a=>?_) λfd a=>?_
          ·obtain rfl:=oJ a
           exact⟨([.int .i64 0,.int .i64 0,.slice none 0 0,.slice none 0 0,.slice none 0 0,.int .i64 0,.int .i64 0,.slice none 0 0,.int .i64 0]),rfl,(NB.fin (NB.pair (NB.int (by decide)) (NB.pair (NB.int (by decide)) (NB.pair (NB.nil (r:=M0)) (NB.pair (NB.nil (r:=Wp.int)) (NB.pair (NB.nil (r:=Wp.int)) (NB.pair (NB.pair (NB.int (by decide)) (NB.pair (NB.int (by decide)) (NB.nil (r:=R0)) NB.d0) NB.d0) (NB.int (by decide)) NB.de) NB.d0) NB.d0) NB.d0) NB.d0) NB.d0) ((b.trans c).trans d))⟩
          ·obtain rfl:=oJ a
           obtain⟨iW,di,cs,_⟩:=y
           obtain⟨iX,hn,a5,_⟩:=H
           obtain⟨iY,bD,eq,_⟩:=G
           exact⟨([.int .i64 t,.int .i64 s,.slice z C.length A,.slice (some ⟨F,0,none⟩) J.length I,.slice none 0 0,.int .i64 e,.int .i64 f,.slice n g.length o,.int .i64 dH]),rfl,(NB.fin (NB.pair (NB.int x) (NB.pair (NB.int u) (NB.pair (NB.mk di d cs b) (NB.pair (NB.mk hn (Sub.refl _) a5 (b.trans c)) (NB.pair (NB.nil (r:=Wp.int)) (NB.pair (NB.pair (NB.int l) (NB.pair (NB.int m) (NB.mk bD (c.trans d) eq (Sub.refl _)) NB.d0) NB.d0) (NB.int fW) NB.de) NB.d0) (NB.da NB.de (NB.da (NB.da NB.de (NB.da NB.de (NB.dr bD c a5))) NB.de))) (NB.da (NB.dl di (Sub.refl _) a5) (NB.da NB.de (NB.da (NB.da NB.de (NB.da NB.de (NB.dr bD (Sub.refl _) cs))) NB.de)))) NB.d0) NB.d0) ((b.trans c).trans d))⟩
         ·refine ifB a (λfe a=>?_) λfe a=>?_
          ·refine trV a (S03 _ [.int .i64 e,.int .i64 f,.slice n g.length o] (e,f,g) (z0 l m (D0.mono (c.trans d) w))) λdI a=>?_
           obtain⟨k5,eO,a⟩:=C0 a
           have fX:I0 dI:=K1 eO
           refine ifB a (λff a=>?_) λff a=>?_
           ·obtain rfl:=oJ a
            exact⟨([.int .i64 0,.int .i64 0,.slice none 0 0,.slice none 0 0,.slice none 0 0,.int .i64 0,.int .i64 0,.slice none 0 0,.int .i64 0]),rfl,(NB.fin (NB.pair (NB.int (by decide)) (NB.pair (NB.int (by decide)) (NB.pair (NB.nil (r:=M0)) (NB.pair (NB.nil (r:=Wp.int)) (NB.pair (NB.nil (r:=Wp.int)) (NB.pair (NB.pair (NB.int (by decide)) (NB.pair (NB.int (by decide)) (NB.nil (r:=R0)) NB.d0) NB.d0) (NB.int (by decide)) NB.de) NB.d0) NB.d0) NB.d0) NB.d0) NB.d0) ((b.trans c).trans d))⟩
           ·obtain rfl:=oJ a
            obtain⟨i0,dj,cu,_⟩:=y
            obtain⟨i1,ho,a6,_⟩:=H
            obtain⟨i2,bF,er,_⟩:=G
            exact⟨([.int .i64 t,.int .i64 s,.slice z C.length A,.slice (some ⟨F,0,none⟩) J.length I,.slice none 0 0,.int .i64 e,.int .i64 f,.slice n g.length o,.int .i64 dI]),rfl,(NB.fin (NB.pair (NB.int x) (NB.pair (NB.int u) (NB.pair (NB.mk dj d cu b) (NB.pair (NB.mk ho (Sub.refl _) a6 (b.trans c)) (NB.pair (NB.nil (r:=Wp.int)) (NB.pair (NB.pair (NB.int l) (NB.pair (NB.int m) (NB.mk bF (c.trans d) er (Sub.refl _)) NB.d0) NB.d0) (NB.int fX) NB.de) NB.d0) (NB.da NB.de (NB.da (NB.da NB.de (NB.da NB.de (NB.dr bF c a6))) NB.de))) (NB.da (NB.dl dj (Sub.refl _) a6) (NB.da NB.de (NB.da (NB.da NB.de (NB.da NB.de (NB.dr bF (Sub.refl _) cu))) NB.de)))) NB.d0) NB.d0) ((b.trans c).trans d))⟩
          ·refine ifB a (λfg a=>?_) λfg a=>?_
           ·obtain rfl:=oJ a
            exact⟨([.int .i64 0,.int .i64 0,.slice none 0 0,.slice none 0 0,.slice none 0 0,.int .i64 0,.int .i64 0,.slice none 0 0,.int .i64 0]),rfl,(NB.fin (NB.pair (NB.int (by decide)) (NB.pair (NB.int (by decide)) (NB.pair (NB.nil (r:=M0)) (NB.pair (NB.nil (r:=Wp.int)) (NB.pair (NB.nil (r:=Wp.int)) (NB.pair (NB.pair (NB.int (by decide)) (NB.pair (NB.int (by decide)) (NB.nil (r:=R0)) NB.d0) NB.d0) (NB.int (by decide)) NB.de) NB.d0) NB.d0) NB.d0) NB.d0) NB.d0) ((b.trans c).trans d))⟩
           ·obtain rfl:=oJ a
            obtain⟨i3,dk,cv,_⟩:=y
            obtain⟨i5,hp,ba,_⟩:=H
            obtain⟨i6,bG,es,_⟩:=G
            exact⟨([.int .i64 t,.int .i64 s,.slice z C.length A,.slice (some ⟨F,0,none⟩) J.length I,.slice none 0 0,.int .i64 e,.int .i64 f,.slice n g.length o,.int .i64 0]),rfl,(NB.fin (NB.pair (NB.int x) (NB.pair (NB.int u) (NB.pair (NB.mk dk d cv b) (NB.pair (NB.mk hp (Sub.refl _) ba (b.trans c)) (NB.pair (NB.nil (r:=Wp.int)) (NB.pair (NB.pair (NB.int l) (NB.pair (NB.int m) (NB.mk bG (c.trans d) es (Sub.refl _)) NB.d0) NB.d0) (NB.int (by decide)) NB.de) NB.d0) (NB.da NB.de (NB.da (NB.da NB.de (NB.da NB.de (NB.dr bG c ba))) NB.de))) (NB.da (NB.dl dk (Sub.refl _) ba) (NB.da NB.de (NB.da (NB.da NB.de (NB.da NB.de (NB.dr bG (Sub.refl _) cv))) NB.de)))) NB.d0) NB.d0) ((b.trans c).trans d))⟩
    ·skip
     refine aI trivial (aI (by first|exact trivial|exact rfl) ?_)
     refine aI trivial (aI (by first|exact trivial|exact rfl) ?_)
     refine aI trivial (aI (by first|exact trivial|exact rfl) ?_)
     refine ifB a (λfh a=>?_) λfh a=>?_
     ·refine trM a (R02 _ [.int .i64 e,.int .i64 f,.slice n g.length o] (e,f,g) (z0 l m (D0.mono (c.trans d) w)) D p.length E p (M0.mono ((b.trans c).trans d) B)) ?_
      rintro hY a ll gl ⟨dS,kO,eb,rfl,aL⟩
      obtain⟨hZ,lL⟩:=hY
      dsimp only at a aL
      have ag:Sub M gl:=aL.sub
      have gG:=aL.r
      obtain⟨rfl,ks⟩:=Sl.len gG
      refine ifB a (λfi a=>?_) λfi a=>?_
      ·obtain rfl:=oJ a
       exact⟨([.int .i64 0,.int .i64 0,.slice none 0 0,.slice none 0 0,.slice none 0 0,.int .i64 0,.int .i64 0,.slice none 0 0,.int .i64 0]),rfl,(NB.fin (NB.pair (NB.int (by decide)) (NB.pair (NB.int (by decide)) (NB.pair (NB.nil (r:=M0)) (NB.pair (NB.nil (r:=Wp.int)) (NB.pair (NB.nil (r:=Wp.int)) (NB.pair (NB.pair (NB.int (by decide)) (NB.pair (NB.int (by decide)) (NB.nil (r:=R0)) NB.d0) NB.d0) (NB.int (by decide)) NB.de) NB.d0) NB.d0) NB.d0) NB.d0) NB.d0) (((b.trans c).trans d).trans ag))⟩
      ·obtain rfl:=oJ a
       obtain⟨jb,bH,cw,_⟩:=y
       obtain⟨jc,dn,bc,_⟩:=H
       obtain⟨jd,hq,am,_⟩:=aL
       obtain⟨je,aB,et,_⟩:=G
       exact⟨([.int .i64 t,.int .i64 s,.slice z C.length A,.slice (some ⟨F,0,none⟩) J.length I,.slice dS hZ.length eb,.int .i64 e,.int .i64 f,.slice n g.length o,.int .i64 0]),rfl,(NB.fin (NB.pair (NB.int x) (NB.pair (NB.int u) (NB.pair (NB.mk bH (d.trans ag) cw b) (NB.pair (NB.mk dn ag bc (b.trans c)) (NB.pair (NB.mk hq (Sub.refl _) am ((b.trans c).trans d)) (NB.pair (NB.pair (NB.int l) (NB.pair (NB.int m) (NB.mk aB ((c.trans d).trans ag) et (Sub.refl _)) NB.d0) NB.d0) (NB.int (by decide)) NB.de) (NB.da (NB.da NB.de (NB.da NB.de (NB.dr aB (c.trans d) am))) NB.de)) (NB.da (NB.dl dn (Sub.refl _) am) (NB.da (NB.da NB.de (NB.da NB.de (NB.dr aB c bc))) NB.de))) (NB.da (NB.dl bH (Sub.refl _) bc) (NB.da (NB.dl bH d am) (NB.da (NB.da NB.de (NB.da NB.de (NB.dr aB (Sub.refl _) cw))) NB.de)))) NB.d0) NB.d0) (((b.trans c).trans d).trans ag))⟩
     ·refine ifB a (λfj a=>?_) λfj a=>?_
      ·refine trM a (S00 _ [.int .i64 e,.int .i64 f,.slice n g.length o] (e,f,g) (z0 l m (D0.mono (c.trans d) w)) D p.length E p (M0.mono ((b.trans c).trans d) B)) ?_
       rintro h0 a lm gm ⟨j3,rfl,aM⟩
       obtain⟨lM,lN⟩:=h0
       dsimp only at a aM
       have av:Sub M gm:=aM.sub
       have gH:=aM.r
       obtain⟨h1,h2,dT,kP,ec,h3,rfl,rfl,fY,fZ,gI⟩:=B0 gH
       obtain⟨rfl,kt⟩:=Sl.len gI
       try dsimp only at a
       have g3:=New.sndI (New.sndI (aM))
       refine ifB a (λfk a=>?_) λfk a=>?_
       ·obtain rfl:=oJ a
        exact⟨([.int .i64 0,.int .i64 0,.slice none 0 0,.slice none 0 0,.slice none 0 0,.int .i64 0,.int .i64 0,.slice none 0 0,.int .i64 0]),rfl,(NB.fin (NB.pair (NB.int (by decide)) (NB.pair (NB.int (by decide)) (NB.pair (NB.nil (r:=M0)) (NB.pair (NB.nil (r:=Wp.int)) (NB.pair (NB.nil (r:=Wp.int)) (NB.pair (NB.pair (NB.int (by decide)) (NB.pair (NB.int (by decide)) (NB.nil (r:=R0)) NB.d0) NB.d0) (NB.int (by decide)) NB.de) NB.d0) NB.d0) NB.d0) NB.d0) NB.d0) (((b.trans c).trans d).trans av))⟩
       ·obtain rfl:=oJ a
        obtain⟨jg,bI,eu,_⟩:=y
        obtain⟨jh,dq,cx,_⟩:=H
        obtain⟨ji,hs,bd,_⟩:=g3
        exact⟨([.int .i64 t,.int .i64 s,.slice z C.length A,.slice (some ⟨F,0,none⟩) J.length I,.slice none 0 0,.int .i64 h1,.int .i64 h2,.slice dT h3.length ec,.int .i64 0]),rfl,(NB.fin (NB.pair (NB.int x) (NB.pair (NB.int u) (NB.pair (NB.mk bI (d.trans av) eu b) (NB.pair (NB.mk dq av cx (b.trans c)) (NB.pair (NB.nil (r:=Wp.int)) (NB.pair (NB.pair (NB.int fY) (NB.pair (NB.int fZ) (NB.mk hs (Sub.refl _) bd ((b.trans c).trans d)) NB.d0) NB.d0) (NB.int (by decide)) NB.de) NB.d0) (NB.da NB.de (NB.da (NB.da NB.de (NB.da NB.de (NB.dl dq (Sub.refl _) bd))) NB.de))) (NB.da (NB.dl bI (Sub.refl _) cx) (NB.da NB.de (NB.da (NB.da NB.de (NB.da NB.de (NB.dl bI d bd))) NB.de)))) NB.d0) NB.d0) (((b.trans c).trans d).trans av))⟩
      ·refine ifB a (λfl a=>?_) λfl a=>?_
       ·refine trM a (j03 _ _ _ (z0 l m (D0.mono (c.trans d) w)) _ _ _ _ (M0.mono ((b.trans c).trans d) B)) ?_
        rintro h4 a ln gn ⟨kb,rfl,aO⟩
        obtain⟨lQ,lR⟩:=h4
        dsimp only at a aO
        have ah:Sub M gn:=aO.sub
        have gK:=aO.r
        obtain⟨b0,b1,cb,kR,cg,b2,rfl,rfl,cP,cQ,cZ⟩:=B0 gK
        obtain⟨rfl,kv⟩:=Sl.len cZ
        try dsimp only at a
        have g4:=New.sndI (New.sndI (aO))
        refine trG a (λq=>n00 _ [.int .i64 b0,.int .i64 b1,.slice cb b2.length cg] (b0,b1,b2) (z0 cP cQ cZ) [.int .i64 e,.int .i64 f,.slice n g.length o] (e,f,g) (z0 l m (D0.mono ((c.trans d).trans ah) w))) λlS a=>?_
        refine ifB a (λfm a=>?_) λfm a=>?_
        ·obtain rfl:=oJ a
         exact⟨([.int .i64 0,.int .i64 0,.slice none 0 0,.slice none 0 0,.slice none 0 0,.int .i64 0,.int .i64 0,.slice none 0 0,.int .i64 0]),rfl,(NB.fin (NB.pair (NB.int (by decide)) (NB.pair (NB.int (by decide)) (NB.pair (NB.nil (r:=M0)) (NB.pair (NB.nil (r:=Wp.int)) (NB.pair (NB.nil (r:=Wp.int)) (NB.pair (NB.pair (NB.int (by decide)) (NB.pair (NB.int (by decide)) (NB.nil (r:=R0)) NB.d0) NB.d0) (NB.int (by decide)) NB.de) NB.d0) NB.d0) NB.d0) NB.d0) NB.d0) (((b.trans c).trans d).trans ah))⟩
        ·obtain rfl:=oJ a
         obtain⟨jk,bJ,ex,_⟩:=y
         obtain⟨jl,ds,cy,_⟩:=H
         obtain⟨jm,ht,be,_⟩:=g4
         exact⟨([.int .i64 t,.int .i64 s,.slice z C.length A,.slice (some ⟨F,0,none⟩) J.length I,.slice none 0 0,.int .i64 b0,.int .i64 b1,.slice cb b2.length cg,.int .i64 0]),rfl,(NB.fin (NB.pair (NB.int x) (NB.pair (NB.int u) (NB.pair (NB.mk bJ (d.trans ah) ex b) (NB.pair (NB.mk ds ah cy (b.trans c)) (NB.pair (NB.nil (r:=Wp.int)) (NB.pair (NB.pair (NB.int cP) (NB.pair (NB.int cQ) (NB.mk ht (Sub.refl _) be ((b.trans c).trans d)) NB.d0) NB.d0) (NB.int (by decide)) NB.de) NB.d0) (NB.da NB.de (NB.da (NB.da NB.de (NB.da NB.de (NB.dl ds (Sub.refl _) be))) NB.de))) (NB.da (NB.dl bJ (Sub.refl _) cy) (NB.da NB.de (NB.da (NB.da NB.de (NB.da NB.de (NB.dl bJ d be))) NB.de)))) NB.d0) NB.d0) (((b.trans c).trans d).trans ah))⟩
       ·refine ifB a (λfo a=>?_) λfo a=>?_
        ·refine trM a (i9 _ [.int .i64 e,.int .i64 f,.slice n g.length o] (e,f,g) (z0 l m (D0.mono (c.trans d) w)) D p.length E p (M0.mono ((b.trans c).trans d) B)) ?_
         rintro h5 a lo go ⟨kc,rfl,aP⟩
         obtain⟨lT,lU⟩:=h5
         dsimp only at a aP
         have aw:Sub M go:=aP.sub
         have gL:=aP.r
         obtain⟨h6,h7,dU,kS,ed,h8,rfl,rfl,f0,f1,gM⟩:=B0 gL
         obtain⟨rfl,kw⟩:=Sl.len gM
         try dsimp only at a
         have g5:=New.sndI (New.sndI (aP))
         refine ifB a (λfq a=>?_) λfq a=>?_
         ·obtain rfl:=oJ a
          exact⟨([.int .i64 0,.int .i64 0,.slice none 0 0,.slice none 0 0,.slice none 0 0,.int .i64 0,.int .i64 0,.slice none 0 0,.int .i64 0]),rfl,(NB.fin (NB.pair (NB.int (by decide)) (NB.pair (NB.int (by decide)) (NB.pair (NB.nil (r:=M0)) (NB.pair (NB.nil (r:=Wp.int)) (NB.pair (NB.nil (r:=Wp.int)) (NB.pair (NB.pair (NB.int (by decide)) (NB.pair (NB.int (by decide)) (NB.nil (r:=R0)) NB.d0) NB.d0) (NB.int (by decide)) NB.de) NB.d0) NB.d0) NB.d0) NB.d0) NB.d0) (((b.trans c).trans d).trans aw))⟩
         ·obtain rfl:=oJ a
          obtain⟨jn,bK,ey,_⟩:=y
          obtain⟨jo,dt,cz,_⟩:=H
          obtain⟨jp,hu,bf,_⟩:=g5
          exact⟨([.int .i64 t,.int .i64 s,.slice z C.length A,.slice (some ⟨F,0,none⟩) J.length I,.slice none 0 0,.int .i64 h6,.int .i64 h7,.slice dU h8.length ed,.int .i64 0]),rfl,(NB.fin (NB.pair (NB.int x) (NB.pair (NB.int u) (NB.pair (NB.mk bK (d.trans aw) ey b) (NB.pair (NB.mk dt aw cz (b.trans c)) (NB.pair (NB.nil (r:=Wp.int)) (NB.pair (NB.pair (NB.int f0) (NB.pair (NB.int f1) (NB.mk hu (Sub.refl _) bf ((b.trans c).trans d)) NB.d0) NB.d0) (NB.int (by decide)) NB.de) NB.d0) (NB.da NB.de (NB.da (NB.da NB.de (NB.da NB.de (NB.dl dt (Sub.refl _) bf))) NB.de))) (NB.da (NB.dl bK (Sub.refl _) cz) (NB.da NB.de (NB.da (NB.da NB.de (NB.da NB.de (NB.dl bK d bf))) NB.de)))) NB.d0) NB.d0) (((b.trans c).trans d).trans aw))⟩
        ·refine ifB a (λfs a=>?_) λfs a=>?_
         ·refine trV a (q04 _ [.int .i64 e,.int .i64 f,.slice n g.length o] (e,f,g) (z0 l m (D0.mono (c.trans d) w))) λdJ a=>?_
          obtain⟨k6,eP,a⟩:=C0 a
          have f4:I0 dJ:=K1 eP
          refine ifB a (λft a=>?_) λft a=>?_
          ·obtain rfl:=oJ a
           exact⟨([.int .i64 0,.int .i64 0,.slice none 0 0,.slice none 0 0,.slice none 0 0,.int .i64 0,.int .i64 0,.slice none 0 0,.int .i64 0]),rfl,(NB.fin (NB.pair (NB.int (by decide)) (NB.pair (NB.int (by decide)) (NB.pair (NB.nil (r:=M0)) (NB.pair (NB.nil (r:=Wp.int)) (NB.pair (NB.nil (r:=Wp.int)) (NB.pair (NB.pair (NB.int (by decide)) (NB.pair (NB.int (by decide)) (NB.nil (r:=R0)) NB.d0) NB.d0) (NB.int (by decide)) NB.de) NB.d0) NB.d0) NB.d0) NB.d0) NB.d0) ((b.trans c).trans d))⟩
          ·obtain rfl:=oJ a
           obtain⟨jq,du,cA,_⟩:=y
           obtain⟨jr,hv,bg,_⟩:=H
           obtain⟨js,bL,ez,_⟩:=G
           exact⟨([.int .i64 t,.int .i64 s,.slice z C.length A,.slice (some ⟨F,0,none⟩) J.length I,.slice none 0 0,.int .i64 e,.int .i64 f,.slice n g.length o,.int .i64 dJ]),rfl,(NB.fin (NB.pair (NB.int x) (NB.pair (NB.int u) (NB.pair (NB.mk du d cA b) (NB.pair (NB.mk hv (Sub.refl _) bg (b.trans c)) (NB.pair (NB.nil (r:=Wp.int)) (NB.pair (NB.pair (NB.int l) (NB.pair (NB.int m) (NB.mk bL (c.trans d) ez (Sub.refl _)) NB.d0) NB.d0) (NB.int f4) NB.de) NB.d0) (NB.da NB.de (NB.da (NB.da NB.de (NB.da NB.de (NB.dr bL c bg))) NB.de))) (NB.da (NB.dl du (Sub.refl _) bg) (NB.da NB.de (NB.da (NB.da NB.de (NB.da NB.de (NB.dr bL (Sub.refl _) cA))) NB.de)))) NB.d0) NB.d0) ((b.trans c).trans d))⟩
         ·refine ifB a (λfu a=>?_) λfu a=>?_
          ·refine trV a (S03 _ [.int .i64 e,.int .i64 f,.slice n g.length o] (e,f,g) (z0 l m (D0.mono (c.trans d) w))) λdK a=>?_
           obtain⟨k7,eQ,a⟩:=C0 a
           have f5:I0 dK:=K1 eQ
           refine ifB a (λfv a=>?_) λfv a=>?_
           ·obtain rfl:=oJ a
            exact⟨([.int .i64 0,.int .i64 0,.slice none 0 0,.slice none 0 0,.slice none 0 0,.int .i64 0,.int .i64 0,.slice none 0 0,.int .i64 0]),rfl,(NB.fin (NB.pair (NB.int (by decide)) (NB.pair (NB.int (by decide)) (NB.pair (NB.nil (r:=M0)) (NB.pair (NB.nil (r:=Wp.int)) (NB.pair (NB.nil (r:=Wp.int)) (NB.pair (NB.pair (NB.int (by decide)) (NB.pair (NB.int (by decide)) (NB.nil (r:=R0)) NB.d0) NB.d0) (NB.int (by decide)) NB.de) NB.d0) NB.d0) NB.d0) NB.d0) NB.d0) ((b.trans c).trans d))⟩
           ·obtain rfl:=oJ a
            obtain⟨jt,dv,cC,_⟩:=y
            obtain⟨ju,hw,bh,_⟩:=H
            obtain⟨jv,bM,eA,_⟩:=G
            exact⟨([.int .i64 t,.int .i64 s,.slice z C.length A,.slice (some ⟨F,0,none⟩) J.length I,.slice none 0 0,.int .i64 e,.int .i64 f,.slice n g.length o,.int .i64 dK]),rfl,(NB.fin (NB.pair (NB.int x) (NB.pair (NB.int u) (NB.pair (NB.mk dv d cC b) (NB.pair (NB.mk hw (Sub.refl _) bh (b.trans c)) (NB.pair (NB.nil (r:=Wp.int)) (NB.pair (NB.pair (NB.int l) (NB.pair (NB.int m) (NB.mk bM (c.trans d) eA (Sub.refl _)) NB.d0) NB.d0) (NB.int f5) NB.de) NB.d0) (NB.da NB.de (NB.da (NB.da NB.de (NB.da NB.de (NB.dr bM c bh))) NB.de))) (NB.da (NB.dl dv (Sub.refl _) bh) (NB.da NB.de (NB.da (NB.da NB.de (NB.da NB.de (NB.dr bM (Sub.refl _) cC))) NB.de)))) NB.d0) NB.d0) ((b.trans c).trans d))⟩
          ·refine ifB a (λfw a=>?_) λfw a=>?_
           ·obtain rfl:=oJ a
            exact⟨([.int .i64 0,.int .i64 0,.slice none 0 0,.slice none 0 0,.slice none 0 0,.int .i64 0,.int .i64 0,.slice none 0 0,.int .i64 0]),rfl,(NB.fin (NB.pair (NB.int (by decide)) (NB.pair (NB.int (by decide)) (NB.pair (NB.nil (r:=M0)) (NB.pair (NB.nil (r:=Wp.int)) (NB.pair (NB.nil (r:=Wp.int)) (NB.pair (NB.pair (NB.int (by decide)) (NB.pair (NB.int (by decide)) (NB.nil (r:=R0)) NB.d0) NB.d0) (NB.int (by decide)) NB.de) NB.d0) NB.d0) NB.d0) NB.d0) NB.d0) ((b.trans c).trans d))⟩
           ·obtain rfl:=oJ a
            obtain⟨jw,dw,cD,_⟩:=y
            obtain⟨jx,hx,bi,_⟩:=H
            obtain⟨jy,bN,eB,_⟩:=G
            exact⟨([.int .i64 t,.int .i64 s,.slice z C.length A,.slice (some ⟨F,0,none⟩) J.length I,.slice none 0 0,.int .i64 e,.int .i64 f,.slice n g.length o,.int .i64 0]),rfl,(NB.fin (NB.pair (NB.int x) (NB.pair (NB.int u) (NB.pair (NB.mk dw d cD b) (NB.pair (NB.mk hx (Sub.refl _) bi (b.trans c)) (NB.pair (NB.nil (r:=Wp.int)) (NB.pair (NB.pair (NB.int l) (NB.pair (NB.int m) (NB.mk bN (c.trans d) eB (Sub.refl _)) NB.d0) NB.d0) (NB.int (by decide)) NB.de) NB.d0) (NB.da NB.de (NB.da (NB.da NB.de (NB.da NB.de (NB.dr bN c bi))) NB.de))) (NB.da (NB.dl dw (Sub.refl _) bi) (NB.da NB.de (NB.da (NB.da NB.de (NB.da NB.de (NB.dr bN (Sub.refl _) cD))) NB.de)))) NB.d0) NB.d0) ((b.trans c).trans d))⟩
end Go.Proofs.YtkjhghloldgioaaGreat
