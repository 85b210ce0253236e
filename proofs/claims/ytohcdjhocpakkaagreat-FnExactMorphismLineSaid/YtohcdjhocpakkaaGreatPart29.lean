/- Texts of the claim, joined: The walks of batch mo1 and others. -/
import Derived.Test.YtohcdjhocpakkaaGreatPart19
import Derived.Test.YtohcdjhocpakkaaGreatChecked
import Derived.Test.YtohcdjhocpakkaaGreatH35
import Derived.Test.YtohcdjhocpakkaaGreatPart27
import Derived.Test.YtohcdjhocpakkaaGreatPart18
import Derived.Test.YtohcdjhocpakkaaGreatH36
import Derived.Test.YtohcdjhocpakkaaGreatPart22
import Derived.Test.YtohcdjhocpakkaaGreatH46
import Derived.Test.YtohcdjhocpakkaaGreatSE
import Derived.Test.YtohcdjhocpakkaaGreatH40
import Derived.Test.YtohcdjhocpakkaaGreatH41
namespace Go.Proofs.YtohcdjhocpakkaaGreat
open Go.H
set_option linter.unusedVariables false
set_option linter.unusedSimpArgs false
set_option maxRecDepth 10000
set_option maxHeartbeats 0
theorem F01(h:Hp)(m:List Value)(o:H1)(C:D3.R h m o)(r:Bool)(b:Y6 o=some r):
  Tr Tryz.prog 10 #[.agg m.toArray] h λv i=>v = .bool r/\i=h:=by
 obtain⟨d,s,J,u,j,rfl,rfl,n,p⟩:=V2 C
 obtain⟨rfl,H⟩:=Sl.len p
 unfold Y6 at b
 dsimp only at b
 refine Tr.forget (G2 (args:=[.agg #[.int .i64 d,.slice s j.length u]]) (fn:=Tryz.f10) rfl ?_)
 obtain⟨l,y,b⟩:=B0 b
 refine eX { vars:=[3],boxes:=[],owns:=[],fuel:=true } (eX (λvs os i=>∃ c,vs.tail = [.int .i64 c]/\os = []/\Sub h i/\K0 c/\S5 j d (J1 vs) c=some l) (eX (λ_ _=>0) (aI (eX Q0 ⟨0,rfl,rfl,(Sub.refl _),(by decide),y⟩) ?_)))
 rintro _ f G ⟨c,⟨⟩,⟨⟩,g,F,a⟩
 replace a:S5 j d f c=some l:=a
 obtain _|f:=f
 ·cases a
 rw[S5.eq_2]at a
 refine ifB a (λz a=>?_) λz a=>?_
 ·refine Or.inl (aI (aI (by kernel_rfl) (by kernel_rfl)) ?_)
  refine ld a (Y0.mono g p) λq E k a=>?_
  obtain⟨t,K,w,rfl⟩:=Wp.slice_cell k
  obtain⟨rfl,I⟩:=Sl.len k
  obtain⟨D,x,a⟩:=B0 a
  refine eX (.bool D) (aI (L05 _ d n t q.length w q k _  x) ?_)
  refine ifB a (λA a=>?_) λA a=>?_
  ·obtain rfl:=oJ a
   try dsimp only[L1,M1]at b
   obtain rfl:=oJ b
   exact aI rfl g
  ·exact I2 f ⟨(IntKind.i64.wrap (c+1)),rfl,rfl,g,(I0 _),a⟩
 ·obtain rfl:=oJ a
  try dsimp only[S0,W0]at b
  refine trV b (c5 _ d n 1 (by decide) 3 (by decide)) λL b=>?_
  obtain rfl:=oJ b
  exact aI rfl g
theorem n03(h:Hp)(u:List Value)(y:H1)(ai:D3.R h u y)(r:ByteArray)(b:o7 y=some r):
  Tr Tryz.prog 11 #[.agg u.toArray] h λv j=>v = .string r/\j=h:=by
 obtain⟨k,C,ax,F,l,rfl,rfl,ac,i⟩:=V2 ai
 obtain⟨rfl,au⟩:=Sl.len i
 unfold o7 at b
 dsimp only at b
 refine Tr.forget (G2 (args:=[.agg #[.int .i64 k,.slice C l.length F]]) (fn:=Tryz.f11) rfl ?_)
 refine trV b (F01 _ _ _ (U0 ac i)) λaM b=>?_
 refine ifB b (λZ b=>?_) λZ b=>?_
 ·obtain rfl:=oJ b
  exact aI rfl (Sub.refl _)
 ·obtain⟨t,Y,b⟩:=B0 b
  refine eX { vars:=[3,4],boxes:=[],owns:=[],fuel:=true } (eX (λvs os j=>∃ d c,vs.tail = [.string d,.int .i64 c]/\os = []/\Sub h j/\d.size<=9223372036854775807/\K0 c/\G3 k l (J1 vs) d c=some t) (eX (λ_ _=>0) (aI (eX Q0 ⟨(⟨#[]⟩:ByteArray),0,rfl,rfl,(Sub.refl _),(by decide),(by decide),Y⟩) ?_)))
  rintro _ _ f ar ⟨d,c,⟨⟩,⟨⟩,g,al,am,a⟩
  replace a:G3 k l f d c=some t:=a
  obtain _|f:=f
  ·cases a
  rw[G3.eq_2]at a
  refine ifB a (λaa a=>?_) λaa a=>?_
  ·refine ifB a (λab a=>?_) λab a=>?_
   ·obtain⟨aA,I,a⟩:=B0 a
    have ad:=T0 I
    refine aI ad ?_
    refine Or.inl (aI (aI (by kernel_rfl) (by kernel_rfl)) ?_)
    obtain⟨o,U,a⟩:=B0 a
    refine eX (.string o) (aI (N05 _ (IntKind.i64.wrap (c+1)) (I0 _) _  U) ?_)
    obtain⟨aB,J,a⟩:=B0 a
    have an:o.size<=9223372036854775807:=T0 J
    obtain⟨aC,K,a⟩:=B0 a
    have ae:=T0 K
    refine aI ae ?_
    obtain⟨aD,L,a⟩:=B0 a
    have af:=T0 L
    refine aI af ?_
    refine ld a (Y0.mono g i) λz aj m a=>?_
    obtain⟨D,ay,G,rfl⟩:=Wp.slice_cell m
    obtain⟨rfl,av⟩:=Sl.len m
    obtain⟨p,V,a⟩:=B0 a
    refine eX (.string p) (aI (z05 _ D z.length G z m _  V) ?_)
    obtain⟨aE,M,a⟩:=B0 a
    have ao:p.size<=9223372036854775807:=T0 M
    obtain⟨aF,N,a⟩:=B0 a
    have w:=T0 N
    refine aI w ?_
    exact I2 f ⟨((((d++(⟨#[32]⟩:ByteArray))++o)++(⟨#[62]⟩:ByteArray))++p),(IntKind.i64.wrap (c+1)),rfl,rfl,g,(T04 w),(I0 _),a⟩
   ·refine Or.inl (aI (aI (by kernel_rfl) (by kernel_rfl)) ?_)
    obtain⟨q,W,a⟩:=B0 a
    refine eX (.string q) (aI (N05 _ (IntKind.i64.wrap (c+1)) (I0 _) _  W) ?_)
    obtain⟨aG,O,a⟩:=B0 a
    have ap:q.size<=9223372036854775807:=T0 O
    obtain⟨aH,P,a⟩:=B0 a
    have ag:=T0 P
    refine aI ag ?_
    obtain⟨aJ,Q,a⟩:=B0 a
    have ah:=T0 Q
    refine aI ah ?_
    refine ld a (Y0.mono g i) λA ak n a=>?_
    obtain⟨E,az,H,rfl⟩:=Wp.slice_cell n
    obtain⟨rfl,aw⟩:=Sl.len n
    obtain⟨s,X,a⟩:=B0 a
    refine eX (.string s) (aI (z05 _ E A.length H A n _  X) ?_)
    obtain⟨aK,S,a⟩:=B0 a
    have aq:s.size<=9223372036854775807:=T0 S
    obtain⟨aL,T,a⟩:=B0 a
    have x:=T0 T
    refine aI x ?_
    exact I2 f ⟨(((d++q)++(⟨#[62]⟩:ByteArray))++s),(IntKind.i64.wrap (c+1)),rfl,rfl,g,(T04 x),(I0 _),a⟩
  ·obtain rfl:=oJ a
   try dsimp only[S0,W0]at b
   obtain rfl:=oJ b
   exact aI rfl g
theorem s0f(h:Hp)(i:List Value)(j:j0)(o:U1.R h i j)(r:Bool)(a:Y01 j=some r):
  Tr Tryz.prog 35 #[.agg i.toArray] h λv l=>v = .bool r/\l=h:=by
 obtain⟨b,c,f,q,g,d,rfl,rfl,m,n,k⟩:=M0 o
 obtain⟨rfl,p⟩:=Sl.len k
 unfold Y01 at a
 dsimp only at a
 refine Tr.forget (G2 (args:=[.agg #[.int .i64 b,.int .i64 c,.slice f d.length g]]) (fn:=Tryz.f35) rfl ?_)
 refine trV a (B05 _ [.int .i64 b,.int .i64 c,.slice f d.length g] (b,c,d) (H0 m n k)) λs a=>?_
 obtain rfl:=oJ a
 exact aI rfl (Sub.refl _)
theorem i04(h:Hp)(g:List Value)(j:H1)(t:D3.R h g j)(r:Bool)(a:d8 j=some r):
  Tr Tryz.prog 15 #[.agg g.toArray] h λv o=>v = .bool r/\o=h:=by
 obtain⟨k,d,D,f,b,rfl,rfl,i,c⟩:=V2 t
 obtain⟨rfl,A⟩:=Sl.len c
 unfold d8 at a
 dsimp only at a
 refine Tr.forget (G2 (args:=[.agg #[.int .i64 k,.slice d b.length f]]) (fn:=Tryz.f15) rfl ?_)
 refine trM a (C05 _ k i d b.length f b c) ?_
 rintro u a F z ⟨x,rfl,l,n⟩
 obtain⟨G,K⟩:=u
 dsimp only at a l
 obtain⟨H,I,w,E,y,J,rfl,rfl,p,s,m⟩:=M0 l
 obtain⟨rfl,C⟩:=Sl.len m
 try dsimp only at a
 refine trV a (F01 _ _ _ (U0 i (Y0.mono n c))) λL a=>?_
 refine trG a (λq=>s0f _ _ _ (H0 p s m)) λM a=>?_
 obtain rfl:=oJ a
 exact aI rfl n
theorem r06(h:Hp)(d:Int)(s:K0 d)(r:H1×Bool)(b:b9 d=some r):
  Tr Tryz.prog 29 #[.int .i64 d] h λv i=>∃(q:List Value),v = .tuple #[.agg q.toArray,.bool r.2]/\D3.R i q r.1/\Sub h i:=by
 unfold b9 at b
 refine G2 (args:=[.int .i64 d]) (fn:=Tryz.f29) rfl ?_
 refine trV b (c5 _ d s 1 (by decide) 3 (by decide)) λS b=>?_
 refine ifB b (λF b=>?_) λF b=>?_
 ·obtain rfl:=oJ b
  exact⟨([.int .i64 0,.slice none 0 0]),rfl,(U0 (by decide) (Z02 C0 h)),(Sub.refl _)⟩
 ·obtain⟨p,E,b⟩:=B0 b
  refine eX { vars:=[5],boxes:=[1],owns:=[0],fuel:=true,nilsB:=[(1,1,40,1,24)] } (eX (λvs os i=>∃ a f m g,vs.tail = [.int .i64 a,.int .i64 f]/\os = [m]/\Sub h i/\K0 a/\K0 f/\F2 (C0.R i) m g/\H6 d (J1 vs) a f g=some p) (eX (λ_ _=>0) (aI (eX Q0 ⟨1,d,[],([]:N0),rfl,rfl,(Sub.refl _),(by decide),s,(show F2 (C0.R h) [] [] from trivial),E⟩) ?_)))
  rintro _ _ m k I ⟨a,f,T,g,⟨⟩,⟨⟩,x,H,t,j,c⟩
  replace c:H6 d k a f g=some p:=c
  obtain _|k:=k
  ·cases c
  rw[H6.eq_2]at c
  refine ifB c (λG c=>?_) λG c=>?_
  ·intro P u A
   obtain⟨n,o,rfl,w,l,M⟩:=V0.out (r:=Wp.int.toRp) A (show F2 (Wp.int.R I) ([[.int .i64 a]]:List (List Value)) [a] from⟨⟨rfl,H⟩,trivial⟩)
   obtain⟨O,D,c⟩:=B0 c
   refine aI (F1 D (by first|rw[F2.length (F2.up (r:=C0.toRp) l j),F2.length (show F2 (C0.R u) ([[.slice n ([a]).length o]]:List (List Value)) [[a]] from⟨w,trivial⟩)]|exact congrArg (·+1) (F2.length (F2.up (r:=C0.toRp) l j)))) ?_
   exact I2 k ⟨(IntKind.i64.wrap (a+1)),f,(m++([[.slice n ([a]).length o]]:List (List Value))),(g ++ [[a]]),rfl,rfl,(x.trans l),(I0 _),t,(F2.append (F2.up (r:=C0.toRp) l j) (show F2 (C0.R u) ([[.slice n ([a]).length o]]:List (List Value)) [[a]] from⟨w,trivial⟩)),c⟩
  ·obtain rfl:=oJ c
   try dsimp only[S0,W0]at b
   intro Q L C
   obtain⟨y,z,rfl,J,K,N⟩:=V0.out (r:=C0.toRp) C j
   obtain rfl:=oJ b
   exact⟨([.int .i64 f,.slice y g.length z]),rfl,(U0 t J),(x.trans K)⟩
theorem d0d(h:Hp)(b:Option Addr)(f c:Nat)(a:N0)(g:Y0.R h [.slice b f c] a)(r:Bool)(d:t01 a=some r):
  Tr Tryz.prog 52 #[.slice b f c] h λv i=>v = .bool r/\i=h:=by
 obtain⟨rfl,j⟩:=Sl.len g
 unfold t01 at d
 refine Tr.forget (G2 (args:=[.slice b a.length c]) (fn:=Tryz.f52) rfl ?_)
 refine trV d (g07 _ 3 (by decide) b a.length c a g) λk d=>?_
 obtain rfl:=oJ d
 exact aI rfl (Sub.refl _)
theorem B03(h:Hp)(I:Option Addr)(bf J:Nat)(E:N0)(O:Y0.R h [.slice I bf J] E)(a0:List Value)(bg:Q7)(cL:n00.R h a0 bg)(r:N0×Bool)(a:C3 E bg=some r):
  Tr Tryz.prog 54 #[.slice I bf J,.agg a0.toArray] h λv bc=>∃(aM:Option Addr) (be aZ:Nat),v = .tuple #[.slice aM be aZ,.bool r.2]/\Y0.R bc [.slice aM be aZ] r.1/\Sub h bc:=by
 obtain⟨rfl,eo⟩:=Sl.len O
 obtain⟨cJ,F,bh,cK,rfl,rfl,dQ,cv,cw,dR⟩:=e06 cL
 unfold C3 at a
 dsimp only at a
 refine G2 (args:=[.slice I E.length J,.agg #[.int .i64 cJ,.int .i64 F,.int .i64 bh,.int .i64 cK]]) (fn:=Tryz.f54) rfl ?_
 refine trM a (h03 _ I E.length J E O) ?_
 rintro w a fi b ⟨G,eK,l,rfl,aa⟩
 have i:Sub h b:=aa.sub
 have f:=aa.r
 obtain⟨rfl,ep⟩:=Sl.len f
 refine trV a (c5 _ F cv 0 (by decide) (IntKind.i64.wrap (((E.length:Nat):Int)-1)) (I0 _)) λfs a=>?_
 refine ifB a (λcq a=>?_) λcq a=>?_
 ·obtain rfl:=oJ a
  exact⟨G,w.length,l,rfl,f,i⟩
 ·refine ifB a (λcs a=>?_) λcs a=>?_
  ·refine Or.inr (Or.inr (Or.inl (aI (aI (by kernel_rfl) (by kernel_rfl)) ?_)))
   obtain⟨aJ,ci,a⟩:=B0 a
   obtain⟨bN,dA,b2,ay⟩:=Sl.getI (r:=C0.toRp) (Y0.mono i O) ci (by decide)
   obtain⟨aQ,eW,a4,rfl⟩:=Wp.slice_cell ay
   obtain⟨rfl,eD⟩:=Sl.len ay
   refine Or.inl (eX (.hel (.slice I E.length J) F 1 0) (aI ?_ ?_))
   ·intro ed fd
    exact aI bN (aI rfl (aI rfl rfl))
   refine Or.inl (eX (.val (.slice aQ aJ.length a4)) (aI ?_ ?_))
   ·intro dS cX
    exact eX _ (aI (N4.up cX b2) (aI rfl (aI rfl rfl)))
   refine Or.inr ?_
   obtain⟨fo,an,a⟩:=B0 a
   obtain⟨aU,dt,dL,bi⟩:=Sl.getI (r:=C0.toRp) f an (by decide)
   obtain⟨dj,eL,dF,rfl⟩:=Wp.slice_cell bi
   obtain⟨rfl,er⟩:=Sl.len bi
   refine Or.inl (eX (.hel (.slice G w.length l) F 1 0) (aI ?_ ?_))
   ·intro dU e6
    exact aI aU (aI rfl (aI rfl rfl))
   refine Or.inr ?_
   refine Or.inl (eX 1 (aI (aI rfl rfl) ?_))
   refine trM a (C8 _ aQ aJ.length a4 aJ ay) ?_
   rintro dd a fh cy ⟨bG,eM,bQ,rfl,aB⟩
   have bo:Sub b cy:=aB.sub
   have cS:=aB.r
   obtain⟨rfl,es⟩:=Sl.len cS
   refine aI (aI rfl bo) (aI (by first|exact trivial|exact rfl) ?_)
   obtain⟨cc,cE,_,_,bW,_⟩:=aU
   cases bW
   obtain⟨bC,c3,b6,_⟩:=aB
   refine E6.ofN trivial (New.put (r:=C0) aa bo (a00 an).1 (new:=[.slice bG dd.length bQ]) (By:=bC) c3 b6 rfl (a00 an).2 ?_)
   intro dV bu ek _
   have cO:=bu.r
   refine aT ?_
   obtain rfl:=oJ a
   exact⟨(some ⟨cc,cE,none⟩),w.length,l,rfl,cO,bu.sub⟩
  ·refine ifB a (λcl a=>?_) λcl a=>?_
   ·refine ld a (Y0.mono i O) λfp du bj a=>?_
    obtain⟨dk,eN,dG,rfl⟩:=Wp.slice_cell bj
    obtain⟨rfl,et⟩:=Sl.len bj
    refine ifB a (λcm a=>?_) λcm a=>?_
    ·obtain rfl:=oJ a
     exact⟨G,w.length,l,rfl,f,i⟩
    ·obtain⟨U,af,a⟩:=B0 a
     obtain⟨e4,S,a⟩:=B0 a
     obtain⟨V,W,a⟩:=B0 a
     obtain⟨e5,T,a⟩:=B0 a
     refine Or.inr (Or.inr (Or.inl (aI (aI (by kernel_rfl) (by kernel_rfl)) ?_)))
     refine Or.inr ?_
     refine Or.inr ?_
     refine Or.inr ?_
     refine Or.inr ?_
     refine Or.inr ?_
     refine Or.inr ?_
     refine Or.inr (eX 99 (eX 0 (aI rfl ?_)))
     refine aI ?_ ?_
     ·skip
      refine aT ?_
      refine aI ?_ ?_
      ·skip
       obtain⟨N,P,K,L⟩:=Sl.cutI (r:=C0.toRp) f af
       refine aI N (eX P (aI K ?_))
       intro Q M _
       obtain⟨ah,ai,rfl,j⟩:=L Q M
       have aj:=(Sl.len j).2
       refine aT ?_
       refine aI ?_ ?_
       ·skip
        obtain⟨t,n,c⟩:=Sl.rows (r:=C0.toRp) j
        refine eX t (aI n ?_)
        refine aI (F1 S (by first|rw[F2.length (show F2 (C0.R b) ([]:List (List Value)) ([]:N0) from trivial),F2.length c]|exact congrArg (·+1) (F2.length (show F2 (C0.R b) ([]:List (List Value)) ([]:N0) from trivial)))) ?_
        refine aT ?_
        refine aI ?_ ?_
        ·skip
         obtain⟨A,C,x,y⟩:=Sl.cutI (r:=C0.toRp) f W
         refine aI A (eX C (aI x ?_))
         intro D z _
         obtain⟨ab,ac,rfl,g⟩:=y D z
         have ad:=(Sl.len g).2
         refine aT ?_
         refine aI ?_ ?_
         ·skip
          obtain⟨u,o,d⟩:=Sl.rows (r:=C0.toRp) g
          refine eX u (aI o ?_)
          refine aI (F1 T (by first|rw[F2.length (F2.append (show F2 (C0.R b) ([]:List (List Value)) ([]:N0) from trivial) c),F2.length d]|exact congrArg (·+1) (F2.length (F2.append (show F2 (C0.R b) ([]:List (List Value)) ([]:N0) from trivial) c)))) ?_
          refine aT ?_
          refine aI ?_ ?_
          ·skip
           refine aT ?_
           intro Z X p
           obtain⟨k,m,rfl,q,s,Y⟩:=V0.out (r:=C0.toRp) p (F2.append (F2.append (show F2 (C0.R b) ([]:List (List Value)) ([]:N0) from trivial) c) d)
           obtain rfl:=oJ a
           exact⟨k,(((([]:N0)++U)++V)).length,m,rfl,q,(i.trans s)⟩
          exact trivial
         exact trivial
        exact trivial
       refine aI ?_ ?_
       ·skip
        obtain⟨A,C,x,y⟩:=Sl.cutI (r:=C0.toRp) f W
        refine aI A (eX C (aI x ?_))
        intro D z _
        obtain⟨ab,ac,rfl,g⟩:=y D z
        have ad:=(Sl.len g).2
        refine aT ?_
        refine aI ?_ ?_
        ·skip
         obtain⟨t,n,c⟩:=Sl.rows (r:=C0.toRp) j
         refine eX t (aI n ?_)
         refine aI (F1 S (by first|rw[F2.length (show F2 (C0.R b) ([]:List (List Value)) ([]:N0) from trivial),F2.length c]|exact congrArg (·+1) (F2.length (show F2 (C0.R b) ([]:List (List Value)) ([]:N0) from trivial)))) ?_
         refine aT ?_
         refine aI ?_ ?_
         ·skip
          obtain⟨u,o,d⟩:=Sl.rows (r:=C0.toRp) g
          refine eX u (aI o ?_)
          refine aI (F1 T (by first|rw[F2.length (F2.append (show F2 (C0.R b) ([]:List (List Value)) ([]:N0) from trivial) c),F2.length d]|exact congrArg (·+1) (F2.length (F2.append (show F2 (C0.R b) ([]:List (List Value)) ([]:N0) from trivial) c)))) ?_
          refine aT ?_
          refine aI ?_ ?_
          ·skip
           refine aT ?_
           intro Z X p
           obtain⟨k,m,rfl,q,s,Y⟩:=V0.out (r:=C0.toRp) p (F2.append (F2.append (show F2 (C0.R b) ([]:List (List Value)) ([]:N0) from trivial) c) d)
           obtain rfl:=oJ a
           exact⟨k,(((([]:N0)++U)++V)).length,m,rfl,q,(i.trans s)⟩
          exact trivial
         exact trivial
        exact trivial
       exact trivial
      refine aI ?_ ?_
      ·skip
       obtain⟨A,C,x,y⟩:=Sl.cutI (r:=C0.toRp) f W
       refine aI A (eX C (aI x ?_))
       intro D z _
       obtain⟨ab,ac,rfl,g⟩:=y D z
       have ad:=(Sl.len g).2
       refine aT ?_
       refine aI ?_ ?_
       ·skip
        obtain⟨N,P,K,L⟩:=Sl.cutI (r:=C0.toRp) f af
        refine aI N (eX P (aI K ?_))
        intro Q M _
        obtain⟨ah,ai,rfl,j⟩:=L Q M
        have aj:=(Sl.len j).2
        refine aT ?_
        refine aI ?_ ?_
        ·skip
         obtain⟨t,n,c⟩:=Sl.rows (r:=C0.toRp) j
         refine eX t (aI n ?_)
         refine aI (F1 S (by first|rw[F2.length (show F2 (C0.R b) ([]:List (List Value)) ([]:N0) from trivial),F2.length c]|exact congrArg (·+1) (F2.length (show F2 (C0.R b) ([]:List (List Value)) ([]:N0) from trivial)))) ?_
         refine aT ?_
         refine aI ?_ ?_
         ·skip
          obtain⟨u,o,d⟩:=Sl.rows (r:=C0.toRp) g
          refine eX u (aI o ?_)
          refine aI (F1 T (by first|rw[F2.length (F2.append (show F2 (C0.R b) ([]:List (List Value)) ([]:N0) from trivial) c),F2.length d]|exact congrArg (·+1) (F2.length (F2.append (show F2 (C0.R b) ([]:List (List Value)) ([]:N0) from trivial) c)))) ?_
          refine aT ?_
          refine aI ?_ ?_
          ·skip
           refine aT ?_
           intro Z X p
           obtain⟨k,m,rfl,q,s,Y⟩:=V0.out (r:=C0.toRp) p (F2.append (F2.append (show F2 (C0.R b) ([]:List (List Value)) ([]:N0) from trivial) c) d)
           obtain rfl:=oJ a
           exact⟨k,(((([]:N0)++U)++V)).length,m,rfl,q,(i.trans s)⟩
          exact trivial
         exact trivial
        exact trivial
       exact trivial
      exact trivial
     refine aI ?_ ?_
     ·skip
      obtain⟨N,P,K,L⟩:=Sl.cutI (r:=C0.toRp) f af
      refine aI N (eX P (aI K ?_))
      intro Q M _
      obtain⟨ah,ai,rfl,j⟩:=L Q M
      have aj:=(Sl.len j).2
      refine aT ?_
      refine aI ?_ ?_
      ·skip
       refine aT ?_
       refine aI ?_ ?_
       ·skip
        obtain⟨t,n,c⟩:=Sl.rows (r:=C0.toRp) j
        refine eX t (aI n ?_)
        refine aI (F1 S (by first|rw[F2.length (show F2 (C0.R b) ([]:List (List Value)) ([]:N0) from trivial),F2.length c]|exact congrArg (·+1) (F2.length (show F2 (C0.R b) ([]:List (List Value)) ([]:N0) from trivial)))) ?_
        refine aT ?_
        refine aI ?_ ?_
        ·skip
         obtain⟨A,C,x,y⟩:=Sl.cutI (r:=C0.toRp) f W
         refine aI A (eX C (aI x ?_))
         intro D z _
         obtain⟨ab,ac,rfl,g⟩:=y D z
         have ad:=(Sl.len g).2
         refine aT ?_
         refine aI ?_ ?_
         ·skip
          obtain⟨u,o,d⟩:=Sl.rows (r:=C0.toRp) g
          refine eX u (aI o ?_)
          refine aI (F1 T (by first|rw[F2.length (F2.append (show F2 (C0.R b) ([]:List (List Value)) ([]:N0) from trivial) c),F2.length d]|exact congrArg (·+1) (F2.length (F2.append (show F2 (C0.R b) ([]:List (List Value)) ([]:N0) from trivial) c)))) ?_
          refine aT ?_
          refine aI ?_ ?_
          ·skip
           refine aT ?_
           intro Z X p
           obtain⟨k,m,rfl,q,s,Y⟩:=V0.out (r:=C0.toRp) p (F2.append (F2.append (show F2 (C0.R b) ([]:List (List Value)) ([]:N0) from trivial) c) d)
           obtain rfl:=oJ a
           exact⟨k,(((([]:N0)++U)++V)).length,m,rfl,q,(i.trans s)⟩
          exact trivial
         exact trivial
        exact trivial
       refine aI ?_ ?_
       ·skip
        obtain⟨A,C,x,y⟩:=Sl.cutI (r:=C0.toRp) f W
        refine aI A (eX C (aI x ?_))
        intro D z _
        obtain⟨ab,ac,rfl,g⟩:=y D z
        have ad:=(Sl.len g).2
        refine aT ?_
        refine aI ?_ ?_
        ·skip
         obtain⟨t,n,c⟩:=Sl.rows (r:=C0.toRp) j
         refine eX t (aI n ?_)
         refine aI (F1 S (by first|rw[F2.length (show F2 (C0.R b) ([]:List (List Value)) ([]:N0) from trivial),F2.length c]|exact congrArg (·+1) (F2.length (show F2 (C0.R b) ([]:List (List Value)) ([]:N0) from trivial)))) ?_
         refine aT ?_
         refine aI ?_ ?_
         ·skip
          obtain⟨u,o,d⟩:=Sl.rows (r:=C0.toRp) g
          refine eX u (aI o ?_)
          refine aI (F1 T (by first|rw[F2.length (F2.append (show F2 (C0.R b) ([]:List (List Value)) ([]:N0) from trivial) c),F2.length d]|exact congrArg (·+1) (F2.length (F2.append (show F2 (C0.R b) ([]:List (List Value)) ([]:N0) from trivial) c)))) ?_
          refine aT ?_
          refine aI ?_ ?_
          ·skip
           refine aT ?_
           intro Z X p
           obtain⟨k,m,rfl,q,s,Y⟩:=V0.out (r:=C0.toRp) p (F2.append (F2.append (show F2 (C0.R b) ([]:List (List Value)) ([]:N0) from trivial) c) d)
           obtain rfl:=oJ a
           exact⟨k,(((([]:N0)++U)++V)).length,m,rfl,q,(i.trans s)⟩
          exact trivial
         exact trivial
        exact trivial
       exact trivial
      refine aI ?_ ?_
      ·skip
       obtain⟨A,C,x,y⟩:=Sl.cutI (r:=C0.toRp) f W
       refine aI A (eX C (aI x ?_))
       intro D z _
       obtain⟨ab,ac,rfl,g⟩:=y D z
       have ad:=(Sl.len g).2
       refine aT ?_
       refine aI ?_ ?_
       ·skip
        refine aT ?_
        refine aI ?_ ?_
        ·skip
         obtain⟨t,n,c⟩:=Sl.rows (r:=C0.toRp) j
         refine eX t (aI n ?_)
         refine aI (F1 S (by first|rw[F2.length (show F2 (C0.R b) ([]:List (List Value)) ([]:N0) from trivial),F2.length c]|exact congrArg (·+1) (F2.length (show F2 (C0.R b) ([]:List (List Value)) ([]:N0) from trivial)))) ?_
         refine aT ?_
         refine aI ?_ ?_
         ·skip
          obtain⟨u,o,d⟩:=Sl.rows (r:=C0.toRp) g
          refine eX u (aI o ?_)
          refine aI (F1 T (by first|rw[F2.length (F2.append (show F2 (C0.R b) ([]:List (List Value)) ([]:N0) from trivial) c),F2.length d]|exact congrArg (·+1) (F2.length (F2.append (show F2 (C0.R b) ([]:List (List Value)) ([]:N0) from trivial) c)))) ?_
          refine aT ?_
          refine aI ?_ ?_
          ·skip
           refine aT ?_
           intro Z X p
           obtain⟨k,m,rfl,q,s,Y⟩:=V0.out (r:=C0.toRp) p (F2.append (F2.append (show F2 (C0.R b) ([]:List (List Value)) ([]:N0) from trivial) c) d)
           obtain rfl:=oJ a
           exact⟨k,(((([]:N0)++U)++V)).length,m,rfl,q,(i.trans s)⟩
          exact trivial
         exact trivial
        exact trivial
       exact trivial
      exact trivial
     refine aI ?_ ?_
     ·skip
      obtain⟨A,C,x,y⟩:=Sl.cutI (r:=C0.toRp) f W
      refine aI A (eX C (aI x ?_))
      intro D z _
      obtain⟨ab,ac,rfl,g⟩:=y D z
      have ad:=(Sl.len g).2
      refine aT ?_
      refine aI ?_ ?_
      ·skip
       refine aT ?_
       refine aI ?_ ?_
       ·skip
        obtain⟨N,P,K,L⟩:=Sl.cutI (r:=C0.toRp) f af
        refine aI N (eX P (aI K ?_))
        intro Q M _
        obtain⟨ah,ai,rfl,j⟩:=L Q M
        have aj:=(Sl.len j).2
        refine aT ?_
        refine aI ?_ ?_
        ·skip
         obtain⟨t,n,c⟩:=Sl.rows (r:=C0.toRp) j
         refine eX t (aI n ?_)
         refine aI (F1 S (by first|rw[F2.length (show F2 (C0.R b) ([]:List (List Value)) ([]:N0) from trivial),F2.length c]|exact congrArg (·+1) (F2.length (show F2 (C0.R b) ([]:List (List Value)) ([]:N0) from trivial)))) ?_
         refine aT ?_
         refine aI ?_ ?_
         ·skip
          obtain⟨u,o,d⟩:=Sl.rows (r:=C0.toRp) g
          refine eX u (aI o ?_)
          refine aI (F1 T (by first|rw[F2.length (F2.append (show F2 (C0.R b) ([]:List (List Value)) ([]:N0) from trivial) c),F2.length d]|exact congrArg (·+1) (F2.length (F2.append (show F2 (C0.R b) ([]:List (List Value)) ([]:N0) from trivial) c)))) ?_
          refine aT ?_
          refine aI ?_ ?_
          ·skip
           refine aT ?_
           intro Z X p
           obtain⟨k,m,rfl,q,s,Y⟩:=V0.out (r:=C0.toRp) p (F2.append (F2.append (show F2 (C0.R b) ([]:List (List Value)) ([]:N0) from trivial) c) d)
           obtain rfl:=oJ a
           exact⟨k,(((([]:N0)++U)++V)).length,m,rfl,q,(i.trans s)⟩
          exact trivial
         exact trivial
        exact trivial
       exact trivial
      refine aI ?_ ?_
      ·skip
       obtain⟨N,P,K,L⟩:=Sl.cutI (r:=C0.toRp) f af
       refine aI N (eX P (aI K ?_))
       intro Q M _
       obtain⟨ah,ai,rfl,j⟩:=L Q M
       have aj:=(Sl.len j).2
       refine aT ?_
       refine aI ?_ ?_
       ·skip
        refine aT ?_
        refine aI ?_ ?_
        ·skip
         obtain⟨t,n,c⟩:=Sl.rows (r:=C0.toRp) j
         refine eX t (aI n ?_)
         refine aI (F1 S (by first|rw[F2.length (show F2 (C0.R b) ([]:List (List Value)) ([]:N0) from trivial),F2.length c]|exact congrArg (·+1) (F2.length (show F2 (C0.R b) ([]:List (List Value)) ([]:N0) from trivial)))) ?_
         refine aT ?_
         refine aI ?_ ?_
         ·skip
          obtain⟨u,o,d⟩:=Sl.rows (r:=C0.toRp) g
          refine eX u (aI o ?_)
          refine aI (F1 T (by first|rw[F2.length (F2.append (show F2 (C0.R b) ([]:List (List Value)) ([]:N0) from trivial) c),F2.length d]|exact congrArg (·+1) (F2.length (F2.append (show F2 (C0.R b) ([]:List (List Value)) ([]:N0) from trivial) c)))) ?_
          refine aT ?_
          refine aI ?_ ?_
          ·skip
           refine aT ?_
           intro Z X p
           obtain⟨k,m,rfl,q,s,Y⟩:=V0.out (r:=C0.toRp) p (F2.append (F2.append (show F2 (C0.R b) ([]:List (List Value)) ([]:N0) from trivial) c) d)
           obtain rfl:=oJ a
           exact⟨k,(((([]:N0)++U)++V)).length,m,rfl,q,(i.trans s)⟩
          exact trivial
         exact trivial
        exact trivial
       exact trivial
      exact trivial
     exact trivial
   ·refine trV a (c5 _ bh cw 0 (by decide) (IntKind.i64.wrap (((E.length:Nat):Int)-1)) (I0 _)) λfq a=>?_
    refine ifB a (λcn a=>?_) λcn a=>?_
    ·obtain rfl:=oJ a
     exact⟨G,w.length,l,rfl,f,i⟩
    ·refine ld a (Y0.mono i O) λae dv ag a=>?_
     obtain⟨al,eO,am,rfl⟩:=Wp.slice_cell ag
     obtain⟨rfl,eu⟩:=Sl.len ag
     refine ifB a (λco a=>?_) λco a=>?_
     ·refine trM a (C8 _ al ae.length am ae ag) ?_
      rintro ak a fj au ⟨aN,eP,a1,rfl,bA⟩
      have H:Sub b au:=bA.sub
      have av:=bA.r
      obtain⟨rfl,ew⟩:=Sl.len av
      refine ifB a (λcp a=>?_) λcp a=>?_
      ·refine Or.inr (Or.inr (Or.inl (aI (aI (by kernel_rfl) (by kernel_rfl)) ?_)))
       obtain⟨aG,cg,a⟩:=B0 a
       obtain⟨bL,dw,b0,aw⟩:=Sl.getI (r:=C0.toRp) (Y0.mono (i.trans H) O) cg (by decide)
       obtain⟨aO,eQ,a2,rfl⟩:=Wp.slice_cell aw
       obtain⟨rfl,ex⟩:=Sl.len aw
       refine Or.inl (eX (.hel (.slice I E.length J) F 1 0) (aI ?_ ?_))
       ·intro dW e7
        exact aI bL (aI rfl (aI rfl rfl))
       refine Or.inl (eX (.val (.slice aO aG.length a2)) (aI ?_ ?_))
       ·intro dX cY
        exact eX _ (aI (N4.up cY b0) (aI rfl (aI rfl rfl)))
       refine Or.inr ?_
       obtain⟨ft,ao,a⟩:=B0 a
       obtain⟨aV,dx,dM,bk⟩:=Sl.getI (r:=C0.toRp) (Y0.mono H f) ao (by decide)
       obtain⟨dm,eR,dH,rfl⟩:=Wp.slice_cell bk
       obtain⟨rfl,ey⟩:=Sl.len bk
       refine Or.inl (eX (.hel (.slice G w.length l) F 1 0) (aI ?_ ?_))
       ·intro dY e8
        exact aI aV (aI rfl (aI rfl rfl))
       refine Or.inr ?_
       refine Or.inl (eX 1 (aI (aI rfl rfl) ?_))
       refine trM a (Y9 _ aO aG.length a2 aG aw aN ak.length a1 ak av) ?_
       rintro df a fk cz ⟨bH,eS,bR,rfl,aC⟩
       have bp:Sub au cz:=aC.sub
       have cT:=aC.r
       obtain⟨rfl,ez⟩:=Sl.len cT
       refine aI (aI rfl bp) (aI (by first|exact trivial|exact rfl) ?_)
       obtain⟨cd,cG,_,_,bX,_⟩:=aV
       cases bX
       obtain⟨bD,c4,b7,_⟩:=(New.from aC H)
       refine E6.ofN trivial (New.put (r:=C0) aa (H.trans bp) (a00 ao).1 (new:=[.slice bH df.length bR]) (By:=bD) c4 b7 rfl (a00 ao).2 ?_)
       intro dZ bv el _
       have cP:=bv.r
       refine aT ?_
       obtain rfl:=oJ a
       exact⟨(some ⟨cd,cG,none⟩),w.length,l,rfl,cP,bv.sub⟩
      ·refine ifB a (λcr a=>?_) λcr a=>?_
       ·refine Or.inr (Or.inr (Or.inl (aI (aI (by kernel_rfl) (by kernel_rfl)) ?_)))
        obtain⟨aH,ch,a⟩:=B0 a
        obtain⟨bM,dy,b1,ax⟩:=Sl.getI (r:=C0.toRp) (Y0.mono (i.trans H) O) ch (by decide)
        obtain⟨aP,eT,a3,rfl⟩:=Wp.slice_cell ax
        obtain⟨rfl,eA⟩:=Sl.len ax
        refine Or.inl (eX (.hel (.slice I E.length J) F 1 0) (aI ?_ ?_))
        ·intro d1 e9
         exact aI bM (aI rfl (aI rfl rfl))
        refine Or.inl (eX (.val (.slice aP aH.length a3)) (aI ?_ ?_))
        ·intro d2 cZ
         exact eX _ (aI (N4.up cZ b1) (aI rfl (aI rfl rfl)))
        refine Or.inr ?_
        obtain⟨fu,ap,a⟩:=B0 a
        obtain⟨aW,dz,dN,bl⟩:=Sl.getI (r:=C0.toRp) (Y0.mono H f) ap (by decide)
        obtain⟨dn,eU,dI,rfl⟩:=Wp.slice_cell bl
        obtain⟨rfl,eB⟩:=Sl.len bl
        refine Or.inl (eX (.hel (.slice G w.length l) F 1 0) (aI ?_ ?_))
        ·intro d3 fa
         exact aI aW (aI rfl (aI rfl rfl))
        refine Or.inr ?_
        refine Or.inl (eX 1 (aI (aI rfl rfl) ?_))
        refine trM a (Y9 _ aN ak.length a1 ak av aP aH.length a3 aH ax) ?_
        rintro dg a fl cA ⟨bI,eV,bS,rfl,aD⟩
        have bq:Sub au cA:=aD.sub
        have cU:=aD.r
        obtain⟨rfl,eC⟩:=Sl.len cU
        refine aI (aI rfl bq) (aI (by first|exact trivial|exact rfl) ?_)
        obtain⟨ce,cH,_,_,bY,_⟩:=aW
        cases bY
        obtain⟨bE,db,b8,_⟩:=(New.from aD H)
        refine E6.ofN trivial (New.put (r:=C0) aa (H.trans bq) (a00 ap).1 (new:=[.slice bI dg.length bS]) (By:=bE) db b8 rfl (a00 ap).2 ?_)
        intro ea bx em _
        have cQ:=bx.r
        refine aT ?_
        obtain rfl:=oJ a
        exact⟨(some ⟨ce,cH,none⟩),w.length,l,rfl,cQ,bx.sub⟩
       ·obtain rfl:=oJ a
        exact⟨G,w.length,l,rfl,(Y0.mono H f),(i.trans H)⟩
     ·refine ifB a (λct a=>?_) λct a=>?_
      ·refine Or.inr (Or.inr (Or.inl (aI (aI (by kernel_rfl) (by kernel_rfl)) ?_)))
       obtain⟨aK,cj,a⟩:=B0 a
       obtain⟨bO,dB,b3,az⟩:=Sl.getI (r:=C0.toRp) (Y0.mono i O) cj (by decide)
       obtain⟨aR,eY,ba,rfl⟩:=Wp.slice_cell az
       obtain⟨rfl,eE⟩:=Sl.len az
       refine Or.inl (eX (.hel (.slice I E.length J) F 1 0) (aI ?_ ?_))
       ·intro eb fb
        exact aI bO (aI rfl (aI rfl rfl))
       refine Or.inl (eX (.val (.slice aR aK.length ba)) (aI ?_ ?_))
       ·intro ec c0
        exact eX _ (aI (N4.up c0 b3) (aI rfl (aI rfl rfl)))
       refine Or.inr ?_
       obtain⟨fv,aq,a⟩:=B0 a
       obtain⟨aX,dC,dO,bm⟩:=Sl.getI (r:=C0.toRp) f aq (by decide)
       obtain⟨dq,eZ,dJ,rfl⟩:=Wp.slice_cell bm
       obtain⟨rfl,eF⟩:=Sl.len bm
       refine Or.inl (eX (.hel (.slice G w.length l) F 1 0) (aI ?_ ?_))
       ·intro ee fc
        exact aI aX (aI rfl (aI rfl rfl))
       refine Or.inr ?_
       refine Or.inl (eX 1 (aI (aI rfl rfl) ?_))
       refine trM a (Y9 _ aR aK.length ba aK az al ae.length am ae ag) ?_
       rintro dh a fm cC ⟨bJ,e0,bT,rfl,aE⟩
       have br:Sub b cC:=aE.sub
       have cV:=aE.r
       obtain⟨rfl,eG⟩:=Sl.len cV
       refine aI (aI rfl br) (aI (by first|exact trivial|exact rfl) ?_)
       obtain⟨cf,cI,_,_,bZ,_⟩:=aX
       cases bZ
       obtain⟨bF,dc,ca,_⟩:=aE
       refine E6.ofN trivial (New.put (r:=C0) aa br (a00 aq).1 (new:=[.slice bJ dh.length bT]) (By:=bF) dc ca rfl (a00 aq).2 ?_)
       intro ef bz en _
       have cR:=bz.r
       refine aT ?_
       obtain rfl:=oJ a
       exact⟨(some ⟨cf,cI,none⟩),w.length,l,rfl,cR,bz.sub⟩
      ·refine ifB a (λcu a=>?_) λcu a=>?_
       ·refine Or.inr (Or.inr (Or.inl (aI (aI (by kernel_rfl) (by kernel_rfl)) ?_)))
        obtain⟨aL,ck,a⟩:=B0 a
        obtain⟨bP,dD,b4,aA⟩:=Sl.getI (r:=C0.toRp) (Y0.mono i O) ck (by decide)
        obtain⟨aS,e1,bb,rfl⟩:=Wp.slice_cell aA
        obtain⟨rfl,eH⟩:=Sl.len aA
        refine Or.inl (eX (.hel (.slice I E.length J) F 1 0) (aI ?_ ?_))
        ·intro eg fe
         exact aI bP (aI rfl (aI rfl rfl))
        refine Or.inl (eX (.val (.slice aS aL.length bb)) (aI ?_ ?_))
        ·intro eh c1
         exact eX _ (aI (N4.up c1 b4) (aI rfl (aI rfl rfl)))
        refine Or.inr ?_
        obtain⟨fx,ar,a⟩:=B0 a
        obtain⟨aY,dE,dP,bn⟩:=Sl.getI (r:=C0.toRp) f ar (by decide)
        obtain⟨ds,e2,dK,rfl⟩:=Wp.slice_cell bn
        obtain⟨rfl,eI⟩:=Sl.len bn
        refine Or.inl (eX (.hel (.slice G w.length l) F 1 0) (aI ?_ ?_))
        ·intro ei ff
         exact aI aY (aI rfl (aI rfl rfl))
        refine Or.inr ?_
        refine Or.inl (eX 1 (aI (aI rfl rfl) ?_))
        refine trM a (Y9 _ al ae.length am ae ag aS aL.length bb aL aA) ?_
        rintro di a fg cx ⟨bK,e3,bU,rfl,aF⟩
        have bs:Sub b cx:=aF.sub
        have cW:=aF.r
        obtain⟨rfl,eJ⟩:=Sl.len cW
        refine aI (aI rfl bs) (aI (by first|exact trivial|exact rfl) ?_)
        obtain⟨cb,cD,_,_,bV,_⟩:=aY
        cases bV
        obtain⟨bB,c2,b5,_⟩:=aF
        refine E6.ofN trivial (New.put (r:=C0) aa bs (a00 ar).1 (new:=[.slice bK di.length bU]) (By:=bB) c2 b5 rfl (a00 ar).2 ?_)
        intro dT bt ej _
        have cM:=bt.r
        refine aT ?_
        obtain rfl:=oJ a
        exact⟨(some ⟨cb,cD,none⟩),w.length,l,rfl,cM,bt.sub⟩
       ·obtain rfl:=oJ a
        exact⟨G,w.length,l,rfl,f,i⟩
theorem s06(h:Hp)(d:Option Addr)(x f:Nat)(b:D0)(o:C0.R h [.slice d x f] b)(r:D0×D0)(a:G9 b=some r):
  Tr Tryz.prog 90 #[.slice d x f] h λv n=>∃(p:Option Addr) (u s:Nat) (q:Option Addr) (w t:Nat),v = .tuple #[.slice p u s,.slice q w t]/\C0.R n [.slice p u s] r.1/\C0.R n [.slice q w t] r.2/\Sub h n:=by
 obtain⟨rfl,az⟩:=Sl.len o
 unfold G9 at a
 refine G2 (args:=[.slice d b.length f]) (fn:=Tryz.f90) rfl ?_
 obtain⟨aH,T,a⟩:=B0 a
 refine aI (T0 T) ?_
 obtain⟨j,X,a⟩:=B0 a
 obtain⟨ad,aj,K,Q⟩:=Sl.cutI (r:=Wp.int.toRp) o X
 refine aI ad (eX aj (aI K ?_))
 intro am aa _
 obtain⟨ap,ar,rfl,y⟩:=Q am aa
 have aA:=(Sl.len y).2
 obtain⟨al,M,g⟩:=Sl.rows (r:=Wp.int.toRp) y
 refine eX al (aI M ?_)
 obtain⟨aK,V,a⟩:=B0 a
 refine aI (F1 V (by first|rw[F2.length (show F2 (Wp.int.R h) ([]:List (List Value)) ([]:D0) from trivial),F2.length g]|exact congrArg (·+1) (F2.length (show F2 (Wp.int.R h) ([]:List (List Value)) ([]:D0) from trivial)))) ?_
 refine trM a (C8 _ d b.length f b o) ?_
 rintro aP a aN ac ⟨aq,aG,au,rfl,D⟩
 have c:Sub h ac:=D.sub
 have z:=D.r
 obtain⟨rfl,aB⟩:=Sl.len z
 obtain⟨k,Y,a⟩:=B0 a
 obtain⟨ae,ak,L,S⟩:=Sl.cutI (r:=Wp.int.toRp) z Y
 refine aI ae (eX ak (aI L ?_))
 intro an ab _
 obtain⟨l,m,rfl,i⟩:=S an ab
 have aC:=(Sl.len i).2
 refine Or.inr ?_
 intro aO aw N
 obtain⟨E,H,rfl,af,ai,aD⟩:=V0.out (r:=Wp.int.toRp) N (F2.up (r:=Wp.int.toRp) c (F2.append (show F2 (Wp.int.R h) ([]:List (List Value)) ([]:D0) from trivial) g))
 obtain⟨ao,W,a⟩:=B0 a
 refine Tr.val (s02 _ E ((([]:D0)++j)).length H (([]:D0)++j) af l k.length m k (C0.mono ai i) _  W) (aI rfl ?_)
 obtain⟨aJ,U,a⟩:=B0 a
 have av:K0 ao:=T0 U
 refine ifB a (λZ a=>?_) λZ a=>?_
 ·intro aL ax O
  obtain⟨F,I,rfl,ag,A,aE⟩:=V0.out (r:=Wp.int.toRp) O (F2.up (r:=Wp.int.toRp) c (F2.append (show F2 (Wp.int.R h) ([]:List (List Value)) ([]:D0) from trivial) g))
  obtain rfl:=oJ a
  exact⟨l,k.length,m,F,((([]:D0)++j)).length,I,rfl,(C0.mono A i),ag,(c.trans A)⟩
 ·intro aM ay P
  obtain⟨G,J,rfl,ah,C,aF⟩:=V0.out (r:=Wp.int.toRp) P (F2.up (r:=Wp.int.toRp) c (F2.append (show F2 (Wp.int.R h) ([]:List (List Value)) ([]:D0) from trivial) g))
  obtain rfl:=oJ a
  exact⟨G,((([]:D0)++j)).length,J,l,k.length,m,rfl,ah,(C0.mono C i),(c.trans C)⟩
theorem n07(h:Hp)(c:Option Addr)(p f:Nat)(i:D0)(s:C0.R h [.slice c p f] i)(d:Option Addr)(q g:Nat)(j:D0)(t:C0.R h [.slice d q g] j)(r:Int)(a:w8 i j=some r):
  Tr Tryz.prog 70 #[.slice c p f,.slice d q g] h λv K=>v = .int .i64 r/\K=h:=by
 obtain⟨rfl,X⟩:=Sl.len s
 obtain⟨rfl,Y⟩:=Sl.len t
 unfold w8 at a
 refine Tr.forget (G2 (args:=[.slice c i.length f,.slice d j.length g]) (fn:=Tryz.f70) rfl ?_)
 refine ifB a (λL a=>?_) λL a=>?_
 ·refine ifB a (λN a=>?_) λN a=>?_
  ·obtain rfl:=oJ a
   exact aI rfl (Sub.refl _)
  ·obtain rfl:=oJ a
   exact aI rfl (Sub.refl _)
 ·refine trM a (s06 _ _ _ _ _ s) ?_
  rintro P a aj V ⟨z,ad,E,A,ae,F,rfl,k,l,o⟩
  obtain⟨u,w⟩:=P
  dsimp only at a k l
  obtain⟨rfl,Z⟩:=Sl.len k
  obtain⟨rfl,aa⟩:=Sl.len l
  refine trM a (s06 _ _ _ _ _ (C0.mono o t)) ?_
  rintro Q a ak W ⟨C,af,G,D,ag,H,rfl,m,n,b⟩
  obtain⟨x,y⟩:=Q
  dsimp only at a m n
  obtain⟨rfl,ab⟩:=Sl.len m
  obtain⟨rfl,ac⟩:=Sl.len n
  refine trV a (s02 _ z u.length E u (C0.mono b k) C x.length G x m) λS a=>?_
  obtain⟨ah,I,a⟩:=B0 a
  have U:K0 S:=T0 I
  refine ifB a (λM a=>?_) λM a=>?_
  ·refine trV a (s02 _ A w.length F w (C0.mono b l) D y.length H y n) λO a=>?_
   obtain⟨ai,J,a⟩:=B0 a
   have T:K0 O:=T0 J
   obtain rfl:=oJ a
   exact aI rfl (o.trans b)
  ·obtain rfl:=oJ a
   exact aI rfl (o.trans b)
theorem e0d(h:Hp)(y:Option Addr)(P z:Nat)(i:N0)(x:Y0.R h [.slice y P z] i)(r:Q7×Bool)(f:k00 i=some r):
  Tr Tryz.prog 53 #[.slice y P z] h λv k=>∃(J:List Value),v = .tuple #[.agg J.toArray,.bool r.2]/\n00.R k J r.1/\Sub h k:=by
 obtain⟨rfl,aD⟩:=Sl.len x
 unfold k00 at f
 refine G2 (args:=[.slice y i.length z]) (fn:=Tryz.f53) rfl ?_
 obtain⟨F,X,f⟩:=B0 f
 refine eX { vars:=[4],boxes:=[],owns:=[],fuel:=true } (eX (λvs os k=>∃ m,vs.tail = [.int .i64 m]/\os = []/\Sub h k/\K0 m/\Z5 i (J1 vs) m=some F) (eX (λ_ _=>0) (aI (eX Q0 ⟨0,rfl,rfl,(Sub.refl _),(by decide),X⟩) ?_)))
 rintro _ w ak ⟨m,⟨⟩,⟨⟩,l,ah,a⟩
 replace a:Z5 i w m=some F:=a
 obtain _|w:=w
 ·cases a
 rw[Z5.eq_2]at a
 refine ifB a (λaf a=>?_) λaf a=>?_
 ·refine ld a (Y0.mono l x) λaW av Q a=>?_
  obtain⟨aq,aM,az,rfl⟩:=Wp.slice_cell Q
  obtain⟨rfl,aH⟩:=Sl.len Q
  refine ifB a (λag a=>?_) λag a=>?_
  ·obtain rfl:=oJ a
   try dsimp only[L1,M1]at f
   obtain rfl:=oJ f
   exact⟨([.int .i64 4,.int .i64 m,.int .i64 0,.int .i64 0]),rfl,(i7 (by decide) ah (by decide) (by decide)),l⟩
  ·exact I2 w ⟨(IntKind.i64.wrap (m+1)),rfl,rfl,l,(I0 _),a⟩
 ·obtain rfl:=oJ a
  try dsimp only[S0,W0]at f
  obtain⟨I,aa,f⟩:=B0 f
  refine eX { vars:=[5],boxes:=[],owns:=[],fuel:=true } (eX (λvs os k=>∃ d,vs.tail = [.int .i64 d]/\os = []/\Sub ak k/\K0 d/\a7 i (J1 vs) d=some I) (eX (λ_ _=>0) (aI (eX Q0 ⟨0,rfl,rfl,(Sub.refl _),(by decide),aa⟩) ?_)))
  rintro _ s ai ⟨d,⟨⟩,⟨⟩,p,N,a⟩
  replace a:a7 i s d=some I:=a
  obtain _|s:=s
  ·cases a
  rw[a7.eq_2]at a
  refine ifB a (λab a=>?_) λab a=>?_
  ·obtain⟨G,Y,a⟩:=B0 a
   refine eX { vars:=[6],boxes:=[],owns:=[],fuel:=true } (eX (λvs os k=>∃ j,vs.tail = [.int .i64 j]/\os = []/\Sub ai k/\K0 j/\Z6 i d (J1 vs) j=some G) (eX (λ_ _=>0) (aI (eX Q0 ⟨0,rfl,rfl,(Sub.refl _),(by decide),Y⟩) ?_)))
   rintro _ t aj ⟨j,⟨⟩,⟨⟩,n,M,c⟩
   replace c:Z6 i d t j=some G:=c
   obtain _|t:=t
   ·cases c
   rw[Z6.eq_2]at c
   refine ifB c (λac c=>?_) λac c=>?_
   ·obtain⟨H,Z,c⟩:=B0 c
    refine eX { vars:=[7],boxes:=[],owns:=[],fuel:=true } (eX (λvs os k=>∃ g,vs.tail = [.int .i64 g]/\os = []/\Sub aj k/\K0 g/\J3 i d j (J1 vs) g=some H) (eX (λ_ _=>0) (aI (eX Q0 ⟨0,rfl,rfl,(Sub.refl _),(by decide),Z⟩) ?_)))
    rintro _ u aC ⟨g,⟨⟩,⟨⟩,o,aA,b⟩
    replace b:J3 i d j u g=some H:=b
    obtain _|u:=u
    ·cases b
    rw[J3.eq_2]at b
    refine ifB b (λad b=>?_) λad b=>?_
    ·obtain⟨aN,S,b⟩:=B0 b
     refine aI (T0 S) ?_
     obtain⟨aO,T,b⟩:=B0 b
     refine aI (T0 T) ?_
     refine trM b (B03 _ _ _ _ _ (Y0.mono (((l.trans p).trans n).trans o) x) [.int .i64 (IntKind.i64.wrap (2+(IntKind.i64.wrap (Int.tdiv g 2)))),.int .i64 d,.int .i64 j,.int .i64 (IntKind.i64.wrap (1-(IntKind.i64.wrap (2*(Int.tmod g 2)))))] ((IntKind.i64.wrap (2+(IntKind.i64.wrap (Int.tdiv g 2)))),d,j,(IntKind.i64.wrap (1-(IntKind.i64.wrap (2*(Int.tmod g 2)))))) (i7 (I0 _) N M (I0 _))) ?_
     rintro al b aQ O ⟨an,aJ,aw,rfl,A,E⟩
     obtain⟨aR,aS⟩:=al
     dsimp only at b A
     obtain⟨rfl,aE⟩:=Sl.len A
     refine Or.inl (aI (aI (by kernel_rfl) (by kernel_rfl)) ?_)
     obtain⟨aU,V,b⟩:=B0 b
     obtain⟨ar,K,C⟩:=Sl.getG (r:=C0.toRp) A V (by decide) (h0p Wp.int O)
     refine aI (λq=>(K q).1) ?_
     obtain⟨ao,aK,ax,rfl⟩:=Wp.slice_cell C
     obtain⟨rfl,aF⟩:=Sl.len C
     refine eX _ (aI (λq=>(K q).2) ?_)
     obtain⟨aV,W,b⟩:=B0 b
     obtain⟨au,L,D⟩:=Sl.getG (r:=C0.toRp) (Y0.mono ((((l.trans p).trans n).trans o).trans E) x) W (by decide) (h0p Wp.int O)
     refine aI (λq=>(L q).1) ?_
     obtain⟨ap,aL,ay,rfl⟩:=Wp.slice_cell D
     obtain⟨rfl,aG⟩:=Sl.len D
     refine eX _ (aI (λq=>(L q).2) ?_)
     refine trG b (λq=>n07 _ _ _ _ _ C _ _ _ _ D) λam b=>?_
     obtain⟨aP,U,b⟩:=B0 b
     have aB:K0 am:=T0 U
     refine ifB b (λae b=>?_) λae b=>?_
     ·obtain rfl:=oJ b
      try dsimp only[L1,M1]at c
      obtain rfl:=oJ c
      try dsimp only[L1,M1]at a
      obtain rfl:=oJ a
      try dsimp only[L1,M1]at f
      obtain rfl:=oJ f
      exact⟨([.int .i64 (IntKind.i64.wrap (2+(IntKind.i64.wrap (Int.tdiv g 2)))),.int .i64 d,.int .i64 j,.int .i64 (IntKind.i64.wrap (1-(IntKind.i64.wrap (2*(Int.tmod g 2)))))]),rfl,(i7 (I0 _) N M (I0 _)),((((l.trans p).trans n).trans o).trans E)⟩
     ·exact I2 u ⟨(IntKind.i64.wrap (g+1)),rfl,rfl,(o.trans E),(I0 _),b⟩
    ·obtain rfl:=oJ b
     try dsimp only[S0,W0]at c
     exact I2 t ⟨(IntKind.i64.wrap (j+1)),rfl,rfl,(n.trans o),(I0 _),c⟩
   ·obtain rfl:=oJ c
    try dsimp only[S0,W0]at a
    exact I2 s ⟨(IntKind.i64.wrap (d+1)),rfl,rfl,(p.trans n),(I0 _),a⟩
  ·obtain rfl:=oJ a
   try dsimp only[S0,W0]at f
   obtain rfl:=oJ f
   exact⟨([.int .i64 0,.int .i64 0,.int .i64 0,.int .i64 0]),rfl,(i7 (by decide) (by decide) (by decide) (by decide)),(l.trans p)⟩
theorem l08(h:Hp)(u:Option Addr)(U w:Nat)(f:N0)(I:Y0.R h [.slice u U w] f)(r:N0×b00)(b:T8 f=some r):
  Tr Tryz.prog 30 #[.slice u U w] h λv d=>∃(M:Option Addr) (S O:Nat) (N:Option Addr) (T P:Nat),v = .tuple #[.slice M S O,.slice N T P]/\Y0.R d [.slice M S O] r.1/\w09.R d [.slice N T P] r.2/\Sub h d:=by
 obtain⟨rfl,aC⟩:=Sl.len I
 unfold T8 at b
 refine G2 (args:=[.slice u f.length w]) (fn:=Tryz.f30) rfl ?_
 refine trM b (h03 _ u f.length w f I) ?_
 rintro aa b aQ G ⟨ac,aJ,ag,rfl,Z⟩
 have K:Sub h G:=Z.sub
 have V:=Z.r
 obtain⟨rfl,aE⟩:=Sl.len V
 obtain⟨L,an,b⟩:=B0 b
 refine eX { vars:=[4,6],boxes:=[],owns:=[0],fuel:=true } (eX (λvs os d=>∃ o H p i j A g,vs.tail = [.slice o H p,.int .i64 j]/\os = [A]/\Sub G d/\Y0.R d [.slice o H p] i/\K0 j/\F2 (n00.R d) A g/\M3 f (J1 vs) i j g=some L) (eX (λ_ _=>0) (aI (eX Q0 ⟨ac,aa.length,ag,aa,0,[],([]:b00),rfl,rfl,(Sub.refl _),V,(by decide),(show F2 (n00.R G) ([]:List (List Value)) ([]:b00) from trivial),an⟩) ?_)))
 rintro _ _ A x aB ⟨o,H,p,i,j,aW,g,⟨⟩,⟨⟩,y,t,ax,s,a⟩
 replace a:M3 f x i j g=some L:=a
 obtain _|x:=x
 ·cases a
 rw[M3.eq_2]at a
 obtain⟨rfl,aD⟩:=Sl.len t
 refine trG a (λq=>d0d _ _ _ _ _ (Y0.mono (K.trans y) I)) λaR a=>?_
 refine ifB a (λao a=>?_) λao a=>?_
 ·refine trM a (e0d _ _ _ _ _ t) ?_
  rintro au a aM ay ⟨aw,rfl,W,c⟩
  obtain⟨aS,aU⟩:=au
  dsimp only at a W
  obtain⟨k,l,m,n,rfl,rfl,C,D,E,F⟩:=e06 W
  try dsimp only at a
  refine ifB a (λap a=>?_) λap a=>?_
  ·intro aN az ak
   obtain⟨ae,ai,rfl,aq,X,aG⟩:=V0.out (r:=n00.toRp) ak (F2.up (r:=n00.toRp) c s)
   obtain rfl:=oJ a
   try dsimp only[L1,M1]at b
   obtain rfl:=oJ b
   exact⟨o,i.length,p,ae,g.length,ai,rfl,(Y0.mono (c.trans X) t),aq,(((K.trans y).trans c).trans X)⟩
  ·refine trM a (B03 _ _ _ _ _ (Y0.mono c t) _ _ (i7 C D E F)) ?_
   rintro av a aO Q ⟨ad,aK,ah,rfl,J,z⟩
   obtain⟨ab,aV⟩:=av
   dsimp only at a J
   obtain⟨rfl,aF⟩:=Sl.len J
   obtain⟨aL,am,a⟩:=B0 a
   refine aI (F1 am (by first|rw[F2.length (F2.up (r:=n00.toRp) (c.trans z) s),F2.length (show F2 (n00.R Q) ([[.int .i64 k,.int .i64 l,.int .i64 m,.int .i64 n]]:List (List Value)) [(k,l,m,n)] from⟨(i7 C D E F),trivial⟩)]|exact congrArg (·+1) (F2.length (F2.up (r:=n00.toRp) (c.trans z) s)))) ?_
   exact I2 x ⟨ad,ab.length,ah,ab,(IntKind.i64.wrap (j+1)),(A++([[.int .i64 k,.int .i64 l,.int .i64 m,.int .i64 n]]:List (List Value))),(g ++ [(k,l,m,n)]),rfl,rfl,((y.trans c).trans z),J,(I0 _),(F2.append (F2.up (r:=n00.toRp) (c.trans z) s) (show F2 (n00.R Q) ([[.int .i64 k,.int .i64 l,.int .i64 m,.int .i64 n]]:List (List Value)) [(k,l,m,n)] from⟨(i7 C D E F),trivial⟩)),a⟩
 ·obtain rfl:=oJ a
  try dsimp only[S0,W0]at b
  intro aP aA al
  obtain⟨af,aj,rfl,ar,Y,aH⟩:=V0.out (r:=n00.toRp) al s
  obtain rfl:=oJ b
  exact⟨o,i.length,p,af,g.length,aj,rfl,(Y0.mono Y t),ar,((K.trans y).trans Y)⟩
theorem K09(h:Hp)(f:Option Addr)(F g:Nat)(c:N0)(u:Y0.R h [.slice f F g] c)(q:Option Addr)(G s:Nat)(j:b00)(H:w09.R h [.slice q G s] j)(r:N0×Bool)(b:P9 c j=some r):
  Tr Tryz.prog 31 #[.slice f F g,.slice q G s] h λv i=>∃(A:Option Addr) (E C:Nat),v = .tuple #[.slice A E C,.bool r.2]/\Y0.R i [.slice A E C] r.1/\Sub h i:=by
 obtain⟨rfl,al⟩:=Sl.len u
 obtain⟨rfl,am⟩:=Sl.len H
 unfold P9 at b
 refine G2 (args:=[.slice f c.length g,.slice q j.length s]) (fn:=Tryz.f31) rfl ?_
 refine trM b (h03 _ f c.length g c u) ?_
 rintro M b ay D ⟨O,ar,S,rfl,K⟩
 have p:Sub h D:=K.sub
 have I:=K.r
 obtain⟨rfl,ao⟩:=Sl.len I
 obtain⟨z,V,b⟩:=B0 b
 refine eX { vars:=[6,7],boxes:=[],owns:=[],fuel:=true } (eX (λvs os i=>∃ m t n l d,vs.tail = [.slice m t n,.int .i64 d]/\os = []/\Sub D i/\Y0.R i [.slice m t n] l/\K0 d/\d4 j c (J1 vs) l d=some z) (eX (λ_ _=>0) (aI (eX Q0 ⟨O,M.length,S,M,0,rfl,rfl,(Sub.refl _),I,(by decide),V⟩) ?_)))
 rintro _ _ o ak ⟨m,t,n,l,d,⟨⟩,⟨⟩,k,w,aj,a⟩
 replace a:d4 j c o l d=some z:=a
 obtain _|o:=o
 ·cases a
 rw[d4.eq_2]at a
 obtain⟨rfl,an⟩:=Sl.len w
 refine ifB a (λX a=>?_) λX a=>?_
 ·refine ld a (w09.mono (p.trans k) H) λaz ai ae a=>?_
  obtain⟨aA,aB,aC,aD,rfl,rfl,Y,Z,aa,ab⟩:=e06 ae
  try dsimp only at a
  refine trM a (B03 _ _ _ _ _ w _ _ (i7 Y Z aa ab)) ?_
  rintro ag a aw ac ⟨P,au,T,rfl,x,y⟩
  obtain⟨N,aE⟩:=ag
  dsimp only at a x
  obtain⟨rfl,ap⟩:=Sl.len x
  refine ifB a (λW a=>?_) λW a=>?_
  ·refine trM a (h03 _ f c.length g c (Y0.mono ((p.trans k).trans y) u)) ?_
   rintro ah a ax ad ⟨Q,av,U,rfl,L⟩
   have af:Sub ac ad:=L.sub
   have J:=L.r
   obtain⟨rfl,aq⟩:=Sl.len J
   obtain rfl:=oJ a
   try dsimp only[L1,M1]at b
   obtain rfl:=oJ b
   exact⟨Q,ah.length,U,rfl,J,(((p.trans k).trans y).trans af)⟩
  ·exact I2 o ⟨P,N.length,T,N,(IntKind.i64.wrap (d+1)),rfl,rfl,(k.trans y),x,(I0 _),a⟩
 ·obtain rfl:=oJ a
  try dsimp only[S0,W0]at b
  obtain rfl:=oJ b
  exact⟨m,l.length,n,rfl,w,(p.trans k)⟩
theorem k0c(h:Hp)(br:List Value)(bV:H1)(eT:D3.R h br bV)(r:H1×Bool)(f:T00 bV=some r):
  Tr Tryz.prog 12 #[.agg br.toArray] h λv u=>∃(bq:List Value),v = .tuple #[.agg bq.toArray,.bool r.2]/\D3.R u bq r.1/\Sub h u:=by
 obtain⟨i,cq,iZ,cY,eS,rfl,rfl,af,aD⟩:=V2 eT
 obtain⟨rfl,ie⟩:=Sl.len aD
 unfold T00 at f
 dsimp only at f
 refine G2 (args:=[.agg #[.int .i64 i,.slice cq eS.length cY]]) (fn:=Tryz.f12) rfl ?_
 refine trV f (i04 _ _ _ (U0 af aD)) λku f=>?_
 refine ifB f (λeE f=>?_) λeE f=>?_
 ·obtain rfl:=oJ f
  exact⟨([.int .i64 0,.slice none 0 0]),rfl,(U0 (by decide) (Z02 C0 h)),(Sub.refl _)⟩
 ·refine trM f (r06 _ _ af) ?_
  rintro fB f kq hY ⟨gu,rfl,b8,L⟩
  obtain⟨kL,kO⟩:=fB
  dsimp only at f b8
  obtain⟨kM,fV,ju,gO,kN,rfl,rfl,hg,ca⟩:=V2 b8
  obtain⟨rfl,iI⟩:=Sl.len ca
  try dsimp only at f
  refine trM f (l08 _ _ _ _ _ (Y0.mono L aD)) ?_
  rintro fC f kt h9 ⟨U,jz,W,fX,jA,gQ,rfl,k,aV,M⟩
  obtain⟨m,kQ⟩:=fC
  dsimp only at f k aV
  obtain⟨rfl,iN⟩:=Sl.len k
  obtain⟨rfl,iO⟩:=Sl.len aV
  refine trM f (K09 _ _ _ _ _ (Y0.mono M ca) _ _ _ _ aV) ?_
  rintro fD f kl G ⟨V,jD,X,rfl,x,j⟩
  obtain⟨s,kS⟩:=fD
  dsimp only at f x
  obtain⟨rfl,iS⟩:=Sl.len x
  refine ifB f (λeA f=>?_) λeA f=>?_
  ·obtain rfl:=oJ f
   exact⟨([.int .i64 0,.slice none 0 0]),rfl,(U0 (by decide) (Z02 C0 G)),((L.trans M).trans j)⟩
  ·refine Or.inr (Or.inr (Or.inl (aI (aI (by kernel_rfl) (by kernel_rfl)) ?_)))
   refine Or.inr ?_
   refine Or.inr ?_
   refine Or.inr ?_
   refine Or.inr ?_
   refine Or.inr (eX 2 (eX 2 (aI (aI rfl (aI rfl rfl)) ?_)))
   refine aI ?_ ?_
   ·skip
    refine aT ?_
    obtain⟨jF,dR,f⟩:=B0 f
    refine aI (T0 dR) ?_
    refine aT ?_
    refine aT ?_
    refine aT ?_
    obtain⟨ba,eu,f⟩:=B0 f
    refine eX { vars:=[11],boxes:=[3],owns:=[0],fuel:=true,kept:=[0] } (eX (λvs os u=>∃ D N am Q,vs.tail = [.int .i64 D,.int .i64 N]/\os = [am]/\Sub G u/\K0 D/\K0 N/\F2 (C0.R u) am Q/\P1 i m s (J1 vs) D N Q=some ba) (eX (λ_ _=>0) (aI (eX Q0 ⟨0,i,(List.replicate i.toNat ([.slice none 0 0]:List Value)),(List.replicate i.toNat ([]:D0)),rfl,rfl,(Sub.refl _),(by decide),af,(F2.rep (p:=C0.R G) (a:=[.slice none 0 0]) (b:=[]) (Z02 Wp.int G) (i.toNat)),eu⟩) ?_)))
    rintro _ _ am ak ah ⟨D,N,kT,Q,⟨⟩,⟨⟩,y,gV,aA,Y,d⟩
    replace d:P1 i m s ak D N Q=some ba:=d
    obtain _|ak:=ak
    ·cases d
    rw[P1.eq_2]at d
    refine ifB d (λeF d=>?_) λeF d=>?_
    ·refine ld d (Y0.mono (j.trans y) k) λkF gj b3 d=>?_
     obtain⟨fQ,jl,gJ,rfl⟩:=Wp.slice_cell b3
     obtain⟨rfl,iz⟩:=Sl.len b3
     obtain⟨kH,ei,d⟩:=B0 d
     obtain⟨gn,bL,b5⟩:=Sl.getG (r:=C0.toRp) (Y0.mono y x) ei (by decide) (h0p Wp.int ah)
     refine aI (λq=>(bL q).1) ?_
     obtain⟨fS,jo,gL,rfl⟩:=Wp.slice_cell b5
     obtain⟨rfl,iC⟩:=Sl.len b5
     refine eX _ (aI (λq=>(bL q).2) ?_)
     refine ifB d (λeG d=>?_) λeG d=>?_
     ·obtain rfl:=oJ d
      try dsimp only[L1,M1]at f
      obtain rfl:=oJ f
      exact⟨([.int .i64 0,.slice none 0 0]),rfl,(U0 (by decide) (Z02 C0 ah)),(((L.trans M).trans j).trans y)⟩
     ·refine ld d (Y0.mono (j.trans y) k) λkJ gq aP d=>?_
      obtain⟨fU,js,gN,rfl⟩:=Wp.slice_cell aP
      obtain⟨rfl,iG⟩:=Sl.len aP
      refine ldI d aP λkK hd d=>?_
      refine ifB d (λeH d=>?_) λeH d=>?_
      ·refine Or.inr (Or.inr (Or.inr (Or.inr (eX 15 (aI (aI (by kernel_rfl) (by kernel_rfl)) ?_)))))
       obtain⟨co,el,d⟩:=B0 d
       obtain⟨cQ,gr,dz,aQ⟩:=Sl.getI (r:=C0.toRp) (Y0.mono (j.trans y) k) el (by decide)
       obtain⟨bm,jt,bC,rfl⟩:=Wp.slice_cell aQ
       obtain⟨rfl,iH⟩:=Sl.len aQ
       refine Or.inl (eX (.hel (.slice U m.length W) D 1 0) (aI ?_ ?_))
       ·intro hT kb
        exact aI cQ (aI rfl (aI rfl rfl))
       refine Or.inl (eX (.val (.slice bm co.length bC)) (aI ?_ ?_))
       ·intro hU fl
        exact eX _ (aI (N4.up fl dz) (aI rfl (aI rfl rfl)))
       obtain⟨av,em,d⟩:=B0 d
       obtain⟨cR,gt,dA,eZ⟩:=Sl.getI (r:=Wp.int.toRp) aQ em (by decide)
       obtain⟨rfl,he⟩:=eZ
       refine Or.inl (eX (.hel (.slice bm co.length bC) 0 1 0) (aI ?_ ?_))
       ·intro hV kc
        exact aI cR (aI rfl (aI rfl rfl))
       refine Or.inl (eX (.val (.int .i64 av)) (aI ?_ ?_))
       ·intro hW fm
        exact eX _ (aI (N4.up fm dA) (aI rfl (aI rfl rfl)))
       refine Or.inl (eX (.val (.int .i64 (IntKind.i64.wrap (av-1)))) (aI ?_ ?_))
       ·intro hX ke
        exact aI rfl (aI rfl rfl)
       refine Or.inr (eX (λv w=>∃(g:Nat),v = .slice (some ⟨g,0,none⟩) 0 0/\ah g=none/\∃ e,w g=some (.cells #[] e (0,0))) (aI (λv ab ac C q=>by obtain⟨g,e,n,t,c⟩:=q;exact⟨g,e,n,t,C _ _ c⟩) (aI ?_ ?_)))
       ·intro hZ fo
        intro g K
        exact aI r02 (aI (Sub.set K) ⟨g,rfl,Sub.back fo K,_,Hp.set_same _ _ _⟩)
       obtain⟨J,en,d⟩:=B0 d
       obtain⟨cS,gv,dB,aR⟩:=Sl.getI (r:=C0.toRp) (Y0.mono y x) en (by decide)
       obtain⟨ct,jv,c1,rfl⟩:=Wp.slice_cell aR
       obtain⟨rfl,iJ⟩:=Sl.len aR
       refine Or.inl (eX (.hel (.slice V s.length X) D 1 0) (aI ?_ ?_))
       ·intro h0 kf
        exact aI cS (aI rfl (aI rfl rfl))
       refine Or.inl (eX (.val (.slice ct J.length c1)) (aI ?_ ?_))
       ·intro h1 fp
        exact eX _ (aI (N4.up fp dB) (aI rfl (aI rfl rfl)))
       obtain⟨jH,dT,d⟩:=B0 d
       refine Or.inr (eX (λv w=>∃(g o c:Nat),v = .slice (some ⟨g,o,none⟩) J.length c/\New C0 ah w [.slice (some ⟨g,o,none⟩) J.length c] J/\J.length<=9223372036854775807) (aI (λv ab ac C q=>by obtain⟨g,o,c,e,r,l⟩:=q;exact⟨g,o,c,e,New.mono r C,l⟩) (aI ?_ ?_)))
       ·intro h2 cg
        rintro _ ⟨gU,rfl,eR,dc⟩
        obtain⟨fA,dJ,eO,fG,dP⟩:=New.appZ (r:=Wp.int) eR dc cg (C0.mono cg aR) (d07 _)
        exact eX fA (aI dJ (aI (F1 dT eO) (aI (λae=>aI r02 (aI (Sub.refl _) (fG ae))) (λv ad hf=>aI r02 (dP v ad _ hf)))))
       intro eL aY
       rintro _ ⟨bO,bU,bI,rfl,e5,iX⟩
       rintro _ _
       obtain⟨kP,eo,d⟩:=B0 d
       obtain⟨cT,gw,dC,cb⟩:=A4 (F2.up (r:=C0.toRp) aY Y) eo
       refine aI cT ?_
       obtain⟨fW,jw,gP,rfl⟩:=Wp.slice_cell cb
       obtain⟨rfl,iK⟩:=Sl.len cb
       refine eX _ (aI dC ?_)
       exact I2 ak ⟨(IntKind.i64.wrap (D+1)),N,(am.set (IntKind.i64.wrap (av-1)).toNat [.slice (some ⟨bO,bU,none⟩) J.length bI]),(Q.set (IntKind.i64.wrap (av-1)).toNat J),rfl,rfl,(y.trans aY),(I0 _),aA,(F2.set (p:=C0.R eL) (a:=[.slice (some ⟨bO,bU,none⟩) J.length bI]) (b:=J) e5.r (IntKind.i64.wrap (av-1)).toNat (F2.up (r:=C0.toRp) aY Y)),d⟩
      ·refine Or.inr (Or.inr (Or.inl (aI (aI (by kernel_rfl) (by kernel_rfl)) ?_)))
       obtain⟨cp,ep,d⟩:=B0 d
       obtain⟨cU,gx,dD,aS⟩:=Sl.getI (r:=C0.toRp) (Y0.mono (j.trans y) k) ep (by decide)
       obtain⟨bn,jx,bD,rfl⟩:=Wp.slice_cell aS
       obtain⟨rfl,iL⟩:=Sl.len aS
       refine Or.inl (eX (.hel (.slice U m.length W) D 1 0) (aI ?_ ?_))
       ·intro h3 kg
        exact aI cU (aI rfl (aI rfl rfl))
       refine Or.inl (eX (.val (.slice bn cp.length bD)) (aI ?_ ?_))
       ·intro h4 fq
        exact eX _ (aI (N4.up fq dD) (aI rfl (aI rfl rfl)))
       obtain⟨aw,er,d⟩:=B0 d
       obtain⟨cV,gy,dE,e0⟩:=Sl.getI (r:=Wp.int.toRp) aS er (by decide)
       obtain⟨rfl,hh⟩:=e0
       refine Or.inl (eX (.hel (.slice bn cp.length bD) 0 1 0) (aI ?_ ?_))
       ·intro h5 kh
        exact aI cV (aI rfl (aI rfl rfl))
       refine Or.inl (eX (.val (.int .i64 aw)) (aI ?_ ?_))
       ·intro h6 fs
        exact eX _ (aI (N4.up fs dE) (aI rfl (aI rfl rfl)))
       refine Or.inl (eX (.val (.int .i64 (IntKind.i64.wrap (0-aw)))) (aI ?_ ?_))
       ·intro h7 ki
        exact aI rfl (aI rfl rfl)
       obtain⟨a4,es,d⟩:=B0 d
       obtain⟨cW,gz,dF,aU⟩:=Sl.getI (r:=C0.toRp) (Y0.mono y x) es (by decide)
       obtain⟨bo,jy,bE,rfl⟩:=Wp.slice_cell aU
       obtain⟨rfl,iM⟩:=Sl.len aU
       refine Or.inl (eX (.hel (.slice V s.length X) D 1 0) (aI ?_ ?_))
       ·intro h8 kj
        exact aI cW (aI rfl (aI rfl rfl))
       refine Or.inl (eX (.val (.slice bo a4.length bE)) (aI ?_ ?_))
       ·intro ia ft
        exact eX _ (aI (N4.up ft dF) (aI rfl (aI rfl rfl)))
       refine Or.inr ?_
       obtain⟨kR,et,d⟩:=B0 d
       obtain⟨cX,gA,dG,cc⟩:=A4 Y et
       obtain⟨fY,jB,gR,rfl⟩:=Wp.slice_cell cc
       obtain⟨rfl,iP⟩:=Sl.len cc
       refine Or.inl ?_
       apply eX
       refine aI ?_ ?_
       ·intro ib kk
        exact aI cX (aI rfl (aI rfl rfl))
       refine Or.inr ?_
       refine Or.inl (eX 1 (aI (aI rfl rfl) ?_))
       refine trM d (C8 _ bo a4.length bE a4 aU) ?_
       rintro az d kr bR ⟨bp,jC,bF,rfl,cj⟩
       have a1:Sub ah bR:=cj.sub
       have cd:=cj.r
       obtain⟨rfl,iQ⟩:=Sl.len cd
       refine aI (aI rfl a1) (aI (by first|exact trivial|exact rfl) ?_)
       refine eX _ (aI dG ?_)
       refine aT ?_
       exact I2 ak ⟨(IntKind.i64.wrap (D+1)),N,(am.set (IntKind.i64.wrap ((IntKind.i64.wrap (0-aw))-1)).toNat [.slice bp az.length bF]),(Q.set (IntKind.i64.wrap ((IntKind.i64.wrap (0-aw))-1)).toNat az),rfl,rfl,(y.trans a1),(I0 _),aA,(F2.set (p:=C0.R bR) (a:=[.slice bp az.length bF]) (b:=az) cd (IntKind.i64.wrap ((IntKind.i64.wrap (0-aw))-1)).toNat (F2.up (r:=C0.toRp) a1 Y)),d⟩
    ·obtain rfl:=oJ d
     try dsimp only[S0,W0]at f
     intro ks ic dM
     obtain⟨cw,dd,rfl,e6,fx,iY⟩:=V0.out (r:=C0.toRp) dM Y
     obtain rfl:=oJ f
     exact⟨([.int .i64 N,.slice cw Q.length dd]),rfl,(U0 aA e6),((((L.trans M).trans j).trans y).trans fx)⟩
   ·skip
    obtain⟨jI,dU,f⟩:=B0 f
    refine aI (T0 dU) ?_
    refine aT ?_
    refine aI ?_ ?_
    ·skip
     refine aT ?_
     refine aT ?_
     refine aT ?_
     obtain⟨bc,ex,f⟩:=B0 f
     refine eX { vars:=[11],boxes:=[3],owns:=[0],fuel:=true,kept:=[0] } (eX (λvs os u=>∃ F P ao T,vs.tail = [.int .i64 F,.int .i64 P]/\os = [ao]/\Sub G u/\K0 F/\K0 P/\F2 (C0.R u) ao T/\P1 i m s (J1 vs) F P T=some bc) (eX (λ_ _=>0) (aI (eX Q0 ⟨0,i,(List.replicate i.toNat ([.slice none 0 0]:List Value)),(List.replicate i.toNat ([]:D0)),rfl,rfl,(Sub.refl _),(by decide),af,(F2.rep (p:=C0.R G) (a:=[.slice none 0 0]) (b:=[]) (Z02 Wp.int G) (i.toNat)),ex⟩) ?_)))
     rintro _ _ ao al ai ⟨F,P,kV,T,⟨⟩,⟨⟩,A,gX,aC,aa,d⟩
     replace d:P1 i m s al F P T=some bc:=d
     obtain _|al:=al
     ·cases d
     rw[P1.eq_2]at d
     refine ifB d (λeI d=>?_) λeI d=>?_
     ·refine ld d (Y0.mono (j.trans A) k) λkv fZ bW d=>?_
      obtain⟨fH,i0,gB,rfl⟩:=Wp.slice_cell bW
      obtain⟨rfl,ig⟩:=Sl.len bW
      obtain⟨kw,dV,d⟩:=B0 d
      obtain⟨f0,bJ,bX⟩:=Sl.getG (r:=C0.toRp) (Y0.mono A x) dV (by decide) (h0p Wp.int ai)
      refine aI (λq=>(bJ q).1) ?_
      obtain⟨fJ,i1,gC,rfl⟩:=Wp.slice_cell bX
      obtain⟨rfl,ih⟩:=Sl.len bX
      refine eX _ (aI (λq=>(bJ q).2) ?_)
      refine ifB d (λey d=>?_) λey d=>?_
      ·obtain rfl:=oJ d
       try dsimp only[L1,M1]at f
       obtain rfl:=oJ f
       exact⟨([.int .i64 0,.slice none 0 0]),rfl,(U0 (by decide) (Z02 C0 ai)),(((L.trans M).trans j).trans A)⟩
      ·refine ld d (Y0.mono (j.trans A) k) λkx f1 aE d=>?_
       obtain⟨fK,i2,gD,rfl⟩:=Wp.slice_cell aE
       obtain⟨rfl,ii⟩:=Sl.len aE
       refine ldI d aE λky gY d=>?_
       refine ifB d (λez d=>?_) λez d=>?_
       ·refine Or.inr (Or.inr (Or.inr (Or.inr (eX 15 (aI (aI (by kernel_rfl) (by kernel_rfl)) ?_)))))
        obtain⟨ck,dW,d⟩:=B0 d
        obtain⟨cx,f4,df,aF⟩:=Sl.getI (r:=C0.toRp) (Y0.mono (j.trans A) k) dW (by decide)
        obtain⟨be,i3,bs,rfl⟩:=Wp.slice_cell aF
        obtain⟨rfl,ij⟩:=Sl.len aF
        refine Or.inl (eX (.hel (.slice U m.length W) F 1 0) (aI ?_ ?_))
        ·intro hi jJ
         exact aI cx (aI rfl (aI rfl rfl))
        refine Or.inl (eX (.val (.slice be ck.length bs)) (aI ?_ ?_))
        ·intro hj e7
         exact eX _ (aI (N4.up e7 df) (aI rfl (aI rfl rfl)))
        obtain⟨ap,dX,d⟩:=B0 d
        obtain⟨cy,f5,dg,eU⟩:=Sl.getI (r:=Wp.int.toRp) aF dX (by decide)
        obtain⟨rfl,gZ⟩:=eU
        refine Or.inl (eX (.hel (.slice be ck.length bs) 0 1 0) (aI ?_ ?_))
        ·intro hk jK
         exact aI cy (aI rfl (aI rfl rfl))
        refine Or.inl (eX (.val (.int .i64 ap)) (aI ?_ ?_))
        ·intro hl e8
         exact eX _ (aI (N4.up e8 dg) (aI rfl (aI rfl rfl)))
        refine Or.inl (eX (.val (.int .i64 (IntKind.i64.wrap (ap-1)))) (aI ?_ ?_))
        ·intro hm jL
         exact aI rfl (aI rfl rfl)
        refine Or.inr (eX (λv w=>∃(g:Nat),v = .slice (some ⟨g,0,none⟩) 0 0/\ai g=none/\∃ e,w g=some (.cells #[] e (0,0))) (aI (λv ab ac C q=>by obtain⟨g,e,n,t,c⟩:=q;exact⟨g,e,n,t,C _ _ c⟩) (aI ?_ ?_)))
        ·intro hn e9
         intro g K
         exact aI r02 (aI (Sub.set K) ⟨g,rfl,Sub.back e9 K,_,Hp.set_same _ _ _⟩)
        obtain⟨H,dY,d⟩:=B0 d
        obtain⟨cz,f6,dh,aG⟩:=Sl.getI (r:=C0.toRp) (Y0.mono A x) dY (by decide)
        obtain⟨cr,ja,cZ,rfl⟩:=Wp.slice_cell aG
        obtain⟨rfl,ik⟩:=Sl.len aG
        refine Or.inl (eX (.hel (.slice V s.length X) F 1 0) (aI ?_ ?_))
        ·intro ho jM
         exact aI cz (aI rfl (aI rfl rfl))
        refine Or.inl (eX (.val (.slice cr H.length cZ)) (aI ?_ ?_))
        ·intro hp fa
         exact eX _ (aI (N4.up fa dh) (aI rfl (aI rfl rfl)))
        obtain⟨jE,dQ,d⟩:=B0 d
        refine Or.inr (eX (λv w=>∃(g o c:Nat),v = .slice (some ⟨g,o,none⟩) H.length c/\New C0 ai w [.slice (some ⟨g,o,none⟩) H.length c] H/\H.length<=9223372036854775807) (aI (λv ab ac C q=>by obtain⟨g,o,c,e,r,l⟩:=q;exact⟨g,o,c,e,New.mono r C,l⟩) (aI ?_ ?_)))
        ·intro hq ce
         rintro _ ⟨gS,rfl,eP,c2⟩
         obtain⟨fy,dH,eM,fE,dN⟩:=New.appZ (r:=Wp.int) eP c2 ce (C0.mono ce aG) (d07 _)
         exact eX fy (aI dH (aI (F1 dQ eM) (aI (λae=>aI r02 (aI (Sub.refl _) (fE ae))) (λv ad hf=>aI r02 (dN v ad _ hf)))))
        intro eJ aW
        rintro _ ⟨bM,bS,bG,rfl,e1,iT⟩
        rintro _ _
        obtain⟨kz,dZ,d⟩:=B0 d
        obtain⟨cA,f7,di,bY⟩:=A4 (F2.up (r:=C0.toRp) aW aa) dZ
        refine aI cA ?_
        obtain⟨fL,jb,gE,rfl⟩:=Wp.slice_cell bY
        obtain⟨rfl,il⟩:=Sl.len bY
        refine eX _ (aI di ?_)
        exact I2 al ⟨(IntKind.i64.wrap (F+1)),P,(ao.set (IntKind.i64.wrap (ap-1)).toNat [.slice (some ⟨bM,bS,none⟩) H.length bG]),(T.set (IntKind.i64.wrap (ap-1)).toNat H),rfl,rfl,(A.trans aW),(I0 _),aC,(F2.set (p:=C0.R eJ) (a:=[.slice (some ⟨bM,bS,none⟩) H.length bG]) (b:=H) e1.r (IntKind.i64.wrap (ap-1)).toNat (F2.up (r:=C0.toRp) aW aa)),d⟩
       ·refine Or.inr (Or.inr (Or.inl (aI (aI (by kernel_rfl) (by kernel_rfl)) ?_)))
        obtain⟨cl,d1,d⟩:=B0 d
        obtain⟨cC,f8,dj,aH⟩:=Sl.getI (r:=C0.toRp) (Y0.mono (j.trans A) k) d1 (by decide)
        obtain⟨bf,jc,bt,rfl⟩:=Wp.slice_cell aH
        obtain⟨rfl,im⟩:=Sl.len aH
        refine Or.inl (eX (.hel (.slice U m.length W) F 1 0) (aI ?_ ?_))
        ·intro hr jN
         exact aI cC (aI rfl (aI rfl rfl))
        refine Or.inl (eX (.val (.slice bf cl.length bt)) (aI ?_ ?_))
        ·intro hs fb
         exact eX _ (aI (N4.up fb dj) (aI rfl (aI rfl rfl)))
        obtain⟨aq,d2,d⟩:=B0 d
        obtain⟨cD,f9,dk,eV⟩:=Sl.getI (r:=Wp.int.toRp) aH d2 (by decide)
        obtain⟨rfl,g0⟩:=eV
        refine Or.inl (eX (.hel (.slice bf cl.length bt) 0 1 0) (aI ?_ ?_))
        ·intro ht jO
         exact aI cD (aI rfl (aI rfl rfl))
        refine Or.inl (eX (.val (.int .i64 aq)) (aI ?_ ?_))
        ·intro hu fc
         exact eX _ (aI (N4.up fc dk) (aI rfl (aI rfl rfl)))
        refine Or.inl (eX (.val (.int .i64 (IntKind.i64.wrap (0-aq)))) (aI ?_ ?_))
        ·intro hw jP
         exact aI rfl (aI rfl rfl)
        obtain⟨a2,d3,d⟩:=B0 d
        obtain⟨cE,ga,dm,aJ⟩:=Sl.getI (r:=C0.toRp) (Y0.mono A x) d3 (by decide)
        obtain⟨bg,jd,bu,rfl⟩:=Wp.slice_cell aJ
        obtain⟨rfl,io⟩:=Sl.len aJ
        refine Or.inl (eX (.hel (.slice V s.length X) F 1 0) (aI ?_ ?_))
        ·intro hx jQ
         exact aI cE (aI rfl (aI rfl rfl))
        refine Or.inl (eX (.val (.slice bg a2.length bu)) (aI ?_ ?_))
        ·intro hy fd
         exact eX _ (aI (N4.up fd dm) (aI rfl (aI rfl rfl)))
        refine Or.inr ?_
        obtain⟨kA,ea,d⟩:=B0 d
        obtain⟨cG,gb,dn,bZ⟩:=A4 aa ea
        obtain⟨fM,je,gF,rfl⟩:=Wp.slice_cell bZ
        obtain⟨rfl,ip⟩:=Sl.len bZ
        refine Or.inl ?_
        apply eX
        refine aI ?_ ?_
        ·intro hz jR
         exact aI cG (aI rfl (aI rfl rfl))
        refine Or.inr ?_
        refine Or.inl (eX 1 (aI (aI rfl rfl) ?_))
        refine trM d (C8 _ bg a2.length bu a2 aJ) ?_
        rintro ax d km bP ⟨bh,jf,bv,rfl,ch⟩
        have aZ:Sub ai bP:=ch.sub
        have b0:=ch.r
        obtain⟨rfl,iq⟩:=Sl.len b0
        refine aI (aI rfl aZ) (aI (by first|exact trivial|exact rfl) ?_)
        refine eX _ (aI dn ?_)
        refine aT ?_
        exact I2 al ⟨(IntKind.i64.wrap (F+1)),P,(ao.set (IntKind.i64.wrap ((IntKind.i64.wrap (0-aq))-1)).toNat [.slice bh ax.length bv]),(T.set (IntKind.i64.wrap ((IntKind.i64.wrap (0-aq))-1)).toNat ax),rfl,rfl,(A.trans aZ),(I0 _),aC,(F2.set (p:=C0.R bP) (a:=[.slice bh ax.length bv]) (b:=ax) b0 (IntKind.i64.wrap ((IntKind.i64.wrap (0-aq))-1)).toNat (F2.up (r:=C0.toRp) aZ aa)),d⟩
     ·obtain rfl:=oJ d
      try dsimp only[S0,W0]at f
      intro kn hA dK
      obtain⟨cu,c3,rfl,e2,fu,iU⟩:=V0.out (r:=C0.toRp) dK aa
      obtain rfl:=oJ f
      exact⟨([.int .i64 P,.slice cu T.length c3]),rfl,(U0 aC e2),((((L.trans M).trans j).trans A).trans fu)⟩
    ·skip
     refine aT ?_
     refine aT ?_
     refine aT ?_
     obtain⟨bb,ew,f⟩:=B0 f
     refine eX { vars:=[11],boxes:=[3],owns:=[0],fuel:=true,kept:=[0] } (eX (λvs os u=>∃ E O an S,vs.tail = [.int .i64 E,.int .i64 O]/\os = [an]/\Sub G u/\K0 E/\K0 O/\F2 (C0.R u) an S/\P1 i m s (J1 vs) E O S=some bb) (eX (λ_ _=>0) (aI (eX Q0 ⟨0,i,(List.replicate i.toNat ([.slice none 0 0]:List Value)),(List.replicate i.toNat ([]:D0)),rfl,rfl,(Sub.refl _),(by decide),af,(F2.rep (p:=C0.R G) (a:=[.slice none 0 0]) (b:=[]) (Z02 Wp.int G) (i.toNat)),ew⟩) ?_)))
     rintro _ _ an aj ag ⟨E,O,kU,S,⟨⟩,⟨⟩,z,gW,aB,Z,d⟩
     replace d:P1 i m s aj E O S=some bb:=d
     obtain _|aj:=aj
     ·cases d
     rw[P1.eq_2]at d
     refine ifB d (λeB d=>?_) λeB d=>?_
     ·refine ld d (Y0.mono (j.trans z) k) λkB gc b1 d=>?_
      obtain⟨fN,jg,gG,rfl⟩:=Wp.slice_cell b1
      obtain⟨rfl,ir⟩:=Sl.len b1
      obtain⟨kC,eb,d⟩:=B0 d
      obtain⟨gd,bK,b2⟩:=Sl.getG (r:=C0.toRp) (Y0.mono z x) eb (by decide) (h0p Wp.int ag)
      refine aI (λq=>(bK q).1) ?_
      obtain⟨fO,jh,gH,rfl⟩:=Wp.slice_cell b2
      obtain⟨rfl,iu⟩:=Sl.len b2
      refine eX _ (aI (λq=>(bK q).2) ?_)
      refine ifB d (λeC d=>?_) λeC d=>?_
      ·obtain rfl:=oJ d
       try dsimp only[L1,M1]at f
       obtain rfl:=oJ f
       exact⟨([.int .i64 0,.slice none 0 0]),rfl,(U0 (by decide) (Z02 C0 ag)),(((L.trans M).trans j).trans z)⟩
      ·refine ld d (Y0.mono (j.trans z) k) λkD ge aK d=>?_
       obtain⟨fP,ji,gI,rfl⟩:=Wp.slice_cell aK
       obtain⟨rfl,iv⟩:=Sl.len aK
       refine ldI d aK λkE ha d=>?_
       refine ifB d (λeD d=>?_) λeD d=>?_
       ·refine Or.inr (Or.inr (Or.inr (Or.inr (eX 15 (aI (aI (by kernel_rfl) (by kernel_rfl)) ?_)))))
        obtain⟨cm,ec,d⟩:=B0 d
        obtain⟨cH,gf,dq,aL⟩:=Sl.getI (r:=C0.toRp) (Y0.mono (j.trans z) k) ec (by decide)
        obtain⟨bi,jj,bx,rfl⟩:=Wp.slice_cell aL
        obtain⟨rfl,iw⟩:=Sl.len aL
        refine Or.inl (eX (.hel (.slice U m.length W) E 1 0) (aI ?_ ?_))
        ·intro hB jS
         exact aI cH (aI rfl (aI rfl rfl))
        refine Or.inl (eX (.val (.slice bi cm.length bx)) (aI ?_ ?_))
        ·intro hC fe
         exact eX _ (aI (N4.up fe dq) (aI rfl (aI rfl rfl)))
        obtain⟨ar,ed,d⟩:=B0 d
        obtain⟨cI,gg,ds,eW⟩:=Sl.getI (r:=Wp.int.toRp) aL ed (by decide)
        obtain⟨rfl,hb⟩:=eW
        refine Or.inl (eX (.hel (.slice bi cm.length bx) 0 1 0) (aI ?_ ?_))
        ·intro hD jT
         exact aI cI (aI rfl (aI rfl rfl))
        refine Or.inl (eX (.val (.int .i64 ar)) (aI ?_ ?_))
        ·intro hE ff
         exact eX _ (aI (N4.up ff ds) (aI rfl (aI rfl rfl)))
        refine Or.inl (eX (.val (.int .i64 (IntKind.i64.wrap (ar-1)))) (aI ?_ ?_))
        ·intro hF jU
         exact aI rfl (aI rfl rfl)
        refine Or.inr (eX (λv w=>∃(g:Nat),v = .slice (some ⟨g,0,none⟩) 0 0/\ag g=none/\∃ e,w g=some (.cells #[] e (0,0))) (aI (λv ab ac C q=>by obtain⟨g,e,n,t,c⟩:=q;exact⟨g,e,n,t,C _ _ c⟩) (aI ?_ ?_)))
        ·intro hG fg
         intro g K
         exact aI r02 (aI (Sub.set K) ⟨g,rfl,Sub.back fg K,_,Hp.set_same _ _ _⟩)
        obtain⟨I,ee,d⟩:=B0 d
        obtain⟨cJ,gh,dt,aM⟩:=Sl.getI (r:=C0.toRp) (Y0.mono z x) ee (by decide)
        obtain⟨cs,jk,c0,rfl⟩:=Wp.slice_cell aM
        obtain⟨rfl,ix⟩:=Sl.len aM
        refine Or.inl (eX (.hel (.slice V s.length X) E 1 0) (aI ?_ ?_))
        ·intro hH jV
         exact aI cJ (aI rfl (aI rfl rfl))
        refine Or.inl (eX (.val (.slice cs I.length c0)) (aI ?_ ?_))
        ·intro hI fh
         exact eX _ (aI (N4.up fh dt) (aI rfl (aI rfl rfl)))
        obtain⟨jG,dS,d⟩:=B0 d
        refine Or.inr (eX (λv w=>∃(g o c:Nat),v = .slice (some ⟨g,o,none⟩) I.length c/\New C0 ag w [.slice (some ⟨g,o,none⟩) I.length c] I/\I.length<=9223372036854775807) (aI (λv ab ac C q=>by obtain⟨g,o,c,e,r,l⟩:=q;exact⟨g,o,c,e,New.mono r C,l⟩) (aI ?_ ?_)))
        ·intro hJ cf
         rintro _ ⟨gT,rfl,eQ,c4⟩
         obtain⟨fz,dI,eN,fF,dO⟩:=New.appZ (r:=Wp.int) eQ c4 cf (C0.mono cf aM) (d07 _)
         exact eX fz (aI dI (aI (F1 dS eN) (aI (λae=>aI r02 (aI (Sub.refl _) (fF ae))) (λv ad hf=>aI r02 (dO v ad _ hf)))))
        intro eK aX
        rintro _ ⟨bN,bT,bH,rfl,e3,iV⟩
        rintro _ _
        obtain⟨kG,ef,d⟩:=B0 d
        obtain⟨cK,gk,du,b4⟩:=A4 (F2.up (r:=C0.toRp) aX Z) ef
        refine aI cK ?_
        obtain⟨fR,jm,gK,rfl⟩:=Wp.slice_cell b4
        obtain⟨rfl,iA⟩:=Sl.len b4
        refine eX _ (aI du ?_)
        exact I2 aj ⟨(IntKind.i64.wrap (E+1)),O,(an.set (IntKind.i64.wrap (ar-1)).toNat [.slice (some ⟨bN,bT,none⟩) I.length bH]),(S.set (IntKind.i64.wrap (ar-1)).toNat I),rfl,rfl,(z.trans aX),(I0 _),aB,(F2.set (p:=C0.R eK) (a:=[.slice (some ⟨bN,bT,none⟩) I.length bH]) (b:=I) e3.r (IntKind.i64.wrap (ar-1)).toNat (F2.up (r:=C0.toRp) aX Z)),d⟩
       ·refine Or.inr (Or.inr (Or.inl (aI (aI (by kernel_rfl) (by kernel_rfl)) ?_)))
        obtain⟨cn,eg,d⟩:=B0 d
        obtain⟨cL,gl,dv,aN⟩:=Sl.getI (r:=C0.toRp) (Y0.mono (j.trans z) k) eg (by decide)
        obtain⟨bj,jn,bz,rfl⟩:=Wp.slice_cell aN
        obtain⟨rfl,iB⟩:=Sl.len aN
        refine Or.inl (eX (.hel (.slice U m.length W) E 1 0) (aI ?_ ?_))
        ·intro hK jW
         exact aI cL (aI rfl (aI rfl rfl))
        refine Or.inl (eX (.val (.slice bj cn.length bz)) (aI ?_ ?_))
        ·intro hL fi
         exact eX _ (aI (N4.up fi dv) (aI rfl (aI rfl rfl)))
        obtain⟨au,eh,d⟩:=B0 d
        obtain⟨cM,gm,dw,eY⟩:=Sl.getI (r:=Wp.int.toRp) aN eh (by decide)
        obtain⟨rfl,hc⟩:=eY
        refine Or.inl (eX (.hel (.slice bj cn.length bz) 0 1 0) (aI ?_ ?_))
        ·intro hM jX
         exact aI cM (aI rfl (aI rfl rfl))
        refine Or.inl (eX (.val (.int .i64 au)) (aI ?_ ?_))
        ·intro hN fj
         exact eX _ (aI (N4.up fj dw) (aI rfl (aI rfl rfl)))
        refine Or.inl (eX (.val (.int .i64 (IntKind.i64.wrap (0-au)))) (aI ?_ ?_))
        ·intro hO jY
         exact aI rfl (aI rfl rfl)
        obtain⟨a3,ej,d⟩:=B0 d
        obtain⟨cO,go,dx,aO⟩:=Sl.getI (r:=C0.toRp) (Y0.mono z x) ej (by decide)
        obtain⟨bk,jp,bA,rfl⟩:=Wp.slice_cell aO
        obtain⟨rfl,iD⟩:=Sl.len aO
        refine Or.inl (eX (.hel (.slice V s.length X) E 1 0) (aI ?_ ?_))
        ·intro hP jZ
         exact aI cO (aI rfl (aI rfl rfl))
        refine Or.inl (eX (.val (.slice bk a3.length bA)) (aI ?_ ?_))
        ·intro hQ fk
         exact eX _ (aI (N4.up fk dx) (aI rfl (aI rfl rfl)))
        refine Or.inr ?_
        obtain⟨kI,ek,d⟩:=B0 d
        obtain⟨cP,gp,dy,b6⟩:=A4 Z ek
        obtain⟨fT,jq,gM,rfl⟩:=Wp.slice_cell b6
        obtain⟨rfl,iE⟩:=Sl.len b6
        refine Or.inl ?_
        apply eX
        refine aI ?_ ?_
        ·intro hR ka
         exact aI cP (aI rfl (aI rfl rfl))
        refine Or.inr ?_
        refine Or.inl (eX 1 (aI (aI rfl rfl) ?_))
        refine trM d (C8 _ bk a3.length bA a3 aO) ?_
        rintro ay d ko bQ ⟨bl,jr,bB,rfl,ci⟩
        have a0:Sub ag bQ:=ci.sub
        have b7:=ci.r
        obtain⟨rfl,iF⟩:=Sl.len b7
        refine aI (aI rfl a0) (aI (by first|exact trivial|exact rfl) ?_)
        refine eX _ (aI dy ?_)
        refine aT ?_
        exact I2 aj ⟨(IntKind.i64.wrap (E+1)),O,(an.set (IntKind.i64.wrap ((IntKind.i64.wrap (0-au))-1)).toNat [.slice bl ay.length bB]),(S.set (IntKind.i64.wrap ((IntKind.i64.wrap (0-au))-1)).toNat ay),rfl,rfl,(z.trans a0),(I0 _),aB,(F2.set (p:=C0.R bQ) (a:=[.slice bl ay.length bB]) (b:=ay) b7 (IntKind.i64.wrap ((IntKind.i64.wrap (0-au))-1)).toNat (F2.up (r:=C0.toRp) a0 Z)),d⟩
     ·obtain rfl:=oJ d
      try dsimp only[S0,W0]at f
      intro kp hS dL
      obtain⟨cv,db,rfl,e4,fv,iW⟩:=V0.out (r:=C0.toRp) dL Z
      obtain rfl:=oJ f
      exact⟨([.int .i64 O,.slice cv S.length db]),rfl,(U0 aB e4),((((L.trans M).trans j).trans z).trans fv)⟩
theorem L09(h:Hp)(b:Int)(u:K0 b)(d:Option Addr)(g f:Nat)(c:N0)(i:Y0.R h [.slice d g f] c)(r:Bool)(a:Q9 b c=some r):
  Tr Tryz.prog 33 #[.int .i64 b,.slice d g f] h λv t=>v = .bool r/\t=h:=by
 obtain⟨rfl,F⟩:=Sl.len i
 unfold Q9 at a
 refine Tr.forget (G2 (args:=[.int .i64 b,.slice d c.length f]) (fn:=Tryz.f33) rfl ?_)
 refine trM a (C05 _ b u d c.length f c i) ?_
 rintro z a J E ⟨C,rfl,j,y⟩
 obtain⟨K,L⟩:=z
 dsimp only at a j
 obtain⟨l,m,o,H,p,n,rfl,rfl,w,x,k⟩:=M0 j
 obtain⟨rfl,G⟩:=Sl.len k
 try dsimp only at a
 refine trG a (λq=>L0f _ [.int .i64 l,.int .i64 m,.slice o n.length p] (l,m,n) (H0 w x k)) λA a=>?_
 obtain⟨I,s,a⟩:=B0 a
 have D:K0 A:=T0 s
 obtain rfl:=oJ a
 exact aI rfl y
theorem M09(h:Hp)(c:List Value)(f:H1)(m:D3.R h c f)(r:Bool)(a:R9 f=some r):
  Tr Tryz.prog 14 #[.agg c.toArray] h λv j=>v = .bool r/\j=h:=by
 obtain⟨k,g,o,i,l,rfl,rfl,d,b⟩:=V2 m
 obtain⟨rfl,n⟩:=Sl.len b
 unfold R9 at a
 dsimp only at a
 refine Tr.forget (G2 (args:=[.agg #[.int .i64 k,.slice g l.length i]]) (fn:=Tryz.f14) rfl ?_)
 refine trV a (F01 _ _ _ (U0 d b)) λp a=>?_
 refine trG a (λq=>L09 _ _ d _ _ _ _ b) λs a=>?_
 obtain rfl:=oJ a
 exact aI rfl (Sub.refl _)
theorem L08(h:Hp)(f:List Value)(g:H1)(P:D3.R h f g)(r:ByteArray)(a:g8 g=some r):
  Tr Tryz.prog 5 #[.agg f.toArray] h λv F=>v = .string r/\F=h:=by
 obtain⟨N,o,ae,p,O,rfl,rfl,c,b⟩:=V2 P
 obtain⟨rfl,ac⟩:=Sl.len b
 unfold g8 at a
 dsimp only at a
 refine Tr.forget (G2 (args:=[.agg #[.int .i64 N,.slice o O.length p]]) (fn:=Tryz.f5) rfl ?_)
 refine trV a (F01 _ _ _ (U0 c b)) λap a=>?_
 refine ifB a (λG a=>?_) λG a=>?_
 ·obtain rfl:=oJ a
  exact aI rfl (Sub.refl _)
 ·refine trV a (n03 _ _ _ (U0 c b)) λS a=>?_
  obtain⟨am,y,a⟩:=B0 a
  have aa:S.size<=9223372036854775807:=T0 y
  refine trM a (k0c _ _ _ (U0 c b)) ?_
  rintro T a ao ab ⟨V,rfl,i,d⟩
  obtain⟨aq,av⟩:=T
  dsimp only at a i
  obtain⟨ar,U,af,W,au,rfl,rfl,I,j⟩:=V2 i
  obtain⟨rfl,ad⟩:=Sl.len j
  try dsimp only at a
  refine ifB a (λH a=>?_) λH a=>?_
  ·obtain⟨an,z,a⟩:=B0 a
   have M:=T0 z
   refine aI M ?_
   refine trV a (n03 _ _ _ (U0 I j)) λQ a=>?_
   obtain⟨ag,q,a⟩:=B0 a
   have X:Q.size<=9223372036854775807:=T0 q
   obtain⟨ah,s,a⟩:=B0 a
   have J:=T0 s
   refine aI J ?_
   obtain rfl:=oJ a
   exact aI rfl d
  ·refine Or.inl (aI (aI (by kernel_rfl) (by kernel_rfl)) ?_)
   obtain⟨k,A,a⟩:=B0 a
   refine eX (.bool k) (aI (M09 _ _ _ (U0 c (Y0.mono d b)) _  A) ?_)
   obtain⟨l,C,a⟩:=B0 a
   refine eX (.string l) (aI (g09 _ k (⟨#[32,105,110,106,101,99,116,105,118,101]⟩:ByteArray) (by decide) _  C) ?_)
   obtain⟨ai,t,a⟩:=B0 a
   have Y:l.size<=9223372036854775807:=T0 t
   obtain⟨aj,u,a⟩:=B0 a
   have K:=T0 u
   refine aI K ?_
   obtain⟨m,D,a⟩:=B0 a
   refine eX (.bool m) (aI (i04 _ _ _ (U0 c (Y0.mono d b)) _  D) ?_)
   obtain⟨n,E,a⟩:=B0 a
   refine eX (.string n) (aI (g09 _ m (⟨#[32,115,117,114,106,101,99,116,105,118,101]⟩:ByteArray) (by decide) _  E) ?_)
   obtain⟨ak,w,a⟩:=B0 a
   have Z:n.size<=9223372036854775807:=T0 w
   obtain⟨al,x,a⟩:=B0 a
   have L:=T0 x
   refine aI L ?_
   obtain rfl:=oJ a
   exact aI rfl d
theorem H9(h:Hp)(d:List Value)(j:j0)(z:U1.R h d j)(r:j0)(a:O5 j=some r):
  Tr Tryz.prog 106 #[.agg d.toArray] h λv t=>∃(g:Nat) (i c:Nat),v = .agg ([.int .i64 r.1,.int .i64 r.2.1,.slice (some ⟨g,0,none⟩) i c]:List Value).toArray/\New U1 h t [.int .i64 r.1,.int .i64 r.2.1,.slice (some ⟨g,0,none⟩) i c] r:=by
 obtain⟨x,y,m,F,n,k,rfl,rfl,u,w,l⟩:=M0 z
 obtain⟨rfl,D⟩:=Sl.len l
 unfold O5 at a
 dsimp only at a
 refine G2 (args:=[.agg #[.int .i64 x,.int .i64 y,.slice m k.length n]]) (fn:=Tryz.f106) rfl ?_
 refine Or.inr (Or.inr (Or.inl (aI (aI (by kernel_rfl) (by kernel_rfl)) ?_)))
 refine Or.inr ?_
 refine Or.inr ?_
 refine Or.inr ?_
 refine Or.inr ?_
 refine Or.inl (eX 0 (aI (aI rfl rfl) ?_))
 refine aT ?_
 obtain⟨A,p,b⟩:=Sl.rows (r:=E2.toRp) l
 refine eX A (aI p ?_)
 obtain⟨G,q,a⟩:=B0 a
 refine aI (F1 q (by first|rw[F2.length (show F2 (E2.R h) ([]:List (List Value)) ([]:E1) from trivial),F2.length b]|exact congrArg (·+1) (F2.length (show F2 (E2.R h) ([]:List (List Value)) ([]:E1) from trivial)))) ?_
 refine aT ?_
 refine aT ?_
 refine aT ?_
 intro J C f
 obtain⟨s,o,rfl,H,I,E⟩:=V0.outS (r:=E2.toRp) f (F2.append (show F2 (E2.R h) ([]:List (List Value)) ([]:E1) from trivial) b)
 obtain rfl:=oJ a
 exact⟨s,((([]:E1)++k)).length,o,rfl,(New.pair (New.int u) (New.pair (New.int w) (V0.newPlain (r:=E2) f (F2.append (show F2 (E2.R h) ([]:List (List Value)) ([]:E1) from trivial) b) (j08 _))))⟩
theorem f0d(h:Hp)(m:List Value)(n:j0)(C:U1.R h m n)(g:Int)(H:K0 g)(r:Int)(f:g01 n g=some r):
  Tr Tryz.prog 110 #[.agg m.toArray,.int .i64 g] h λv j=>v = .int .i64 r/\j=h:=by
 obtain⟨z,A,p,O,q,k,rfl,rfl,F,G,o⟩:=M0 C
 obtain⟨rfl,N⟩:=Sl.len o
 unfold g01 at f
 dsimp only at f
 refine Tr.forget (G2 (args:=[.agg #[.int .i64 z,.int .i64 A,.slice p k.length q],.int .i64 g]) (fn:=Tryz.f110) rfl ?_)
 obtain⟨l,s,f⟩:=B0 f
 refine eX { vars:=[5,11],boxes:=[],owns:=[],fuel:=true } (eX (λvs os j=>∃ b c,vs.tail = [.int .i64 b,.int .i64 c]/\os = []/\Sub h j/\K0 b/\K0 c/\w5 k g (J1 vs) b c=some l) (eX (λ_ _=>0) (aI (eX Q0 ⟨0,0,rfl,rfl,(Sub.refl _),(by decide),(by decide),s⟩) ?_)))
 rintro _ _ d M ⟨b,c,⟨⟩,⟨⟩,i,y,I,a⟩
 replace a:w5 k g d b c=some l:=a
 obtain _|d:=d
 ·cases a
 rw[w5.eq_2]at a
 refine ifB a (λu a=>?_) λu a=>?_
 ·refine ld a (G1.mono i o) λP E D a=>?_
  obtain⟨Q,S,T,rfl,rfl,J,K,L⟩:=M2 D
  try dsimp only at a
  refine ifB a (λw a=>?_) λw a=>?_
  ·refine ifB a (λx a=>?_) λx a=>?_
   ·exact I2 d ⟨(IntKind.i64.wrap ((IntKind.i64.wrap (b+1))+1)),(IntKind.i64.wrap (c+1)),rfl,rfl,i,(I0 _),(I0 _),a⟩
   ·exact I2 d ⟨(IntKind.i64.wrap (b+1)),(IntKind.i64.wrap (c+1)),rfl,rfl,i,(I0 _),(I0 _),a⟩
  ·refine ifB a (λt a=>?_) λt a=>?_
   ·exact I2 d ⟨(IntKind.i64.wrap (b+1)),(IntKind.i64.wrap (c+1)),rfl,rfl,i,(I0 _),(I0 _),a⟩
   ·exact I2 d ⟨b,(IntKind.i64.wrap (c+1)),rfl,rfl,i,y,(I0 _),a⟩
 ·obtain rfl:=oJ a
  try dsimp only[S0,W0]at f
  obtain rfl:=oJ f
  exact aI rfl i
theorem o02(h:Hp)(j:Option Addr)(p l:Nat)(d:E1)(s:G1.R h [.slice j p l] d)(k:Option Addr)(q m:Nat)(f:E1)(t:G1.R h [.slice k q m] f)(r:Bool)(b:R3 d f=some r):
  Tr Tryz.prog 113 #[.slice j p l,.slice k q m] h λv n=>v = .bool r/\n=h:=by
 obtain⟨rfl,T⟩:=Sl.len s
 obtain⟨rfl,U⟩:=Sl.len t
 unfold R3 at b
 refine Tr.forget (G2 (args:=[.slice j d.length l,.slice k f.length m]) (fn:=Tryz.f113) rfl ?_)
 refine ifB b (λw b=>?_) λw b=>?_
 ·obtain rfl:=oJ b
  exact aI rfl (Sub.refl _)
 ·obtain⟨o,u,b⟩:=B0 b
  refine eX { vars:=[13],boxes:=[],owns:=[],fuel:=true } (eX (λvs os n=>∃ c,vs.tail = [.int .i64 c]/\os = []/\Sub h n/\K0 c/\T1 d f (J1 vs) c=some o) (eX (λ_ _=>0) (aI (eX Q0 ⟨0,rfl,rfl,(Sub.refl _),(by decide),u⟩) ?_)))
  rintro _ i S ⟨c,⟨⟩,⟨⟩,g,K,a⟩
  replace a:T1 d f i c=some o:=a
  obtain _|i:=i
  ·cases a
  rw[T1.eq_2]at a
  refine ifB a (λx a=>?_) λx a=>?_
  ·refine Or.inl (aI (aI (by kernel_rfl) (by kernel_rfl)) ?_)
   refine ld a (G1.mono g s) λV I z a=>?_
   obtain⟨C,D,E,rfl,rfl,L,M,N⟩:=M2 z
   try dsimp only at a
   refine ld a (G1.mono g t) λW J A a=>?_
   obtain⟨F,G,H,rfl,rfl,O,P,Q⟩:=M2 A
   try dsimp only at a
   refine eX (!eqE (C,D,E) (F,G,H)) (aI (t0i _ _ _ rfl _ _ _ _ _ _) ?_)
   refine ifB a (λy a=>?_) λy a=>?_
   ·obtain rfl:=oJ a
    try dsimp only[L1,M1]at b
    obtain rfl:=oJ b
    exact aI rfl g
   ·exact I2 i ⟨(IntKind.i64.wrap (c+1)),rfl,rfl,g,(I0 _),a⟩
  ·obtain rfl:=oJ a
   try dsimp only[S0,W0]at b
   obtain rfl:=oJ b
   exact aI rfl g
theorem N09(h:Hp)(b:List Value)(d:j0)(x:U1.R h b d)(c:List Value)(f:j0)(y:U1.R h c f)(r:Bool)(a:N9 d f=some r):
  Tr Tryz.prog 88 #[.agg b.toArray,.agg c.toArray] h λv n=>v = .bool r/\n=h:=by
 obtain⟨o,p,j,G,l,s,rfl,rfl,z,A,g⟩:=M0 x
 obtain⟨rfl,E⟩:=Sl.len g
 obtain⟨t,u,k,H,m,w,rfl,rfl,C,D,i⟩:=M0 y
 obtain⟨rfl,F⟩:=Sl.len i
 unfold N9 at a
 dsimp only at a
 refine Tr.forget (G2 (args:=[.agg #[.int .i64 o,.int .i64 p,.slice j s.length l],.agg #[.int .i64 t,.int .i64 u,.slice k w.length m]]) (fn:=Tryz.f88) rfl ?_)
 refine trG a (λq=>o02 _ _ _ _ _ g _ _ _ _ i) λI a=>?_
 obtain rfl:=oJ a
 exact aI rfl (Sub.refl _)
theorem M08(h:Hp)(I:List Value)(L:j0)(aq:U1.R h I L)(j:Int)(aK:K0 j)(r:(List Bool))(f:l9 L j=some r):
  Tr Tryz.prog 109 #[.agg I.toArray,.int .i64 j] h λv g=>∃(G:Option Addr) (K H:Nat),v = .slice G K H/\(Wp.slice Wp.bool).R g [.slice G K H] r/\Sub h g:=by
 obtain⟨ap,s,N,aS,V,t,rfl,rfl,aH,aJ,M⟩:=M0 aq
 obtain⟨rfl,aQ⟩:=Sl.len M
 unfold l9 at f
 dsimp only at f
 refine G2 (args:=[.agg #[.int .i64 ap,.int .i64 s,.slice N t.length V],.int .i64 j]) (fn:=Tryz.f109) rfl ?_
 obtain⟨aU,ad,f⟩:=B0 f
 refine aI (T0 ad) ?_
 obtain⟨a0,ag,f⟩:=B0 f
 obtain⟨S,aE,Z,aw⟩:=A4 (F2.rep (p:=Wp.bool.R h) (a:=[.bool false]) (b:=false) rfl (s.toNat)) ag
 refine aI S ?_
 obtain rfl:=aw
 refine eX _ (aI Z ?_)
 obtain⟨E,aj,f⟩:=B0 f
 refine eX { vars:=[6],boxes:=[],owns:=[0],fuel:=true,kept:=[0] } (eX (λvs os g=>∃ x y n,vs.tail = [.bool x]/\os = [y]/\Sub h g/\F2 (Wp.bool.R g) y n/\Z4 t (J1 vs) x n=some E) (eX (λ_ _=>0) (aI (eX Q0 ⟨true,((List.replicate s.toNat ([.bool false]:List Value)).set j.toNat [.bool true]),((List.replicate s.toNat (false:Bool)).set j.toNat true),rfl,rfl,(Sub.refl _),(F2.set (p:=Wp.bool.R h) (a:=[.bool true]) (b:=true) rfl j.toNat (F2.rep (p:=Wp.bool.R h) (a:=[.bool false]) (b:=false) rfl (s.toNat))),aj⟩) ?_)))
 rintro _ y u ao ⟨x,a4,n,⟨⟩,⟨⟩,C,J,d⟩
 replace d:Z4 t u x n=some E:=d
 obtain _|u:=u
 ·cases d
 rw[Z4.eq_2]at d
 refine ifB d (λan d=>?_) λan d=>?_
 ·obtain⟨F,ak,d⟩:=B0 d
  refine eX { vars:=[6,19],boxes:=[],owns:=[0],fuel:=true,kept:=[0] } (eX (λvs os g=>∃ m k o l,vs.tail = [.bool m,.int .i64 k]/\os = [o]/\Sub ao g/\K0 k/\F2 (Wp.bool.R g) o l/\G4 t (J1 vs) m k l=some F) (eX (λ_ _=>0) (aI (eX Q0 ⟨false,0,y,n,rfl,rfl,(Sub.refl _),(by decide),J,ak⟩) ?_)))
  rintro _ _ o q A ⟨m,k,a3,l,⟨⟩,⟨⟩,w,aL,i,c⟩
  replace c:G4 t q m k l=some F:=c
  obtain _|q:=q
  ·cases c
  rw[G4.eq_2]at c
  refine ifB c (λal c=>?_) λal c=>?_
  ·refine ld c (G1.mono (C.trans w) M) λaW aB ar c=>?_
   obtain⟨z,aX,D,rfl,rfl,aM,aN,aO⟩:=M2 ar
   try dsimp only at c
   refine Or.inl (aI (aI (by kernel_rfl) (by kernel_rfl)) ?_)
   obtain⟨aY,ae,c⟩:=B0 c
   obtain⟨P,aC,X,au⟩:=A4 i ae
   refine aI P ?_
   obtain rfl:=au
   refine eX _ (aI X ?_)
   obtain⟨aZ,af,c⟩:=B0 c
   obtain⟨Q,aD,Y,av⟩:=A4 i af
   refine aI Q ?_
   obtain rfl:=av
   refine eX _ (aI Y ?_)
   refine ifB c (λam c=>?_) λam c=>?_
   ·obtain⟨a1,ah,c⟩:=B0 c
    obtain⟨T,aF,aa,ax⟩:=A4 i ah
    refine aI T ?_
    obtain rfl:=ax
    refine eX _ (aI aa ?_)
    obtain⟨a2,ai,c⟩:=B0 c
    obtain⟨U,aG,ab,ay⟩:=A4 (F2.set (p:=Wp.bool.R A) (a:=[.bool true]) (b:=true) rfl z.toNat i) ai
    refine aI U ?_
    obtain rfl:=ay
    refine eX _ (aI ab ?_)
    exact I2 q ⟨true,(IntKind.i64.wrap (k+1)),((o.set z.toNat [.bool true]).set D.toNat [.bool true]),((l.set z.toNat true).set D.toNat true),rfl,rfl,w,(I0 _),(F2.set (p:=Wp.bool.R A) (a:=[.bool true]) (b:=true) rfl D.toNat (F2.set (p:=Wp.bool.R A) (a:=[.bool true]) (b:=true) rfl z.toNat i)),c⟩
   ·exact I2 q ⟨m,(IntKind.i64.wrap (k+1)),o,l,rfl,rfl,w,(I0 _),i,c⟩
  ·obtain rfl:=oJ c
   try dsimp only[S0,W0]at d
   exact I2 u ⟨m,o,l,rfl,rfl,(C.trans w),i,d⟩
 ·obtain rfl:=oJ d
  try dsimp only[S0,W0]at f
  intro aV aP ac
  obtain⟨O,W,rfl,az,aA,aR⟩:=V0.out (r:=Wp.bool.toRp) ac J
  obtain rfl:=oJ f
  exact⟨O,n.length,W,rfl,az,(C.trans aA)⟩
theorem t0f(h:Hp)(c:Int)(D:K0 c)(r:D0)(g:O01 c=some r):
  Tr Tryz.prog 142 #[.int .i64 c] h λv f=>∃(m:Option Addr) (q n:Nat),v = .slice m q n/\C0.R f [.slice m q n] r/\Sub h f:=by
 unfold O01 at g
 refine G2 (args:=[.int .i64 c]) (fn:=Tryz.f142) rfl ?_
 obtain⟨l,y,g⟩:=B0 g
 refine eX { vars:=[4],boxes:=[],owns:=[0],fuel:=true } (eX (λvs os f=>∃ a k d,vs.tail = [.int .i64 a]/\os = [k]/\Sub h f/\K0 a/\F2 (Wp.int.R f) k d/\G7 c (J1 vs) a d=some l) (eX (λ_ _=>0) (aI (eX Q0 ⟨1,[],([]:D0),rfl,rfl,(Sub.refl _),(by decide),(show F2 (Wp.int.R h) ([]:List (List Value)) ([]:D0) from trivial),y⟩) ?_)))
 rintro _ k j p ⟨a,I,d,⟨⟩,⟨⟩,s,o,i,b⟩
 replace b:G7 c j a d=some l:=b
 obtain _|j:=j
 ·cases b
 rw[G7.eq_2]at b
 refine ifB b (λz b=>?_) λz b=>?_
 ·obtain⟨G,x,b⟩:=B0 b
  refine aI (F1 x (by first|rw[F2.length i,F2.length (show F2 (Wp.int.R p) ([[.int .i64 a],[.int .i64 (IntKind.i64.wrap (0-a))]]:List (List Value)) [a,(IntKind.i64.wrap (0-a))] from⟨⟨rfl,o⟩,⟨⟨rfl,(I0 _)⟩,trivial⟩⟩)]|exact congrArg (·+2) (F2.length i))) ?_
  exact I2 j ⟨(IntKind.i64.wrap (a+1)),(k++([[.int .i64 a],[.int .i64 (IntKind.i64.wrap (0-a))]]:List (List Value))),(d ++ [a,(IntKind.i64.wrap (0-a))]),rfl,rfl,s,(I0 _),(F2.append i (show F2 (Wp.int.R p) ([[.int .i64 a],[.int .i64 (IntKind.i64.wrap (0-a))]]:List (List Value)) [a,(IntKind.i64.wrap (0-a))] from⟨⟨rfl,o⟩,⟨⟨rfl,(I0 _)⟩,trivial⟩⟩)),b⟩
 ·obtain rfl:=oJ b
  try dsimp only[S0,W0]at g
  intro H E w
  obtain⟨t,u,rfl,A,C,F⟩:=V0.out (r:=Wp.int.toRp) w i
  obtain rfl:=oJ g
  exact⟨t,d.length,u,rfl,A,(s.trans C)⟩
theorem O05(h:Hp)(c:Option Addr)(m d:Nat)(b:E1)(p:G1.R h [.slice c m d] b)(r:E1)(a:C00 b=some r):
  Tr Tryz.prog 128 #[.slice c m d] h λv y=>∃(f:Option Addr) (l g:Nat),v = .slice f l g/\New G1 h y [.slice f l g] r:=by
 obtain⟨rfl,G⟩:=Sl.len p
 unfold C00 at a
 refine G2 (args:=[.slice c b.length d]) (fn:=Tryz.f128) rfl ?_
 obtain⟨z,t,i⟩:=Sl.rows (r:=E2.toRp) p
 refine eX z (aI t ?_)
 obtain⟨J,w,a⟩:=B0 a
 refine aI (F1 w (by first|rw[F2.length (show F2 (E2.R h) ([]:List (List Value)) ([]:E1) from trivial),F2.length i]|exact congrArg (·+1) (F2.length (show F2 (E2.R h) ([]:List (List Value)) ([]:E1) from trivial)))) ?_
 refine Or.inl ?_
 intro P D u
 obtain⟨K,x,a⟩:=B0 a
 refine Tr.mono (C0k _ u (F2.append (show F2 (E2.R h) ([]:List (List Value)) ([]:E1) from trivial) i) (T0 x)) ?_
 rintro _ E ⟨rfl,Q,j,n⟩
 obtain⟨A,C,rfl,L,N,H⟩:=V0.out (r:=E2.toRp) j n
 refine Tr.mono (D0k _ j n) ?_
 rintro _ F ⟨S,k,o⟩
 obtain⟨q,s,rfl,M,O,I⟩:=V0.out (r:=E2.toRp) k o
 obtain rfl:=oJ a
 exact⟨q,((k03 eqE (f06 P0 (([]:E1)++b)))).length,s,rfl,(V0.newPlain (r:=E2) k o (j08 _))⟩
theorem P0c(h:Hp)(Z:List Value)(ag:j0)(aZ:U1.R h Z ag)(K:Option Addr)(af L:Nat)(x:D0)(aj:C0.R h [.slice K af L] x)(r:j0)(d:M02 ag x=some r):
  Tr Tryz.prog 111 #[.agg Z.toArray,.slice K af L] h λv f=>∃(Y:List Value),v = .agg Y.toArray/\New U1 h f Y r:=by
 obtain⟨ah,j,ak,bL,ar,S,rfl,rfl,aS,br,ai⟩:=M0 aZ
 obtain⟨rfl,bI⟩:=Sl.len ai
 obtain⟨rfl,aX⟩:=Sl.len aj
 unfold M02 at d
 dsimp only at d
 refine G2 (args:=[.agg #[.int .i64 ah,.int .i64 j,.slice ak S.length ar],.slice K x.length L]) (fn:=Tryz.f111) rfl ?_
 obtain⟨bN,aC,d⟩:=B0 d
 refine aI (T0 aC) ?_
 obtain⟨aY,aB,d⟩:=B0 d
 obtain rfl:(List.replicate j.toNat ([.int .i64 0]:List Value)).length=aY:=(F2.length (F2.rep (p:=Wp.int.R h) (a:=[.int .i64 0]) (b:=0) ⟨rfl,(by decide)⟩ (j.toNat))).trans (oJ aB)
 obtain⟨bO,bq,d⟩:=B0 d
 obtain⟨X,aN,d⟩:=B0 d
 refine eX { vars:=[17],boxes:=[],owns:=[0],fuel:=true,kept:=[0] } (eX (λvs os f=>∃ i E z,vs.tail = [.int .i64 i]/\os = [E]/\Sub h f/\K0 i/\F2 (Wp.int.R f) E z/\w9 ((List.replicate j.toNat ([.int .i64 0]:List Value))).length (J1 vs) i z=some X) (eX (λ_ _=>0) (aI (eX Q0 ⟨0,(List.replicate j.toNat ([.int .i64 0]:List Value)),(List.replicate j.toNat (0:Int)),rfl,rfl,(Sub.refl _),(by decide),(F2.rep (p:=Wp.int.R h) (a:=[.int .i64 0]) (b:=0) ⟨rfl,(by decide)⟩ (j.toNat)),aN⟩) ?_)))
 rintro _ E G ae ⟨i,b7,z,⟨⟩,⟨⟩,I,bt,M,c⟩
 replace c:w9 ((List.replicate j.toNat ([.int .i64 0]:List Value))).length G i z=some X:=c
 obtain _|G:=G
 ·cases c
 rw[w9.eq_2]at c
 refine ifB c (λaR c=>?_) λaR c=>?_
 ·obtain⟨bY,aE,c⟩:=B0 c
  obtain⟨am,bi,av,a0⟩:=A4 M aE
  refine aI am ?_
  obtain⟨rfl,bu⟩:=a0
  refine eX _ (aI av ?_)
  exact I2 G ⟨(IntKind.i64.wrap (i+1)),(E.set i.toNat [.int .i64 (-1)]),(z.set i.toNat (-1)),rfl,rfl,I,(I0 _),(F2.set (p:=Wp.int.R ae) (a:=[.int .i64 (-1)]) (b:=(-1)) ⟨rfl,(by decide)⟩ i.toNat M),c⟩
 ·obtain rfl:=oJ c
  try dsimp only[S0,W0]at d
  obtain⟨V,aL,d⟩:=B0 d
  refine eX { vars:=[26],boxes:=[],owns:=[0],fuel:=true,kept:=[0] } (eX (λvs os f=>∃ g J s,vs.tail = [.int .i64 g]/\os = [J]/\Sub ae f/\K0 g/\F2 (Wp.int.R f) J s/\t9 x (J1 vs) g s=some V) (eX (λ_ _=>0) (aI (eX Q0 ⟨0,E,z,rfl,rfl,(Sub.refl _),(by decide),M,aL⟩) ?_)))
  rintro _ J F P ⟨g,b5,s,⟨⟩,⟨⟩,H,aU,w,c⟩
  replace c:t9 x F g s=some V:=c
  obtain _|F:=F
  ·cases c
  rw[t9.eq_2]at c
  refine ifB c (λaO c=>?_) λaO c=>?_
  ·refine ldI c (C0.mono (I.trans H) aj) λU bv c=>?_
   obtain⟨bZ,aF,c⟩:=B0 c
   obtain⟨an,bj,aw,a1⟩:=A4 w aF
   refine aI an ?_
   obtain⟨rfl,bx⟩:=a1
   refine eX _ (aI aw ?_)
   exact I2 F ⟨(IntKind.i64.wrap (g+1)),(J.set U.toNat [.int .i64 g]),(s.set U.toNat g),rfl,rfl,H,(I0 _),(F2.set (p:=Wp.int.R P) (a:=[.int .i64 g]) (b:=g) ⟨rfl,aU⟩ U.toNat w),c⟩
  ·obtain rfl:=oJ c
   try dsimp only[S0,W0]at d
   obtain⟨W,aM,d⟩:=B0 d
   refine eX { vars:=[44],boxes:=[2],owns:=[1],fuel:=true,nilsB:=[(2,2,98,3,24)] } (eX (λvs os f=>∃ t l m D y,vs.tail = [.int .i64 t,.int .i64 l,.int .i64 m]/\os = [D]/\Sub P f/\K0 t/\K0 l/\K0 m/\F2 (E2.R f) D y/\F8 S s (J1 vs) t l m y=some W) (eX (λ_ _=>0) (aI (eX Q0 ⟨0,ah,((x.length:Nat):Int),[],([]:E1),rfl,rfl,(Sub.refl _),(by decide),aS,(q0g aX),(show F2 (E2.R P) [] [] from trivial),aM⟩) ?_)))
   rintro _ _ _ D C Q ⟨t,l,m,b6,y,⟨⟩,⟨⟩,k,bs,N,O,A,c⟩
   replace c:F8 S s C t l m y=some W:=c
   obtain _|C:=C
   ·cases c
   rw[F8.eq_2]at c
   refine ifB c (λaP c=>?_) λaP c=>?_
   ·refine ld c (G1.mono ((I.trans H).trans k) ai) λb0 bk a2 c=>?_
    obtain⟨b1,u,b2,rfl,rfl,bz,ab,bA⟩:=M2 a2
    try dsimp only at c
    obtain⟨b3,aG,c⟩:=B0 c
    obtain⟨ao,bl,ax,a3⟩:=A4 (F2.up (r:=Wp.int.toRp) k w) aG
    refine aI ao ?_
    obtain⟨rfl,bB⟩:=a3
    refine eX _ (aI ax ?_)
    obtain⟨b4,aH,c⟩:=B0 c
    obtain⟨bm,aa,a4⟩:=H00 (F2.up (r:=Wp.int.toRp) k w) aH (h0e Q)
    refine aI (λq=>(aa q).1) ?_
    obtain⟨rfl,bC⟩:=a4
    refine eX _ (aI (λq=>(aa q).2) ?_)
    refine ifB c (λaQ c=>?_) λaQ c=>?_
    ·refine Or.inr (Or.inr (Or.inl (aI (aI (by kernel_rfl) (by kernel_rfl)) ?_)))
     obtain⟨n,aJ,c⟩:=B0 c
     obtain⟨ap,bn,ay,ba⟩:=A4 (F2.up (r:=Wp.int.toRp) k w) aJ
     obtain⟨rfl,ac⟩:=ba
     refine Or.inl ?_
     apply eX
     refine aI ?_ ?_
     ·intro bD bQ
      exact aI ap (aI rfl (aI rfl rfl))
     refine Or.inl (eX (.val (.int .i64 n)) (aI ?_ ?_))
     ·intro bE bR
      exact eX _ (aI ay (aI rfl (aI rfl rfl)))
     obtain⟨o,aK,c⟩:=B0 c
     obtain⟨aq,bo,az,bb⟩:=A4 (F2.up (r:=Wp.int.toRp) k w) aK
     obtain⟨rfl,ad⟩:=bb
     refine Or.inl ?_
     apply eX
     refine aI ?_ ?_
     ·intro bF bS
      exact aI aq (aI rfl (aI rfl rfl))
     refine Or.inl (eX (.val (.int .i64 o)) (aI ?_ ?_))
     ·intro bG bT
      exact eX _ (aI az (aI rfl (aI rfl rfl)))
     refine Or.inl (eX (.agg [.val (.int .i64 n),.val (.int .i64 u),.val (.int .i64 o)]) (aI ?_ ?_))
     ·intro bH bU
      exact aI rfl (aI rfl rfl)
     refine Or.inr ?_
     refine Or.inr ?_
     refine Or.inr ?_
     refine Or.inl (eX 0 (aI (aI rfl rfl) ?_))
     refine aT ?_
     obtain⟨bP,aD,c⟩:=B0 c
     refine aI (F1 aD (by first|rw[F2.length A,F2.length (show F2 (E2.R Q) ([[.int .i64 n,.int .i64 u,.int .i64 o]]:List (List Value)) [(n,u,o)] from⟨(Y1 ac ab ad),trivial⟩)]|exact congrArg (·+1) (F2.length A))) ?_
     refine aT ?_
     refine aT ?_
     exact I2 C ⟨(IntKind.i64.wrap (t+1)),l,m,(D++([[.int .i64 n,.int .i64 u,.int .i64 o]]:List (List Value))),(y ++ [(n,u,o)]),rfl,rfl,k,(I0 _),N,O,(F2.append A (show F2 (E2.R Q) ([[.int .i64 n,.int .i64 u,.int .i64 o]]:List (List Value)) [(n,u,o)] from⟨(Y1 ac ab ad),trivial⟩)),c⟩
    ·exact I2 C ⟨(IntKind.i64.wrap (t+1)),l,m,D,y,rfl,rfl,k,(I0 _),N,O,A,c⟩
   ·obtain rfl:=oJ c
    try dsimp only[S0,W0]at d
    refine Or.inl ?_
    intro bW aV aA
    obtain⟨bh,bp,rfl,be,bf,bK⟩:=V0.out (r:=E2.toRp) aA A
    refine trM d (O05 _ _ _ _ _ be) ?_
    rintro bg d bX aW ⟨al,bM,au,rfl,T⟩
    have bV:Sub aV aW:=T.sub
    have bc:=T.r
    obtain⟨rfl,bJ⟩:=Sl.len bc
    obtain rfl:=oJ d
    exact⟨([.int .i64 l,.int .i64 m,.slice al bg.length au]),rfl,(New.pair (New.int N) (New.pair (New.int O) (New.from T (((I.trans H).trans k).trans bf))))⟩
theorem g0b(h:Hp)(aa:List Value)(ap:j0)(bq:U1.R h aa ap)(g:Int)(bi:K0 g)(r:D0×N0)(i:E01 ap g=some r):
  Tr Tryz.prog 133 #[.agg aa.toArray,.int .i64 g] h λv f=>∃(W:Option Addr) (am Y:Nat) (X:Option Addr) (an Z:Nat),v = .tuple #[.slice W am Y,.slice X an Z]/\C0.R f [.slice W am Y] r.1/\Y0.R f [.slice X an Z] r.2/\Sub h f:=by
 obtain⟨D,k,aA,cd,aJ,E,rfl,rfl,ai,bh,ar⟩:=M0 bq
 obtain⟨rfl,b1⟩:=Sl.len ar
 unfold E01 at i
 dsimp only at i
 refine G2 (args:=[.agg #[.int .i64 D,.int .i64 k,.slice aA E.length aJ],.int .i64 g]) (fn:=Tryz.f133) rfl ?_
 obtain⟨co,aW,i⟩:=B0 i
 refine aI (T0 aW) ?_
 obtain⟨cA,a1,i⟩:=B0 i
 obtain⟨aF,bL,aN,bs⟩:=A4 (F2.rep (p:=Wp.opt.R h) (a:=[.slice none 0 0]) (b:=none) (A0k h) (k.toNat)) a1
 refine aI aF ?_
 obtain⟨bG,cf,bQ,rfl,cl,bn⟩:=bs
 obtain⟨rfl,b3⟩:=Sl.len bn
 intro cv O aS
 obtain⟨ah,ac,rfl,bC,S,cc⟩:=V0.outS (r:=Wp.int.toRp) aS (show F2 (Wp.int.R h) ([]:List (List Value)) ([]:D0) from trivial)
 refine eX _ (aI aN ?_)
 obtain⟨V,bb,i⟩:=B0 i
 refine eX { vars:=[8],boxes:=[],owns:=[0,2],fuel:=true,kept:=[0] } (eX (λvs os f=>∃ u8 K x G w,vs.tail = [.int .i64 u8]/\os = [K,G]/\Sub O f/\K0 u8/\F2 (Wp.opt.R f) K x/\F2 (Wp.int.R f) G w/\L6 D k E (J1 vs) u8 x w=some V) (eX (λ_ _=>0) (aI (eX Q0 ⟨0,((List.replicate k.toNat ([.slice none 0 0]:List Value)).set g.toNat [.slice (some ⟨ah,0,none⟩) (([]:D0)).length ac]),((List.replicate k.toNat (none:Option D0)).set g.toNat (some ([]:D0))),([[.int .i64 g]]:List (List Value)),[g],rfl,rfl,(Sub.refl _),(by decide),(F2.set (p:=Wp.opt.R O) (a:=[.slice (some ⟨ah,0,none⟩) (([]:D0)).length ac]) (b:=some ([]:D0)) (O0c bC) g.toNat (F2.up (r:=Wp.opt.toRp) S (F2.rep (p:=Wp.opt.R h) (a:=[.slice none 0 0]) (b:=none) (A0k h) (k.toNat)))),(show F2 (Wp.int.R O) ([[.int .i64 g]]:List (List Value)) [g] from⟨⟨rfl,bi⟩,trivial⟩),bb⟩) ?_)))
 rintro _ K G I bY ⟨u8,cI,x,cE,w,⟨⟩,⟨⟩,Q,bX,ae,H,d⟩
 replace d:L6 D k E I u8 x w=some V:=d
 obtain _|I:=I
 ·cases d
 rw[L6.eq_2]at d
 obtain⟨bl,aV,d⟩:=B0 d
 obtain rfl:G.length=bl:=(F2.length H).trans (oJ aV)
 obtain⟨cp,bV,d⟩:=B0 d
 refine ifB d (λbe d=>?_) λbe d=>?_
 ·obtain⟨ay,a0,d⟩:=B0 d
  obtain⟨aE,bK,aM,br⟩:=A4 H a0
  refine aI aE ?_
  obtain⟨rfl,bj⟩:=br
  refine eX _ (aI aM ?_)
  refine trM d (t0f _ _ ai) ?_
  rintro az d cu bk ⟨bF,ce,bP,rfl,au,J⟩
  obtain⟨rfl,b2⟩:=Sl.len au
  obtain⟨U,ba,d⟩:=B0 d
  refine eX { vars:=[36],boxes:=[],owns:=[0,2],fuel:=true,kept:=[0] } (eX (λvs os f=>∃ m y n z s,vs.tail = [.int .i64 m]/\os = [y,z]/\Sub bk f/\K0 m/\F2 (Wp.opt.R f) y n/\F2 (Wp.int.R f) z s/\i5 az D k E ay (J1 vs) m n s=some U) (eX (λ_ _=>0) (aI (eX Q0 ⟨0,K,x,G,w,rfl,rfl,(Sub.refl _),(by decide),(F2.up (r:=Wp.opt.toRp) J ae),(F2.up (r:=Wp.int.toRp) J H),ba⟩) ?_)))
  rintro _ y z C ak ⟨m,cG,n,cH,s,⟨⟩,⟨⟩,F,bW,u,A,c⟩
  replace c:i5 az D k E ay C m n s=some U:=c
  obtain _|C:=C
  ·cases c
  rw[i5.eq_2]at c
  refine ifB c (λbf c=>?_) λbf c=>?_
  ·refine ldI c (C0.mono F au) λl M c=>?_
   refine trV c (e0b _ _ _ (H0 ai bh (G1.mono (((S.trans Q).trans J).trans F) ar)) _ bj _ M) λj c=>?_
   obtain⟨cq,aX,c⟩:=B0 c
   have aj:K0 j:=T0 aX
   obtain⟨bE,a2,c⟩:=B0 c
   obtain⟨bM,ad,bt⟩:=H00 u a2 (o0f ak)
   refine aI (λq=>(ad q).1) ?_
   obtain⟨bH,cg,bR,rfl,bm,bo⟩:=bt
   obtain⟨rfl,b4⟩:=Sl.len bo
   refine eX _ (aI (λq=>(ad q).2) ?_)
   refine eX (bE.isNone) (aI (λ_=>by rw[←bm];exact u0t _ _ _ rfl _ _ _) ?_)
   refine ifB c (λbg c=>?_) λbg c=>?_
   ·obtain⟨cC,a3,c⟩:=B0 c
    obtain⟨aG,bN,aO,bu⟩:=A4 u a3
    refine aI aG ?_
    obtain⟨bI,ch,bS,rfl,cm,aq⟩:=bu
    obtain⟨rfl,b5⟩:=Sl.len aq
    refine eX _ (aI aO ?_)
    obtain⟨L,af,c⟩:=B0 c
    refine Tr.mono (i07 _ _ _ _ _ aq _  af) ?_
    rintro cw N ⟨af,ci,bT,rfl,T⟩
    have ct:Sub ak N:=T.sub
    have bv:=T.r
    obtain⟨rfl,b6⟩:=Sl.len bv
    obtain⟨cr,aY,c⟩:=B0 c
    obtain⟨bD,bz,al,aB⟩:=New.app T (Sub.refl _)
    refine eX bD (aI bz (aI (F1 aY (by first|rw[al,F2.length (show F2 (Wp.int.R N) ([[.int .i64 l]]:List (List Value)) [l] from⟨⟨rfl,M⟩,trivial⟩)]|(rw[al];rfl))) ?_))
    intro cz P bc
    obtain⟨t,ag,ao,ck,ab,rfl⟩:=aB _ _ _ _ _ (F3.ofPlain (d07 _) (show F2 (Wp.int.R N) ([[.int .i64 l]]:List (List Value)) [l] from⟨⟨rfl,M⟩,trivial⟩)) c6.ofPlain bc
    have av:=t.r
    obtain⟨aQ,b8⟩:=Sl.len av
    subst aQ
    obtain⟨cD,a4,c⟩:=B0 c
    obtain⟨aH,bO,aP,bx⟩:=A4 (F2.up (r:=Wp.opt.toRp) t.sub u) a4
    refine aI aH ?_
    obtain⟨bJ,cj,bU,rfl,cn,bp⟩:=bx
    obtain⟨rfl,b7⟩:=Sl.len bp
    refine eX _ (aI aP ?_)
    obtain⟨cs,aZ,c⟩:=B0 c
    refine aI (F1 aZ (by first|rw[F2.length (F2.up (r:=Wp.int.toRp) t.sub A),F2.length (show F2 (Wp.int.R P) ([[.int .i64 j]]:List (List Value)) [j] from⟨⟨rfl,aj⟩,trivial⟩)]|exact congrArg (·+1) (F2.length (F2.up (r:=Wp.int.toRp) t.sub A)))) ?_
    exact I2 C ⟨(IntKind.i64.wrap (m+1)),(y.set j.toNat [.slice (some ⟨ag,ao,none⟩) (L ++ [l]).length ab]),(n.set j.toNat (some (L ++ [l]))),(z++([[.int .i64 j]]:List (List Value))),(s ++ [j]),rfl,rfl,(F.trans t.sub),(I0 _),(F2.set (p:=Wp.opt.R P) (a:=[.slice (some ⟨ag,ao,none⟩) (L ++ [l]).length ab]) (b:=some (L ++ [l])) (O0c av) j.toNat (F2.up (r:=Wp.opt.toRp) t.sub u)),(F2.append (F2.up (r:=Wp.int.toRp) t.sub A) (show F2 (Wp.int.R P) ([[.int .i64 j]]:List (List Value)) [j] from⟨⟨rfl,aj⟩,trivial⟩)),c⟩
   ·exact I2 C ⟨(IntKind.i64.wrap (m+1)),y,n,z,s,rfl,rfl,F,(I0 _),u,A,c⟩
  ·obtain rfl:=oJ c
   try dsimp only[S0,W0]at d
   exact I2 I ⟨(IntKind.i64.wrap (u8+1)),y,n,z,s,rfl,rfl,((Q.trans J).trans F),(I0 _),u,A,d⟩
 ·obtain rfl:=oJ d
  try dsimp only[S0,W0]at i
  intro cx bZ aR
  obtain⟨aC,aK,rfl,bA,aw,ca⟩:=V0.out (r:=Wp.int.toRp) aR H
  intro cy b0 aU
  obtain⟨aD,aL,rfl,bB,ax,cb⟩:=V0.out (r:=C0.toRp) aU (F2.ofOpt (F2.up (r:=Wp.opt.toRp) aw ae))
  obtain rfl:=oJ i
  exact⟨aC,w.length,aK,aD,(List.map (λo:Option D0=>o.getD ([]:D0)) x).length,aL,rfl,(C0.mono ax bA),bB,(((S.trans Q).trans aw).trans ax)⟩
theorem o07(h:Hp)(g:List Value)(m:j0)(C:U1.R h g m)(r:D0)(a:s8 m=some r):
  Tr Tryz.prog 112 #[.agg g.toArray] h λv i=>∃(d:Option Addr) (l f:Nat),v = .slice d l f/\C0.R i [.slice d l f] r/\Sub h i:=by
 obtain⟨y,z,o,Q,s,A,rfl,rfl,j,k,b⟩:=M0 C
 obtain⟨rfl,M⟩:=Sl.len b
 unfold s8 at a
 dsimp only at a
 refine G2 (args:=[.agg #[.int .i64 y,.int .i64 z,.slice o A.length s]]) (fn:=Tryz.f112) rfl ?_
 refine trV a (a04 _ _ _ (H0 j k b)) λW a=>?_
 refine ifB a (λx a=>?_) λx a=>?_
 ·intro U K w
  obtain⟨q,u,rfl,D,F,P⟩:=V0.out (r:=Wp.int.toRp) w (show F2 (Wp.int.R h) ([]:List (List Value)) ([]:D0) from trivial)
  obtain rfl:=oJ a
  exact⟨q,(([]:D0)).length,u,rfl,D,F⟩
 ·refine trM a (g0b _ _ _ (H0 j k b) 0 (by decide)) ?_
  rintro G a V L ⟨p,S,t,I,T,J,rfl,c,n,E⟩
  obtain⟨H,X⟩:=G
  dsimp only at a c n
  obtain⟨rfl,N⟩:=Sl.len c
  obtain⟨rfl,O⟩:=Sl.len n
  obtain rfl:=oJ a
  exact⟨p,H.length,t,rfl,c,E⟩
theorem o03(h:Hp)(k:List Value)(l:j0)(L:U1.R h k l)(r:j0)(a:n7 l=some r):
  Tr Tryz.prog 86 #[.agg k.toArray] h λv y=>∃(j:List Value),v = .agg j.toArray/\New U1 h y j r:=by
 obtain⟨I,J,o,ah,q,K,rfl,rfl,c,d,b⟩:=M0 L
 obtain⟨rfl,ad⟩:=Sl.len b
 unfold n7 at a
 dsimp only at a
 refine G2 (args:=[.agg #[.int .i64 I,.int .i64 J,.slice o K.length q]]) (fn:=Tryz.f86) rfl ?_
 refine trV a (a04 _ _ _ (H0 c d b)) λap a=>?_
 refine ifB a (λz a=>?_) λz a=>?_
 ·refine trM a (H9 _ _ _ (H0 c d b)) ?_
  rintro W a an G ⟨x,aj,t,rfl,f⟩
  have al:Sub h G:=f.sub
  have m:=f.r
  obtain⟨X,Y,Z⟩:=W
  dsimp only at a f m
  obtain⟨_,_,_,_,_,_,u,w,D,E,O⟩:=M0 m
  cases u
  cases w
  obtain⟨rfl,af⟩:=Sl.len O
  try dsimp only at a
  have S:=New.sndI (New.sndI (f))
  obtain rfl:=oJ a
  exact⟨([.int .i64 X,.int .i64 Y,.slice (some ⟨x,0,none⟩) Z.length t]),rfl,(New.pair (New.int D) (New.pair (New.int E) S))⟩
 ·refine Or.inr (Or.inr (Or.inl (aI (aI (by kernel_rfl) (by kernel_rfl)) ?_)))
  refine Or.inr ?_
  refine Or.inr ?_
  refine Or.inr ?_
  refine Or.inl (eX 2 (aI (aI rfl rfl) ?_))
  refine trM a (o07 _ _ _ (H0 c d b)) ?_
  rintro ar a ao H ⟨aa,ak,ac,rfl,n,g⟩
  obtain⟨rfl,ag⟩:=Sl.len n
  refine aI (aI rfl g) (aI (by first|exact trivial|exact rfl) ?_)
  refine trM a (P0c _ _ _ (H0 c d (G1.mono g b)) _ _ _ _ n) ?_
  rintro aq a am F ⟨ab,rfl,i⟩
  have P:Sub H F:=i.sub
  have M:=i.r
  obtain⟨T,U,p,ai,s,V,rfl,rfl,A,C,N⟩:=M0 M
  obtain⟨rfl,ae⟩:=Sl.len N
  try dsimp only at a
  have Q:=New.sndI (New.sndI (i))
  refine aI (aI rfl P) (aI (by first|exact trivial|exact rfl) ?_)
  refine aT ?_
  obtain rfl:=oJ a
  exact⟨([.int .i64 T,.int .i64 U,.slice p V.length s]),rfl,(New.pair (New.int A) (New.pair (New.int C) (New.from Q g)))⟩
theorem t06(h:Hp)(al:List Value)(aF:j0)(bT:U1.R h al aF)(r:j0×D0)(c:H7 aF=some r):
  Tr Tryz.prog 85 #[.agg al.toArray] h λv d=>∃(ak:List Value) (ai:Option Addr) (aE aj:Nat),v = .tuple #[.agg ak.toArray,.slice ai aE aj]/\New U1 h d ak r.1/\C0.R d [.slice ai aE aj] r.2:=by
 obtain⟨bP,U,aV,cA,a3,bQ,rfl,rfl,av,aw,V⟩:=M0 bT
 obtain⟨rfl,cq⟩:=Sl.len V
 unfold H7 at c
 dsimp only at c
 refine G2 (args:=[.agg #[.int .i64 bP,.int .i64 U,.slice aV bQ.length a3]]) (fn:=Tryz.f85) rfl ?_
 refine trM c (H9 _ _ _ (H0 av aw V)) ?_
 rintro ca c cP I ⟨aq,cC,am,rfl,O⟩
 have X:Sub h I:=O.sub
 have aH:=O.r
 obtain⟨aO,aP,ab⟩:=ca
 dsimp only at c O aH
 obtain⟨_,_,_,_,_,_,be,bg,aA,aB,bU⟩:=M0 aH
 cases be
 cases bg
 obtain⟨rfl,cs⟩:=Sl.len bU
 try dsimp only at c
 have aL:=New.sndI (New.sndI (O))
 refine trV c (a02 _ _ _ (H0 av aw (G1.mono X V))) λcW c=>?_
 refine ifB c (λbD c=>?_) λbD c=>?_
 ·intro cT cn bj
  obtain⟨aY,ba,rfl,bZ,b4,cv⟩:=V0.out (r:=Wp.int.toRp) bj (show F2 (Wp.int.R I) ([]:List (List Value)) ([]:D0) from trivial)
  obtain rfl:=oJ c
  exact⟨([.int .i64 aO,.int .i64 aP,.slice (some ⟨aq,0,none⟩) ab.length am]),aY,(([]:D0)).length,ba,rfl,(New.pair (New.int aA) (New.pair (New.int aB) (New.mono aL b4))),bZ⟩
 ·obtain⟨ae,bq,c⟩:=B0 c
  refine eX { vars:=[6],boxes:=[],owns:=[0],fuel:=true } (eX (λvs os d=>∃ g N n,vs.tail = [.int .i64 g]/\os = [N]/\Sub I d/\K0 g/\F2 (Wp.int.R d) N n/\j6 U (J1 vs) g n=some ae) (eX (λ_ _=>0) (aI (eX Q0 ⟨0,[],([]:D0),rfl,rfl,(Sub.refl _),(by decide),(show F2 (Wp.int.R I) ([]:List (List Value)) ([]:D0) from trivial),bq⟩) ?_)))
  rintro _ N J aC ⟨g,cY,n,⟨⟩,⟨⟩,M,ax,u,a⟩
  replace a:j6 U J g n=some ae:=a
  obtain _|J:=J
  ·cases a
  rw[j6.eq_2]at a
  refine ifB a (λbv a=>?_) λbv a=>?_
  ·obtain⟨cH,bk,a⟩:=B0 a
   refine aI (F1 bk (by first|rw[F2.length u,F2.length (show F2 (Wp.int.R aC) ([[.int .i64 g]]:List (List Value)) [g] from⟨⟨rfl,ax⟩,trivial⟩)]|exact congrArg (·+1) (F2.length u))) ?_
   exact I2 J ⟨(IntKind.i64.wrap (g+1)),(N++([[.int .i64 g]]:List (List Value))),(n ++ [g]),rfl,rfl,M,(I0 _),(F2.append u (show F2 (Wp.int.R aC) ([[.int .i64 g]]:List (List Value)) [g] from⟨⟨rfl,ax⟩,trivial⟩)),a⟩
  ·obtain rfl:=oJ a
   try dsimp only[S0,W0]at c
   obtain⟨af,br,c⟩:=B0 c
   refine eX { vars:=[5],boxes:=[2],owns:=[],fuel:=true,pubs:=[5] } (eX (λvs os d=>∃(D:Option Addr) (S t:Nat) (A:D0) (k:Int) (i:Int) (E:Option Addr) (T F:Nat) (o:E1),vs.tail = [.slice D S t,.int .i64 k,.int .i64 i,.slice E T F]/\os = []/\Sub h d/\New C0 h d [.slice D S t] A/\K0 k/\K0 i/\New G1 h d [.slice E T F] o/\G5 (J1 vs) A k i o=some af) (eX (λ_ _=>0) ?_))
   intro cO cl ap
   obtain⟨aZ,bb,rfl,cL,aK,cw⟩:=V0.out (r:=Wp.int.toRp) ap u
   refine aI (eX Q0 ⟨aZ,n.length,bb,n,aO,aP,(some ⟨aq,0,none⟩),ab.length,am,ab,rfl,rfl,((X.trans M).trans aK),(New.from (V0.newPlain (r:=Wp.int) ap u (d07 _)) (X.trans M)),aA,aB,(New.mono aL (M.trans aK)),br⟩) ?_
   rintro _ _ _ _ K cm ⟨D,S,t,A,k,i,E,T,F,o,⟨⟩,⟨⟩,cM,aM,G,H,aN,a⟩
   replace a:G5 K A k i o=some af:=a
   obtain _|K:=K
   ·cases a
   rw[G5.eq_2]at a
   have aG:=aM.r
   obtain⟨rfl,bL⟩:=Sl.len aG
   have L:=aN.r
   obtain⟨rfl,cr⟩:=Sl.len L
   refine trM a (M08 _ _ _ (H0 G H L) 0 (by decide)) ?_
   rintro aQ a cQ bH ⟨ce,cD,ci,rfl,aJ,p⟩
   obtain⟨rfl,ct⟩:=Sl.len aJ
   obtain⟨ag,bs,a⟩:=B0 a
   refine eX { vars:=[8,9],boxes:=[],owns:=[],fuel:=true } (eX (λvs os d=>∃ l m,vs.tail = [.int .i64 l,.int .i64 m]/\os = []/\Sub bH d/\K0 l/\K0 m/\F4 i k o aQ (J1 vs) l m=some ag) (eX (λ_ _=>0) (aI (eX Q0 ⟨0,1,rfl,rfl,(Sub.refl _),(by decide),(by decide),bs⟩) ?_)))
   rintro _ _ x Q ⟨l,m,⟨⟩,⟨⟩,j,bE,ay,b⟩
   replace b:F4 i k o aQ x l m=some ag:=b
   obtain _|x:=x
   ·cases b
   rw[F4.eq_2]at b
   refine ifB b (λbx b=>?_) λbx b=>?_
   ·refine trV b (f0d _ _ _ (H0 G H (G1.mono (p.trans j) L)) _ ay) λcb b=>?_
    obtain⟨cI,bl,b⟩:=B0 b
    have ck:K0 cb:=T0 bl
    obtain⟨cV,bo,b⟩:=B0 b
    obtain⟨cg,ao,bV⟩:=Sl.getG (r:=Wp.bool.toRp) ((Wp.slice Wp.bool).mono j aJ) bo (by decide) (s0s Q)
    refine aI (λq=>(ao q).1) ?_
    obtain rfl:=bV
    refine eX _ (aI (λq=>(ao q).2) ?_)
    refine ifB b (λbz b=>?_) λbz b=>?_
    ·exact I2 x ⟨m,(IntKind.i64.wrap (m+1)),rfl,rfl,j,ay,(I0 _),b⟩
    ·exact I2 x ⟨l,(IntKind.i64.wrap (m+1)),rfl,rfl,j,bE,(I0 _),b⟩
   ·obtain rfl:=oJ b
    try dsimp only[S0,W0]at a
    refine ifB a (λbA a=>?_) λbA a=>?_
    ·obtain rfl:=oJ a
     try dsimp only[L1,M1]at c
     obtain rfl:=oJ c
     exact⟨([.int .i64 k,.int .i64 i,.slice E o.length F]),D,A.length,t,rfl,(New.pair (New.int G) (New.pair (New.int H) (New.mono aN (p.trans j)))),(C0.mono (p.trans j) aG)⟩
    ·obtain⟨ah,bt,a⟩:=B0 a
     refine eX { vars:=[11],boxes:=[],owns:=[1],fuel:=true } (eX (λvs os d=>∃ f C s,vs.tail = [.int .i64 f]/\os = [C]/\Sub Q d/\K0 f/\F2 (Wp.int.R d) C s/\F5 i l (J1 vs) f s=some ah) (eX (λ_ _=>0) (aI (eX Q0 ⟨0,[],([]:D0),rfl,rfl,(Sub.refl _),(by decide),(show F2 (Wp.int.R Q) ([]:List (List Value)) ([]:D0) from trivial),bt⟩) ?_)))
     rintro _ C y aD ⟨f,cZ,s,⟨⟩,⟨⟩,z,az,w,b⟩
     replace b:F5 i l y f s=some ah:=b
     obtain _|y:=y
     ·cases b
     rw[F5.eq_2]at b
     refine ifB b (λbB b=>?_) λbB b=>?_
     ·refine ifB b (λbC b=>?_) λbC b=>?_
      ·obtain⟨cJ,bm,b⟩:=B0 b
       refine aI (F1 bm (by first|rw[F2.length w,F2.length (show F2 (Wp.int.R aD) ([[.int .i64 f]]:List (List Value)) [f] from⟨⟨rfl,az⟩,trivial⟩)]|exact congrArg (·+1) (F2.length w))) ?_
       exact I2 y ⟨(IntKind.i64.wrap (f+1)),(C++([[.int .i64 f]]:List (List Value))),(s ++ [f]),rfl,rfl,z,(I0 _),(F2.append w (show F2 (Wp.int.R aD) ([[.int .i64 f]]:List (List Value)) [f] from⟨⟨rfl,az⟩,trivial⟩)),b⟩
      ·exact I2 y ⟨(IntKind.i64.wrap (f+1)),C,s,rfl,rfl,z,(I0 _),w,b⟩
     ·obtain rfl:=oJ b
      try dsimp only[S0,W0]at a
      refine Or.inl ?_
      intro cR bI bi
      obtain⟨cf,cj,rfl,b0,Y,cx⟩:=V0.out (r:=Wp.int.toRp) bi w
      refine trM a (P0c _ _ _ (H0 G H (G1.mono (((p.trans j).trans z).trans Y) L)) _ _ _ _ b0) ?_
      rintro cX a cS bJ ⟨ch,rfl,Z⟩
      have b2:Sub bI bJ:=Z.sub
      have bW:=Z.r
      obtain⟨cc,cd,aX,cE,a4,aR,rfl,rfl,bF,bG,bX⟩:=M0 bW
      obtain⟨rfl,cu⟩:=Sl.len bX
      try dsimp only at a
      have b7:=New.sndI (New.sndI (Z))
      obtain⟨ac,ar,a⟩:=B0 a
      obtain⟨ad,au,a⟩:=B0 a
      obtain⟨cK,bn,a⟩:=B0 a
      obtain⟨bR,a1,an,bp,bO,aS,aU,b5,b6,bf,bS,a2,cp,cz,bY,b3,bM,bN,aW⟩:=New.drop aM ((((p.trans j).trans z).trans Y).trans b2) ar au (B0q bL ar au)
      subst bf
      refine Or.inr (Or.inr (Or.inl (aI (aI (by kernel_rfl) (by kernel_rfl)) ?_)))
      refine Or.inl (eX (.val (.slice (some ⟨bp,bO,none⟩) ac.length t)) (aI ?_ ?_))
      ·intro P W
       obtain⟨vs,e⟩:=an P W
       exact aI a1 (eX vs (aI e (λv _ hv=>aI (congrArg AV.val (bR v hv)) (aI rfl rfl))))
      refine Or.inl (eX (.val (.slice aS ad.length aU)) (aI ?_ ?_))
      ·intro P W
       obtain⟨vs,e⟩:=an P W
       exact aI a2 (eX vs (aI e (λv _ hv=>aI (congrArg AV.val (bS v hv)) (aI rfl rfl))))
      refine Or.inr ?_
      refine Or.inl (eX 0 (aI (aI rfl rfl) ?_))
      refine eX b6 (aI b3 (eX b5 (aI bY (aI (F1 bn (by rw[bM,bN])) ?_))))
      intro cU co bu
      obtain⟨aa,⟨a0,cG,bc,rfl⟩,bK⟩:=aW _ _ bu
      have b1:=aa.r
      obtain⟨bh,cy⟩:=Sl.len b1
      subst bh
      refine aT ?_
      have b8:=bK E2.slice _ _ _ b7 (((p.trans j).trans z).trans Y)
      exact I2 K ⟨a0,(ac++ad).length,bc,(ac++ad),cc,cd,aX,aR.length,a4,aR,rfl,rfl,aa.sub,aa,bF,bG,b8,a⟩
theorem h09(h:Hp)(n:List Value)(o:j0)(U:U1.R h n o)(r:Bool)(a:D00 o=some r):
  Tr Tryz.prog 68 #[.agg n.toArray] h λv I=>v = .bool r/\I=h:=by
 obtain⟨S,p,y,aD,A,T,rfl,rfl,f,g,b⟩:=M0 U
 obtain⟨rfl,az⟩:=Sl.len b
 unfold D00 at a
 dsimp only at a
 refine Tr.forget (G2 (args:=[.agg #[.int .i64 S,.int .i64 p,.slice y T.length A]]) (fn:=Tryz.f68) rfl ?_)
 refine trV a (a04 _ _ _ (H0 f g b)) λaK a=>?_
 refine ifB a (λJ a=>?_) λJ a=>?_
 ·obtain rfl:=oJ a
  exact aI rfl (Sub.refl _)
 ·refine trM a (t06 _ _ _ (H0 f g b)) ?_
  rintro ad a aJ P ⟨aj,ah,aF,am,rfl,m,s⟩
  obtain⟨aL,aO⟩:=ad
  dsimp only at a m s
  have l:Sub h P:=m.sub
  have V:=m.r
  obtain⟨aM,ae,ag,aE,al,aN,rfl,rfl,aq,ar,W⟩:=M0 V
  obtain⟨rfl,aA⟩:=Sl.len W
  try dsimp only at a
  obtain⟨rfl,aB⟩:=Sl.len s
  refine Or.inr (Or.inr (Or.inr (Or.inl (aI (aI (by kernel_rfl) (by kernel_rfl)) ?_))))
  refine Or.inl (eX (.val (.bool (decide (ae=p)))) (aI ?_ ?_))
  ·intro aw aH
   exact aI rfl (aI rfl rfl)
  obtain⟨af,H,a⟩:=B0 a
  obtain⟨w,x,i⟩:=af
  try dsimp only at a
  refine Or.inr (eX (λv K=>∃(c:Option Addr) (d:Nat),v = .agg #[.int .i64 w,.int .i64 x,.slice c i.length d]/\K0 w/\K0 x/\G1.R K [.slice c i.length d] i/\i.length<=9223372036854775807) (aI (λv ao ap k q=>by obtain⟨c,d,e,E,F,f2,f3⟩:=q;exact⟨c,d,e,E,F,G1.mono k f2,f3⟩) (aI ?_ ?_)))
  ·intro ax Z j
   refine Tr.mono (o03 _ _ _ (H0 f g (G1.mono (l.trans Z) b)) _ (Y02 H j)) ?_
   rintro _ ay ⟨ak,rfl,u⟩
   have k:=u.sub
   have X:=u.r
   obtain⟨aP,aQ,z,aG,C,aR,rfl,D,L,M,t⟩:=M0 X
   cases D
   obtain⟨rfl,Q⟩:=Sl.len t
   exact aI r02 (aI k ⟨z,C,rfl,L,M,t,Q⟩)
  obtain⟨ac,G,a⟩:=B0 a
  refine Or.inl (eX (.val (.bool ac)) (aI ?_ ?_))
  ·intro au aa j
   rintro _ ⟨ai,an,rfl,N,O,Y,aC⟩
   exact Tr.val (N09 _ _ _ (H0 N O Y) _ _ (H0 f g (G1.mono (l.trans aa) b)) _ (Y02 G j)) (aI rfl (aI rfl rfl))
  intro av ab
  obtain rfl:=oJ a
  exact aI rfl (l.trans ab)
theorem Q0c(h:Hp)(b:Int)(i:K0 b)(c:Int)(l:K0 c)(d:Int)(j:K0 d)(r:J0)(a:Q02 b c d=some r):
  Tr Tryz.prog 127 #[.int .i64 b,.int .i64 c,.int .i64 d] h λv g=>∃(f:List Value),v = .agg f.toArray/\E2.R g f r/\Sub h g:=by
 unfold Q02 at a
 refine G2 (args:=[.int .i64 b,.int .i64 c,.int .i64 d]) (fn:=Tryz.f127) rfl ?_
 refine ifB a (λk a=>?_) λk a=>?_
 ·obtain rfl:=oJ a
  exact⟨([.int .i64 d,.int .i64 (IntKind.i64.wrap (0-c)),.int .i64 b]),rfl,(Y1 j (I0 _) i),(Sub.refl _)⟩
 ·obtain rfl:=oJ a
  exact⟨([.int .i64 b,.int .i64 c,.int .i64 d]),rfl,(Y1 i l j),(Sub.refl _)⟩
theorem i03(h:Hp)(c:Int)(m:K0 c)(f:Nat)(l:TypeId)(d:Int)(n:K0 d)(b:Int)(o:K0 b)(g:h f=some (.cells #[.int .i64 d,.int .i64 b] l (0,0)))(r:Int)(a:A6 c (d,b)=some r):
  Tr Tryz.prog 141 #[.int .i64 c,ptr f 0] h λv i=>v = .int .i64 r/\i=h:=by
 unfold A6 at a
 dsimp only at a
 refine Tr.forget (G2 (args:=[.int .i64 c,ptr f 0]) (fn:=Tryz.f141) rfl ?_)
 refine eX (.int .i64 b) (aI ⟨rfl,by simp[Hp.cell,(g)]⟩ ?_)
 refine ifB a (λj a=>?_) λj a=>?_
 ·refine eX (.int .i64 d) (aI ⟨rfl,by simp[Hp.cell,(g)]⟩ ?_)
  obtain rfl:=oJ a
  exact aI rfl (Sub.refl _)
 ·refine eX (.int .i64 b) (aI ⟨rfl,by simp[Hp.cell,(g)]⟩ ?_)
  refine ifB a (λk a=>?_) λk a=>?_
  ·obtain rfl:=oJ a
   exact aI rfl (Sub.refl _)
  ·obtain rfl:=oJ a
   exact aI rfl (Sub.refl _)
theorem u0f(h:Hp)(V:List Value)(ao:j0)(ba:U1.R h V ao)(t:Int)(Y:K0 t)(E:Option Addr)(an F:Nat)(u:D0)(M:C0.R h [.slice E an F] u)(g:Int)(I:K0 g)(r:j0×Bool)(b:T01 ao t u g=some r):
  Tr Tryz.prog 105 #[.agg V.toArray,.int .i64 t,.slice E an F,.int .i64 g] h λv z=>∃(U:List Value),v = .tuple #[.agg U.toArray,.bool r.2]/\New U1 h z U r.1:=by
 obtain⟨a2,a3,az,bC,aD,a4,rfl,rfl,p,A,w⟩:=M0 ba
 obtain⟨rfl,bt⟩:=Sl.len w
 obtain⟨rfl,bu⟩:=Sl.len M
 unfold T01 at b
 dsimp only at b
 refine G2 (args:=[.agg #[.int .i64 a2,.int .i64 a3,.slice az a4.length aD],.int .i64 t,.slice E u.length F,.int .i64 g]) (fn:=Tryz.f105) rfl ?_
 refine trM b (H9 _ _ _ (H0 p A w)) ?_
 rintro bm b bM aY ⟨X,bD,W,rfl,D⟩
 have x:Sub h aY:=D.sub
 have aq:=D.r
 obtain⟨ax,ay,S⟩:=bm
 dsimp only at b D aq
 obtain⟨_,_,_,_,_,_,aH,aJ,ab,ac,bb⟩:=M0 aq
 cases aH
 cases aJ
 obtain⟨rfl,bx⟩:=Sl.len bb
 try dsimp only at b
 have aw:=New.sndI (New.sndI (D))
 refine trV b (a02 _ _ _ (H0 p A (G1.mono x w))) λbT b=>?_
 refine trG b (λq=>l02 _ _ _ (H0 p A (G1.mono x w)) _ Y) λbU b=>?_
 refine trG b (λq=>l02 _ _ _ (H0 p A (G1.mono x w)) _ I) λbV b=>?_
 refine trG b (λq=>M05 _ _ p _ _ _ _ (C0.mono x M)) λbW b=>?_
 refine ifB b (λaW b=>?_) λaW b=>?_
 ·obtain rfl:=oJ b
  exact⟨([.int .i64 ax,.int .i64 ay,.slice (some ⟨X,0,none⟩) S.length W]),rfl,(New.pair (New.int ab) (New.pair (New.int ac) aw))⟩
 ·obtain⟨T,aQ,b⟩:=B0 b
  refine eX { vars:=[11,66],boxes:=[2],owns:=[],fuel:=true } (eX (λvs os z=>∃ y i d c H L K G f,vs.tail = [.int .i64 y,.int .i64 i,.int .i64 d,.int .i64 c,.slice (some ⟨H,L,none⟩) K G]/\os = []/\Sub h z/\K0 y/\K0 i/\K0 d/\K0 c/\New G1 h z [.slice (some ⟨H,L,none⟩) K G] f/\B6 u g (J1 vs) y i d c f=some T) (eX (λ_ _=>0) (aI (eX Q0 ⟨t,0,ax,ay,X,0,S.length,W,S,rfl,rfl,x,Y,(by decide),ab,ac,aw,aQ⟩) ?_)))
  rintro _ _ _ _ _ s aX ⟨y,i,d,c,H,L,K,G,f,⟨⟩,⟨⟩,ar,Z,bq,J,C,N,a⟩
  replace a:B6 u g s y i d c f=some T:=a
  obtain _|s:=s
  ·cases a
  rw[B6.eq_2]at a
  have ap:=N.r
  obtain⟨rfl,bv⟩:=Sl.len ap
  refine ifB a (λaU a=>?_) λaU a=>?_
  ·refine ldI a (C0.mono ar M) λbQ aa a=>?_
   refine ifB a (λaV a=>?_) λaV a=>?_
   ·refine Or.inr (Or.inr (Or.inl (aI (aI (by kernel_rfl) (by kernel_rfl)) ?_)))
    refine Or.inr ?_
    refine Or.inr ?_
    refine Or.inr ?_
    refine Or.inr ?_
    refine Or.inl (eX 1 (aI (aI rfl rfl) ?_))
    refine trM a (Q0c _ _ Z _ aa _ C) ?_
    rintro bR a bK aj ⟨bo,rfl,bc,au⟩
    obtain⟨j,k,l,rfl,rfl,ad,ae,af⟩:=M2 bc
    try dsimp only at a
    refine aI (aI rfl au) (aI (by first|exact trivial|exact rfl) ?_)
    refine aT ?_
    obtain⟨bH,aM,a⟩:=B0 a
    obtain⟨bk,bg,al,aA⟩:=New.app N au
    refine eX bk (aI bg (aI (F1 aM (by first|rw[al,F2.length (show F2 (E2.R aj) ([[.int .i64 j,.int .i64 k,.int .i64 l]]:List (List Value)) [(j,k,l)] from⟨(Y1 ad ae af),trivial⟩)]|(rw[al];rfl))) ?_))
    intro bO br aR
    obtain⟨P,aO,a0,bF,aF,rfl⟩:=aA _ _ _ _ _ (F3.ofPlain (j08 _) (show F2 (E2.R aj) ([[.int .i64 j,.int .i64 k,.int .i64 l]]:List (List Value)) [(j,k,l)] from⟨(Y1 ad ae af),trivial⟩)) c6.ofPlain aR
    have bi:=P.r
    obtain⟨aK,bA⟩:=Sl.len bi
    subst aK
    refine aT ?_
    refine aT ?_
    exact I2 s ⟨c,(IntKind.i64.wrap (i+1)),d,(IntKind.i64.wrap (c+1)),aO,a0,(f ++ [(j,k,l)]).length,aF,(f ++ [(j,k,l)]),rfl,rfl,P.sub,C,(I0 _),J,(I0 _),P,a⟩
   ·refine Or.inr (Or.inr (Or.inl (aI (aI (by kernel_rfl) (by kernel_rfl)) ?_)))
    refine Or.inr ?_
    refine Or.inr ?_
    refine Or.inr ?_
    refine Or.inr ?_
    refine Or.inl (eX 1 (aI (aI rfl rfl) ?_))
    refine trM a (Q0c _ _ Z _ aa _ I) ?_
    rintro bS a bL ak ⟨bp,rfl,be,av⟩
    obtain⟨m,n,o,rfl,rfl,ag,ah,ai⟩:=M2 be
    try dsimp only at a
    refine aI (aI rfl av) (aI (by first|exact trivial|exact rfl) ?_)
    refine aT ?_
    obtain⟨bI,aN,a⟩:=B0 a
    obtain⟨bl,bh,am,aB⟩:=New.app N av
    refine eX bl (aI bh (aI (F1 aN (by first|rw[am,F2.length (show F2 (E2.R ak) ([[.int .i64 m,.int .i64 n,.int .i64 o]]:List (List Value)) [(m,n,o)] from⟨(Y1 ag ah ai),trivial⟩)]|(rw[am];rfl))) ?_))
    intro bP bs aS
    obtain⟨Q,aP,a1,bG,aG,rfl⟩:=aB _ _ _ _ _ (F3.ofPlain (j08 _) (show F2 (E2.R ak) ([[.int .i64 m,.int .i64 n,.int .i64 o]]:List (List Value)) [(m,n,o)] from⟨(Y1 ag ah ai),trivial⟩)) c6.ofPlain aS
    have bj:=Q.r
    obtain⟨aL,bB⟩:=Sl.len bj
    subst aL
    refine aT ?_
    refine aT ?_
    exact I2 s ⟨g,(IntKind.i64.wrap (i+1)),d,c,aP,a1,(f ++ [(m,n,o)]).length,aG,(f ++ [(m,n,o)]),rfl,rfl,Q.sub,I,(I0 _),J,C,Q,a⟩
  ·obtain rfl:=oJ a
   try dsimp only[S0,W0]at b
   refine trM b (O05 _ _ _ _ _ ap) ?_
   rintro bn b bN aZ ⟨aC,bE,aE,rfl,O⟩
   have bJ:Sub aX aZ:=O.sub
   have bf:=O.r
   obtain⟨rfl,bz⟩:=Sl.len bf
   obtain rfl:=oJ b
   exact⟨([.int .i64 d,.int .i64 c,.slice aC bn.length aE]),rfl,(New.pair (New.int J) (New.pair (New.int C) (New.from O ar)))⟩
theorem g0d(h:Hp)(b:Int)(d:K0 b)(r:j0×Bool)(a:n01 b=some r):
  Tr Tryz.prog 82 #[.int .i64 b] h λv f=>∃(c:List Value),v = .tuple #[.agg c.toArray,.bool r.2]/\New U1 h f c r.1:=by
 unfold n01 at a
 refine G2 (args:=[.int .i64 b]) (fn:=Tryz.f82) rfl ?_
 refine trV a (A3 _ _ d 1 (by decide) 3 (by decide)) λi a=>?_
 refine ifB a (λg a=>?_) λg a=>?_
 ·obtain rfl:=oJ a
  exact⟨([.int .i64 0,.int .i64 0,.slice none 0 0]),rfl,(New.pair (New.int (show K0 (0) from(by decide))) (New.pair (New.int (show K0 (0) from(by decide))) ((New.nilSlice (r:=E2)).mono (Sub.refl _))))⟩
 ·obtain rfl:=oJ a
  exact⟨([.int .i64 b,.int .i64 1,.slice none 0 0]),rfl,(New.pair (New.int d) (New.pair (New.int (show K0 (1) from(by decide))) ((New.nilSlice (r:=E2)).mono (Sub.refl _))))⟩
theorem h0d(h:Hp)(i:List Value)(k:j0)(D:U1.R h i k)(c:Option Addr)(j d:Nat)(f:D0)(m:C0.R h [.slice c j d] f)(r:j0×Bool)(a:o01 k f=some r):
  Tr Tryz.prog 83 #[.agg i.toArray,.slice c j d] h λv s=>∃(g:List Value),v = .tuple #[.agg g.toArray,.bool r.2]/\New U1 h s g r.1:=by
 obtain⟨z,A,n,P,p,C,rfl,rfl,t,u,l⟩:=M0 D
 obtain⟨rfl,M⟩:=Sl.len l
 obtain⟨rfl,N⟩:=Sl.len m
 unfold o01 at a
 dsimp only at a
 refine G2 (args:=[.agg #[.int .i64 z,.int .i64 A,.slice n C.length p],.slice c f.length d]) (fn:=Tryz.f83) rfl ?_
 refine trM a (u0f _ _ _ (H0 t u l) 0 (by decide) _ _ _ _ m 0 (by decide)) ?_
 rintro H a T y ⟨L,rfl,b⟩
 obtain⟨U,V⟩:=H
 dsimp only at a b
 have S:Sub h y:=b.sub
 have E:=b.r
 obtain⟨I,J,o,Q,q,K,rfl,rfl,w,x,F⟩:=M0 E
 obtain⟨rfl,O⟩:=Sl.len F
 try dsimp only at a
 have G:=New.sndI (New.sndI (b))
 obtain rfl:=oJ a
 exact⟨([.int .i64 I,.int .i64 J,.slice o K.length q]),rfl,(New.pair (New.int w) (New.pair (New.int x) G))⟩
theorem i0d(h:Hp)(m:Int)(D:K0 m)(q:Option Addr)(F s:Nat)(k:N0)(x:Y0.R h [.slice q F s] k)(r:j0×Bool)(b:p01 m k=some r):
  Tr Tryz.prog 66 #[.int .i64 m,.slice q F s] h λv l=>∃(C:List Value),v = .tuple #[.agg C.toArray,.bool r.2]/\New U1 h l C r.1:=by
 obtain⟨rfl,au⟩:=Sl.len x
 unfold p01 at b
 refine G2 (args:=[.int .i64 m,.slice q k.length s]) (fn:=Tryz.f66) rfl ?_
 refine trV b (h07 _ _ D _ _ _ _ x) λaE b=>?_
 refine ifB b (λS b=>?_) λS b=>?_
 ·obtain rfl:=oJ b
  exact⟨([.int .i64 0,.int .i64 0,.slice none 0 0]),rfl,(New.pair (New.int (show K0 (0) from(by decide))) (New.pair (New.int (show K0 (0) from(by decide))) ((New.nilSlice (r:=E2)).mono (Sub.refl _))))⟩
 ·refine trM b (g0d _ _ D) ?_
  rintro aj b aD E ⟨ap,rfl,p⟩
  obtain⟨aJ,aK⟩:=aj
  dsimp only at b p
  have H:Sub h E:=p.sub
  have ab:=p.r
  obtain⟨ak,al,L,aB,N,J,rfl,rfl,V,W,ac⟩:=M0 ab
  obtain⟨rfl,ay⟩:=Sl.len ac
  try dsimp only at b
  have af:=New.sndI (New.sndI (p))
  obtain⟨A,O,b⟩:=B0 b
  refine eX { vars:=[22],boxes:=[1],owns:=[],fuel:=true } (eX (λvs os l=>∃ u8 f c g w i d,vs.tail = [.int .i64 u8,.int .i64 f,.int .i64 c,.slice g w i]/\os = []/\Sub E l/\K0 u8/\K0 f/\K0 c/\New G1 h l [.slice g w i] d/\W5 k (J1 vs) u8 f c d=some A) (eX (λ_ _=>0) (aI (eX Q0 ⟨0,ak,al,L,J.length,N,J,rfl,rfl,(Sub.refl _),(by decide),V,W,af,O⟩) ?_)))
  rintro _ _ _ _ j X ⟨u8,f,c,g,w,i,d,⟨⟩,⟨⟩,n,ar,u,t,z,a⟩
  replace a:W5 k j u8 f c d=some A:=a
  obtain _|j:=j
  ·cases a
  rw[W5.eq_2]at a
  have G:=z.r
  obtain⟨rfl,av⟩:=Sl.len G
  refine ifB a (λP a=>?_) λP a=>?_
  ·refine ld a (Y0.mono (H.trans n) x) λaF an y a=>?_
   obtain⟨am,az,aq,rfl⟩:=Wp.slice_cell y
   obtain⟨rfl,aw⟩:=Sl.len y
   refine ifB a (λQ a=>?_) λQ a=>?_
   ·refine trM a (h0d _ _ _ (H0 u t G) _ _ _ _ y) ?_
    rintro ag a aC Y ⟨ao,rfl,o⟩
    obtain⟨aG,aH⟩:=ag
    dsimp only at a o
    have ad:Sub X Y:=o.sub
    have Z:=o.r
    obtain⟨ah,ai,K,aA,M,I,rfl,rfl,T,U,aa⟩:=M0 Z
    obtain⟨rfl,ax⟩:=Sl.len aa
    try dsimp only at a
    have ae:=New.sndI (New.sndI (o))
    exact I2 j ⟨(IntKind.i64.wrap (u8+1)),ah,ai,K,I.length,M,I,rfl,rfl,(n.trans ad),(I0 _),T,U,(New.from ae (H.trans n)),a⟩
   ·exact I2 j ⟨(IntKind.i64.wrap (u8+1)),f,c,g,d.length,i,d,rfl,rfl,n,(I0 _),u,t,z,a⟩
  ·obtain rfl:=oJ a
   try dsimp only[S0,W0]at b
   obtain rfl:=oJ b
   exact⟨([.int .i64 f,.int .i64 c,.slice g d.length i]),rfl,(New.pair (New.int u) (New.pair (New.int t) z))⟩
theorem u0i(h:Hp)(J:List Value)(M:j0)(ap:U1.R h J M)(r:J8)(w:d03 M=some r):
  Tr Tryz.prog 140 #[.agg J.toArray] h λv p=>∃(H:Option Addr) (L I:Nat),v = .slice H L I/\N0h.R p [.slice H L I] r/\Sub h p:=by
 obtain⟨am,an,Q,aN,T,D,rfl,rfl,aC,aD,E⟩:=M0 ap
 obtain⟨rfl,aK⟩:=Sl.len E
 unfold d03 at w
 dsimp only at w
 refine G2 (args:=[.agg #[.int .i64 am,.int .i64 an,.slice Q D.length T]]) (fn:=Tryz.f140) rfl ?_
 obtain⟨F,ac,w⟩:=B0 w
 refine eX { vars:=[12],boxes:=[],owns:=[0],fuel:=true } (eX (λvs os p=>∃ x C y,vs.tail = [.int .i64 x]/\os = [C]/\Sub h p/\K0 x/\F2 (j5.R p) C y/\Q8 D (J1 vs) x y=some F) (eX (λ_ _=>0) (aI (eX Q0 ⟨0,[],([]:J8),rfl,rfl,(Sub.refl _),(by decide),(show F2 (j5.R h) ([]:List (List Value)) ([]:J8) from trivial),ac⟩) ?_)))
 rintro _ C z al ⟨x,aX,y,⟨⟩,⟨⟩,A,aF,K,g⟩
 replace g:Q8 D z x y=some F:=g
 obtain _|z:=z
 ·cases g
 rw[Q8.eq_2]at g
 refine ifB g (λaj g=>?_) λaj g=>?_
 ·refine ld g (G1.mono A E) λaV aA ar g=>?_
  obtain⟨c,O,a,rfl,rfl,s,aH,k⟩:=M2 ar
  try dsimp only at g
  obtain⟨P,ab,g⟩:=B0 g
  obtain⟨ao,aw,V,X⟩:=Sl.cutI (r:=E2.toRp) (G1.mono A E) ab
  refine aI ao (eX aw (aI V ?_))
  intro ax ak _
  obtain⟨ay,aB,rfl,N⟩:=X ax ak
  have aL:=(Sl.len N).2
  obtain⟨G,ad,g⟩:=B0 g
  refine eX { vars:=[23],boxes:=[],owns:=[0],fuel:=true } (eX (λvs os p=>∃ l o m,vs.tail = [.int .i64 l]/\os = [o]/\Sub al p/\K0 l/\F2 (j5.R p) o m/\p5 P O c a (J1 vs) l m=some G) (eX (λ_ _=>0) (aI (eX Q0 ⟨0,C,y,rfl,rfl,(Sub.refl _),(by decide),K,ad⟩) ?_)))
  rintro _ o t n ⟨l,aW,m,⟨⟩,⟨⟩,u,aE,i,f⟩
  replace f:p5 P O c a t l m=some G:=f
  obtain _|t:=t
  ·cases f
  rw[p5.eq_2]at f
  refine ifB f (λae f=>?_) λae f=>?_
  ·refine ld f (G1.mono u N) λaS az aq f=>?_
   obtain⟨d,aU,b,rfl,rfl,q,aG,j⟩:=M2 aq
   try dsimp only at f
   refine ifB f (λaf f=>?_) λaf f=>?_
   ·exact I2 t ⟨(IntKind.i64.wrap (l+1)),o,m,rfl,rfl,u,(I0 _),i,f⟩
   ·refine ifB f (λag f=>?_) λag f=>?_
    ·obtain⟨aO,Y,f⟩:=B0 f
     refine aI (F1 Y (by first|rw[F2.length i,F2.length (show F2 (j5.R n) ([[.int .i64 (if b<a then b else a),.int .i64 (if b>a then b else a)]]:List (List Value)) [((if b<a then b else a),(if b>a then b else a))] from⟨(P2 (i8 j k) (i8 j k)),trivial⟩)]|exact congrArg (·+1) (F2.length i))) ?_
     refine ifB f (λah f=>?_) λah f=>?_
     ·obtain⟨aP,Z,f⟩:=B0 f
      refine aI (F1 Z (by first|rw[F2.length (F2.append i (show F2 (j5.R n) ([[.int .i64 (if b<a then b else a),.int .i64 (if b>a then b else a)]]:List (List Value)) [((if b<a then b else a),(if b>a then b else a))] from⟨(P2 (i8 j k) (i8 j k)),trivial⟩)),F2.length (show F2 (j5.R n) ([[.int .i64 (if d<c then d else c),.int .i64 (if d>c then d else c)]]:List (List Value)) [((if d<c then d else c),(if d>c then d else c))] from⟨(P2 (i8 q s) (i8 q s)),trivial⟩)]|exact congrArg (·+1) (F2.length (F2.append i (show F2 (j5.R n) ([[.int .i64 (if b<a then b else a),.int .i64 (if b>a then b else a)]]:List (List Value)) [((if b<a then b else a),(if b>a then b else a))] from⟨(P2 (i8 j k) (i8 j k)),trivial⟩))))) ?_
      exact I2 t ⟨(IntKind.i64.wrap (l+1)),((o++([[.int .i64 (if b<a then b else a),.int .i64 (if b>a then b else a)]]:List (List Value)))++([[.int .i64 (if d<c then d else c),.int .i64 (if d>c then d else c)]]:List (List Value))),((m ++ [((if b<a then b else a),(if b>a then b else a))]) ++ [((if d<c then d else c),(if d>c then d else c))]),rfl,rfl,u,(I0 _),(F2.append (F2.append i (show F2 (j5.R n) ([[.int .i64 (if b<a then b else a),.int .i64 (if b>a then b else a)]]:List (List Value)) [((if b<a then b else a),(if b>a then b else a))] from⟨(P2 (i8 j k) (i8 j k)),trivial⟩)) (show F2 (j5.R n) ([[.int .i64 (if d<c then d else c),.int .i64 (if d>c then d else c)]]:List (List Value)) [((if d<c then d else c),(if d>c then d else c))] from⟨(P2 (i8 q s) (i8 q s)),trivial⟩)),f⟩
     ·exact I2 t ⟨(IntKind.i64.wrap (l+1)),(o++([[.int .i64 (if b<a then b else a),.int .i64 (if b>a then b else a)]]:List (List Value))),(m ++ [((if b<a then b else a),(if b>a then b else a))]),rfl,rfl,u,(I0 _),(F2.append i (show F2 (j5.R n) ([[.int .i64 (if b<a then b else a),.int .i64 (if b>a then b else a)]]:List (List Value)) [((if b<a then b else a),(if b>a then b else a))] from⟨(P2 (i8 j k) (i8 j k)),trivial⟩)),f⟩
    ·refine ifB f (λai f=>?_) λai f=>?_
     ·obtain⟨aQ,aa,f⟩:=B0 f
      refine aI (F1 aa (by first|rw[F2.length i,F2.length (show F2 (j5.R n) ([[.int .i64 (if d<c then d else c),.int .i64 (if d>c then d else c)]]:List (List Value)) [((if d<c then d else c),(if d>c then d else c))] from⟨(P2 (i8 q s) (i8 q s)),trivial⟩)]|exact congrArg (·+1) (F2.length i))) ?_
      exact I2 t ⟨(IntKind.i64.wrap (l+1)),(o++([[.int .i64 (if d<c then d else c),.int .i64 (if d>c then d else c)]]:List (List Value))),(m ++ [((if d<c then d else c),(if d>c then d else c))]),rfl,rfl,u,(I0 _),(F2.append i (show F2 (j5.R n) ([[.int .i64 (if d<c then d else c),.int .i64 (if d>c then d else c)]]:List (List Value)) [((if d<c then d else c),(if d>c then d else c))] from⟨(P2 (i8 q s) (i8 q s)),trivial⟩)),f⟩
     ·exact I2 t ⟨(IntKind.i64.wrap (l+1)),o,m,rfl,rfl,u,(I0 _),i,f⟩
  ·obtain rfl:=oJ f
   try dsimp only[S0,W0]at g
   exact I2 z ⟨(IntKind.i64.wrap (x+1)),o,m,rfl,rfl,(A.trans u),(I0 _),i,g⟩
 ·obtain rfl:=oJ g
  try dsimp only[S0,W0]at w
  intro aR aJ W
  obtain⟨S,U,rfl,au,av,aM⟩:=V0.out (r:=j5.toRp) W K
  obtain rfl:=oJ w
  exact⟨S,y.length,U,rfl,au,(A.trans av)⟩
theorem l0c(h:Hp)(d:List Value)(j:j0)(x:U1.R h d j)(r:K4×Bool)(a:E9 j=some r):
  Tr Tryz.prog 129 #[.agg d.toArray] h λv f=>∃(c:List Value),v = .tuple #[.agg c.toArray,.bool r.2]/\j5.R f c r.1/\Sub h f:=by
 obtain⟨t,u,m,I,n,w,rfl,rfl,g,i,b⟩:=M0 x
 obtain⟨rfl,G⟩:=Sl.len b
 unfold E9 at a
 dsimp only at a
 refine G2 (args:=[.agg #[.int .i64 t,.int .i64 u,.slice m w.length n]]) (fn:=Tryz.f129) rfl ?_
 refine trV a (a02 _ _ _ (H0 g i b)) λL a=>?_
 refine ifB a (λo a=>?_) λo a=>?_
 ·obtain rfl:=oJ a
  exact⟨([.int .i64 0,.int .i64 0]),rfl,(P2 (by decide) (by decide)),(Sub.refl _)⟩
 ·refine trM a (u0i _ _ _ (H0 g i b)) ?_
  rintro M a K F ⟨C,J,E,rfl,k,l⟩
  obtain⟨rfl,H⟩:=Sl.len k
  refine ifB a (λp a=>?_) λp a=>?_
  ·obtain rfl:=oJ a
   exact⟨([.int .i64 0,.int .i64 0]),rfl,(P2 (by decide) (by decide)),l⟩
  ·refine ld a k λN D y a=>?_
   obtain⟨z,A,rfl,rfl,q,s⟩:=a03 y
   try dsimp only at a
   obtain rfl:=oJ a
   exact⟨([.int .i64 z,.int .i64 A]),rfl,(P2 q s),l⟩
theorem m08(h:Hp)(D:List Value)(M:j0)(aA:U1.R h D M)(E:List Value)(N:K4)(aB:j5.R h E N)(r:j0×Bool)(b:K7 M N=some r):
  Tr Tryz.prog 130 #[.agg D.toArray,.agg E.toArray] h λv i=>∃(C:List Value),v = .tuple #[.agg C.toArray,.bool r.2]/\New U1 h i C r.1:=by
 obtain⟨ax,ay,U,a0,X,az,rfl,rfl,G,H,u⟩:=M0 aA
 obtain⟨rfl,aX⟩:=Sl.len u
 obtain⟨d,f,rfl,rfl,I,J⟩:=a03 aB
 unfold K7 at b
 dsimp only at b
 refine G2 (args:=[.agg #[.int .i64 ax,.int .i64 ay,.slice U az.length X],.agg #[.int .i64 d,.int .i64 f]]) (fn:=Tryz.f130) rfl ?_
 refine trM b (H9 _ _ _ (H0 G H u)) ?_
 rintro aK b be L ⟨p,a1,F,rfl,o⟩
 have P:Sub h L:=o.sub
 have O:=o.r
 obtain⟨S,T,l⟩:=aK
 dsimp only at b o O
 obtain⟨_,_,_,_,_,_,Z,aa,K,ao,aD⟩:=M0 O
 cases Z
 cases aa
 obtain⟨rfl,aY⟩:=Sl.len aD
 try dsimp only at b
 have x:=New.sndI (New.sndI (o))
 refine trV b (a02 _ _ _ (H0 G H (G1.mono P u))) λbn b=>?_
 refine ifB b (λai b=>?_) λai b=>?_
 ·obtain rfl:=oJ b
  exact⟨([.int .i64 S,.int .i64 T,.slice (some ⟨p,0,none⟩) l.length F]),rfl,(New.pair (New.int K) (New.pair (New.int ao) x))⟩
 ·intro c s
  have ab:(Hp.set L c (.cells #[.int .i64 d,.int .i64 f] 88 (0,0))) c=some (.cells #[.int .i64 d,.int .i64 f] 88 (0,0)):=Hp.set_same _ _ _
  have aw:c≠p:=λe=>New.blk x (Sub.refl _) (e▸s)
  obtain⟨A,ag,b⟩:=B0 b
  refine eX { vars:=[39],boxes:=[],owns:=[],fuel:=true } (eX (λvs os i=>∃ g j,vs.tail = [.int .i64 g]/\os = []/\Sub h i/\K0 g/\New G1 h i [.slice (some ⟨p,0,none⟩) l.length F] j/\i c=some (.cells #[.int .i64 d,.int .i64 f] 88 (0,0))/\T4 l d f (J1 vs) g j=some A) (eX (λ_ _=>0) (aI (eX Q0 ⟨0,l,rfl,rfl,(P.trans (Sub.set s)),(by decide),(New.mono x (Sub.set s)),ab,ag⟩) ?_)))
  rintro _ n aq ⟨g,j,⟨⟩,⟨⟩,aJ,aP,Q,t,a⟩
  replace a:T4 l d f n g j=some A:=a
  obtain _|n:=n
  ·cases a
  rw[T4.eq_2]at a
  have w:=Q.r
  refine ifB a (λah a=>?_) λah a=>?_
  ·refine ld a w λbg aM aC a=>?_
   obtain⟨bh,z,bi,rfl,rfl,ak,al,am⟩:=M2 aC
   try dsimp only at a
   refine Or.inr (Or.inr (Or.inl (aI (aI (by kernel_rfl) (by kernel_rfl)) ?_)))
   obtain⟨k,ae,a⟩:=B0 a
   obtain⟨a3,ac,a⟩:=B0 a
   have an:K0 k:=T0 ac
   refine Or.inl (eX (.val (.int .i64 k)) (aI ?_ ?_))
   ·intro aU aG
    exact Tr.val (i03 _ _ ak c 88 _ I _ J (aG _ _ t) _ ae) (aI rfl (aI rfl rfl))
   obtain⟨m,af,a⟩:=B0 a
   obtain⟨a4,ad,a⟩:=B0 a
   have ap:K0 m:=T0 ad
   refine Or.inl (eX (.val (.int .i64 m)) (aI ?_ ?_))
   ·intro aV aH
    exact Tr.val (i03 _ _ am c 88 _ I _ J (aH _ _ t) _ af) (aI rfl (aI rfl rfl))
   refine Or.inl (eX (.agg [.val (.int .i64 k),.val (.int .i64 z),.val (.int .i64 m)]) (aI ?_ ?_))
   ·intro aW bb
    exact aI rfl (aI rfl rfl)
   refine Or.inr ?_
   refine Or.inr ?_
   refine Or.inl (eX 0 (aI (aI rfl rfl) ?_))
   obtain⟨bj,q,a⟩:=B0 a
   obtain⟨W,aN,aO,aE⟩:=Sl.getI (r:=E2.toRp) w q (by decide)
   refine aI W ?_
   obtain⟨bk,bl,bm,rfl,rfl,aQ,aR,aS⟩:=M2 aE
   try dsimp only at a
   refine aT ?_
   refine New.put (r:=E2) Q (Sub.refl _) (a00 q).1 (new:=[.int .i64 k,.int .i64 z,.int .i64 m]) (By:=[]) (j08 _ _ _ (Y1 an al ap)) (c6.nil _) rfl (a00 q).2 ?_
   intro ar w28 av _
   have ba:=w28.r
   have aj:ar c=some (.cells #[.int .i64 d,.int .i64 f] 88 (0,0)):=(av c aw).trans t
   refine aT ?_
   exact I2 n ⟨(IntKind.i64.wrap (g+1)),(j.set g.toNat (k,z,m)),rfl,rfl,w28.sub,(I0 _),w28,(aj),a⟩
  ·obtain rfl:=oJ a
   try dsimp only[S0,W0]at b
   refine trM b (O05 _ _ _ _ _ w) ?_
   rintro aL b bf au ⟨V,a2,Y,rfl,y⟩
   have bc:Sub aq au:=y.sub
   have aF:=y.r
   obtain⟨rfl,aZ⟩:=Sl.len aF
   obtain rfl:=oJ b
   exact⟨([.int .i64 S,.int .i64 (IntKind.i64.wrap (T-1)),.slice V aL.length Y]),rfl,(New.pair (New.int K) (New.pair (New.int (I0 _)) (New.from y aJ)))⟩
theorem j0d(h:Hp)(l:List Value)(q:j0)(O:U1.R h l q)(r:j0×K4×Bool)(a:q01 q=some r):
  Tr Tryz.prog 107 #[.agg l.toArray] h λv m=>∃(j:List Value) (k:List Value),v = .tuple #[.agg j.toArray,.agg k.toArray,.bool r.2.2]/\New U1 h m j r.1/\j5.R m k r.2.1:=by
 obtain⟨L,M,u,al,x,N,rfl,rfl,g,i,b⟩:=M0 O
 obtain⟨rfl,ai⟩:=Sl.len b
 unfold q01 at a
 dsimp only at a
 refine G2 (args:=[.agg #[.int .i64 L,.int .i64 M,.slice u N.length x]]) (fn:=Tryz.f107) rfl ?_
 refine trM a (l0c _ _ _ (H0 g i b)) ?_
 rintro V a ar p ⟨ag,rfl,s,c⟩
 obtain⟨av,aw⟩:=V
 dsimp only at a s
 obtain⟨W,X,rfl,rfl,n,o⟩:=a03 s
 try dsimp only at a
 refine ifB a (λE a=>?_) λE a=>?_
 ·refine trM a (H9 _ _ _ (H0 g i (G1.mono c b))) ?_
  rintro Y a au K ⟨D,am,y,rfl,d⟩
  have ao:Sub p K:=d.sub
  have t:=d.r
  obtain⟨Z,aa,ab⟩:=Y
  dsimp only at a d t
  obtain⟨_,_,_,_,_,_,A,C,F,G,P⟩:=M0 t
  cases A
  cases C
  obtain⟨rfl,aj⟩:=Sl.len P
  try dsimp only at a
  have U:=New.sndI (New.sndI (d))
  obtain rfl:=oJ a
  exact⟨([.int .i64 Z,.int .i64 aa,.slice (some ⟨D,0,none⟩) ab.length y]),([.int .i64 0,.int .i64 0]),rfl,(New.pair (New.int F) (New.pair (New.int G) (New.from U c))),(P2 (by decide) (by decide))⟩
 ·refine trM a (m08 _ _ _ (H0 g i (G1.mono c b)) _ _ (P2 n o)) ?_
  rintro ac a aq J ⟨ah,rfl,f⟩
  obtain⟨ax,ay⟩:=ac
  dsimp only at a f
  have ap:Sub p J:=f.sub
  have Q:=f.r
  obtain⟨ad,ae,w,an,z,af,rfl,rfl,H,I,S⟩:=M0 Q
  obtain⟨rfl,ak⟩:=Sl.len S
  try dsimp only at a
  have T:=New.sndI (New.sndI (f))
  refine Or.inr (Or.inr (Or.inl (aI (aI (by kernel_rfl) (by kernel_rfl)) ?_)))
  refine Or.inr ?_
  refine Or.inr ?_
  refine Or.inl (eX 0 (aI (aI rfl rfl) ?_))
  refine aT ?_
  refine aT ?_
  obtain rfl:=oJ a
  exact⟨([.int .i64 ad,.int .i64 ae,.slice w af.length z]),([.int .i64 W,.int .i64 X]),rfl,(New.pair (New.int H) (New.pair (New.int I) (New.from T c))),(P2 n o)⟩
theorem v0f(h:Hp)(C:List Value)(I:j0)(aq:U1.R h C I)(r:j0×J8)(b:U01 I=some r):
  Tr Tryz.prog 84 #[.agg C.toArray] h λv c=>∃(A:List Value) (y:Option Addr) (H z:Nat),v = .tuple #[.agg A.toArray,.slice y H z]/\New U1 h c A r.1/\N0h.R c [.slice y H z] r.2:=by
 obtain⟨an,ao,S,aQ,V,ap,rfl,rfl,ag,ah,J⟩:=M0 aq
 obtain⟨rfl,aL⟩:=Sl.len J
 unfold U01 at b
 dsimp only at b
 refine G2 (args:=[.agg #[.int .i64 an,.int .i64 ao,.slice S ap.length V]]) (fn:=Tryz.f84) rfl ?_
 refine trM b (H9 _ _ _ (H0 ag ah J)) ?_
 rintro aB b aX u ⟨ad,aS,X,rfl,q⟩
 have ax:Sub h u:=q.sub
 have L:=q.r
 obtain⟨aF,aG,Q⟩:=aB
 dsimp only at b q L
 obtain⟨_,_,_,_,_,_,Z,aa,ak,al,av⟩:=M0 L
 cases Z
 cases aa
 obtain⟨rfl,aO⟩:=Sl.len av
 try dsimp only at b
 have aA:=New.sndI (New.sndI (q))
 obtain⟨x,ae,b⟩:=B0 b
 refine eX { vars:=[],boxes:=[2],owns:=[0],fuel:=true } (eX (λvs os c=>∃ f g l w m u8 p i,vs.tail = [.int .i64 f,.int .i64 g,.slice l w m]/\os = [p]/\Sub u c/\K0 f/\K0 g/\New G1 h c [.slice l w m] u8/\F2 (j5.R c) p i/\L7 (J1 vs) f g u8 i=some x) (eX (λ_ _=>0) (aI (eX Q0 ⟨aF,aG,(some ⟨ad,0,none⟩),Q.length,X,Q,[],([]:J8),rfl,rfl,(Sub.refl _),ak,al,aA,(show F2 (j5.R u) ([]:List (List Value)) ([]:J8) from trivial),ae⟩) ?_)))
 rintro _ _ _ p o am ⟨f,g,l,w,m,u8,a1,i,⟨⟩,⟨⟩,N,D,E,O,n,a⟩
 replace a:L7 o f g u8 i=some x:=a
 obtain _|o:=o
 ·cases a
 rw[L7.eq_2]at a
 have K:=O.r
 obtain⟨rfl,aM⟩:=Sl.len K
 refine trM a (j0d _ _ _ (H0 D E K)) ?_
 rintro aC a aV t ⟨aH,aJ,rfl,s,M⟩
 obtain⟨aY,aZ,a0⟩:=aC
 dsimp only at a s M
 have d:Sub am t:=s.sub
 have ar:=s.r
 obtain⟨aD,aE,T,aR,W,P,rfl,rfl,ai,aj,au⟩:=M0 ar
 obtain⟨rfl,aN⟩:=Sl.len au
 try dsimp only at a
 have az:=New.sndI (New.sndI (s))
 obtain⟨j,k,rfl,rfl,F,G⟩:=a03 M
 try dsimp only at a
 refine ifB a (λaf a=>?_) λaf a=>?_
 ·intro aW aK ab
  obtain⟨U,Y,rfl,aw,ay,aP⟩:=V0.out (r:=j5.toRp) ab (F2.up (r:=j5.toRp) d n)
  obtain rfl:=oJ a
  try dsimp only[L1,M1]at b
  obtain rfl:=oJ b
  exact⟨([.int .i64 f,.int .i64 g,.slice l u8.length m]),U,i.length,Y,rfl,(New.pair (New.int D) (New.pair (New.int E) (New.mono O (d.trans ay)))),aw⟩
 ·obtain⟨aU,ac,a⟩:=B0 a
  refine aI (F1 ac (by first|rw[F2.length (F2.up (r:=j5.toRp) d n),F2.length (show F2 (j5.R t) ([[.int .i64 j,.int .i64 k]]:List (List Value)) [(j,k)] from⟨(P2 F G),trivial⟩)]|exact congrArg (·+1) (F2.length (F2.up (r:=j5.toRp) d n)))) ?_
  exact I2 o ⟨aD,aE,T,P.length,W,P,(p++([[.int .i64 j,.int .i64 k]]:List (List Value))),(i ++ [(j,k)]),rfl,rfl,(N.trans d),ai,aj,(New.from az (ax.trans N)),(F2.append (F2.up (r:=j5.toRp) d n) (show F2 (j5.R t) ([[.int .i64 j,.int .i64 k]]:List (List Value)) [(j,k)] from⟨(P2 F G),trivial⟩)),a⟩
theorem m0c(h:Hp)(g:List Value)(k:j0)(K:U1.R h g k)(r:j0)(a:P00 k=some r):
  Tr Tryz.prog 67 #[.agg g.toArray] h λv w=>∃(f:List Value),v = .agg f.toArray/\New U1 h w f r:=by
 obtain⟨H,I,q,ap,t,J,rfl,rfl,x,y,l⟩:=M0 K
 obtain⟨rfl,aj⟩:=Sl.len l
 unfold P00 at a
 dsimp only at a
 refine G2 (args:=[.agg #[.int .i64 H,.int .i64 I,.slice q J.length t]]) (fn:=Tryz.f67) rfl ?_
 refine trM a (v0f _ _ _ (H0 x y l)) ?_
 rintro T a az i ⟨ac,Z,ar,ag,rfl,b,n⟩
 obtain⟨aD,aH⟩:=T
 dsimp only at a b n
 have P:Sub h i:=b.sub
 have L:=b.r
 obtain⟨aE,aF,Y,aq,af,aG,rfl,rfl,z,A,m⟩:=M0 L
 obtain⟨rfl,ak⟩:=Sl.len m
 try dsimp only at a
 have aB:=New.sndI (New.sndI (b))
 obtain⟨rfl,al⟩:=Sl.len n
 refine trM a (t06 _ _ _ (H0 z A m)) ?_
 rintro U a aA j ⟨ad,ab,av,ai,rfl,c,p⟩
 obtain⟨aJ,aN⟩:=U
 dsimp only at a c p
 have Q:Sub i j:=c.sub
 have M:=c.r
 obtain⟨aK,aL,aa,au,ah,aM,rfl,rfl,C,D,o⟩:=M0 M
 obtain⟨rfl,am⟩:=Sl.len o
 try dsimp only at a
 have aC:=New.sndI (New.sndI (c))
 obtain⟨rfl,an⟩:=Sl.len p
 refine trM a (o03 _ _ _ (H0 C D o)) ?_
 rintro aO a ay G ⟨ae,rfl,d⟩
 have ax:Sub j G:=d.sub
 have N:=d.r
 obtain⟨V,W,s,aw,u,X,rfl,rfl,E,F,O⟩:=M0 N
 obtain⟨rfl,ao⟩:=Sl.len O
 try dsimp only at a
 have S:=New.sndI (New.sndI (d))
 obtain rfl:=oJ a
 exact⟨([.int .i64 V,.int .i64 W,.slice s X.length u]),rfl,(New.pair (New.int E) (New.pair (New.int F) (New.from S (P.trans Q))))⟩
theorem E05(h:Hp)(b:Int)(u:K0 b)(d:Option Addr)(l f:Nat)(g:N0)(m:Y0.R h [.slice d l f] g)(r:j0×Bool)(a:Z8 b g=some r):
  Tr Tryz.prog 47 #[.int .i64 b,.slice d l f] h λv s=>∃(j:List Value),v = .tuple #[.agg j.toArray,.bool r.2]/\New U1 h s j r.1:=by
 obtain⟨rfl,O⟩:=Sl.len m
 unfold Z8 at a
 refine G2 (args:=[.int .i64 b,.slice d g.length f]) (fn:=Tryz.f47) rfl ?_
 refine trM a (i0d _ _ u _ _ _ _ m) ?_
 rintro G a V k ⟨L,rfl,c⟩
 obtain⟨Y,ac⟩:=G
 dsimp only at a c
 have o:Sub h k:=c.sub
 have C:=c.r
 obtain⟨Z,aa,K,S,N,ab,rfl,rfl,w,x,n⟩:=M0 C
 obtain⟨rfl,P⟩:=Sl.len n
 try dsimp only at a
 have X:=New.sndI (New.sndI (c))
 refine ifB a (λt a=>?_) λt a=>?_
 ·obtain rfl:=oJ a
  exact⟨([.int .i64 0,.int .i64 0,.slice none 0 0]),rfl,(New.pair (New.int (show K0 (0) from(by decide))) (New.pair (New.int (show K0 (0) from(by decide))) ((New.nilSlice (r:=E2)).mono o)))⟩
 ·refine trM a (m0c _ _ _ (H0 w x n)) ?_
  rintro ad a W A ⟨M,rfl,i⟩
  have U:Sub k A:=i.sub
  have D:=i.r
  obtain⟨H,I,p,T,q,J,rfl,rfl,y,z,E⟩:=M0 D
  obtain⟨rfl,Q⟩:=Sl.len E
  try dsimp only at a
  have F:=New.sndI (New.sndI (i))
  obtain rfl:=oJ a
  exact⟨([.int .i64 H,.int .i64 I,.slice p J.length q]),rfl,(New.pair (New.int y) (New.pair (New.int z) (New.from F o)))⟩
theorem M0f(h:Hp)(b:List Value)(c:j0)(p:U1.R h b c)(r:Int)(a:A01 c=some r):
  Tr Tryz.prog 65 #[.agg b.toArray] h λv i=>v = .int .i64 r/\i=h:=by
 obtain⟨m,n,f,s,g,o,rfl,rfl,k,l,d⟩:=M0 p
 obtain⟨rfl,q⟩:=Sl.len d
 unfold A01 at a
 dsimp only at a
 refine Tr.forget (G2 (args:=[.agg #[.int .i64 m,.int .i64 n,.slice f o.length g]]) (fn:=Tryz.f65) rfl ?_)
 refine trV a (h09 _ _ _ (H0 k l d)) λt a=>?_
 refine ifB a (λj a=>?_) λj a=>?_
 ·obtain rfl:=oJ a
  exact aI rfl (Sub.refl _)
 ·obtain rfl:=oJ a
  exact aI rfl (Sub.refl _)
theorem p02(h:Hp)(t:Option Addr)(J u:Nat)(l:N0)(K:Y0.R h [.slice t J u] l)(r:N0)(f:D6 l=some r):
  Tr Tryz.prog 61 #[.slice t J u] h λv k=>∃(E:Option Addr) (I F:Nat),v = .slice E I F/\New Y0 h k [.slice E I F] r:=by
 obtain⟨rfl,af⟩:=Sl.len K
 unfold D6 at f
 refine G2 (args:=[.slice t l.length u]) (fn:=Tryz.f61) rfl ?_
 obtain⟨al,O,f⟩:=B0 f
 refine aI (T0 O) ?_
 obtain⟨D,Q,f⟩:=B0 f
 refine eX { vars:=[11],boxes:=[],owns:=[0],fuel:=true } (eX (λvs os k=>∃ g n d,vs.tail = [.int .i64 g]/\os = [n]/\Sub h k/\K0 g/\F2 (C0.R k) n d/\(∃ Bs,F3 (C0.W k) n d Bs/\c6 h Bs.flatten)/\p6 l (J1 vs) g d=some D) (eX (λ_ _=>0) (aI (eX Q0 ⟨0,(List.replicate (0:Int).toNat ([.slice none 0 0]:List Value)),(List.replicate (0:Int).toNat ([]:D0)),rfl,rfl,(Sub.refl _),(by decide),(F2.rep (p:=C0.R h) (a:=[.slice none 0 0]) (b:=[]) (Z02 Wp.int h) ((0:Int).toNat)),⟨_,(show F3 (C0.W h) (List.replicate (0:Int).toNat ([.slice none 0 0]:List Value)) (List.replicate (0:Int).toNat ([]:D0)) [] from trivial),(c6.nil h)⟩,Q⟩) ?_)))
 rintro _ n q U ⟨g,ar,d,⟨⟩,⟨⟩,s,ae,o,⟨ab,A,H⟩,c⟩
 replace c:p6 l q g d=some D:=c
 obtain _|q:=q
 ·cases c
 rw[p6.eq_2]at c
 refine ifB c (λS c=>?_) λS c=>?_
 ·refine ld c (Y0.mono s K) λaq ac y c=>?_
  obtain⟨aa,aj,ad,rfl⟩:=Wp.slice_cell y
  obtain⟨rfl,ag⟩:=Sl.len y
  obtain⟨i,j,c⟩:=B0 c
  refine Tr.mono (i07 _ _ _ _ _ y _  j) ?_
  rintro ap x ⟨j,ak,w,rfl,C⟩
  have m:Sub U x:=C.sub
  have z:=C.r
  obtain⟨rfl,ah⟩:=Sl.len z
  obtain⟨am,P,c⟩:=B0 c
  refine aI (F1 P (by first|rw[F2.length (F2.up (r:=C0.toRp) m o),F2.length (show F2 (C0.R x) ([[.slice (some ⟨j,0,none⟩) i.length w]]:List (List Value)) [i] from⟨z,trivial⟩)]|exact congrArg (·+1) (F2.length (F2.up (r:=C0.toRp) m o)))) ?_
  obtain⟨Z,Y,N,_⟩:=C
  exact I2 q ⟨(IntKind.i64.wrap (g+1)),(n++([[.slice (some ⟨j,0,none⟩) i.length w]]:List (List Value))),(d ++ [i]),rfl,rfl,(s.trans m),(I0 _),(F2.append (F2.up (r:=C0.toRp) m o) (show F2 (C0.R x) ([[.slice (some ⟨j,0,none⟩) i.length w]]:List (List Value)) [i] from⟨z,trivial⟩)),⟨_,(F3.snoc Y (f0e A m)),(M06 A s H N)⟩,c⟩
 ·obtain rfl:=oJ c
  try dsimp only[S0,W0]at f
  intro X T G
  have V:New (Wp.slice C0) h T [X] d:=(V0.fresh (r:=C0) G A s H)
  obtain⟨L,M,rfl,an,ao,ai⟩:=V0.out (r:=C0.toRp) G o
  obtain rfl:=oJ f
  exact⟨L,d.length,M,rfl,V⟩
end Go.Proofs.YtohcdjhocpakkaaGreat
