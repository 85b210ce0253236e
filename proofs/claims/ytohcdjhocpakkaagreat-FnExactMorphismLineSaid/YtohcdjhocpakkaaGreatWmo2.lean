/- The walks of batch mo2. -/
import Derived.Test.YtohcdjhocpakkaaGreatPart19
import Derived.Test.YtohcdjhocpakkaaGreatChecked
import Derived.Test.YtohcdjhocpakkaaGreatH35
import Derived.Test.YtohcdjhocpakkaaGreatPart27
import Derived.Test.YtohcdjhocpakkaaGreatPart29
import Derived.Test.YtohcdjhocpakkaaGreatPart22
import Derived.Test.YtohcdjhocpakkaaGreatH41
import Derived.Test.YtohcdjhocpakkaaGreatH46
namespace Go.Proofs.YtohcdjhocpakkaaGreat
open Go.H
set_option linter.unusedVariables false
set_option linter.unusedSimpArgs false
set_option maxRecDepth 10000
set_option maxHeartbeats 0
theorem G01(h:Hp)(m:List Value)(o:H1)(C:D3.R h m o)(r:Bool)(b:c7 o=some r):
  Tr Tryz.prog 17 #[.agg m.toArray] h λv i=>v = .bool r/\i=h:=by
 obtain⟨d,s,I,u,j,rfl,rfl,n,p⟩:=V2 C
 obtain⟨rfl,G⟩:=Sl.len p
 unfold c7 at b
 dsimp only at b
 refine Tr.forget (G2 (args:=[.agg #[.int .i64 d,.slice s j.length u]]) (fn:=Tryz.f17) rfl ?_)
 refine trV b (A3 _ d n 1 (by decide) 3 (by decide)) λK b=>?_
 refine ifB b (λz b=>?_) λz b=>?_
 ·obtain rfl:=oJ b
  exact aI rfl (Sub.refl _)
 ·obtain⟨l,x,b⟩:=B0 b
  refine eX { vars:=[20],boxes:=[],owns:=[],fuel:=true } (eX (λvs os i=>∃ c,vs.tail = [.int .i64 c]/\os = []/\Sub h i/\K0 c/\T5 j d (J1 vs) c=some l) (eX (λ_ _=>0) (aI (eX Q0 ⟨0,rfl,rfl,(Sub.refl _),(by decide),x⟩) ?_)))
  rintro _ f F ⟨c,⟨⟩,⟨⟩,g,E,a⟩
  replace a:T5 j d f c=some l:=a
  obtain _|f:=f
  ·cases a
  rw[T5.eq_2]at a
  refine ifB a (λA a=>?_) λA a=>?_
  ·refine ld a (Y0.mono g p) λq D k a=>?_
   obtain⟨t,J,w,rfl⟩:=Wp.slice_cell k
   obtain⟨rfl,H⟩:=Sl.len k
   refine trV a (M05 _ d n t q.length w q k) λL a=>?_
   refine ifB a (λy a=>?_) λy a=>?_
   ·obtain rfl:=oJ a
    try dsimp only[L1,M1]at b
    obtain rfl:=oJ b
    exact aI rfl g
   ·exact I2 f ⟨(IntKind.i64.wrap (c+1)),rfl,rfl,g,(I0 _),a⟩
  ·obtain rfl:=oJ a
   try dsimp only[S0,W0]at b
   obtain rfl:=oJ b
   exact aI rfl g
theorem p03(h:Hp)(t:List Value)(w:H1)(U:D3.R h t w)(r:ByteArray)(b:p7 w=some r):
  Tr Tryz.prog 18 #[.agg t.toArray] h λv j=>v = .string r/\j=h:=by
 obtain⟨T,y,ag,C,n,rfl,rfl,Q,o⟩:=V2 U
 obtain⟨rfl,ad⟩:=Sl.len o
 unfold p7 at b
 dsimp only at b
 refine Tr.forget (G2 (args:=[.agg #[.int .i64 T,.slice y n.length C]]) (fn:=Tryz.f18) rfl ?_)
 refine trV b (G01 _ _ _ (U0 Q o)) λaq b=>?_
 refine ifB b (λO b=>?_) λO b=>?_
 ·obtain rfl:=oJ b
  exact aI rfl (Sub.refl _)
 ·obtain⟨s,N,b⟩:=B0 b
  refine eX { vars:=[13],boxes:=[],owns:=[0],fuel:=true } (eX (λvs os j=>∃ c l d,vs.tail = [.int .i64 c]/\os = [l]/\Sub h j/\K0 c/\F2 (Wp.str.R j) l d/\I4 n (J1 vs) c d=some s) (eX (λ_ _=>0) (aI (eX Q0 ⟨0,[],([]:(List ByteArray)),rfl,rfl,(Sub.refl _),(by decide),(show F2 (Wp.str.R h) ([]:List (List Value)) ([]:(List ByteArray)) from trivial),N⟩) ?_)))
  rintro _ l k u ⟨c,ar,d,⟨⟩,⟨⟩,q,Y,i,a⟩
  replace a:I4 n k c d=some s:=a
  obtain _|k:=k
  ·cases a
  rw[I4.eq_2]at a
  refine ifB a (λP a=>?_) λP a=>?_
  ·refine ld a (Y0.mono q o) λx X p a=>?_
   obtain⟨z,ah,D,rfl⟩:=Wp.slice_cell p
   obtain⟨rfl,ae⟩:=Sl.len p
   refine trV a (A05 _ (IntKind.i64.wrap (c+1)) (I0 _)) λf a=>?_
   obtain⟨ai,G,a⟩:=B0 a
   have Z:f.size<=9223372036854775807:=T0 G
   obtain⟨aj,H,a⟩:=B0 a
   have S:=T0 H
   refine aI S ?_
   refine trV a (b0b _ z x.length D x p) λg a=>?_
   obtain⟨ak,I,a⟩:=B0 a
   have aa:g.size<=9223372036854775807:=T0 I
   obtain⟨al,J,a⟩:=B0 a
   have m:=T0 J
   refine aI m ?_
   obtain⟨am,K,a⟩:=B0 a
   refine aI (F1 K (by first|rw[F2.length i,F2.length (show F2 (Wp.str.R u) ([[.string ((f++(⟨#[62]⟩:ByteArray))++g)]]:List (List Value)) [((f++(⟨#[62]⟩:ByteArray))++g)] from⟨⟨rfl,(T04 m)⟩,trivial⟩)]|exact congrArg (·+1) (F2.length i))) ?_
   exact I2 k ⟨(IntKind.i64.wrap (c+1)),(l++([[.string ((f++(⟨#[62]⟩:ByteArray))++g)]]:List (List Value))),(d ++ [((f++(⟨#[62]⟩:ByteArray))++g)]),rfl,rfl,q,(I0 _),(F2.append i (show F2 (Wp.str.R u) ([[.string ((f++(⟨#[62]⟩:ByteArray))++g)]]:List (List Value)) [((f++(⟨#[62]⟩:ByteArray))++g)] from⟨⟨rfl,(T04 m)⟩,trivial⟩)),a⟩
  ·obtain rfl:=oJ a
   try dsimp only[S0,W0]at b
   refine Or.inr ?_
   intro ap ac F
   obtain⟨A,E,rfl,V,ao,af⟩:=V0.out (r:=Wp.str.toRp) F i
   obtain⟨W,M,b⟩:=B0 b
   refine Tr.val (c0b _ A d.length E d V (⟨#[32]⟩:ByteArray) (by decide) (⟨#[]⟩:ByteArray) (by decide) _  M) (aI rfl ?_)
   obtain⟨an,L,b⟩:=B0 b
   have ab:W.size<=9223372036854775807:=T0 L
   obtain rfl:=oJ b
   exact aI rfl q
theorem w0f(h:Hp)(i:List Value)(j:j0)(o:U1.R h i j)(r:Bool)(a:Z01 j=some r):
  Tr Tryz.prog 48 #[.agg i.toArray] h λv l=>v = .bool r/\l=h:=by
 obtain⟨b,c,f,q,g,d,rfl,rfl,m,n,k⟩:=M0 o
 obtain⟨rfl,p⟩:=Sl.len k
 unfold Z01 at a
 dsimp only at a
 refine Tr.forget (G2 (args:=[.agg #[.int .i64 b,.int .i64 c,.slice f d.length g]]) (fn:=Tryz.f48) rfl ?_)
 refine trV a (h09 _ [.int .i64 b,.int .i64 c,.slice f d.length g] (b,c,d) (H0 m n k)) λs a=>?_
 obtain rfl:=oJ a
 exact aI rfl (Sub.refl _)
theorem u02(h:Hp)(i:List Value)(k:H1)(u:D3.R h i k)(r:Bool)(a:O6 k=some r):
  Tr Tryz.prog 22 #[.agg i.toArray] h λv n=>v = .bool r/\n=h:=by
 obtain⟨l,f,F,g,b,rfl,rfl,j,c⟩:=V2 u
 obtain⟨rfl,D⟩:=Sl.len c
 unfold O6 at a
 dsimp only at a
 refine Tr.forget (G2 (args:=[.agg #[.int .i64 l,.slice f b.length g]]) (fn:=Tryz.f22) rfl ?_)
 refine trV a (G01 _ _ _ (U0 j c)) λI a=>?_
 refine ifB a (λo a=>?_) λo a=>?_
 ·obtain rfl:=oJ a
  exact aI rfl (Sub.refl _)
 ·refine trM a (E05 _ l j f b.length g b c) ?_
  rintro y a H t ⟨A,rfl,d⟩
  obtain⟨J,N⟩:=y
  dsimp only at a d
  have x:Sub h t:=d.sub
  have w:=d.r
  obtain⟨K,L,z,G,C,M,rfl,rfl,p,s,m⟩:=M0 w
  obtain⟨rfl,E⟩:=Sl.len m
  try dsimp only at a
  refine trG a (λq=>w0f _ _ _ (H0 p s m)) λO a=>?_
  obtain rfl:=oJ a
  exact aI rfl x
theorem i09(h:Hp)(k:Option Addr)(I m:Nat)(j:D0)(y:C0.R h [.slice k I m] j)(r:D0×D0)(b:D01 j=some r):
  Tr Tryz.prog 103 #[.slice k I m] h λv x=>∃(C:Option Addr) (G E:Nat) (D:Option Addr) (H F:Nat),v = .tuple #[.slice C G E,.slice D H F]/\C0.R x [.slice C G E] r.1/\C0.R x [.slice D H F] r.2/\Sub h x:=by
 obtain⟨rfl,aJ⟩:=Sl.len y
 unfold D01 at b
 refine G2 (args:=[.slice k j.length m]) (fn:=Tryz.f103) rfl ?_
 obtain⟨aR,X,b⟩:=B0 b
 refine aI (T0 X) ?_
 refine Or.inr (Or.inr (Or.inr (Or.inl (aI (aI (by kernel_rfl) (by kernel_rfl)) ?_))))
 obtain⟨d,Z,b⟩:=B0 b
 refine Or.inr (eX (λv i=>∃(a:Option Addr) (c:Nat),v = .slice a d.length c/\C0.R i [.slice a d.length c] d/\d.length<=9223372036854775807) (aI (λv n o g q=>by obtain⟨a,c,e,r,l⟩:=q;exact⟨a,c,e,C0.mono g r,l⟩) (aI ?_ ?_)))
 ·intro aE al
  obtain⟨ag,an,T,V⟩:=Sl.cutI (r:=Wp.int.toRp) (C0.mono al y) Z
  refine aI ag (eX an (aI T ?_))
  intro v hv _
  obtain⟨a,c,rfl,r⟩:=V v hv
  exact aI r02 (aI (Sub.refl _) ⟨a,c,rfl,r,(Sl.len r).2⟩)
 obtain⟨p,aa,b⟩:=B0 b
 refine Or.inr (eX (λv i=>∃(a:Option Addr) (c:Nat),v = .slice a p.length c/\C0.R i [.slice a p.length c] p/\p.length<=9223372036854775807) (aI (λv n o g q=>by obtain⟨a,c,e,r,l⟩:=q;exact⟨a,c,e,C0.mono g r,l⟩) (aI ?_ ?_)))
 ·intro aF am
  refine Tr.mono (g7 _ k j.length m j (C0.mono am y) _ aa) ?_
  rintro _ aH ⟨M,aQ,P,rfl,L⟩
  have g:=L.sub
  have J:=L.r
  obtain⟨rfl,ad⟩:=Sl.len J
  exact aI r02 (aI g ⟨M,P,rfl,J,ad⟩)
 obtain⟨f,ab,b⟩:=B0 b
 refine Or.inr (eX (λv i=>∃(a:Option Addr) (c:Nat),v = .slice a f.length c/\C0.R i [.slice a f.length c] f/\f.length<=9223372036854775807) (aI (λv n o g q=>by obtain⟨a,c,e,r,l⟩:=q;exact⟨a,c,e,C0.mono g r,l⟩) (aI ?_ ?_)))
 ·intro aG aX
  rintro _ ⟨aq,aw,rfl,ai,aK⟩
  obtain⟨ah,ao,U,W⟩:=Sl.cutI (r:=Wp.int.toRp) ai ab
  refine aI ah (eX ao (aI U ?_))
  intro v hv _
  obtain⟨a,c,rfl,r⟩:=W v hv
  exact aI r02 (aI (Sub.refl _) ⟨a,c,rfl,r,(Sl.len r).2⟩)
 refine Or.inr (eX (λv i=>∃(a:Option Addr) (c:Nat),v = .slice a d.length c/\C0.R i [.slice a d.length c] d/\d.length<=9223372036854775807) (aI (λv n o g q=>by obtain⟨a,c,e,r,l⟩:=q;exact⟨a,c,e,C0.mono g r,l⟩) (aI ?_ ?_)))
 ·intro aB aY
  rintro _ ⟨N,Q,rfl,aj,ae⟩
  exact aI r02 (aI (Sub.refl _) ⟨N,Q,rfl,aj,ae⟩)
 refine Or.inr (eX (λv i=>∃(a:Option Addr) (c:Nat),v = .slice a f.length c/\C0.R i [.slice a f.length c] f/\f.length<=9223372036854775807) (aI (λv n o g q=>by obtain⟨a,c,e,r,l⟩:=q;exact⟨a,c,e,C0.mono g r,l⟩) (aI ?_ ?_)))
 ·intro aC aZ
  rintro _ ⟨O,S,rfl,ak,af⟩
  exact aI r02 (aI (Sub.refl _) ⟨O,S,rfl,ak,af⟩)
 intro aD K
 rintro _ ⟨s,u,rfl,z,aL⟩
 rintro _ ⟨t,w,rfl,A,aM⟩
 rintro _ ⟨ar,ax,rfl,aU,aN⟩
 rintro _ ⟨au,ay,rfl,aV,aO⟩
 rintro _ ⟨av,az,rfl,aW,aP⟩
 refine trV b (t02 _ s f.length u f z t d.length w d A) λap b=>?_
 obtain⟨aS,Y,b⟩:=B0 b
 have aA:K0 ap:=T0 Y
 refine ifB b (λac b=>?_) λac b=>?_
 ·obtain rfl:=oJ b
  exact⟨s,f.length,u,t,d.length,w,rfl,z,A,K⟩
 ·obtain rfl:=oJ b
  exact⟨t,d.length,w,s,f.length,u,rfl,A,z,K⟩
theorem Z9(h:Hp)(f:Option Addr)(p i:Nat)(b:D0)(s:C0.R h [.slice f p i] b)(g:Option Addr)(q j:Nat)(c:D0)(t:C0.R h [.slice g q j] c)(r:Int)(a:O2 b c=some r):
  Tr Tryz.prog 80 #[.slice f p i,.slice g q j] h λv L=>v = .int .i64 r/\L=h:=by
 obtain⟨rfl,O⟩:=Sl.len s
 obtain⟨rfl,P⟩:=Sl.len t
 unfold O2 at a
 refine Tr.forget (G2 (args:=[.slice f b.length i,.slice g c.length j]) (fn:=Tryz.f80) rfl ?_)
 refine trV a (A7 _ ((b.length:Nat):Int) (q0g O) ((c.length:Nat):Int) (q0g P)) λQ a=>?_
 obtain⟨al,K,a⟩:=B0 a
 have W:K0 Q:=T0 K
 refine ifB a (λN a=>?_) λN a=>?_
 ·obtain rfl:=oJ a
  exact aI rfl (Sub.refl _)
 ·refine trM a (i09 _ _ _ _ _ s) ?_
  rintro U a am Z ⟨z,af,E,A,ag,F,rfl,k,l,o⟩
  obtain⟨u,w⟩:=U
  dsimp only at a k l
  obtain⟨rfl,ab⟩:=Sl.len k
  obtain⟨rfl,ac⟩:=Sl.len l
  refine trM a (i09 _ _ _ _ _ (C0.mono o t)) ?_
  rintro V a an aa ⟨C,ah,G,D,ai,H,rfl,m,n,d⟩
  obtain⟨x,y⟩:=V
  dsimp only at a m n
  obtain⟨rfl,ad⟩:=Sl.len m
  obtain⟨rfl,ae⟩:=Sl.len n
  refine trV a (t02 _ z u.length E u (C0.mono d k) C x.length G x m) λS a=>?_
  obtain⟨aj,I,a⟩:=B0 a
  have X:K0 S:=T0 I
  refine ifB a (λM a=>?_) λM a=>?_
  ·obtain rfl:=oJ a
   exact aI rfl (o.trans d)
  ·refine trV a (t02 _ A w.length F w (C0.mono d l) D y.length H y n) λT a=>?_
   obtain⟨ak,J,a⟩:=B0 a
   have Y:K0 T:=T0 J
   obtain rfl:=oJ a
   exact aI rfl (o.trans d)
theorem k0d(h:Hp)(K:Option Addr)(ac M:Nat)(s:N0)(J:Y0.R h [.slice K ac M] s)(r:Q7×Bool)(c:l00 s=some r):
  Tr Tryz.prog 63 #[.slice K ac M] h λv t=>∃(W:List Value),v = .tuple #[.agg W.toArray,.bool r.2]/\n00.R t W r.1/\Sub h t:=by
 obtain⟨rfl,bz⟩:=Sl.len J
 unfold l00 at c
 refine G2 (args:=[.slice K s.length M]) (fn:=Tryz.f63) rfl ?_
 obtain⟨S,aF,c⟩:=B0 c
 refine eX { vars:=[13],boxes:=[],owns:=[],fuel:=true } (eX (λvs os t=>∃ z,vs.tail = [.int .i64 z]/\os = []/\Sub h t/\K0 z/\a6 s (J1 vs) z=some S) (eX (λ_ _=>0) (aI (eX Q0 ⟨0,rfl,rfl,(Sub.refl _),(by decide),aF⟩) ?_)))
 rintro _ I aX ⟨z,⟨⟩,⟨⟩,p,aS,b⟩
 replace b:a6 s I z=some S:=b
 obtain _|I:=I
 ·cases b
 rw[a6.eq_2]at b
 refine ifB b (λaO b=>?_) λaO b=>?_
 ·refine ld b (Y0.mono p J) λcc bn ah b=>?_
  obtain⟨bk,bT,bs,rfl⟩:=Wp.slice_cell ah
  obtain⟨rfl,bH⟩:=Sl.len ah
  refine ifB b (λaR b=>?_) λaR b=>?_
  ·obtain rfl:=oJ b
   try dsimp only[L1,M1]at c
   obtain rfl:=oJ c
   exact⟨([.int .i64 4,.int .i64 z,.int .i64 0,.int .i64 0]),rfl,(i7 (by decide) aS (by decide) (by decide)),p⟩
  ·exact I2 I ⟨(IntKind.i64.wrap (z+1)),rfl,rfl,p,(I0 _),b⟩
 ·obtain rfl:=oJ b
  try dsimp only[S0,W0]at c
  obtain⟨U,aH,c⟩:=B0 c
  refine eX { vars:=[26],boxes:=[],owns:=[],fuel:=true } (eX (λvs os t=>∃ k,vs.tail = [.int .i64 k]/\os = []/\Sub aX t/\K0 k/\d7 s (J1 vs) k=some U) (eX (λ_ _=>0) (aI (eX Q0 ⟨0,rfl,rfl,(Sub.refl _),(by decide),aH⟩) ?_)))
  rintro _ H aU ⟨k,⟨⟩,⟨⟩,u,G,b⟩
  replace b:d7 s H k=some U:=b
  obtain _|H:=H
  ·cases b
  rw[d7.eq_2]at b
  refine ifB b (λaJ b=>?_) λaJ b=>?_
  ·refine ld b (Y0.mono (p.trans u) J) λd bl o b=>?_
   obtain⟨D,bM,E,rfl⟩:=Wp.slice_cell o
   obtain⟨rfl,bA⟩:=Sl.len o
   obtain⟨T,aG,b⟩:=B0 b
   refine eX { vars:=[33],boxes:=[],owns:=[],fuel:=true } (eX (λvs os t=>∃ n,vs.tail = [.int .i64 n]/\os = []/\Sub aU t/\K0 n/\B4 s k d (J1 vs) n=some T) (eX (λ_ _=>0) (aI (eX Q0 ⟨0,rfl,rfl,(Sub.refl _),(by decide),aG⟩) ?_)))
   rintro _ A aV ⟨n,⟨⟩,⟨⟩,f,F,a⟩
   replace a:B4 s k d A n=some T:=a
   obtain _|A:=A
   ·cases a
   rw[B4.eq_2]at a
   refine ifB a (λaK a=>?_) λaK a=>?_
   ·refine ld a (Y0.mono ((p.trans u).trans f) J) λq bm C a=>?_
    obtain⟨L,bN,N,rfl⟩:=Wp.slice_cell C
    obtain⟨rfl,bB⟩:=Sl.len C
    refine ifB a (λaL a=>?_) λaL a=>?_
    ·exact I2 A ⟨(IntKind.i64.wrap (n+1)),rfl,rfl,f,(I0 _),a⟩
    ·refine trM a (g7 _ L q.length N q C) ?_
     rintro w a bY Y ⟨V,bO,X,rfl,ai⟩
     have g:Sub aV Y:=ai.sub
     have O:=ai.r
     obtain⟨rfl,bC⟩:=Sl.len O
     refine Or.inl ?_
     intro bZ aW ax
     obtain⟨an,ar,rfl,a2,j,bI⟩:=V0.out (r:=C0.toRp) ax (show F2 (C0.R Y) ([[.slice D d.length E],[.slice L q.length N]]:List (List Value)) [d,q] from⟨(C0.mono (f.trans g) o),⟨(C0.mono g C),trivial⟩⟩)
     refine trM a (M5 _ an ([d,q]).length ar [d,q] a2) ?_
     rintro b7 a b0 Z ⟨bg,bP,bo,rfl,aj⟩
     have i:Sub aW Z:=aj.sub
     have ad:=aj.r
     obtain⟨rfl,bD⟩:=Sl.len ad
     refine trV a (Z9 _ _ _ _ _ ad _ _ _ _ (C0.mono (((f.trans g).trans j).trans i) o)) λbb a=>?_
     obtain⟨bU,aB,a⟩:=B0 a
     have bt:K0 bb:=T0 aB
     refine ifB a (λaM a=>?_) λaM a=>?_
     ·obtain rfl:=oJ a
      try dsimp only[L1,M1]at b
      obtain rfl:=oJ b
      try dsimp only[L1,M1]at c
      obtain rfl:=oJ c
      exact⟨([.int .i64 2,.int .i64 k,.int .i64 n,.int .i64 1]),rfl,(i7 (by decide) G F (by decide)),(((((p.trans u).trans f).trans g).trans j).trans i)⟩
     ·refine Or.inl ?_
      intro b1 aY ay
      obtain⟨ao,au,rfl,a3,m,bJ⟩:=V0.out (r:=C0.toRp) ay (show F2 (C0.R Z) ([[.slice D d.length E],[.slice V w.length X]]:List (List Value)) [d,w] from⟨(C0.mono (((f.trans g).trans j).trans i) o),⟨(C0.mono (j.trans i) O),trivial⟩⟩)
      refine trM a (M5 _ ao ([d,w]).length au [d,w] a3) ?_
      rintro b8 a b2 aa ⟨bh,bQ,bp,rfl,ak⟩
      have l:Sub aY aa:=ak.sub
      have ae:=ak.r
      obtain⟨rfl,bE⟩:=Sl.len ae
      refine trV a (Z9 _ _ _ _ _ ae _ _ _ _ (C0.mono (((((f.trans g).trans j).trans i).trans m).trans l) o)) λbc a=>?_
      obtain⟨bV,aC,a⟩:=B0 a
      have bu:K0 bc:=T0 aC
      refine ifB a (λaN a=>?_) λaN a=>?_
      ·obtain rfl:=oJ a
       try dsimp only[L1,M1]at b
       obtain rfl:=oJ b
       try dsimp only[L1,M1]at c
       obtain rfl:=oJ c
       exact⟨([.int .i64 2,.int .i64 k,.int .i64 n,.int .i64 (-1)]),rfl,(i7 (by decide) G F (by decide)),(((((((p.trans u).trans f).trans g).trans j).trans i).trans m).trans l)⟩
      ·refine Or.inl ?_
       intro b3 aZ az
       obtain⟨ap,av,rfl,a4,y,bK⟩:=V0.out (r:=C0.toRp) az (show F2 (C0.R aa) ([[.slice L q.length N],[.slice D d.length E]]:List (List Value)) [q,d] from⟨(C0.mono ((((g.trans j).trans i).trans m).trans l) C),⟨(C0.mono (((((f.trans g).trans j).trans i).trans m).trans l) o),trivial⟩⟩)
       refine trM a (M5 _ ap ([q,d]).length av [q,d] a4) ?_
       rintro ca a b4 ab ⟨bi,bR,bq,rfl,al⟩
       have x:Sub aZ ab:=al.sub
       have af:=al.r
       obtain⟨rfl,bF⟩:=Sl.len af
       refine trV a (Z9 _ _ _ _ _ af _ _ _ _ (C0.mono (((((((f.trans g).trans j).trans i).trans m).trans l).trans y).trans x) o)) λbe a=>?_
       obtain⟨bW,aD,a⟩:=B0 a
       have bv:K0 be:=T0 aD
       refine ifB a (λaP a=>?_) λaP a=>?_
       ·obtain rfl:=oJ a
        try dsimp only[L1,M1]at b
        obtain rfl:=oJ b
        try dsimp only[L1,M1]at c
        obtain rfl:=oJ c
        exact⟨([.int .i64 3,.int .i64 k,.int .i64 n,.int .i64 1]),rfl,(i7 (by decide) G F (by decide)),(((((((((p.trans u).trans f).trans g).trans j).trans i).trans m).trans l).trans y).trans x)⟩
       ·refine Or.inl ?_
        intro b5 a0 aA
        obtain⟨aq,aw,rfl,ba,Q,bL⟩:=V0.out (r:=C0.toRp) aA (show F2 (C0.R ab) ([[.slice V w.length X],[.slice D d.length E]]:List (List Value)) [w,d] from⟨(C0.mono (((((j.trans i).trans m).trans l).trans y).trans x) O),⟨(C0.mono (((((((f.trans g).trans j).trans i).trans m).trans l).trans y).trans x) o),trivial⟩⟩)
        refine trM a (M5 _ aq ([w,d]).length aw [w,d] ba) ?_
        rintro cb a b6 a1 ⟨bj,bS,br,rfl,am⟩
        have P:Sub a0 a1:=am.sub
        have ag:=am.r
        obtain⟨rfl,bG⟩:=Sl.len ag
        refine trV a (Z9 _ _ _ _ _ ag _ _ _ _ (C0.mono (((((((((f.trans g).trans j).trans i).trans m).trans l).trans y).trans x).trans Q).trans P) o)) λbf a=>?_
        obtain⟨bX,aE,a⟩:=B0 a
        have bx:K0 bf:=T0 aE
        refine ifB a (λaQ a=>?_) λaQ a=>?_
        ·obtain rfl:=oJ a
         try dsimp only[L1,M1]at b
         obtain rfl:=oJ b
         try dsimp only[L1,M1]at c
         obtain rfl:=oJ c
         exact⟨([.int .i64 3,.int .i64 k,.int .i64 n,.int .i64 (-1)]),rfl,(i7 (by decide) G F (by decide)),(((((((((((p.trans u).trans f).trans g).trans j).trans i).trans m).trans l).trans y).trans x).trans Q).trans P)⟩
        ·exact I2 A ⟨(IntKind.i64.wrap (n+1)),rfl,rfl,(((((((((f.trans g).trans j).trans i).trans m).trans l).trans y).trans x).trans Q).trans P),(I0 _),a⟩
   ·obtain rfl:=oJ a
    try dsimp only[S0,W0]at b
    exact I2 H ⟨(IntKind.i64.wrap (k+1)),rfl,rfl,(u.trans f),(I0 _),b⟩
  ·obtain rfl:=oJ b
   try dsimp only[S0,W0]at c
   obtain rfl:=oJ c
   exact⟨([.int .i64 0,.int .i64 0,.int .i64 0,.int .i64 0]),rfl,(i7 (by decide) (by decide) (by decide) (by decide)),(p.trans u)⟩
theorem u06(h:Hp)(z:Option Addr)(aO A:Nat)(o:N0)(w:Y0.R h [.slice z aO A] o)(aF:List Value)(aP:Q7)(d2:n00.R h aF aP)(r:N0×Bool)(a:l4 o aP=some r):
  Tr Tryz.prog 64 #[.slice z aO A,.agg aF.toArray] h λv c0=>∃(aq:Option Addr) (aN aE:Nat),v = .tuple #[.slice aq aN aE,.bool r.2]/\New Y0 h c0 [.slice aq aN aE] r.1:=by
 obtain⟨rfl,fV⟩:=Sl.len w
 obtain⟨dX,T,U,dY,rfl,rfl,fv,ds,aM,fx⟩:=e06 d2
 unfold l4 at a
 dsimp only at a
 refine G2 (args:=[.slice z o.length A,.agg #[.int .i64 dX,.int .i64 T,.int .i64 U,.int .i64 dY]]) (fn:=Tryz.f64) rfl ?_
 refine trM a (p02 _ z o.length A o w) ?_
 rintro f a hn n ⟨u,gx,d,rfl,c⟩
 have Y:Sub h n:=c.sub
 have i:=c.r
 obtain⟨rfl,dM⟩:=Sl.len i
 refine trV a (A3 _ T ds 0 (by decide) (IntKind.i64.wrap (((o.length:Nat):Int)-1)) (I0 _)) λhG a=>?_
 refine ifB a (λdh a=>?_) λdh a=>?_
 ·obtain rfl:=oJ a
  exact⟨u,f.length,d,rfl,c⟩
 ·refine ld a (Y0.mono Y w) λb e5 g a=>?_
  obtain⟨l,gL,m,rfl⟩:=Wp.slice_cell g
  obtain⟨rfl,gb⟩:=Sl.len g
  refine ifB a (λdj a=>?_) λdj a=>?_
  ·refine Or.inr (Or.inr (Or.inl (aI (aI (by kernel_rfl) (by kernel_rfl)) ?_)))
   refine Or.inr ?_
   obtain⟨hL,N,a⟩:=B0 a
   obtain⟨aC,e8,ft,aY⟩:=Sl.getI (r:=C0.toRp) i N (by decide)
   obtain⟨eW,gQ,fi,rfl⟩:=Wp.slice_cell aY
   obtain⟨rfl,gg⟩:=Sl.len aY
   refine Or.inl (eX (.hel (.slice u f.length d) T 1 0) (aI ?_ ?_))
   ·intro fH hf
    exact aI aC (aI rfl (aI rfl rfl))
   refine Or.inr ?_
   refine Or.inl (eX 1 (aI (aI rfl rfl) ?_))
   refine trM a (g7 _ l b.length m b g) ?_
   rintro eH a hl dw ⟨bI,gz,b2,rfl,ai⟩
   have a1:Sub n dw:=ai.sub
   have ea:=ai.r
   obtain⟨rfl,fX⟩:=Sl.len ea
   refine aI (aI rfl a1) (aI (by first|exact trivial|exact rfl) ?_)
   obtain⟨cT,dR,_,_,co,_⟩:=aC
   cases co
   obtain⟨bA,eB,cJ,_⟩:=ai
   refine E6.ofN trivial (New.put (r:=C0) c a1 (a00 N).1 (new:=[.slice bI eH.length b2]) (By:=bA) eB cJ rfl (a00 N).2 ?_)
   intro fC bj fN _
   have ha:=bj.r
   refine aT ?_
   obtain rfl:=oJ a
   exact⟨(some ⟨cT,dR,none⟩),f.length,d,rfl,bj⟩
  ·refine ifB a (λc3 a=>?_) λc3 a=>?_
   ·refine ifB a (λc4 a=>?_) λc4 a=>?_
    ·obtain rfl:=oJ a
     exact⟨u,f.length,d,rfl,c⟩
    ·obtain⟨br,aK,a⟩:=B0 a
     obtain⟨bs,aL,a⟩:=B0 a
     obtain⟨gW,cY,a⟩:=B0 a
     obtain⟨dZ,bZ,aJ,cZ,dW,bt,bF,eu,ew,ct,d1,b0,fU,gw,ei,et,dK,dL,bG⟩:=New.drop c (Sub.refl _) aK aL (B0q dM aK aL)
     subst ct
     refine Or.inr (Or.inr (Or.inl (aI (aI (by kernel_rfl) (by kernel_rfl)) ?_)))
     refine Or.inl (eX (.val (.slice (some ⟨cZ,dW,none⟩) br.length d)) (aI ?_ ?_))
     ·intro P X
      obtain⟨vs,e⟩:=aJ P X
      exact aI bZ (eX vs (aI e (λv _ hv=>aI (congrArg AV.val (dZ v hv)) (aI rfl rfl))))
     refine Or.inl (eX (.val (.slice bt bs.length bF)) (aI ?_ ?_))
     ·intro P X
      obtain⟨vs,e⟩:=aJ P X
      exact aI b0 (eX vs (aI e (λv _ hv=>aI (congrArg AV.val (d1 v hv)) (aI rfl rfl))))
     refine Or.inr ?_
     refine Or.inr ?_
     refine Or.inl (eX 0 (aI (aI rfl rfl) ?_))
     refine eX ew (aI et (eX eu (aI ei (aI (F1 cY (by rw[dK,dL])) ?_))))
     intro hB fT c1
     obtain⟨bq,⟨bT,gV,ce,rfl⟩,fS⟩:=bG _ _ c1
     have em:=bq.r
     obtain⟨cu,gp⟩:=Sl.len em
     subst cu
     refine aT ?_
     refine aT ?_
     obtain rfl:=oJ a
     exact⟨bT,(br++bs).length,ce,rfl,bq⟩
   ·refine ifB a (λdb a=>?_) λdb a=>?_
    ·refine ifB a (λdc a=>?_) λdc a=>?_
     ·refine trV a (A3 _ U aM 0 (by decide) (IntKind.i64.wrap (((o.length:Nat):Int)-1)) (I0 _)) λhF a=>?_
      refine ifB a (λdd a=>?_) λdd a=>?_
      ·obtain rfl:=oJ a
       exact⟨u,f.length,d,rfl,c⟩
      ·refine ld a (Y0.mono Y w) λj e2 x a=>?_
       obtain⟨C,gF,E,rfl⟩:=Wp.slice_cell x
       obtain⟨rfl,f5⟩:=Sl.len x
       refine ifB a (λdf a=>?_) λdf a=>?_
       ·refine trM a (g7 _ C j.length E j x) ?_
        rintro s a ho Q ⟨ar,gG,aG,rfl,bo⟩
        have p:Sub n Q:=bo.sub
        have V:=bo.r
        obtain⟨rfl,f6⟩:=Sl.len V
        refine ifB a (λdg a=>?_) λdg a=>?_
        ·refine Or.inr (Or.inr (Or.inl (aI (aI (by kernel_rfl) (by kernel_rfl)) ?_)))
         refine Or.inr ?_
         refine Or.inr ?_
         refine Or.inr ?_
         refine Or.inr ?_
         refine Or.inl (eX 0 (aI (aI rfl rfl) ?_))
         refine aT ?_
         refine Or.inl ?_
         intro hp dA cy
         obtain⟨bU,cf,rfl,en,ac,gq⟩:=V0.out (r:=C0.toRp) cy (show F2 (C0.R Q) ([[.slice l b.length m],[.slice ar s.length aG]]:List (List Value)) [b,s] from⟨(C0.mono p g),⟨V,trivial⟩⟩)
         refine trM a (M5 _ bU ([b,s]).length cf [b,s] en) ?_
         rintro eK a hq dB ⟨bL,gH,b5,rfl,al⟩
         have a4:Sub dA dB:=al.sub
         have ed:=al.r
         obtain⟨rfl,f7⟩:=Sl.len ed
         refine aT ?_
         obtain⟨hH,J,a⟩:=B0 a
         obtain⟨ay,e3,fo,aU⟩:=Sl.getI (r:=C0.toRp) (Y0.mono ((p.trans ac).trans a4) i) J (by decide)
         refine aI ay ?_
         obtain⟨eS,gI,fe,rfl⟩:=Wp.slice_cell aU
         obtain⟨rfl,f8⟩:=Sl.len aU
         refine aT ?_
         obtain⟨cU,dS,_,_,cp,_⟩:=ay
         cases cp
         obtain⟨bB,eC,cK,_⟩:=(New.from al (p.trans ac))
         refine E6.ofN trivial (New.put (r:=C0) c ((p.trans ac).trans a4) (a00 J).1 (new:=[.slice bL eK.length b5]) (By:=bB) eC cK rfl (a00 J).2 ?_)
         intro fD bk fO _
         have hb:=bk.r
         refine aT ?_
         obtain rfl:=oJ a
         exact⟨(some ⟨cU,dS,none⟩),f.length,d,rfl,bk⟩
        ·refine Or.inr (Or.inr (Or.inl (aI (aI (by kernel_rfl) (by kernel_rfl)) ?_)))
         refine Or.inr ?_
         refine Or.inr ?_
         refine Or.inr ?_
         refine Or.inr ?_
         refine Or.inl (eX 0 (aI (aI rfl rfl) ?_))
         refine aT ?_
         refine Or.inl ?_
         intro hr dC cz
         obtain⟨bV,cg,rfl,eo,ad,gr⟩:=V0.out (r:=C0.toRp) cz (show F2 (C0.R Q) ([[.slice ar s.length aG],[.slice l b.length m]]:List (List Value)) [s,b] from⟨V,⟨(C0.mono p g),trivial⟩⟩)
         refine trM a (M5 _ bV ([s,b]).length cg [s,b] eo) ?_
         rintro eL a hs dD ⟨bM,gJ,b6,rfl,am⟩
         have ba:Sub dC dD:=am.sub
         have ee:=am.r
         obtain⟨rfl,f9⟩:=Sl.len ee
         refine aT ?_
         obtain⟨hI,K,a⟩:=B0 a
         obtain⟨az,e4,fp,aV⟩:=Sl.getI (r:=C0.toRp) (Y0.mono ((p.trans ad).trans ba) i) K (by decide)
         refine aI az ?_
         obtain⟨eT,gK,ff,rfl⟩:=Wp.slice_cell aV
         obtain⟨rfl,ga⟩:=Sl.len aV
         refine aT ?_
         obtain⟨cV,dT,_,_,cq,_⟩:=az
         cases cq
         obtain⟨bC,eD,cL,_⟩:=(New.from am (p.trans ad))
         refine E6.ofN trivial (New.put (r:=C0) c ((p.trans ad).trans ba) (a00 K).1 (new:=[.slice bM eL.length b6]) (By:=bC) eD cL rfl (a00 K).2 ?_)
         intro fE bl fP _
         have hc:=bl.r
         refine aT ?_
         obtain rfl:=oJ a
         exact⟨(some ⟨cV,dT,none⟩),f.length,d,rfl,bl⟩
       ·refine ifB a (λdi a=>?_) λdi a=>?_
        ·refine Or.inr (Or.inr (Or.inl (aI (aI (by kernel_rfl) (by kernel_rfl)) ?_)))
         refine Or.inr ?_
         refine Or.inr ?_
         refine Or.inr ?_
         refine Or.inr ?_
         refine Or.inl (eX 0 (aI (aI rfl rfl) ?_))
         refine aT ?_
         refine Or.inl ?_
         intro ht dE cA
         obtain⟨bW,ch,rfl,ep,ae,gt⟩:=V0.out (r:=C0.toRp) cA (show F2 (C0.R n) ([[.slice l b.length m],[.slice C j.length E]]:List (List Value)) [b,j] from⟨g,⟨x,trivial⟩⟩)
         refine trM a (M5 _ bW ([b,j]).length ch [b,j] ep) ?_
         rintro eM a hu dF ⟨bN,gM,b7,rfl,an⟩
         have bb:Sub dE dF:=an.sub
         have ef:=an.r
         obtain⟨rfl,gc⟩:=Sl.len ef
         refine aT ?_
         obtain⟨hJ,L,a⟩:=B0 a
         obtain⟨aA,e6,fq,aW⟩:=Sl.getI (r:=C0.toRp) (Y0.mono (ae.trans bb) i) L (by decide)
         refine aI aA ?_
         obtain⟨eU,gN,fg,rfl⟩:=Wp.slice_cell aW
         obtain⟨rfl,gd⟩:=Sl.len aW
         refine aT ?_
         obtain⟨cW,dU,_,_,cr,_⟩:=aA
         cases cr
         obtain⟨bD,eE,cM,_⟩:=(New.from an ae)
         refine E6.ofN trivial (New.put (r:=C0) c (ae.trans bb) (a00 L).1 (new:=[.slice bN eM.length b7]) (By:=bD) eE cM rfl (a00 L).2 ?_)
         intro fF bm fQ _
         have hd:=bm.r
         refine aT ?_
         obtain rfl:=oJ a
         exact⟨(some ⟨cW,dU,none⟩),f.length,d,rfl,bm⟩
        ·refine Or.inr (Or.inr (Or.inl (aI (aI (by kernel_rfl) (by kernel_rfl)) ?_)))
         refine Or.inr ?_
         refine Or.inr ?_
         refine Or.inr ?_
         refine Or.inr ?_
         refine Or.inl (eX 0 (aI (aI rfl rfl) ?_))
         refine aT ?_
         refine Or.inl ?_
         intro hw dG cC
         obtain⟨bX,ci,rfl,er,af,gu⟩:=V0.out (r:=C0.toRp) cC (show F2 (C0.R n) ([[.slice C j.length E],[.slice l b.length m]]:List (List Value)) [j,b] from⟨x,⟨g,trivial⟩⟩)
         refine trM a (M5 _ bX ([j,b]).length ci [j,b] er) ?_
         rintro eN a hx dH ⟨bO,gO,b8,rfl,ao⟩
         have bc:Sub dG dH:=ao.sub
         have eg:=ao.r
         obtain⟨rfl,ge⟩:=Sl.len eg
         refine aT ?_
         obtain⟨hK,M,a⟩:=B0 a
         obtain⟨aB,e7,fs,aX⟩:=Sl.getI (r:=C0.toRp) (Y0.mono (af.trans bc) i) M (by decide)
         refine aI aB ?_
         obtain⟨eV,gP,fh,rfl⟩:=Wp.slice_cell aX
         obtain⟨rfl,gf⟩:=Sl.len aX
         refine aT ?_
         obtain⟨cX,dV,_,_,cs,_⟩:=aB
         cases cs
         obtain⟨bE,eF,cO,_⟩:=(New.from ao af)
         refine E6.ofN trivial (New.put (r:=C0) c (af.trans bc) (a00 M).1 (new:=[.slice bO eN.length b8]) (By:=bE) eF cO rfl (a00 M).2 ?_)
         intro fG bn fR _
         have he:=bn.r
         refine aT ?_
         obtain rfl:=oJ a
         exact⟨(some ⟨cX,dV,none⟩),f.length,d,rfl,bn⟩
     ·obtain rfl:=oJ a
      exact⟨u,f.length,d,rfl,c⟩
    ·refine ifB a (λdk a=>?_) λdk a=>?_
     ·refine trV a (A3 _ U aM 0 (by decide) (IntKind.i64.wrap (((o.length:Nat):Int)-1)) (I0 _)) λhM a=>?_
      refine ifB a (λdm a=>?_) λdm a=>?_
      ·obtain rfl:=oJ a
       exact⟨u,f.length,d,rfl,c⟩
      ·refine ld a (Y0.mono Y w) λk e9 y a=>?_
       obtain⟨D,gR,F,rfl⟩:=Wp.slice_cell y
       obtain⟨rfl,gh⟩:=Sl.len y
       refine ifB a (λdn a=>?_) λdn a=>?_
       ·refine trM a (g7 _ D k.length F k y) ?_
        rintro t a hy S ⟨au,gS,aH,rfl,bp⟩
        have q:Sub n S:=bp.sub
        have W:=bp.r
        obtain⟨rfl,gj⟩:=Sl.len W
        refine ifB a (λdq a=>?_) λdq a=>?_
        ·refine Or.inr (Or.inr (Or.inl (aI (aI (by kernel_rfl) (by kernel_rfl)) ?_)))
         refine Or.inr ?_
         refine Or.inr ?_
         refine Or.inr ?_
         refine Or.inr ?_
         refine Or.inl (eX 0 (aI (aI rfl rfl) ?_))
         refine aT ?_
         refine Or.inl ?_
         intro hz dI cD
         obtain⟨bY,cj,rfl,es,ag,gv⟩:=V0.out (r:=C0.toRp) cD (show F2 (C0.R S) ([[.slice l b.length m],[.slice au t.length aH]]:List (List Value)) [b,t] from⟨(C0.mono q g),⟨W,trivial⟩⟩)
         refine trM a (M5 _ bY ([b,t]).length cj [b,t] es) ?_
         rintro eO a hA dJ ⟨bP,gT,ca,rfl,ap⟩
         have be:Sub dI dJ:=ap.sub
         have eh:=ap.r
         obtain⟨rfl,gk⟩:=Sl.len eh
         refine aT ?_
         obtain⟨hN,O,a⟩:=B0 a
         obtain⟨aD,fa,fu,aZ⟩:=Sl.getI (r:=C0.toRp) (Y0.mono ((q.trans ag).trans be) i) O (by decide)
         refine aI aD ?_
         obtain⟨eY,gU,fj,rfl⟩:=Wp.slice_cell aZ
         obtain⟨rfl,gl⟩:=Sl.len aZ
         refine aT ?_
         obtain⟨cP,dN,_,_,ck,_⟩:=aD
         cases ck
         obtain⟨bu,ex,cE,_⟩:=(New.from ap (q.trans ag))
         refine E6.ofN trivial (New.put (r:=C0) c ((q.trans ag).trans be) (a00 O).1 (new:=[.slice bP eO.length ca]) (By:=bu) ex cE rfl (a00 O).2 ?_)
         intro fy bf fJ _
         have gX:=bf.r
         refine aT ?_
         obtain rfl:=oJ a
         exact⟨(some ⟨cP,dN,none⟩),f.length,d,rfl,bf⟩
        ·refine Or.inr (Or.inr (Or.inl (aI (aI (by kernel_rfl) (by kernel_rfl)) ?_)))
         refine Or.inr ?_
         refine Or.inr ?_
         refine Or.inr ?_
         refine Or.inr ?_
         refine Or.inl (eX 0 (aI (aI rfl rfl) ?_))
         refine aT ?_
         refine Or.inl ?_
         intro hg dt cv
         obtain⟨bQ,cb,rfl,ej,Z,gm⟩:=V0.out (r:=C0.toRp) cv (show F2 (C0.R S) ([[.slice au t.length aH],[.slice l b.length m]]:List (List Value)) [t,b] from⟨W,⟨(C0.mono q g),trivial⟩⟩)
         refine trM a (M5 _ bQ ([t,b]).length cb [t,b] ej) ?_
         rintro eG a hh du ⟨bH,gy,b1,rfl,ah⟩
         have a0:Sub dt du:=ah.sub
         have d3:=ah.r
         obtain⟨rfl,fW⟩:=Sl.len d3
         refine aT ?_
         obtain⟨hC,G,a⟩:=B0 a
         obtain⟨av,eZ,fk,aQ⟩:=Sl.getI (r:=C0.toRp) (Y0.mono ((q.trans Z).trans a0) i) G (by decide)
         refine aI av ?_
         obtain⟨eP,gA,fb,rfl⟩:=Wp.slice_cell aQ
         obtain⟨rfl,fY⟩:=Sl.len aQ
         refine aT ?_
         obtain⟨cQ,dO,_,_,cl,_⟩:=av
         cases cl
         obtain⟨bv,ey,cG,_⟩:=(New.from ah (q.trans Z))
         refine E6.ofN trivial (New.put (r:=C0) c ((q.trans Z).trans a0) (a00 G).1 (new:=[.slice bH eG.length b1]) (By:=bv) ey cG rfl (a00 G).2 ?_)
         intro fz bg fK _
         have gY:=bg.r
         refine aT ?_
         obtain rfl:=oJ a
         exact⟨(some ⟨cQ,dO,none⟩),f.length,d,rfl,bg⟩
       ·refine ifB a (λc2 a=>?_) λc2 a=>?_
        ·refine Or.inr (Or.inr (Or.inl (aI (aI (by kernel_rfl) (by kernel_rfl)) ?_)))
         refine Or.inr ?_
         refine Or.inr ?_
         refine Or.inr ?_
         refine Or.inr ?_
         refine Or.inl (eX 0 (aI (aI rfl rfl) ?_))
         refine aT ?_
         refine Or.inl ?_
         intro hi dv cw
         obtain⟨bR,cc,rfl,ek,aa,gn⟩:=V0.out (r:=C0.toRp) cw (show F2 (C0.R n) ([[.slice l b.length m],[.slice D k.length F]]:List (List Value)) [b,k] from⟨g,⟨y,trivial⟩⟩)
         refine trM a (M5 _ bR ([b,k]).length cc [b,k] ek) ?_
         rintro eI a hj dx ⟨bJ,gB,b3,rfl,aj⟩
         have a2:Sub dv dx:=aj.sub
         have eb:=aj.r
         obtain⟨rfl,fZ⟩:=Sl.len eb
         refine aT ?_
         obtain⟨hD,H,a⟩:=B0 a
         obtain⟨aw,e0,fl,aR⟩:=Sl.getI (r:=C0.toRp) (Y0.mono (aa.trans a2) i) H (by decide)
         refine aI aw ?_
         obtain⟨eQ,gC,fc,rfl⟩:=Wp.slice_cell aR
         obtain⟨rfl,f0⟩:=Sl.len aR
         refine aT ?_
         obtain⟨cR,dP,_,_,cm,_⟩:=aw
         cases cm
         obtain⟨bx,ez,cH,_⟩:=(New.from aj aa)
         refine E6.ofN trivial (New.put (r:=C0) c (aa.trans a2) (a00 H).1 (new:=[.slice bJ eI.length b3]) (By:=bx) ez cH rfl (a00 H).2 ?_)
         intro fA bh fL _
         have gZ:=bh.r
         refine aT ?_
         obtain rfl:=oJ a
         exact⟨(some ⟨cR,dP,none⟩),f.length,d,rfl,bh⟩
        ·refine Or.inr (Or.inr (Or.inl (aI (aI (by kernel_rfl) (by kernel_rfl)) ?_)))
         refine Or.inr ?_
         refine Or.inr ?_
         refine Or.inr ?_
         refine Or.inr ?_
         refine Or.inl (eX 0 (aI (aI rfl rfl) ?_))
         refine aT ?_
         refine Or.inl ?_
         intro hk dy cx
         obtain⟨bS,cd,rfl,el,ab,go⟩:=V0.out (r:=C0.toRp) cx (show F2 (C0.R n) ([[.slice D k.length F],[.slice l b.length m]]:List (List Value)) [k,b] from⟨y,⟨g,trivial⟩⟩)
         refine trM a (M5 _ bS ([k,b]).length cd [k,b] el) ?_
         rintro eJ a hm dz ⟨bK,gD,b4,rfl,ak⟩
         have a3:Sub dy dz:=ak.sub
         have ec:=ak.r
         obtain⟨rfl,f1⟩:=Sl.len ec
         refine aT ?_
         obtain⟨hE,I,a⟩:=B0 a
         obtain⟨ax,e1,fm,aS⟩:=Sl.getI (r:=C0.toRp) (Y0.mono (ab.trans a3) i) I (by decide)
         refine aI ax ?_
         obtain⟨eR,gE,fd,rfl⟩:=Wp.slice_cell aS
         obtain⟨rfl,f4⟩:=Sl.len aS
         refine aT ?_
         obtain⟨cS,dQ,_,_,cn,_⟩:=ax
         cases cn
         obtain⟨bz,eA,cI,_⟩:=(New.from ak ab)
         refine E6.ofN trivial (New.put (r:=C0) c (ab.trans a3) (a00 I).1 (new:=[.slice bK eJ.length b4]) (By:=bz) eA cI rfl (a00 I).2 ?_)
         intro fB bi fM _
         have g0:=bi.r
         refine aT ?_
         obtain rfl:=oJ a
         exact⟨(some ⟨cS,dQ,none⟩),f.length,d,rfl,bi⟩
     ·obtain rfl:=oJ a
      exact⟨u,f.length,d,rfl,c⟩
theorem n08(h:Hp)(o:Option Addr)(W q:Nat)(f:N0)(H:Y0.R h [.slice o W q] f)(r:N0×b00)(b:U8 f=some r):
  Tr Tryz.prog 42 #[.slice o W q] h λv d=>∃(N:Option Addr) (U Q:Nat) (O:Option Addr) (V S:Nat),v = .tuple #[.slice N U Q,.slice O V S]/\Y0.R d [.slice N U Q] r.1/\w09.R d [.slice O V S] r.2/\Sub h d:=by
 obtain⟨rfl,aL⟩:=Sl.len H
 unfold U8 at b
 refine G2 (args:=[.slice o f.length q]) (fn:=Tryz.f42) rfl ?_
 refine trM b (p02 _ o f.length q f H) ?_
 rintro L b a0 w ⟨P,aS,T,rfl,ac⟩
 have y:Sub h w:=ac.sub
 have I:=ac.r
 obtain⟨rfl,aN⟩:=Sl.len I
 refine trV b (h07 _ 3 (by decide) o f.length q f (Y0.mono y H)) λbb b=>?_
 refine ifB b (λaw b=>?_) λaw b=>?_
 ·intro a2 aK ao
  obtain⟨ah,al,rfl,aB,ab,aR⟩:=V0.out (r:=n00.toRp) ao (show F2 (n00.R w) ([]:List (List Value)) ([]:b00) from trivial)
  obtain rfl:=oJ b
  exact⟨P,L.length,T,ah,(([]:b00)).length,al,rfl,(Y0.mono ab I),aB,(y.trans ab)⟩
 ·obtain⟨M,ar,b⟩:=B0 b
  refine eX { vars:=[4],boxes:=[],owns:=[0],fuel:=true } (eX (λvs os d=>∃ p G s j u g,vs.tail = [.slice p G s]/\os = [u]/\Sub w d/\Y0.R d [.slice p G s] j/\F2 (n00.R d) u g/\N3 (J1 vs) j g=some M) (eX (λ_ _=>0) (aI (eX Q0 ⟨P,L.length,T,L,[],([]:b00),rfl,rfl,(Sub.refl _),I,(show F2 (n00.R w) ([]:List (List Value)) ([]:b00) from trivial),ar⟩) ?_)))
  rintro _ u x aG ⟨p,G,s,j,bc,g,⟨⟩,⟨⟩,J,t,i,a⟩
  replace a:N3 x j g=some M:=a
  obtain _|x:=x
  ·cases a
  rw[N3.eq_2]at a
  obtain⟨rfl,aM⟩:=Sl.len t
  obtain⟨ay,ap,a⟩:=B0 a
  obtain rfl:u.length=ay:=(F2.length i).trans (oJ ap)
  obtain⟨aV,aF,a⟩:=B0 a
  refine ifB a (λau a=>?_) λau a=>?_
  ·refine trM a (k0d _ _ _ _ _ t) ?_
   rintro aC a aX ax ⟨aE,rfl,X,c⟩
   obtain⟨a3,a4⟩:=aC
   dsimp only at a X
   obtain⟨k,l,m,n,rfl,rfl,A,C,D,E⟩:=e06 X
   try dsimp only at a
   refine ifB a (λav a=>?_) λav a=>?_
   ·obtain rfl:=oJ a
    try dsimp only[S0,W0]at b
    intro aY aH am
    obtain⟨af,aj,rfl,az,Z,aP⟩:=V0.out (r:=n00.toRp) am (F2.up (r:=n00.toRp) c i)
    obtain rfl:=oJ b
    exact⟨p,j.length,s,af,g.length,aj,rfl,(Y0.mono (c.trans Z) t),az,(((y.trans J).trans c).trans Z)⟩
   ·refine trM a (u06 _ _ _ _ _ (Y0.mono c t) _ _ (i7 A C D E)) ?_
    rintro aD a aZ F ⟨ae,aU,ai,rfl,K⟩
    obtain⟨ad,ba⟩:=aD
    dsimp only at a K
    have z:Sub ax F:=K.sub
    have Y:=K.r
    obtain⟨rfl,aO⟩:=Sl.len Y
    obtain⟨aW,aq,a⟩:=B0 a
    refine aI (F1 aq (by first|rw[F2.length (F2.up (r:=n00.toRp) (c.trans z) i),F2.length (show F2 (n00.R F) ([[.int .i64 k,.int .i64 l,.int .i64 m,.int .i64 n]]:List (List Value)) [(k,l,m,n)] from⟨(i7 A C D E),trivial⟩)]|exact congrArg (·+1) (F2.length (F2.up (r:=n00.toRp) (c.trans z) i)))) ?_
    exact I2 x ⟨ae,ad.length,ai,ad,(u++([[.int .i64 k,.int .i64 l,.int .i64 m,.int .i64 n]]:List (List Value))),(g ++ [(k,l,m,n)]),rfl,rfl,((J.trans c).trans z),Y,(F2.append (F2.up (r:=n00.toRp) (c.trans z) i) (show F2 (n00.R F) ([[.int .i64 k,.int .i64 l,.int .i64 m,.int .i64 n]]:List (List Value)) [(k,l,m,n)] from⟨(i7 A C D E),trivial⟩)),a⟩
  ·obtain rfl:=oJ a
   try dsimp only[S0,W0]at b
   intro a1 aJ an
   obtain⟨ag,ak,rfl,aA,aa,aQ⟩:=V0.out (r:=n00.toRp) an i
   obtain rfl:=oJ b
   exact⟨p,j.length,s,ag,g.length,ak,rfl,(Y0.mono aa t),aA,((y.trans J).trans aa)⟩
theorem v06(h:Hp)(d:Int)(s:K0 d)(r:H1×Bool)(b:c9 d=some r):
  Tr Tryz.prog 43 #[.int .i64 d] h λv i=>∃(q:List Value),v = .tuple #[.agg q.toArray,.bool r.2]/\D3.R i q r.1/\Sub h i:=by
 unfold c9 at b
 refine G2 (args:=[.int .i64 d]) (fn:=Tryz.f43) rfl ?_
 refine trV b (A3 _ d s 1 (by decide) 3 (by decide)) λS b=>?_
 refine ifB b (λF b=>?_) λF b=>?_
 ·obtain rfl:=oJ b
  exact⟨([.int .i64 0,.slice none 0 0]),rfl,(U0 (by decide) (Z02 C0 h)),(Sub.refl _)⟩
 ·obtain⟨p,E,b⟩:=B0 b
  refine eX { vars:=[5],boxes:=[1],owns:=[0],fuel:=true,nilsB:=[(1,1,40,1,24)] } (eX (λvs os i=>∃ a f m g,vs.tail = [.int .i64 a,.int .i64 f]/\os = [m]/\Sub h i/\K0 a/\K0 f/\F2 (C0.R i) m g/\I6 d (J1 vs) a f g=some p) (eX (λ_ _=>0) (aI (eX Q0 ⟨1,d,[],([]:N0),rfl,rfl,(Sub.refl _),(by decide),s,(show F2 (C0.R h) [] [] from trivial),E⟩) ?_)))
  rintro _ _ m k I ⟨a,f,T,g,⟨⟩,⟨⟩,x,H,t,j,c⟩
  replace c:I6 d k a f g=some p:=c
  obtain _|k:=k
  ·cases c
  rw[I6.eq_2]at c
  refine ifB c (λG c=>?_) λG c=>?_
  ·intro P u A
   obtain⟨n,o,rfl,w,l,M⟩:=V0.out (r:=Wp.int.toRp) A (show F2 (Wp.int.R I) ([[.int .i64 a]]:List (List Value)) [a] from⟨⟨rfl,H⟩,trivial⟩)
   obtain⟨O,D,c⟩:=B0 c
   refine aI (F1 D (by first|rw[F2.length (F2.up (r:=C0.toRp) l j),F2.length (show F2 (C0.R u) ([[.slice n ([a]).length o]]:List (List Value)) [[a]] from⟨w,trivial⟩)]|exact congrArg (·+1) (F2.length (F2.up (r:=C0.toRp) l j)))) ?_
   exact I2 k ⟨(IntKind.i64.wrap (a+1)),f,(m++([[.slice n ([a]).length o]]:List (List Value))),(g ++ [[a]]),rfl,rfl,(x.trans l),(I0 _),t,(F2.append (F2.up (r:=C0.toRp) l j) (show F2 (C0.R u) ([[.slice n ([a]).length o]]:List (List Value)) [[a]] from⟨w,trivial⟩)),c⟩
  ·obtain rfl:=oJ c
   try dsimp only[S0,W0]at b
   intro Q L C
   obtain⟨y,z,rfl,J,K,N⟩:=V0.out (r:=C0.toRp) C j
   obtain rfl:=oJ b
   exact⟨([.int .i64 f,.slice y g.length z]),rfl,(U0 t J),(x.trans K)⟩
theorem O09(h:Hp)(f:Option Addr)(G g:Nat)(c:N0)(u:Y0.R h [.slice f G g] c)(q:Option Addr)(H s:Nat)(j:b00)(I:w09.R h [.slice q H s] j)(r:N0×Bool)(b:S9 c j=some r):
  Tr Tryz.prog 44 #[.slice f G g,.slice q H s] h λv i=>∃(A:Option Addr) (F C:Nat),v = .tuple #[.slice A F C,.bool r.2]/\Y0.R i [.slice A F C] r.1/\Sub h i:=by
 obtain⟨rfl,am⟩:=Sl.len u
 obtain⟨rfl,an⟩:=Sl.len I
 unfold S9 at b
 refine G2 (args:=[.slice f c.length g,.slice q j.length s]) (fn:=Tryz.f44) rfl ?_
 refine trM b (p02 _ f c.length g c u) ?_
 rintro O b az E ⟨Q,au,U,rfl,M⟩
 have p:Sub h E:=M.sub
 have J:=M.r
 obtain⟨rfl,ap⟩:=Sl.len J
 obtain⟨z,X,b⟩:=B0 b
 refine eX { vars:=[6,15],boxes:=[],owns:=[],fuel:=true } (eX (λvs os i=>∃ m t n l d,vs.tail = [.slice m t n,.int .i64 d]/\os = []/\Sub E i/\Y0.R i [.slice m t n] l/\K0 d/\i4 j c (J1 vs) l d=some z) (eX (λ_ _=>0) (aI (eX Q0 ⟨Q,O.length,U,O,0,rfl,rfl,(Sub.refl _),J,(by decide),X⟩) ?_)))
 rintro _ _ o af ⟨m,t,n,l,d,⟨⟩,⟨⟩,k,w,al,a⟩
 replace a:i4 j c o l d=some z:=a
 obtain _|o:=o
 ·cases a
 rw[i4.eq_2]at a
 obtain⟨rfl,ao⟩:=Sl.len w
 refine ifB a (λZ a=>?_) λZ a=>?_
 ·refine ld a (w09.mono (p.trans k) I) λaA ak ag a=>?_
  obtain⟨aB,aC,aD,aE,rfl,rfl,aa,ab,ac,ad⟩:=e06 ag
  try dsimp only at a
  refine trM a (u06 _ _ _ _ _ w _ _ (i7 aa ab ac ad)) ?_
  rintro ai a ax D ⟨S,av,V,rfl,y⟩
  obtain⟨P,aF⟩:=ai
  dsimp only at a y
  have x:Sub af D:=y.sub
  have K:=y.r
  obtain⟨rfl,aq⟩:=Sl.len K
  refine ifB a (λY a=>?_) λY a=>?_
  ·refine trM a (p02 _ f c.length g c (Y0.mono ((p.trans k).trans x) u)) ?_
   rintro aj a ay ae ⟨T,aw,W,rfl,N⟩
   have ah:Sub D ae:=N.sub
   have L:=N.r
   obtain⟨rfl,ar⟩:=Sl.len L
   obtain rfl:=oJ a
   try dsimp only[L1,M1]at b
   obtain rfl:=oJ b
   exact⟨T,aj.length,W,rfl,L,(((p.trans k).trans x).trans ah)⟩
  ·exact I2 o ⟨S,P.length,V,P,(IntKind.i64.wrap (d+1)),rfl,rfl,(k.trans x),K,(I0 _),a⟩
 ·obtain rfl:=oJ a
  try dsimp only[S0,W0]at b
  obtain rfl:=oJ b
  exact⟨m,l.length,n,rfl,w,(p.trans k)⟩
theorem n0c(h:Hp)(aC:List Value)(a3:H1)(dn:D3.R h aC a3)(r:H1×Bool)(d:U00 a3=some r):
  Tr Tryz.prog 19 #[.agg aC.toArray] h λv k=>∃(aB:List Value),v = .tuple #[.agg aB.toArray,.bool r.2]/\D3.R k aB r.1/\Sub h k:=by
 obtain⟨f,bo,f1,bD,c2,rfl,rfl,l,ar⟩:=V2 dn
 obtain⟨rfl,fp⟩:=Sl.len ar
 unfold U00 at d
 dsimp only at d
 refine G2 (args:=[.agg #[.int .i64 f,.slice bo c2.length bD]]) (fn:=Tryz.f19) rfl ?_
 refine trV d (u02 _ _ _ (U0 l ar)) λgY d=>?_
 refine ifB d (λcz d=>?_) λcz d=>?_
 ·obtain rfl:=oJ d
  exact⟨([.int .i64 0,.slice none 0 0]),rfl,(U0 (by decide) (Z02 C0 h)),(Sub.refl _)⟩
 ·refine trM d (n08 _ _ _ _ _ ar) ?_
  rintro dX d gS fk ⟨el,gg,e3,em,gh,e4,rfl,aa,aw,j⟩
  obtain⟨U,hh⟩:=dX
  dsimp only at d aa aw
  obtain⟨rfl,fE⟩:=Sl.len aa
  obtain⟨rfl,fF⟩:=Sl.len aw
  refine trM d (v06 _ _ l) ?_
  rintro d1 d gU fm ⟨eL,rfl,bb,g⟩
  obtain⟨hj,hm⟩:=d1
  dsimp only at d bb
  obtain⟨hk,ep,gl,e7,hl,rfl,rfl,fi,bc⟩:=V2 bb
  obtain⟨rfl,fJ⟩:=Sl.len bc
  try dsimp only at d
  refine trM d (O09 _ _ _ _ _ bc _ _ _ _ (w09.mono g aw)) ?_
  rintro ea d gJ m ⟨ey,gu,fe,rfl,ab,i⟩
  obtain⟨W,hs⟩:=ea
  dsimp only at d ab
  obtain⟨rfl,fR⟩:=Sl.len ab
  refine ifB d (λcv d=>?_) λcv d=>?_
  ·obtain rfl:=oJ d
   exact⟨([.int .i64 0,.slice none 0 0]),rfl,(U0 (by decide) (Z02 C0 m)),((j.trans g).trans i)⟩
  ·refine Or.inr (Or.inr (Or.inl (aI (aI (by kernel_rfl) (by kernel_rfl)) ?_)))
   refine Or.inr ?_
   refine Or.inr ?_
   refine Or.inr ?_
   refine Or.inr ?_
   refine Or.inr (eX 2 (eX 2 (aI (aI rfl (aI rfl rfl)) ?_)))
   refine aI ?_ ?_
   ·skip
    refine aT ?_
    obtain⟨gB,b5,d⟩:=B0 d
    refine aI (T0 b5) ?_
    refine aT ?_
    refine aT ?_
    refine aT ?_
    obtain⟨az,cr,d⟩:=B0 d
    refine eX { vars:=[56],boxes:=[3],owns:=[0],fuel:=true,kept:=[0] } (eX (λvs os k=>∃ K w ag L,vs.tail = [.int .i64 K,.int .i64 w]/\os = [ag]/\Sub m k/\K0 K/\K0 w/\F2 (Wp.opt.R k) ag L/\Q1 U W f (J1 vs) K w L=some az) (eX (λ_ _=>0) (aI (eX Q0 ⟨0,f,(List.replicate f.toNat ([.slice none 0 0]:List Value)),(List.replicate f.toNat (none:Option D0)),rfl,rfl,(Sub.refl _),(by decide),l,(F2.rep (p:=Wp.opt.R m) (a:=[.slice none 0 0]) (b:=none) (A0k m) (f.toNat)),cr⟩) ?_)))
    rintro _ _ ag Y G ⟨K,w,hu,L,⟨⟩,⟨⟩,s,fg,ap,D,c⟩
    replace c:Q1 U W f Y K w L=some az:=c
    obtain _|Y:=Y
    ·cases c
    rw[Q1.eq_2]at c
    refine ifB c (λcA c=>?_) λcA c=>?_
    ·refine ld c (Y0.mono ((g.trans i).trans s) aa) λhd eF av c=>?_
     obtain⟨eh,gb,eZ,rfl⟩:=Wp.slice_cell av
     obtain⟨rfl,fz⟩:=Sl.len av
     refine ifB c (λcC c=>?_) λcC c=>?_
     ·obtain rfl:=oJ c
      try dsimp only[L1,M1]at d
      obtain rfl:=oJ d
      exact⟨([.int .i64 0,.slice none 0 0]),rfl,(U0 (by decide) (Z02 C0 G)),(((j.trans g).trans i).trans s)⟩
     ·refine ld c (Y0.mono s ab) λT eG aj c=>?_
      obtain⟨bq,gc,bF,rfl⟩:=Wp.slice_cell aj
      obtain⟨rfl,fA⟩:=Sl.len aj
      refine ldI c av λz cO c=>?_
      refine ifB c (λcD c=>?_) λcD c=>?_
      ·refine trM c (g7 _ bq T.length bF T aj) ?_
       rintro am c gO P ⟨ei,gd,e0,rfl,bm⟩
       have ad:Sub G P:=bm.sub
       have ba:=bm.r
       obtain⟨rfl,fB⟩:=Sl.len ba
       refine trV c (A3 _ (IntKind.i64.wrap (0-z)) (I0 _) 1 (by decide) f l) λhe c=>?_
       obtain⟨dY,ci,c⟩:=B0 c
       obtain⟨eH,aM,dv⟩:=H00 (F2.up (r:=Wp.opt.toRp) ad D) ci (o0f P)
       refine aI (λq=>(aM q).1) ?_
       obtain⟨ej,ge,e1,rfl,cY,dd⟩:=dv
       obtain⟨rfl,fC⟩:=Sl.len dd
       refine eX _ (aI (λq=>(aM q).2) ?_)
       refine eX ((!dY.isNone)) (aI (λ_=>by rw[←cY];exact g0h _ _ _ rfl _ _ _) ?_)
       refine ifB c (λcE c=>?_) λcE c=>?_
       ·obtain rfl:=oJ c
        try dsimp only[L1,M1]at d
        obtain rfl:=oJ d
        exact⟨([.int .i64 0,.slice none 0 0]),rfl,(U0 (by decide) (Z02 C0 P)),((((j.trans g).trans i).trans s).trans ad)⟩
       ·refine Or.inr (Or.inr (Or.inl (aI (aI (by kernel_rfl) (by kernel_rfl)) ?_)))
        refine Or.inr ?_
        refine Or.inr ?_
        refine Or.inr ?_
        refine Or.inr ?_
        refine Or.inl (eX 0 (aI (aI rfl rfl) ?_))
        refine aT ?_
        obtain⟨dR,bS,aS⟩:=Sl.rows (r:=Wp.int.toRp) ba
        refine eX dR (aI bS ?_)
        obtain⟨gE,b8,c⟩:=B0 c
        refine aI (F1 b8 (by first|rw[F2.length (show F2 (Wp.int.R P) ([]:List (List Value)) ([]:D0) from trivial),F2.length aS]|exact congrArg (·+1) (F2.length (show F2 (Wp.int.R P) ([]:List (List Value)) ([]:D0) from trivial)))) ?_
        refine aT ?_
        obtain⟨hf,cj,c⟩:=B0 c
        obtain⟨bz,eI,bM,dw⟩:=A4 (F2.up (r:=Wp.opt.toRp) ad D) cj
        refine aI bz ?_
        obtain⟨ek,gf,e2,rfl,gx,df⟩:=dw
        obtain⟨rfl,fD⟩:=Sl.len df
        refine aT ?_
        intro gP cS b0
        obtain⟨aZ,aF,rfl,dH,bh,fW⟩:=V0.outS (r:=Wp.int.toRp) b0 (F2.append (show F2 (Wp.int.R P) ([]:List (List Value)) ([]:D0) from trivial) aS)
        refine eX _ (aI bM ?_)
        refine aT ?_
        exact I2 Y ⟨(IntKind.i64.wrap (K+1)),w,(ag.set (IntKind.i64.wrap ((IntKind.i64.wrap (0-z))-1)).toNat [.slice (some ⟨aZ,0,none⟩) ((([]:D0)++am)).length aF]),(L.set (IntKind.i64.wrap ((IntKind.i64.wrap (0-z))-1)).toNat (some (([]:D0)++am))),rfl,rfl,((s.trans ad).trans bh),(I0 _),ap,(F2.set (p:=Wp.opt.R cS) (a:=[.slice (some ⟨aZ,0,none⟩) ((([]:D0)++am)).length aF]) (b:=some (([]:D0)++am)) (O0c dH) (IntKind.i64.wrap ((IntKind.i64.wrap (0-z))-1)).toNat (F2.up (r:=Wp.opt.toRp) (ad.trans bh) D)),c⟩
      ·refine trV c (A3 _ z cO 1 (by decide) f l) λhg c=>?_
       obtain⟨dZ,ck,c⟩:=B0 c
       obtain⟨eJ,aN,dx⟩:=H00 D ck (o0f G)
       refine aI (λq=>(aN q).1) ?_
       obtain⟨en,gj,e5,rfl,cZ,dg⟩:=dx
       obtain⟨rfl,fG⟩:=Sl.len dg
       refine eX _ (aI (λq=>(aN q).2) ?_)
       refine eX ((!dZ.isNone)) (aI (λ_=>by rw[←cZ];exact g0h _ _ _ rfl _ _ _) ?_)
       refine ifB c (λcG c=>?_) λcG c=>?_
       ·obtain rfl:=oJ c
        try dsimp only[L1,M1]at d
        obtain rfl:=oJ d
        exact⟨([.int .i64 0,.slice none 0 0]),rfl,(U0 (by decide) (Z02 C0 G)),(((j.trans g).trans i).trans s)⟩
       ·refine Or.inr (Or.inr (Or.inl (aI (aI (by kernel_rfl) (by kernel_rfl)) ?_)))
        refine Or.inr ?_
        refine Or.inr ?_
        refine Or.inr ?_
        refine Or.inr ?_
        refine Or.inl (eX 0 (aI (aI rfl rfl) ?_))
        refine aT ?_
        obtain⟨dS,bT,aU⟩:=Sl.rows (r:=Wp.int.toRp) aj
        refine eX dS (aI bT ?_)
        obtain⟨gF,ca,c⟩:=B0 c
        refine aI (F1 ca (by first|rw[F2.length (show F2 (Wp.int.R G) ([]:List (List Value)) ([]:D0) from trivial),F2.length aU]|exact congrArg (·+1) (F2.length (show F2 (Wp.int.R G) ([]:List (List Value)) ([]:D0) from trivial)))) ?_
        refine aT ?_
        obtain⟨hi,cl,c⟩:=B0 c
        obtain⟨bA,eK,bN,dy⟩:=A4 D cl
        refine aI bA ?_
        obtain⟨eo,gk,e6,rfl,gy,dh⟩:=dy
        obtain⟨rfl,fH⟩:=Sl.len dh
        refine aT ?_
        intro gQ cT b1
        obtain⟨a0,aG,rfl,dI,bi,fX⟩:=V0.outS (r:=Wp.int.toRp) b1 (F2.append (show F2 (Wp.int.R G) ([]:List (List Value)) ([]:D0) from trivial) aU)
        refine eX _ (aI bN ?_)
        refine aT ?_
        exact I2 Y ⟨(IntKind.i64.wrap (K+1)),w,(ag.set (IntKind.i64.wrap (z-1)).toNat [.slice (some ⟨a0,0,none⟩) ((([]:D0)++T)).length aG]),(L.set (IntKind.i64.wrap (z-1)).toNat (some (([]:D0)++T))),rfl,rfl,(s.trans bi),(I0 _),ap,(F2.set (p:=Wp.opt.R cT) (a:=[.slice (some ⟨a0,0,none⟩) ((([]:D0)++T)).length aG]) (b:=some (([]:D0)++T)) (O0c dI) (IntKind.i64.wrap (z-1)).toNat (F2.up (r:=Wp.opt.toRp) bi D)),c⟩
    ·obtain rfl:=oJ c
     try dsimp only[S0,W0]at d
     intro gR fl b2
     obtain⟨bu,bJ,rfl,dJ,dO,fY⟩:=V0.out (r:=C0.toRp) b2 (F2.ofOpt D)
     obtain rfl:=oJ d
     exact⟨([.int .i64 w,.slice bu (List.map (λo:Option D0=>o.getD ([]:D0)) L).length bJ]),rfl,(U0 ap dJ),((((j.trans g).trans i).trans s).trans dO)⟩
   ·skip
    obtain⟨gG,cb,d⟩:=B0 d
    refine aI (T0 cb) ?_
    refine aT ?_
    refine aI ?_ ?_
    ·skip
     refine aT ?_
     refine aT ?_
     refine aT ?_
     obtain⟨aA,cs,d⟩:=B0 d
     refine eX { vars:=[56],boxes:=[3],owns:=[0],fuel:=true,kept:=[0] } (eX (λvs os k=>∃ M x ah N,vs.tail = [.int .i64 M,.int .i64 x]/\os = [ah]/\Sub m k/\K0 M/\K0 x/\F2 (Wp.opt.R k) ah N/\Q1 U W f (J1 vs) M x N=some aA) (eX (λ_ _=>0) (aI (eX Q0 ⟨0,f,(List.replicate f.toNat ([.slice none 0 0]:List Value)),(List.replicate f.toNat (none:Option D0)),rfl,rfl,(Sub.refl _),(by decide),l,(F2.rep (p:=Wp.opt.R m) (a:=[.slice none 0 0]) (b:=none) (A0k m) (f.toNat)),cs⟩) ?_)))
     rintro _ _ ah Z H ⟨M,x,hw,N,⟨⟩,⟨⟩,t,fh,aq,E,c⟩
     replace c:Q1 U W f Z M x N=some aA:=c
     obtain _|Z:=Z
     ·cases c
     rw[Q1.eq_2]at c
     refine ifB c (λcH c=>?_) λcH c=>?_
     ·refine ld c (Y0.mono ((g.trans i).trans t) aa) λhn eM ax c=>?_
      obtain⟨er,gm,e8,rfl⟩:=Wp.slice_cell ax
      obtain⟨rfl,fK⟩:=Sl.len ax
      refine ifB c (λcI c=>?_) λcI c=>?_
      ·obtain rfl:=oJ c
       try dsimp only[L1,M1]at d
       obtain rfl:=oJ d
       exact⟨([.int .i64 0,.slice none 0 0]),rfl,(U0 (by decide) (Z02 C0 H)),(((j.trans g).trans i).trans t)⟩
      ·refine ld c (Y0.mono t ab) λV eN ak c=>?_
       obtain⟨br,gn,bG,rfl⟩:=Wp.slice_cell ak
       obtain⟨rfl,fL⟩:=Sl.len ak
       refine ldI c ax λA cP c=>?_
       refine ifB c (λcJ c=>?_) λcJ c=>?_
       ·refine trM c (g7 _ br V.length bG V ak) ?_
        rintro an c gT Q ⟨es,go,e9,rfl,bn⟩
        have ae:Sub H Q:=bn.sub
        have be:=bn.r
        obtain⟨rfl,fM⟩:=Sl.len be
        refine trV c (A3 _ (IntKind.i64.wrap (0-A)) (I0 _) 1 (by decide) f l) λho c=>?_
        obtain⟨d2,cm,c⟩:=B0 c
        obtain⟨eO,aO,dz⟩:=H00 (F2.up (r:=Wp.opt.toRp) ae E) cm (o0f Q)
        refine aI (λq=>(aO q).1) ?_
        obtain⟨et,gp,fa,rfl,c0,di⟩:=dz
        obtain⟨rfl,fN⟩:=Sl.len di
        refine eX _ (aI (λq=>(aO q).2) ?_)
        refine eX ((!d2.isNone)) (aI (λ_=>by rw[←c0];exact g0h _ _ _ rfl _ _ _) ?_)
        refine ifB c (λcK c=>?_) λcK c=>?_
        ·obtain rfl:=oJ c
         try dsimp only[L1,M1]at d
         obtain rfl:=oJ d
         exact⟨([.int .i64 0,.slice none 0 0]),rfl,(U0 (by decide) (Z02 C0 Q)),((((j.trans g).trans i).trans t).trans ae)⟩
        ·refine Or.inr (Or.inr (Or.inl (aI (aI (by kernel_rfl) (by kernel_rfl)) ?_)))
         refine Or.inr ?_
         refine Or.inr ?_
         refine Or.inr ?_
         refine Or.inr ?_
         refine Or.inl (eX 0 (aI (aI rfl rfl) ?_))
         refine aT ?_
         obtain⟨dT,bU,aV⟩:=Sl.rows (r:=Wp.int.toRp) be
         refine eX dT (aI bU ?_)
         obtain⟨gH,cc,c⟩:=B0 c
         refine aI (F1 cc (by first|rw[F2.length (show F2 (Wp.int.R Q) ([]:List (List Value)) ([]:D0) from trivial),F2.length aV]|exact congrArg (·+1) (F2.length (show F2 (Wp.int.R Q) ([]:List (List Value)) ([]:D0) from trivial)))) ?_
         refine aT ?_
         obtain⟨hp,cn,c⟩:=B0 c
         obtain⟨bB,eP,bO,dA⟩:=A4 (F2.up (r:=Wp.opt.toRp) ae E) cn
         refine aI bB ?_
         obtain⟨eu,gq,fb,rfl,gz,dj⟩:=dA
         obtain⟨rfl,fO⟩:=Sl.len dj
         refine aT ?_
         intro gV cU b3
         obtain⟨a1,aH,rfl,dK,bj,fZ⟩:=V0.outS (r:=Wp.int.toRp) b3 (F2.append (show F2 (Wp.int.R Q) ([]:List (List Value)) ([]:D0) from trivial) aV)
         refine eX _ (aI bO ?_)
         refine aT ?_
         exact I2 Z ⟨(IntKind.i64.wrap (M+1)),x,(ah.set (IntKind.i64.wrap ((IntKind.i64.wrap (0-A))-1)).toNat [.slice (some ⟨a1,0,none⟩) ((([]:D0)++an)).length aH]),(N.set (IntKind.i64.wrap ((IntKind.i64.wrap (0-A))-1)).toNat (some (([]:D0)++an))),rfl,rfl,((t.trans ae).trans bj),(I0 _),aq,(F2.set (p:=Wp.opt.R cU) (a:=[.slice (some ⟨a1,0,none⟩) ((([]:D0)++an)).length aH]) (b:=some (([]:D0)++an)) (O0c dK) (IntKind.i64.wrap ((IntKind.i64.wrap (0-A))-1)).toNat (F2.up (r:=Wp.opt.toRp) (ae.trans bj) E)),c⟩
       ·refine trV c (A3 _ A cP 1 (by decide) f l) λhq c=>?_
        obtain⟨d3,co,c⟩:=B0 c
        obtain⟨eQ,aP,dB⟩:=H00 E co (o0f H)
        refine aI (λq=>(aP q).1) ?_
        obtain⟨ew,gr,fc,rfl,c1,dk⟩:=dB
        obtain⟨rfl,fP⟩:=Sl.len dk
        refine eX _ (aI (λq=>(aP q).2) ?_)
        refine eX ((!d3.isNone)) (aI (λ_=>by rw[←c1];exact g0h _ _ _ rfl _ _ _) ?_)
        refine ifB c (λcL c=>?_) λcL c=>?_
        ·obtain rfl:=oJ c
         try dsimp only[L1,M1]at d
         obtain rfl:=oJ d
         exact⟨([.int .i64 0,.slice none 0 0]),rfl,(U0 (by decide) (Z02 C0 H)),(((j.trans g).trans i).trans t)⟩
        ·refine Or.inr (Or.inr (Or.inl (aI (aI (by kernel_rfl) (by kernel_rfl)) ?_)))
         refine Or.inr ?_
         refine Or.inr ?_
         refine Or.inr ?_
         refine Or.inr ?_
         refine Or.inl (eX 0 (aI (aI rfl rfl) ?_))
         refine aT ?_
         obtain⟨dU,bV,aW⟩:=Sl.rows (r:=Wp.int.toRp) ak
         refine eX dU (aI bV ?_)
         obtain⟨gI,cd,c⟩:=B0 c
         refine aI (F1 cd (by first|rw[F2.length (show F2 (Wp.int.R H) ([]:List (List Value)) ([]:D0) from trivial),F2.length aW]|exact congrArg (·+1) (F2.length (show F2 (Wp.int.R H) ([]:List (List Value)) ([]:D0) from trivial)))) ?_
         refine aT ?_
         obtain⟨hr,cp,c⟩:=B0 c
         obtain⟨bC,eR,bP,dC⟩:=A4 E cp
         refine aI bC ?_
         obtain⟨ex,gt,fd,rfl,gA,dm⟩:=dC
         obtain⟨rfl,fQ⟩:=Sl.len dm
         refine aT ?_
         intro gW cV b4
         obtain⟨a2,aJ,rfl,dL,bk,f0⟩:=V0.outS (r:=Wp.int.toRp) b4 (F2.append (show F2 (Wp.int.R H) ([]:List (List Value)) ([]:D0) from trivial) aW)
         refine eX _ (aI bP ?_)
         refine aT ?_
         exact I2 Z ⟨(IntKind.i64.wrap (M+1)),x,(ah.set (IntKind.i64.wrap (A-1)).toNat [.slice (some ⟨a2,0,none⟩) ((([]:D0)++V)).length aJ]),(N.set (IntKind.i64.wrap (A-1)).toNat (some (([]:D0)++V))),rfl,rfl,(t.trans bk),(I0 _),aq,(F2.set (p:=Wp.opt.R cV) (a:=[.slice (some ⟨a2,0,none⟩) ((([]:D0)++V)).length aJ]) (b:=some (([]:D0)++V)) (O0c dL) (IntKind.i64.wrap (A-1)).toNat (F2.up (r:=Wp.opt.toRp) bk E)),c⟩
     ·obtain rfl:=oJ c
      try dsimp only[S0,W0]at d
      intro gX fo bW
      obtain⟨bs,bH,rfl,dD,dM,fS⟩:=V0.out (r:=C0.toRp) bW (F2.ofOpt E)
      obtain rfl:=oJ d
      exact⟨([.int .i64 x,.slice bs (List.map (λo:Option D0=>o.getD ([]:D0)) N).length bH]),rfl,(U0 aq dD),((((j.trans g).trans i).trans t).trans dM)⟩
    ·skip
     refine aT ?_
     refine aT ?_
     refine aT ?_
     obtain⟨ay,cq,d⟩:=B0 d
     refine eX { vars:=[56],boxes:=[3],owns:=[0],fuel:=true,kept:=[0] } (eX (λvs os k=>∃ I u af J,vs.tail = [.int .i64 I,.int .i64 u]/\os = [af]/\Sub m k/\K0 I/\K0 u/\F2 (Wp.opt.R k) af J/\Q1 U W f (J1 vs) I u J=some ay) (eX (λ_ _=>0) (aI (eX Q0 ⟨0,f,(List.replicate f.toNat ([.slice none 0 0]:List Value)),(List.replicate f.toNat (none:Option D0)),rfl,rfl,(Sub.refl _),(by decide),l,(F2.rep (p:=Wp.opt.R m) (a:=[.slice none 0 0]) (b:=none) (A0k m) (f.toNat)),cq⟩) ?_)))
     rintro _ _ af X F ⟨I,u,ht,J,⟨⟩,⟨⟩,n,ff,ao,C,c⟩
     replace c:Q1 U W f X I u J=some ay:=c
     obtain _|X:=X
     ·cases c
     rw[Q1.eq_2]at c
     refine ifB c (λct c=>?_) λct c=>?_
     ·refine ld c (Y0.mono ((g.trans i).trans n) aa) λgZ ez au c=>?_
      obtain⟨eb,f4,eS,rfl⟩:=Wp.slice_cell au
      obtain⟨rfl,fq⟩:=Sl.len au
      refine ifB c (λcu c=>?_) λcu c=>?_
      ·obtain rfl:=oJ c
       try dsimp only[L1,M1]at d
       obtain rfl:=oJ d
       exact⟨([.int .i64 0,.slice none 0 0]),rfl,(U0 (by decide) (Z02 C0 F)),(((j.trans g).trans i).trans n)⟩
      ·refine ld c (Y0.mono n ab) λS eA ai c=>?_
       obtain⟨bp,f5,bE,rfl⟩:=Wp.slice_cell ai
       obtain⟨rfl,fs⟩:=Sl.len ai
       refine ldI c au λy cM c=>?_
       refine ifB c (λcw c=>?_) λcw c=>?_
       ·refine trM c (g7 _ bp S.length bE S ai) ?_
        rintro al c gK O ⟨ec,f6,eT,rfl,bl⟩
        have ac:Sub F O:=bl.sub
        have a4:=bl.r
        obtain⟨rfl,ft⟩:=Sl.len a4
        refine trV c (A3 _ (IntKind.i64.wrap (0-y)) (I0 _) 1 (by decide) f l) λg0 c=>?_
        obtain⟨dV,ce,c⟩:=B0 c
        obtain⟨eB,aK,dq⟩:=H00 (F2.up (r:=Wp.opt.toRp) ac C) ce (o0f O)
        refine aI (λq=>(aK q).1) ?_
        obtain⟨ed,f7,eU,rfl,cW,c3⟩:=dq
        obtain⟨rfl,fu⟩:=Sl.len c3
        refine eX _ (aI (λq=>(aK q).2) ?_)
        refine eX ((!dV.isNone)) (aI (λ_=>by rw[←cW];exact g0h _ _ _ rfl _ _ _) ?_)
        refine ifB c (λcx c=>?_) λcx c=>?_
        ·obtain rfl:=oJ c
         try dsimp only[L1,M1]at d
         obtain rfl:=oJ d
         exact⟨([.int .i64 0,.slice none 0 0]),rfl,(U0 (by decide) (Z02 C0 O)),((((j.trans g).trans i).trans n).trans ac)⟩
        ·refine Or.inr (Or.inr (Or.inl (aI (aI (by kernel_rfl) (by kernel_rfl)) ?_)))
         refine Or.inr ?_
         refine Or.inr ?_
         refine Or.inr ?_
         refine Or.inr ?_
         refine Or.inl (eX 0 (aI (aI rfl rfl) ?_))
         refine aT ?_
         obtain⟨dP,bQ,aQ⟩:=Sl.rows (r:=Wp.int.toRp) a4
         refine eX dP (aI bQ ?_)
         obtain⟨gC,b6,c⟩:=B0 c
         refine aI (F1 b6 (by first|rw[F2.length (show F2 (Wp.int.R O) ([]:List (List Value)) ([]:D0) from trivial),F2.length aQ]|exact congrArg (·+1) (F2.length (show F2 (Wp.int.R O) ([]:List (List Value)) ([]:D0) from trivial)))) ?_
         refine aT ?_
         obtain⟨ha,cf,c⟩:=B0 c
         obtain⟨bv,eC,bK,ds⟩:=A4 (F2.up (r:=Wp.opt.toRp) ac C) cf
         refine aI bv ?_
         obtain⟨ee,f8,eV,rfl,gv,c4⟩:=ds
         obtain⟨rfl,fv⟩:=Sl.len c4
         refine aT ?_
         intro gL cQ bX
         obtain⟨aX,aD,rfl,dE,bf,fT⟩:=V0.outS (r:=Wp.int.toRp) bX (F2.append (show F2 (Wp.int.R O) ([]:List (List Value)) ([]:D0) from trivial) aQ)
         refine eX _ (aI bK ?_)
         refine aT ?_
         exact I2 X ⟨(IntKind.i64.wrap (I+1)),u,(af.set (IntKind.i64.wrap ((IntKind.i64.wrap (0-y))-1)).toNat [.slice (some ⟨aX,0,none⟩) ((([]:D0)++al)).length aD]),(J.set (IntKind.i64.wrap ((IntKind.i64.wrap (0-y))-1)).toNat (some (([]:D0)++al))),rfl,rfl,((n.trans ac).trans bf),(I0 _),ao,(F2.set (p:=Wp.opt.R cQ) (a:=[.slice (some ⟨aX,0,none⟩) ((([]:D0)++al)).length aD]) (b:=some (([]:D0)++al)) (O0c dE) (IntKind.i64.wrap ((IntKind.i64.wrap (0-y))-1)).toNat (F2.up (r:=Wp.opt.toRp) (ac.trans bf) C)),c⟩
       ·refine trV c (A3 _ y cM 1 (by decide) f l) λhb c=>?_
        obtain⟨dW,cg,c⟩:=B0 c
        obtain⟨eD,aL,dt⟩:=H00 C cg (o0f F)
        refine aI (λq=>(aL q).1) ?_
        obtain⟨ef,f9,eW,rfl,cX,db⟩:=dt
        obtain⟨rfl,fx⟩:=Sl.len db
        refine eX _ (aI (λq=>(aL q).2) ?_)
        refine eX ((!dW.isNone)) (aI (λ_=>by rw[←cX];exact g0h _ _ _ rfl _ _ _) ?_)
        refine ifB c (λcy c=>?_) λcy c=>?_
        ·obtain rfl:=oJ c
         try dsimp only[L1,M1]at d
         obtain rfl:=oJ d
         exact⟨([.int .i64 0,.slice none 0 0]),rfl,(U0 (by decide) (Z02 C0 F)),(((j.trans g).trans i).trans n)⟩
        ·refine Or.inr (Or.inr (Or.inl (aI (aI (by kernel_rfl) (by kernel_rfl)) ?_)))
         refine Or.inr ?_
         refine Or.inr ?_
         refine Or.inr ?_
         refine Or.inr ?_
         refine Or.inl (eX 0 (aI (aI rfl rfl) ?_))
         refine aT ?_
         obtain⟨dQ,bR,aR⟩:=Sl.rows (r:=Wp.int.toRp) ai
         refine eX dQ (aI bR ?_)
         obtain⟨gD,b7,c⟩:=B0 c
         refine aI (F1 b7 (by first|rw[F2.length (show F2 (Wp.int.R F) ([]:List (List Value)) ([]:D0) from trivial),F2.length aR]|exact congrArg (·+1) (F2.length (show F2 (Wp.int.R F) ([]:List (List Value)) ([]:D0) from trivial)))) ?_
         refine aT ?_
         obtain⟨hc,ch,c⟩:=B0 c
         obtain⟨bx,eE,bL,du⟩:=A4 C ch
         refine aI bx ?_
         obtain⟨eg,ga,eY,rfl,gw,dc⟩:=du
         obtain⟨rfl,fy⟩:=Sl.len dc
         refine aT ?_
         intro gM cR bY
         obtain⟨aY,aE,rfl,dF,bg,fU⟩:=V0.outS (r:=Wp.int.toRp) bY (F2.append (show F2 (Wp.int.R F) ([]:List (List Value)) ([]:D0) from trivial) aR)
         refine eX _ (aI bL ?_)
         refine aT ?_
         exact I2 X ⟨(IntKind.i64.wrap (I+1)),u,(af.set (IntKind.i64.wrap (y-1)).toNat [.slice (some ⟨aY,0,none⟩) ((([]:D0)++S)).length aE]),(J.set (IntKind.i64.wrap (y-1)).toNat (some (([]:D0)++S))),rfl,rfl,(n.trans bg),(I0 _),ao,(F2.set (p:=Wp.opt.R cR) (a:=[.slice (some ⟨aY,0,none⟩) ((([]:D0)++S)).length aE]) (b:=some (([]:D0)++S)) (O0c dF) (IntKind.i64.wrap (y-1)).toNat (F2.up (r:=Wp.opt.toRp) bg C)),c⟩
     ·obtain rfl:=oJ c
      try dsimp only[S0,W0]at d
      intro gN fj bZ
      obtain⟨bt,bI,rfl,dG,dN,fV⟩:=V0.out (r:=C0.toRp) bZ (F2.ofOpt C)
      obtain rfl:=oJ d
      exact⟨([.int .i64 u,.slice bt (List.map (λo:Option D0=>o.getD ([]:D0)) J).length bI]),rfl,(U0 ao dG),((((j.trans g).trans i).trans n).trans dN)⟩
theorem P09(h:Hp)(b:Int)(u:K0 b)(d:Option Addr)(i f:Nat)(c:N0)(j:Y0.R h [.slice d i f] c)(r:Bool)(a:T9 b c=some r):
  Tr Tryz.prog 46 #[.int .i64 b,.slice d i f] h λv t=>v = .bool r/\t=h:=by
 obtain⟨rfl,G⟩:=Sl.len j
 unfold T9 at a
 refine Tr.forget (G2 (args:=[.int .i64 b,.slice d c.length f]) (fn:=Tryz.f46) rfl ?_)
 refine trM a (E05 _ b u d c.length f c j) ?_
 rintro C a K y ⟨E,rfl,g⟩
 obtain⟨L,M⟩:=C
 dsimp only at a g
 have A:Sub h y:=g.sub
 have z:=g.r
 obtain⟨l,m,o,I,p,n,rfl,rfl,w,x,k⟩:=M0 z
 obtain⟨rfl,H⟩:=Sl.len k
 try dsimp only at a
 refine trG a (λq=>M0f _ [.int .i64 l,.int .i64 m,.slice o n.length p] (l,m,n) (H0 w x k)) λD a=>?_
 obtain⟨J,s,a⟩:=B0 a
 have F:K0 D:=T0 s
 obtain rfl:=oJ a
 exact aI rfl A
theorem Q09(h:Hp)(c:List Value)(f:H1)(m:D3.R h c f)(r:Bool)(a:U9 f=some r):
  Tr Tryz.prog 21 #[.agg c.toArray] h λv j=>v = .bool r/\j=h:=by
 obtain⟨k,g,o,i,l,rfl,rfl,d,b⟩:=V2 m
 obtain⟨rfl,n⟩:=Sl.len b
 unfold U9 at a
 dsimp only at a
 refine Tr.forget (G2 (args:=[.agg #[.int .i64 k,.slice g l.length i]]) (fn:=Tryz.f21) rfl ?_)
 refine trV a (G01 _ _ _ (U0 d b)) λp a=>?_
 refine trG a (λq=>P09 _ _ d _ _ _ _ b) λs a=>?_
 obtain rfl:=oJ a
 exact aI rfl (Sub.refl _)
theorem N08(h:Hp)(l:List Value)(m:H1)(ac:D3.R h l m)(r:ByteArray)(a:n9 m=some r):
  Tr Tryz.prog 7 #[.agg l.toArray] h λv Q=>v = .string r/\Q=h:=by
 obtain⟨aa,p,aD,w,ab,rfl,rfl,f,d⟩:=V2 ac
 obtain⟨rfl,ax⟩:=Sl.len d
 unfold n9 at a
 dsimp only at a
 refine Tr.forget (G2 (args:=[.agg #[.int .i64 aa,.slice p ab.length w]]) (fn:=Tryz.f7) rfl ?_)
 refine trV a (G01 _ _ _ (U0 f d)) λaW a=>?_
 refine ifB a (λT a=>?_) λT a=>?_
 ·obtain rfl:=oJ a
  exact aI rfl (Sub.refl _)
 ·refine trV a (p03 _ _ _ (U0 f d)) λb a=>?_
  obtain⟨aK,K,a⟩:=B0 a
  have k:b.size<=9223372036854775807:=T0 K
  refine trM a (n0c _ _ _ (U0 f d)) ?_
  rintro ak a aV j ⟨am,rfl,n,c⟩
  obtain⟨a0,a3⟩:=ak
  dsimp only at a n
  obtain⟨a1,al,aE,an,a2,rfl,rfl,Y,o⟩:=V2 n
  obtain⟨rfl,ay⟩:=Sl.len o
  try dsimp only at a
  refine ifB a (λW a=>?_) λW a=>?_
  ·refine trV a (p03 _ _ _ (U0 Y o)) λi a=>?_
   obtain⟨aF,G,a⟩:=B0 a
   have Z:i.size<=9223372036854775807:=T0 G
   refine Or.inr ?_
   intro aQ ar C
   obtain⟨q,x,rfl,ad,aM,az⟩:=V0.out (r:=Wp.str.toRp) C (show F2 (Wp.str.R j) ([[.string b],[.string (⟨#[105,110,118,101,114,115,101]⟩:ByteArray)],[.string i]]:List (List Value)) [b,(⟨#[105,110,118,101,114,115,101]⟩:ByteArray),i] from⟨⟨rfl,k⟩,⟨⟨rfl,(by decide)⟩,⟨⟨rfl,Z⟩,trivial⟩⟩⟩)
   obtain⟨ah,M,a⟩:=B0 a
   refine Tr.val (D05 _ q ([b,(⟨#[105,110,118,101,114,115,101]⟩:ByteArray),i]).length x [b,(⟨#[105,110,118,101,114,115,101]⟩:ByteArray),i] ad _  M) (aI rfl ?_)
   obtain⟨aG,H,a⟩:=B0 a
   have ao:ah.size<=9223372036854775807:=T0 H
   obtain rfl:=oJ a
   exact aI rfl c
  ·refine trV a (Q09 _ _ _ (U0 f (Y0.mono c d))) λaX a=>?_
   refine ifB a (λS a=>?_) λS a=>?_
   ·refine Or.inr ?_
    intro aR au D
    obtain⟨s,y,rfl,ae,aN,aA⟩:=V0.out (r:=Wp.str.toRp) D (show F2 (Wp.str.R j) ([[.string b],[.string (⟨#[105,110,106,101,99,116,105,118,101]⟩:ByteArray)]]:List (List Value)) [b,(⟨#[105,110,106,101,99,116,105,118,101]⟩:ByteArray)] from⟨⟨rfl,k⟩,⟨⟨rfl,(by decide)⟩,trivial⟩⟩)
    obtain⟨g,N,a⟩:=B0 a
    refine Tr.val (D05 _ s ([b,(⟨#[105,110,106,101,99,116,105,118,101]⟩:ByteArray)]).length y [b,(⟨#[105,110,106,101,99,116,105,118,101]⟩:ByteArray)] ae _  N) (aI rfl ?_)
    obtain⟨aH,I,a⟩:=B0 a
    have X:g.size<=9223372036854775807:=T0 I
    refine trV a (u02 _ _ _ (U0 f (Y0.mono c d))) λaY a=>?_
    refine ifB a (λU a=>?_) λU a=>?_
    ·refine Or.inr ?_
     intro aS av E
     obtain⟨t,z,rfl,af,aO,aB⟩:=V0.out (r:=Wp.str.toRp) E (show F2 (Wp.str.R j) ([[.string g],[.string (⟨#[115,117,114,106,101,99,116,105,118,101]⟩:ByteArray)]]:List (List Value)) [g,(⟨#[115,117,114,106,101,99,116,105,118,101]⟩:ByteArray)] from⟨⟨rfl,X⟩,⟨⟨rfl,(by decide)⟩,trivial⟩⟩)
     obtain⟨ai,O,a⟩:=B0 a
     refine Tr.val (D05 _ t ([g,(⟨#[115,117,114,106,101,99,116,105,118,101]⟩:ByteArray)]).length z [g,(⟨#[115,117,114,106,101,99,116,105,118,101]⟩:ByteArray)] af _  O) (aI rfl ?_)
     obtain⟨aJ,J,a⟩:=B0 a
     have ap:ai.size<=9223372036854775807:=T0 J
     obtain rfl:=oJ a
     exact aI rfl c
    ·obtain rfl:=oJ a
     exact aI rfl c
   ·refine trV a (u02 _ _ _ (U0 f (Y0.mono c d))) λaZ a=>?_
    refine ifB a (λV a=>?_) λV a=>?_
    ·refine Or.inr ?_
     intro aU aw F
     obtain⟨u,A,rfl,ag,aP,aC⟩:=V0.out (r:=Wp.str.toRp) F (show F2 (Wp.str.R j) ([[.string b],[.string (⟨#[115,117,114,106,101,99,116,105,118,101]⟩:ByteArray)]]:List (List Value)) [b,(⟨#[115,117,114,106,101,99,116,105,118,101]⟩:ByteArray)] from⟨⟨rfl,k⟩,⟨⟨rfl,(by decide)⟩,trivial⟩⟩)
     obtain⟨aj,P,a⟩:=B0 a
     refine Tr.val (D05 _ u ([b,(⟨#[115,117,114,106,101,99,116,105,118,101]⟩:ByteArray)]).length A [b,(⟨#[115,117,114,106,101,99,116,105,118,101]⟩:ByteArray)] ag _  P) (aI rfl ?_)
     obtain⟨aL,L,a⟩:=B0 a
     have aq:aj.size<=9223372036854775807:=T0 L
     obtain rfl:=oJ a
     exact aI rfl c
    ·obtain rfl:=oJ a
     exact aI rfl c
end Go.Proofs.YtohcdjhocpakkaaGreat
