/- What the law on MeetLine does. -/
import Derived.Test.YtkjhghloldgioaaGreatKMeetLine
import Derived.Test.YtkjhghloldgioaaGreatPart19
namespace Go.Proofs.YtkjhghloldgioaaGreat
open Go.H
set_option linter.unusedVariables false
set_option linter.unusedSimpArgs false
set_option maxRecDepth 10000
theorem c0g(h:Hp)(aa:List Value)(aO:j0)(av:V0.R h aa aO)(ab:List Value)(aP:j0)(aw:V0.R h ab aP):
  Tr Tryz.prog 13 #[.agg aa.toArray,.agg ab.toArray] h λv au=>v = .bool true/\Sub h au:=by
 obtain⟨b,c,p,z,u,i,rfl,rfl,G,I,K⟩:=H0 av
 obtain⟨d,f,t,A,w,l,rfl,rfl,H,J,L⟩:=H0 aw
 refine I3 (args:=[.agg #[.int .i64 b,.int .i64 c,.slice p z u],.agg #[.int .i64 d,.int .i64 f,.slice t A w]]) (fn:=Tryz.f13) rfl ?_
 refine Tr.val (s0h _ [.int .i64 b,.int .i64 c,.slice p z u] (b,c,i) (1048576) (l0 G I K) ⟨by omega,by omega⟩) ?_
 refine aI (λg=>aI rfl (Sub.refl _)) (λg=>?_)
 have ax:0<=szR (1048576) (j02 (b,c,i):Nat):=by simpa using g
 have aY:=A0l ax
 have x:j02 (b,c,i)<=1048576:=by omega
 refine Tr.val (s0h _ [.int .i64 d,.int .i64 f,.slice t A w] (d,f,l) (szR (1048576) (j02 (b,c,i):Nat)) (l0 H J L) ⟨by omega,by omega⟩) ?_
 refine aI (λg=>aI rfl (Sub.refl _)) (λg=>?_)
 have ay:0<=szR (szR (1048576) (j02 (b,c,i):Nat)) (j02 (d,f,l):Nat):=by simpa using g
 have aZ:=A0l ay
 have y:j02 (d,f,l)<=1048576:=by omega
 refine Or.inr (Or.inr (Or.inr (Or.inl (aI (aI (by kernel_rfl) (by kernel_rfl)) ?_))))
 refine Or.inr (eX (λv a=>∃ cs,v = .agg cs.toArray/\V0.R a cs (b,c,i)) (aI (λv P Q s a=>by obtain⟨cs,e,q⟩:=a;exact⟨cs,e,V0.mono s q⟩) (aI ?_ ?_)))
 ·intro j k
  refine Tr.mono (o04 j [.int .i64 b,.int .i64 c,.slice p z u] (b,c,i) (V0.mono k (l0 G I K)) x) ?_
  rintro v o ⟨n,rfl,m⟩
  exact aI g03 (aI m.sub ⟨n,rfl,m.r⟩)
 refine Or.inr (eX (λv a=>∃ cs,v = .agg cs.toArray/\V0.R a cs (d,f,l)) (aI (λv P Q s a=>by obtain⟨cs,e,q⟩:=a;exact⟨cs,e,V0.mono s q⟩) (aI ?_ ?_)))
 ·intro j k
  refine Tr.mono (o04 j [.int .i64 d,.int .i64 f,.slice t A w] (d,f,l) (V0.mono k (l0 H J L)) y) ?_
  rintro v o ⟨n,rfl,m⟩
  exact aI g03 (aI m.sub ⟨n,rfl,m.r⟩)
 refine Or.inr (eX (λv a=>v = .string (U01 (b,c,i) (d,f,l))) (aI (λ_ _ _ _ e=>e) (aI ?_ ?_)))
 ·intro j k aC ac aD ad
  obtain⟨aQ,rfl,ag⟩:=ac
  obtain⟨aJ,aL,am,az,ao,bc,rfl,aU,_,_,_⟩:=H0 ag
  obtain⟨aR,rfl,ah⟩:=ad
  obtain⟨aK,aM,an,aA,ap,bd,rfl,aV,_,_,_⟩:=H0 ah
  refine Tr.mono (O0f _ [.int .i64 aJ,.int .i64 aL,.slice am az ao] (b,c,i) ag x [.int .i64 aK,.int .i64 aM,.slice an aA ap] (d,f,l) ah y) ?_
  rintro v o ⟨rfl,rfl⟩
  exact aI g03 (aI (Sub.refl _) rfl)
 refine Or.inr (eX (λv a=>v = .string (U01 (b,c,i) (d,f,l))) (aI (λ_ _ _ _ e=>e) (aI ?_ ?_)))
 ·rintro j k v rfl
  exact aI g03 (aI (Sub.refl _) rfl)
 rintro a0 D ba rfl bb rfl aD ad aC ac
 refine Tr.mono (o04 _ [.int .i64 b,.int .i64 c,.slice p z u] (b,c,i) (V0.mono D (l0 G I K)) x) ?_
 rintro aE a3 ⟨aS,rfl,E⟩
 have M:=E.sub
 obtain⟨ai,ak,W,ae,Y,be,rfl,aW,_,_,_⟩:=H0 E.r
 refine Tr.mono (o04 _ [.int .i64 d,.int .i64 f,.slice t A w] (d,f,l) (V0.mono (D.trans M) (l0 H J L)) y) ?_
 rintro aE a4 ⟨aT,rfl,F⟩
 have C:=F.sub
 obtain⟨aj,al,X,af,Z,bf,rfl,aX,_,_,_⟩:=H0 F.r
 refine Tr.val (P0f _ [.int .i64 ai,.int .i64 ak,.slice W ae Y] (b,c,i) (V0.mono C E.r) x [.int .i64 aj,.int .i64 al,.slice X af Z] (d,f,l) F.r y) ?_
 refine aI (λg=>?_) (λg=>?_)
 ·exact absurd g (by simp)
 clear g
 refine Or.inr (Or.inr (Or.inr (Or.inl (aI (aI (by kernel_rfl) (by kernel_rfl)) ?_))))
 refine Or.inr (eX (λv a=>∃ cs,v = .agg cs.toArray/\V0.R a cs (b,c,i)) (aI (λv P Q s a=>by obtain⟨cs,e,q⟩:=a;exact⟨cs,e,V0.mono s q⟩) (aI ?_ ?_)))
 ·intro j k
  refine Tr.mono (o04 j [.int .i64 b,.int .i64 c,.slice p z u] (b,c,i) (V0.mono (((D.trans M).trans C).trans k) (l0 G I K)) x) ?_
  rintro v o ⟨n,rfl,m⟩
  exact aI g03 (aI m.sub ⟨n,rfl,m.r⟩)
 refine Or.inr (eX (λv a=>v = .bool true) (aI (λ_ _ _ _ e=>e) (aI ?_ ?_)))
 ·rintro j k v ⟨n,rfl,q⟩
  obtain⟨U,V,N,S,O,aN,rfl,aq,_,_,_⟩:=H0 q
  refine Tr.mono (t0h j [.int .i64 ai,.int .i64 ak,.slice W ae Y] [.int .i64 U,.int .i64 V,.slice N S O] (b,c,i) (b,c,i) (V0.mono (C.trans k) E.r) q) ?_
  rintro v o ⟨rfl,rfl⟩
  exact aI g03 (aI (Sub.refl _) (by simp))
 refine Or.inr (eX (λv a=>v = .bool false) (aI (λ_ _ _ _ e=>e) (aI ?_ ?_)))
 ·rintro j k v rfl
  exact aI g03 (aI (Sub.refl _) rfl)
 rintro a1 T aH rfl aG rfl aF ar
 refine aI (λg=>?_) (λg=>?_)
 ·cases g
 clear g
 refine Or.inr (Or.inr (Or.inr (Or.inl (aI (aI (by kernel_rfl) (by kernel_rfl)) ?_))))
 refine Or.inr (eX (λv a=>∃ cs,v = .agg cs.toArray/\V0.R a cs (d,f,l)) (aI (λv P Q s a=>by obtain⟨cs,e,q⟩:=a;exact⟨cs,e,V0.mono s q⟩) (aI ?_ ?_)))
 ·intro j k
  refine Tr.mono (o04 j [.int .i64 d,.int .i64 f,.slice t A w] (d,f,l) (V0.mono ((((D.trans M).trans C).trans T).trans k) (l0 H J L)) y) ?_
  rintro v o ⟨n,rfl,m⟩
  exact aI g03 (aI m.sub ⟨n,rfl,m.r⟩)
 refine Or.inr (eX (λv a=>v = .bool true) (aI (λ_ _ _ _ e=>e) (aI ?_ ?_)))
 ·rintro j k v ⟨n,rfl,q⟩
  obtain⟨U,V,N,S,O,aN,rfl,aq,_,_,_⟩:=H0 q
  refine Tr.mono (t0h j [.int .i64 aj,.int .i64 al,.slice X af Z] [.int .i64 U,.int .i64 V,.slice N S O] (d,f,l) (d,f,l) (V0.mono (T.trans k) F.r) q) ?_
  rintro v o ⟨rfl,rfl⟩
  exact aI g03 (aI (Sub.refl _) (by simp))
 refine Or.inr (eX (λv a=>v = .bool false) (aI (λ_ _ _ _ e=>e) (aI ?_ ?_)))
 ·rintro j k v rfl
  exact aI g03 (aI (Sub.refl _) rfl)
 rintro a2 aB aH rfl aG rfl aF ar
 refine aI (λg=>?_) (λg=>?_)
 ·cases g
 clear g
 exact aI rfl ((((D.trans M).trans C).trans T).trans aB)
end Go.Proofs.YtkjhghloldgioaaGreat
