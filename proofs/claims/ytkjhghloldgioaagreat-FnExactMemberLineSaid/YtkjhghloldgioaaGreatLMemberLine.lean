/- What the law on MemberLine does. -/
import Derived.Test.YtkjhghloldgioaaGreatKMemberLine
import Derived.Test.YtkjhghloldgioaaGreatPart17
namespace Go.Proofs.YtkjhghloldgioaaGreat
open Go.H
set_option linter.unusedVariables false
set_option linter.unusedSimpArgs false
set_option maxRecDepth 10000
theorem I0b(h:Hp)(N:List Value)(ay:j0)(ak:Y0.R h N ay)(G:Value)(d:F0)(o:T0.R h [G] d):
  Tr Tryz.prog 7 #[.agg N.toArray,G] h λv ah=>v = .bool true/\Sub h ah:=by
 obtain⟨b,c,j,p,k,f,rfl,rfl,z,A,C⟩:=C0 ak
 obtain⟨x,am,y,ad⟩:=Wp.slice_cell o
 cases ad
 refine C2 (args:=[.agg #[.int .i64 b,.int .i64 c,.slice j p k],.slice x am y]) (fn:=Tryz.f7) rfl ?_
 obtain⟨ac,_⟩:=Sl.len o
 subst ac
 refine aI (λa=>aI rfl (Sub.refl _)) (λa=>?_)
 have aj:d.length<=1048576:=by simp at a;omega
 have n:m0n d<=1048576:=aj
 refine Tr.val (r0m _ [.int .i64 b,.int .i64 c,.slice j p k] (b,c,f) (1048576) (l0 z A C) ⟨by omega,by omega⟩) ?_
 refine aI (λa=>aI rfl (Sub.refl _)) (λa=>?_)
 have al:0<=szR (1048576) (C04 (b,c,f):Nat):=by simpa using a
 have aH:=i0n al
 have m:C04 (b,c,f)<=1048576:=by omega
 refine Tr.mono (X0a _ [.int .i64 b,.int .i64 c,.slice j p k] (b,c,f) (l0 z A C) m) ?_
 rintro G aL ⟨az,rfl,g⟩
 obtain⟨au,aw,U,an,Y,aV,rfl,aC,_,_,_⟩:=C0 g.r
 refine Tr.mono (S0d _ x d.length y d (T0.mono g.sub o) n) ?_
 rintro G aM i
 obtain⟨X,aq,ab,af⟩:=Wp.slice_cell i.r
 cases af
 refine Tr.val (V0a _ [.int .i64 au,.int .i64 aw,.slice U an Y] (b,c,f) (Y0.mono i.sub g.r) m X aq ab d i.r n) ?_
 refine Tr.mono (X0a _ [.int .i64 b,.int .i64 c,.slice j p k] (b,c,f) (Y0.mono (g.sub.trans i.sub) (l0 z A C)) m) ?_
 rintro aP aN ⟨aA,rfl,u⟩
 have F:=u.sub
 obtain⟨S,T,I,O,K,aW,rfl,aD,_,_,_⟩:=C0 u.r
 refine Tr.mono (S0d _ x d.length y d (T0.mono ((g.sub.trans i.sub).trans F) o) n) ?_
 rintro aU aO w
 have s:=w.sub
 obtain⟨J,Q,M,ag⟩:=Wp.slice_cell w.r
 cases ag
 refine Tr.val (W0a _ [.int .i64 S,.int .i64 T,.slice I O K] (b,c,f) (Y0.mono s u.r) m J Q M d w.r n) ?_
 refine aI (λa=>?_) (λa=>?_)
 ·exact absurd a (by simp)
 clear a
 refine Or.inr (Or.inr (Or.inr (Or.inl (aI (aI (by kernel_rfl) (by kernel_rfl)) ?_))))
 refine Or.inr (eX (λv l=>∃ cs,v = .agg cs.toArray/\Y0.R l cs (b,c,f)) (aI (λv aF aG ar l=>by obtain⟨cs,e,q⟩:=l;exact⟨cs,e,Y0.mono ar q⟩) (aI ?_ ?_)))
 ·intro D E
  refine Tr.mono (X0a D [.int .i64 b,.int .i64 c,.slice j p k] (b,c,f) (Y0.mono ((((g.sub.trans i.sub).trans F).trans s).trans E) (l0 z A C)) m) ?_
  rintro v ai ⟨L,rfl,P⟩
  exact aI m00 (aI P.sub ⟨L,rfl,P.r⟩)
 refine Or.inr (eX (λv l=>v = .bool true) (aI (λ_ _ _ _ e=>e) (aI ?_ ?_)))
 ·rintro D E v ⟨L,rfl,q⟩
  obtain⟨av,ax,V,ao,Z,aX,rfl,aB,_,_,_⟩:=C0 q
  refine Tr.mono (t0m D [.int .i64 S,.int .i64 T,.slice I O K] [.int .i64 av,.int .i64 ax,.slice V ao Z] (b,c,f) (b,c,f) (Y0.mono (s.trans E) u.r) q) ?_
  rintro v ai ⟨rfl,rfl⟩
  exact aI m00 (aI (Sub.refl _) (by simp))
 refine Or.inr (eX (λv l=>v = .bool false) (aI (λ_ _ _ _ e=>e) (aI ?_ ?_)))
 ·rintro D E v rfl
  exact aI m00 (aI (Sub.refl _) rfl)
 rintro aJ H aS rfl aR rfl aQ aE
 refine aI (λa=>?_) (λa=>?_)
 ·cases a
 clear a
 refine Tr.mono (S0d _ x d.length y d (T0.mono ((((g.sub.trans i.sub).trans F).trans s).trans H) o) n) ?_
 rintro aT aK t
 obtain⟨W,ap,aa,ae⟩:=Wp.slice_cell t.r
 cases ae
 refine Tr.val (m0o _ J Q M W ap aa d d (T0.mono (H.trans t.sub) w.r) t.r) ?_
 refine aI (λa=>?_) (λa=>?_)
 ·exact absurd a (by simp)
 clear a
 exact aI rfl (((((g.sub.trans i.sub).trans F).trans s).trans H).trans t.sub)
end Go.Proofs.YtkjhghloldgioaaGreat
