/- What the law on IsNotebook does. -/
import Derived.Test.YtkjhghloldgioaaGreatPart30
import Derived.Test.YtkjhghloldgioaaGreatPart17
namespace Go.Proofs.YtkjhghloldgioaaGreat
open Go.H
set_option linter.unusedVariables false
set_option linter.unusedSimpArgs false
set_option maxRecDepth 10000
theorem x0d(h:Hp)(w:List Value)(P:R3)(H:Y5.R h w P):
  Tr Tryz.prog 3 #[.agg w.toArray] h λv F=>v = .bool true/\Sub h F:=by
 obtain⟨a,d,k,f,b,rfl,rfl,m,n⟩:=t7 H
 refine O1 (args:=[.agg #[.int .i64 a,.slice d k f]]) (fn:=Tryz.f3) rfl ?_
 refine Tr.val (y0i _ [.int .i64 a,.slice d k f] (a,b) (1048576) (y01 m n) ⟨by omega,by omega⟩) ?_
 refine aI (λc=>aI rfl (Sub.refl _)) (λc=>?_)
 have I:0<=szR (1048576) (x01 (a,b):Nat):=by simpa using c
 have Z:=X06 I
 have i:x01 (a,b)<=1048576:=by omega
 refine Tr.mono (g07 _ [.int .i64 a,.slice d k f] (a,b) (y01 m n) i) ?_
 rintro ad aa ⟨Q,rfl,j⟩
 obtain⟨N,B,J,D,ai,rfl,U,_,_⟩:=t7 j.r
 refine Tr.val (w0c _ [.int .i64 N,.slice B J D] (a,b) j.r i) ?_
 refine Tr.mono (g07 _ [.int .i64 a,.slice d k f] (a,b) (Y5.mono j.sub (y01 m n)) i) ?_
 rintro ae ac ⟨S,rfl,l⟩
 have z:=l.sub
 obtain⟨A,s,x,t,aj,rfl,V,_,_⟩:=t7 l.r
 refine Tr.val (x0c _ [.int .i64 A,.slice s x t] (a,b) l.r i) ?_
 refine aI (λc=>?_) (λc=>?_)
 ·exact absurd c (by simp)
 clear c
 refine Or.inr (Or.inr (Or.inr (Or.inl (aI (aI (by kernel_rfl) (by kernel_rfl)) ?_))))
 refine Or.inr (eX (λv g=>∃ cs,v = .agg cs.toArray/\Y5.R g cs (a,b)) (aI (λv X Y L g=>by obtain⟨cs,e,q⟩:=g;exact⟨cs,e,Y5.mono L q⟩) (aI ?_ ?_)))
 ·intro o p
  refine Tr.mono (g07 o [.int .i64 a,.slice d k f] (a,b) (Y5.mono ((j.sub.trans z).trans p) (y01 m n)) i) ?_
  rintro v G ⟨u,rfl,y⟩
  exact aI l7 (aI y.sub ⟨u,rfl,y.r⟩)
 refine Or.inr (eX (λv g=>v = .bool true) (aI (λ_ _ _ _ e=>e) (aI ?_ ?_)))
 ·rintro o p v ⟨u,rfl,q⟩
  obtain⟨O,C,K,E,ak,rfl,T,_,_⟩:=t7 q
  refine Tr.mono (z0i o [.int .i64 A,.slice s x t] [.int .i64 O,.slice C K E] (a,b) (a,b) (Y5.mono p l.r) q) ?_
  rintro v G ⟨rfl,rfl⟩
  exact aI l7 (aI (Sub.refl _) (by simp))
 refine Or.inr (eX (λv g=>v = .bool false) (aI (λ_ _ _ _ e=>e) (aI ?_ ?_)))
 ·rintro o p v rfl
  exact aI l7 (aI (Sub.refl _) rfl)
 rintro ab M ah rfl ag rfl af W
 refine aI (λc=>?_) (λc=>?_)
 ·cases c
 clear c
 exact aI rfl ((j.sub.trans z).trans M)
end Go.Proofs.YtkjhghloldgioaaGreat
