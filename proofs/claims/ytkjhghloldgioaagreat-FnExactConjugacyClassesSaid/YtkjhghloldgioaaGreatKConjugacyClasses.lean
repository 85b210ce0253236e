/- ConjugacyClasses, of the spec and of the code. -/
import Derived.Test.YtkjhghloldgioaaGreatPart24
import Derived.Test.YtkjhghloldgioaaGreatPart25
import Derived.Test.YtkjhghloldgioaaGreatPart27
namespace Go.Proofs.YtkjhghloldgioaaGreat
open Go.H
set_option linter.unusedVariables false
theorem Z0g{l:B5}(h:C9 l<=1048576):V0g l:=by
 unfold C9 at h
 refine⟨by omega,λg hg=>?_⟩
 have:=H0a (m:=t8) hg
 unfold t8 P01 at this h
 omega
theorem X0f:∀ l:List Int,N3 (λ_=>1) l=l.length
 | []=>rfl
 |x::l=>by simp only[N3,X0f l,List.length_cons];omega
def Z1(l:B5):Q6:=N05 l
theorem M06(l:B5)(h:C9 l<=1048576):l03 (Z1 l)<=16777216:=by
 have h1:=(Z0g h).1
 have h2:=k0i l l.length 0 []
 have h3:∀ o:List (List Int),N3 Z6 o=N3 List.length o:=λo=>by
  induction o with
  |nil=>rfl
  |cons c r ih=>simp only[N3,ih,Z6,X0f]
 unfold l03
 rw[h3]
 unfold Z1 N05
 simp only[N3]at h2
 omega
theorem t04(h:Hp)(a:Option Addr)(n c:Nat)(l:B5)(hx:C5.R h [.slice a n c] l)(hm:C9 l<=1048576):
  Tr Tryz.prog 64 #[.slice a n c] h λv h'=>l8.R h' [v] (Z1 l)/\Sub h h':=by
 refine Tr.mono (Q03 h a n c l hx _ (T0b l (Z0g hm))) ?_
 rintro v k ⟨a0,n0,c0,rfl,r⟩
 exact⟨r.r,r.sub⟩
theorem g01(h:Hp)(a:Option Addr)(n c:Nat)(l:B5)(hx:C5.R h [.slice a n c] l)(hm:C9 l<=1048576):
  Tr Tryz.prog 66 #[.slice a n c] h λv h'=>New l8 h h' [v] (Z1 l):=by
 refine Tr.mono (S03 h a n c l hx _ (U0b l (Z0g hm))) ?_
 rintro v k ⟨a0,n0,c0,rfl,r⟩
 exact r
end Go.Proofs.YtkjhghloldgioaaGreat
