/- PutEntry, of the spec and of the code. -/
import Derived.Test.YtkjhghloldgioaaGreatPart23
import Derived.Test.YtkjhghloldgioaaGreatPart26
namespace Go.Proofs.YtkjhghloldgioaaGreat
open Go.H
set_option linter.unusedVariables false
theorem p0g{x:T0}(h:p6 x<=1048576):F00 x.2:=by
 unfold p6 p8 at h
 refine⟨by omega,λe a=>?_⟩
 have:=v07 (m:=a6) a
 unfold a6 Z5 I8 at this h
 exact⟨by omega,by omega⟩
theorem q0g:∀ l:K0,c4 j4 l=3*l.length
 | []=>rfl
 |e::l=>by have:=q0g l;simp only[c4,j4,this,List.length_cons];omega
theorem ce3(e:l4):U1 e=3+3*e.2.2.2.length:=by
 have:=q0g e.2.2.2
 unfold U1 F9 R7
 omega
theorem r0g(e:l4):∀ l:N0,c4 U1 (I00 e l)<=c4 U1 l+U1 e
 | []=>by simp[I00,c4]
 |x::r=>by
  have:=r0g e r
  unfold I00
  cases r8 x.1 e.1
  ·cases V9 x.1 e.1<;>simp only[cond_true,cond_false,c4]<;>omega
  ·simp only[cond_true,c4];omega
theorem C0h:∀ l:N0,c4 U1 l<=3*(l.length+c4 a6 l)
 | []=>by simp[c4]
 |e::l=>by
  have:=C0h l
  have h:=ce3 e
  simp only[c4,List.length_cons,h,a6,Z5,I8];omega
theorem z0c(x:T0)(a:ByteArray)(g:j0)(h:p6 x<=1048576)(i:a.size<=1048576)(d:Z5 g<=1048576):O4 (I1 x a g).1<=16777216:=by
 have b:O4 x<=3*p6 x:=C0h x.2
 have e:=r0g (a,g) x.2
 have c:=ce3 (a,g)
 have f:g.2.2.length<=1048576:=by unfold Z5 I8 at d;omega
 unfold I1
 cases M4 x&&(A7 a&&(decide (g.1=x.1)&&G5 g))
 ·exact Nat.le_trans b (by omega)
 ·rw[cond_true]
  cases decide (16<(I00 (a,g) x.2).length)
  ·have:O4 x=c4 U1 x.2:=rfl
   rw[cond_false]
   show c4 U1 (I00 (a,g) x.2)<=16777216
   simp only at c
   omega
  ·exact Nat.le_trans b (by omega)
theorem D0h{g:j0}(h:Z5 g<=1048576):g.2.2.length<=1048576:=by unfold Z5 I8 at h;omega
theorem f08(h:Hp)(cs:List Value)(x:T0)(i:O0.R h cs x)(d:p6 x<=1048576)(a:ByteArray)(j:a.size<=9223372036854775807)(f:a.size<=1048576)(ds:List Value)(g:j0)(c:C1.R h ds g)(e:Z5 g<=1048576):
  Tr Tryz.prog 49 #[.agg cs.toArray,.string a,.agg ds.toArray] h λv b=>∃ cs,v = .tuple #[.agg cs.toArray,.bool (I1 x a g).2]/\O0.R b cs (I1 x a g).1/\Sub h b :=
 x06 h cs x i a j ds g c _ (E0e x a g (p0g d) f (D0h e))
theorem Z02(h:Hp)(cs:List Value)(x:T0)(i:O0.R h cs x)(d:p6 x<=1048576)(a:ByteArray)(j:a.size<=9223372036854775807)(f:a.size<=1048576)(ds:List Value)(g:j0)(c:C1.R h ds g)(e:Z5 g<=1048576):
  Tr Tryz.prog 51 #[.agg cs.toArray,.string a,.agg ds.toArray] h λv b=>∃ cs,v = .tuple #[.agg cs.toArray,.bool (I1 x a g).2]/\New O0 h b cs (I1 x a g).1 :=
 y06 h cs x i a j ds g c _ (F0e x a g (p0g d) f (D0h e))
end Go.Proofs.YtkjhghloldgioaaGreat
