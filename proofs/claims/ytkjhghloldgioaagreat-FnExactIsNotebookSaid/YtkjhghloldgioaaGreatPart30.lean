/- Texts of the claim, joined: CheckClaim, of the spec and of the code and others. -/
import Derived.Test.YtkjhghloldgioaaGreatPart24
import Derived.Test.YtkjhghloldgioaaGreatPart25
import Derived.Test.YtkjhghloldgioaaGreatPart28
import Derived.Test.YtkjhghloldgioaaGreatPart29
namespace Go.Proofs.YtkjhghloldgioaaGreat
open Go.H
set_option linter.unusedVariables false
theorem Q0n{x:W9}(f:t9 x<=1048576):C06 x:=by
 obtain⟨a,r,ws,w,b,⟨d,c,es⟩,n⟩:=x
 have e:t9 (a,r,ws,w,b,(d,c,es),n)=I5 ws+w.length+b.length+es.length:=rfl
 rw[e]at f
 have:=u0k (ws:=ws) (n:=1048576) (by omega) (by decide)
 exact⟨this.1,this.2,by simp only;omega,by simp only;omega⟩
theorem y0k{x:R3}(d:x01 x<=1048576):d0b x:=by
 obtain⟨v,a⟩:=x
 have e:x01 (v,a)=a.length+U01 t9 a:=rfl
 rw[e]at d
 exact⟨by simp only;omega,λc b=>Q0n (by have:=D0a (m:=t9) b;simp only at this;omega)⟩
theorem w0c(h:Hp)(cs:List Value)(x:R3)(c:Y5.R h cs x)(b:x01 x<=1048576):
  Tr Tryz.prog 16 #[.agg cs.toArray] h λv a=>v = .bool (t02 x)/\a=h :=
 o0b h cs x c _ (u0i x (y0k b))
theorem x0c(h:Hp)(cs:List Value)(x:R3)(c:Y5.R h cs x)(b:x01 x<=1048576):
  Tr Tryz.prog 18 #[.agg cs.toArray] h λv a=>v = .bool (t02 x)/\a=h :=
 p0b h cs x c _ (v0i x (y0k b))
end Go.Proofs.YtkjhghloldgioaaGreat
