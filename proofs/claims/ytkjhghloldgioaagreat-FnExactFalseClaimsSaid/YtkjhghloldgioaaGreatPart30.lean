/- Texts of the claim, joined: CheckClaim, of the spec and of the code and others. -/
import Derived.Test.YtkjhghloldgioaaGreatPart25
import Derived.Test.YtkjhghloldgioaaGreatPart24
import Derived.Test.YtkjhghloldgioaaGreatPart28
import Derived.Test.YtkjhghloldgioaaGreatPart29
namespace Go.Proofs.YtkjhghloldgioaaGreat
open Go.H
set_option linter.unusedVariables false
theorem g0p{x:t9}(f:w9 x<=1048576):z07 x:=by
 obtain⟨a,r,ws,w,b,⟨d,c,es⟩,n⟩:=x
 have e:w9 (a,r,ws,w,b,(d,c,es),n)=i6 ws+w.length+b.length+es.length:=rfl
 rw[e]at f
 have:=D0l (ws:=ws) (n:=1048576) (by omega) (by decide)
 exact⟨this.1,this.2,by simp only;omega,by simp only;omega⟩
theorem J0g{x:A4}(d:K00 x<=1048576):D0j x:=by
 obtain⟨v,a⟩:=x
 have e:K00 (v,a)=a.length+D5 w9 a:=rfl
 rw[e]at d
 exact⟨by simp only;omega,λc b=>g0p (by have:=F0b (m:=w9) b;simp only at this;omega)⟩
theorem H0l:∀ l:List Int,D5 (λ_=>1) l=l.length
 | []=>rfl
 |x::l=>by simp only[D5,H0l l,List.length_cons];omega
theorem f0h(x:A4)(h:K00 x<=1048576):U0 (K3 x)<=16777216:=by
 have a:=(J0g h).1
 have b:=d0o x.1 x.2 0
 unfold U0
 rw[H0l]
 unfold K3
 omega
theorem t0c(h:Hp)(cs:List Value)(x:A4)(c:l5.R h cs x)(b:K00 x<=1048576):
  Tr Tryz.prog 20 #[.agg cs.toArray] h λv a=>I0.R a [v] (K3 x)/\Sub h a:=by
 refine Tr.mono (X0a h cs x c _ (B0l x (J0g b))) ?_
 rintro v k ⟨e,g,f,rfl,r,d⟩
 exact⟨r,d⟩
theorem J06(h:Hp)(cs:List Value)(x:A4)(c:l5.R h cs x)(b:K00 x<=1048576):
  Tr Tryz.prog 21 #[.agg cs.toArray] h λv a=>New I0 h a [v] (K3 x):=by
 refine Tr.mono (Y0a h cs x c _ (C0l x (J0g b))) ?_
 rintro v k ⟨d,f,e,rfl,r⟩
 exact r
end Go.Proofs.YtkjhghloldgioaaGreat
