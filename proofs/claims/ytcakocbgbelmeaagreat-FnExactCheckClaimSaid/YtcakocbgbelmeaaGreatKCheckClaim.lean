/- CheckClaim, of the spec and of the code. -/
import Derived.Test.YtcakocbgbelmeaaGreatPart25
import Derived.Test.YtcakocbgbelmeaaGreatPart23
import Derived.Test.YtcakocbgbelmeaaGreatPart28
import Derived.Test.YtcakocbgbelmeaaGreatPart29
namespace Go.Proofs.YtcakocbgbelmeaaGreat
open Go.H
set_option linter.unusedVariables false
theorem T0g{x:S00}(hm:X02 x≤1048576):b0f x:=by
 obtain⟨a,r,ws,w,ks,⟨gr,gn,es⟩,n⟩:=x
 have e:X02 (a,r,ws,w,ks,(gr,gn,es),n)=H5 ws+w.length+ks.length+es.length:=rfl
 rw[e]at hm
 have:=U0j (ws:=ws) (n:=1048576) (by omega) (by decide)
 exact⟨this.1,this.2,by simp only;omega,by simp only;omega⟩
theorem f0c(h:Hp)(cs:List Value)(x:S00)(hx:u01.R h cs x)(hm:X02 x≤1048576):
  Tr Tryz.prog 15 #[.agg cs.toArray] h fun v h'=>v = .bool (p04 x)∧h'=h :=
 R0a h cs x hx _ (V0b x (T0g hm))
theorem g0c(h:Hp)(cs:List Value)(x:S00)(hx:u01.R h cs x)(hm:X02 x≤1048576):
  Tr Tryz.prog 17 #[.agg cs.toArray] h fun v h'=>v = .bool (p04 x)∧h'=h :=
 U0a h cs x hx _ (W0b x (T0g hm))
end Go.Proofs.YtcakocbgbelmeaaGreat
