/- MemberLine, of the spec and of the code. -/
import Derived.Test.YtkjhghloldgioaaGreatPart25
import Derived.Test.YtkjhghloldgioaaGreatPart28
namespace Go.Proofs.YtkjhghloldgioaaGreat
open Go.H
set_option linter.unusedVariables false
theorem E0p{x:j0}(h:C04 x<=1048576):x.2.2.length<=1099511627776:=by
 unfold C04 S03 at h
 omega
theorem V0a(h:Hp)(cs:List Value)(x:j0)(f:Y0.R h cs x)(d:C04 x<=1048576)(a:Option Addr)(n c:Nat)(w:F0)(e:T0.R h [.slice a n c] w)(g:w.length<=1048576):
  Tr Tryz.prog 42 #[.agg cs.toArray,.slice a n c] h λv b=>v = .string (p01 x w)/\b=h :=
 J09 h cs x f a n c w e _ (H0a x (E0p d) w (by omega))
theorem W0a(h:Hp)(cs:List Value)(x:j0)(f:Y0.R h cs x)(d:C04 x<=1048576)(a:Option Addr)(n c:Nat)(w:F0)(e:T0.R h [.slice a n c] w)(g:w.length<=1048576):
  Tr Tryz.prog 44 #[.agg cs.toArray,.slice a n c] h λv b=>v = .string (p01 x w)/\b=h :=
 M09 h cs x f a n c w e _ (I0a x (E0p d) w (by omega))
end Go.Proofs.YtkjhghloldgioaaGreat
