/- MeetLine, of the spec and of the code. -/
import Derived.Test.YtkjhghloldgioaaGreatPart27
import Derived.Test.YtkjhghloldgioaaGreatPart30
import Derived.Test.YtkjhghloldgioaaGreatWml2
namespace Go.Proofs.YtkjhghloldgioaaGreat
open Go.H
set_option linter.unusedVariables false
theorem K0i{x:j0}(h:j02 x<=1048576):x.2.2.length<=140737488355328:=by
 unfold j02 M04 at h
 omega
theorem O0f(h:Hp)(cs:List Value)(x:j0)(d:V0.R h cs x)(b:j02 x<=1048576)(ds:List Value)(y:j0)(e:V0.R h ds y)(c:j02 y<=1048576):
  Tr Tryz.prog 68 #[.agg cs.toArray,.agg ds.toArray] h λv a=>v = .string (U01 x y)/\a=h :=
 W0c h cs x d ds y e _ (H0f x y (K0i b) (K0i c))
theorem P0f(h:Hp)(cs:List Value)(x:j0)(d:V0.R h cs x)(b:j02 x<=1048576)(ds:List Value)(y:j0)(e:V0.R h ds y)(c:j02 y<=1048576):
  Tr Tryz.prog 69 #[.agg cs.toArray,.agg ds.toArray] h λv a=>v = .string (U01 x y)/\a=h :=
 a0d h cs x d ds y e _ (I0f x y (K0i b) (K0i c))
end Go.Proofs.YtkjhghloldgioaaGreat
