/- SubgroupLine, of the spec and of the code. -/
import Derived.Test.YtkjhghloldgioaaGreatPart27
import Derived.Test.YtkjhghloldgioaaGreatPart30
import Derived.Test.YtkjhghloldgioaaGreatPart31
namespace Go.Proofs.YtkjhghloldgioaaGreat
open Go.H
set_option linter.unusedVariables false
theorem U0p{x:j0}(h:p05 x<=1048576):x.2.2.length<=140737488355328:=by
 unfold p05 C04 at h
 omega
theorem s09(h:Hp)(cs:List Value)(x:j0)(hx:Z0.R h cs x)(hm:p05 x<=1048576):
  Tr Tryz.prog 46 #[.agg cs.toArray] h λv h'=>v = .string (O00 x)/\h'=h :=
 o08 h cs x hx _ (n09 x (U0p hm))
theorem t09(h:Hp)(cs:List Value)(x:j0)(hx:Z0.R h cs x)(hm:p05 x<=1048576):
  Tr Tryz.prog 47 #[.agg cs.toArray] h λv h'=>v = .string (O00 x)/\h'=h :=
 r08 h cs x hx _ (o09 x (U0p hm))
end Go.Proofs.YtkjhghloldgioaaGreat
