/- ActionLine, of the spec and of the code. -/
import Derived.Test.YtknoadmdnjaocaaGreatPart24
import Derived.Test.YtknoadmdnjaocaaGreatPart27
import Derived.Test.YtknoadmdnjaocaaGreatPart28
namespace Go.Proofs.YtknoadmdnjaocaaGreat
open Go.H
set_option linter.unusedVariables false
theorem N0l {x : l0} (h : h03 x ≤ 1048576) : x.2.2.length ≤ 140737488355328 := by
 unfold h03 w02 at h
 omega
theorem Q08 (h : Hp) (cs : List Value) (x : l0) (hx : P0.R h cs x) (hm : h03 x ≤ 1048576) :
  Tr Tryz.prog 47 #[.agg cs.toArray] h fun v h' => v = .string (q00 x) ∧ h' = h :=
 L07 h cs x hx _ (F08 x (N0l hm))
theorem R08 (h : Hp) (cs : List Value) (x : l0) (hx : P0.R h cs x) (hm : h03 x ≤ 1048576) :
  Tr Tryz.prog 48 #[.agg cs.toArray] h fun v h' => v = .string (q00 x) ∧ h' = h :=
 N07 h cs x hx _ (G08 x (N0l hm))
end Go.Proofs.YtknoadmdnjaocaaGreat
