/- EnumerateCosets, IndexModulo and SizeOfGroup, of the spec and of the code. -/
import Derived.Test.YtfdlgbfeceodeaaGreatPart24
import Derived.Test.YtfdlgbfeceodeaaGreatPart27
import Derived.Test.YtfdlgbfeceodeaaGreatPart28
namespace Go.Proofs.YtfdlgbfeceodeaaGreat
open Go.H
set_option linter.unusedVariables false
theorem h0f {x : j3} (h : h01 x ≤ 1048576) : x.length ≤ 140737488355328 ∧ C2 x := by
 unfold h01 at h
 refine ⟨by omega, fun w hw => ?_⟩
 have := v0a (m := Y00) hw
 unfold Y00 at this h
 omega
theorem N02 {x : C0} (h : w6 x ≤ 1048576) : x.2.length ≤ 140737488355328 ∧ C2 x.2 := h0f (x := x.2) (by unfold w6 at h; omega)
theorem O07 (h : Hp) (cs : List Value) (x : C0) (hx : D1.R h cs x) (hm : w6 x ≤ 1048576) :
  Tr Tryz.prog 60 #[.agg cs.toArray] h fun v h' => v = .int .i64 (G9 x) ∧ h' = h :=
 C06 h cs x hx _ (d0g x (N02 hm).1 (N02 hm).2)
theorem P07 (h : Hp) (cs : List Value) (x : C0) (hx : D1.R h cs x) (hm : w6 x ≤ 1048576) :
  Tr Tryz.prog 61 #[.agg cs.toArray] h fun v h' => v = .int .i64 (G9 x) ∧ h' = h :=
 F06 h cs x hx _ (e0g x (N02 hm).1 (N02 hm).2)
end Go.Proofs.YtfdlgbfeceodeaaGreat
