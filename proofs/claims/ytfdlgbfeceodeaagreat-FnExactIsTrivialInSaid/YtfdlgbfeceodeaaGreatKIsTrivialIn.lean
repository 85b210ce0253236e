/- IsTrivialIn, of the spec and of the code. -/
import Derived.Test.YtfdlgbfeceodeaaGreatPart24
import Derived.Test.YtfdlgbfeceodeaaGreatPart27
import Derived.Test.YtfdlgbfeceodeaaGreatPart28
namespace Go.Proofs.YtfdlgbfeceodeaaGreat
open Go.H
set_option linter.unusedVariables false
theorem p03 {x : F0} (h : H6 x ≤ 1048576) : x.2.length ≤ 140737488355328 ∧ J3 x.2 := by
 unfold H6 e02 at h
 refine ⟨by omega, fun w hw => ?_⟩
 have := j0b (m := u00) hw
 unfold u00 at this h
 omega
theorem r08 (h : Hp) (cs : List Value) (x : F0) (hx : F1.R h cs x) (hm : H6 x ≤ 1048576) (a : Option Addr) (n c : Nat) (y : P0) (hy : Z0.R h [.slice a n c] y) (hmy : u00 y ≤ 1048576) :
  Tr Tryz.prog 62 #[.agg cs.toArray, .slice a n c] h fun v h' => v = .tuple #[.bool (g8 x y).1, .bool (g8 x y).2] ∧ h' = h :=
 g07 h cs x hx a n c y hy _ (p0c x y (p03 hm).1 (p03 hm).2 (by unfold u00 at hmy; omega))
theorem s08 (h : Hp) (cs : List Value) (x : F0) (hx : F1.R h cs x) (hm : H6 x ≤ 1048576) (a : Option Addr) (n c : Nat) (y : P0) (hy : Z0.R h [.slice a n c] y) (hmy : u00 y ≤ 1048576) :
  Tr Tryz.prog 64 #[.agg cs.toArray, .slice a n c] h fun v h' => v = .tuple #[.bool (g8 x y).1, .bool (g8 x y).2] ∧ h' = h :=
 j07 h cs x hx a n c y hy _ (q0c x y (p03 hm).1 (p03 hm).2 (by unfold u00 at hmy; omega))
end Go.Proofs.YtfdlgbfeceodeaaGreat
