/- EnumerateCosets, IndexModulo and SizeOfGroup, of the spec and of the code. -/
import Derived.Test.YtfdlgbfeceodeaaGreatPart24
import Derived.Test.YtfdlgbfeceodeaaGreatPart27
import Derived.Test.YtfdlgbfeceodeaaGreatPart28
namespace Go.Proofs.YtfdlgbfeceodeaaGreat
open Go.H
set_option linter.unusedVariables false
theorem B01 {x : Z2} (h : T9 x ≤ 1048576) : x.length ≤ 140737488355328 ∧ L2 x := by
 unfold T9 at h
 refine ⟨by omega, fun w hw => ?_⟩
 have := p0a (m := W00) hw
 unfold W00 at this h
 omega
theorem H02 {x : D0} (h : n5 x ≤ 1048576) : x.2.length ≤ 140737488355328 ∧ L2 x.2 := B01 (x := x.2) (by unfold n5 at h; omega)
def W05 (x : D0) (y : Z2) : Int := G07 x y
theorem K07 (h : Hp) (cs : List Value) (x : D0) (hx : D1.R h cs x) (hm : n5 x ≤ 1048576) (a : Option Addr) (n c : Nat) (y : Z2) (hy : R3.R h [.slice a n c] y) (hmy : T9 y ≤ 1048576) :
  Tr Tryz.prog 57 #[.agg cs.toArray, .slice a n c] h fun v h' => v = .int .i64 (W05 x y) ∧ h' = h :=
 y06 h cs x hx a n c y hy _ (a0f x y (H02 hm).1 (H02 hm).2 (B01 hmy).1 (B01 hmy).2)
theorem L07 (h : Hp) (cs : List Value) (x : D0) (hx : D1.R h cs x) (hm : n5 x ≤ 1048576) (a : Option Addr) (n c : Nat) (y : Z2) (hy : R3.R h [.slice a n c] y) (hmy : T9 y ≤ 1048576) :
  Tr Tryz.prog 59 #[.agg cs.toArray, .slice a n c] h fun v h' => v = .int .i64 (W05 x y) ∧ h' = h :=
 A06 h cs x hx a n c y hy _ (b0f x y (H02 hm).1 (H02 hm).2 (B01 hmy).1 (B01 hmy).2)
end Go.Proofs.YtfdlgbfeceodeaaGreat
