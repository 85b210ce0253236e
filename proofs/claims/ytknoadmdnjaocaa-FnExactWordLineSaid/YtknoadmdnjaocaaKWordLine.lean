/- WordLine, of the spec and of the code. -/
import Derived.Test.YtknoadmdnjaocaaPart13
import Derived.Test.YtknoadmdnjaocaaPart15
import Derived.Test.YtknoadmdnjaocaaWw4
namespace Go.Proofs.Ytknoadmdnjaocaa
open Go.H
set_option linter.unusedVariables false
theorem p07 (h : Hp) (y0 : Int) (hy0 : D0 y0) (a : Option Addr) (n c : Nat) (y : i0) (hy : j0.R h [.slice a n c] y) (hmy : V06 y ≤ 1048576) :
  Tr Try.prog 4 #[.int .i64 y0, .slice a n c] h fun v h' => v = .string (r9 y0 y) ∧ h' = h :=
 Z05 h y0 hy0 a n c y hy _ (k07 y0 y (by unfold V06 at hmy; omega))
theorem q07 (h : Hp) (y0 : Int) (hy0 : D0 y0) (a : Option Addr) (n c : Nat) (y : i0) (hy : j0.R h [.slice a n c] y) (hmy : V06 y ≤ 1048576) :
  Tr Try.prog 6 #[.int .i64 y0, .slice a n c] h fun v h' => v = .string (r9 y0 y) ∧ h' = h :=
 b06 h y0 hy0 a n c y hy _ (l07 y0 y (by unfold V06 at hmy; omega))
end Go.Proofs.Ytknoadmdnjaocaa
