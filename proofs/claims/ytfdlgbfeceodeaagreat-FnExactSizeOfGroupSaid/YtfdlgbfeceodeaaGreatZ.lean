/- Facts of the program's tables alone. -/
import Derived.Test.YtfdlgbfeceodeaaGreatChecked
import Derived.JoinedOf
namespace Go.Proofs.YtfdlgbfeceodeaaGreat
set_option linter.unusedVariables false
theorem V7 {a b : Bool} (h1 : a = true) (h2 : b = true) : (a && b) = true := by rw [h1, h2]; rfl
theorem d0k : laidOutB Tryz.prog = true := by kernel_rfl
theorem Y0k : mapsRowed Tryz.prog = true := by kernel_rfl
theorem u0k : Tryz.prog.stopsHeard = true := by kernel_rfl
theorem v0k : Tryz.prog.mayEnter = true := by kernel_rfl
theorem Z0k : (false == Tryz.prog.liftsFinal) = true := by kernel_rfl
theorem a0l : (true == Tryz.prog.plainKeys) = true := by kernel_rfl
end Go.Proofs.YtfdlgbfeceodeaaGreat
