/- Facts of the program's tables alone. -/
import Derived.Test.YtfdlgbfeceodeaaGreatChecked
import Derived.JoinedOf
namespace Go.Proofs.YtfdlgbfeceodeaaGreat
set_option linter.unusedVariables false
theorem Z6 {a b : Bool} (h1 : a = true) (h2 : b = true) : (a && b) = true := by rw [h1, h2]; rfl
theorem f0h : laidOutB Tryz.prog = true := by kernel_rfl
theorem X0h : mapsRowed Tryz.prog = true := by kernel_rfl
theorem r0h : Tryz.prog.stopsHeard = true := by kernel_rfl
theorem s0h : Tryz.prog.mayEnter = true := by kernel_rfl
theorem Y0h : (false == Tryz.prog.liftsFinal) = true := by kernel_rfl
theorem Z0h : (true == Tryz.prog.plainKeys) = true := by kernel_rfl
end Go.Proofs.YtfdlgbfeceodeaaGreat
