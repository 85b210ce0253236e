/- Facts of the program's tables alone. -/
import Derived.Test.YtknoadmdnjaocaaGreatChecked
import Derived.JoinedOf
namespace Go.Proofs.YtknoadmdnjaocaaGreat
set_option linter.unusedVariables false
theorem G7 {a b : Bool} (h1 : a = true) (h2 : b = true) : (a && b) = true := by rw [h1, h2]; rfl
theorem k0k : laidOutB Tryz.prog = true := by kernel_rfl
theorem k0l : mapsRowed Tryz.prog = true := by kernel_rfl
theorem J0k : Tryz.prog.stopsHeard = true := by kernel_rfl
theorem K0k : Tryz.prog.mayEnter = true := by kernel_rfl
theorem l0l : (false == Tryz.prog.liftsFinal) = true := by kernel_rfl
theorem m0l : (false == Tryz.prog.plainKeys) = true := by kernel_rfl
end Go.Proofs.YtknoadmdnjaocaaGreat
