/- Facts of the program's tables alone. -/
import Derived.Test.YtknoadmdnjaocaaGreatChecked
import Derived.JoinedOf
namespace Go.Proofs.YtknoadmdnjaocaaGreat
set_option linter.unusedVariables false
theorem n8 {a b : Bool} (h1 : a = true) (h2 : b = true) : (a && b) = true := by rw [h1, h2]; rfl
theorem o0l : laidOutB Tryz.prog = true := by kernel_rfl
theorem q0m : mapsRowed Tryz.prog = true := by kernel_rfl
theorem O0l : Tryz.prog.stopsHeard = true := by kernel_rfl
theorem P0l : Tryz.prog.mayEnter = true := by kernel_rfl
theorem r0m : (false == Tryz.prog.liftsFinal) = true := by kernel_rfl
theorem s0m : (false == Tryz.prog.plainKeys) = true := by kernel_rfl
end Go.Proofs.YtknoadmdnjaocaaGreat
