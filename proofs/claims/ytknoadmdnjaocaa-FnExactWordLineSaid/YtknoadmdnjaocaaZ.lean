/- Facts of the program's tables alone. -/
import Derived.Test.YtknoadmdnjaocaaChecked
import Derived.JoinedOf
namespace Go.Proofs.Ytknoadmdnjaocaa
set_option linter.unusedVariables false
theorem c6 {a b : Bool} (h1 : a = true) (h2 : b = true) : (a && b) = true := by rw [h1, h2]; rfl
theorem R0e : laidOutB Try.prog = true := by kernel_rfl
theorem Q0f : mapsRowed Try.prog = true := by kernel_rfl
theorem m0f : Try.prog.stopsHeard = true := by kernel_rfl
theorem n0f : Try.prog.mayEnter = true := by kernel_rfl
theorem R0f : (false == Try.prog.liftsFinal) = true := by kernel_rfl
theorem S0f : (true == Try.prog.plainKeys) = true := by kernel_rfl
end Go.Proofs.Ytknoadmdnjaocaa
