/- Facts of the program's tables alone. -/
import Derived.Test.YtfdlgbfeceodeaaGreatChecked
import Derived.JoinedOf
namespace Go.Proofs.YtfdlgbfeceodeaaGreat
set_option linter.unusedVariables false
theorem j6 {a b : Bool} (h1 : a = true) (h2 : b = true) : (a && b) = true := by rw [h1, h2]; rfl
theorem J0f : laidOutB Tryz.prog = true := by kernel_rfl
theorem F0g : mapsRowed Tryz.prog = true := by kernel_rfl
theorem a0g : Tryz.prog.stopsHeard = true := by kernel_rfl
theorem b0g : Tryz.prog.mayEnter = true := by kernel_rfl
theorem G0g : (false == Tryz.prog.liftsFinal) = true := by kernel_rfl
theorem H0g : (true == Tryz.prog.plainKeys) = true := by kernel_rfl
end Go.Proofs.YtfdlgbfeceodeaaGreat
