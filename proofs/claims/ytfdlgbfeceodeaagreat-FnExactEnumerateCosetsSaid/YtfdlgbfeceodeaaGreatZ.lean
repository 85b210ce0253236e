/- Facts of the program's tables alone. -/
import Derived.Test.YtfdlgbfeceodeaaGreatChecked
import Derived.JoinedOf
namespace Go.Proofs.YtfdlgbfeceodeaaGreat
set_option linter.unusedVariables false
theorem j8 {a b : Bool} (h1 : a = true) (h2 : b = true) : (a && b) = true := by rw [h1, h2]; rfl
theorem U0k : laidOutB Tryz.prog = true := by kernel_rfl
theorem P0l : mapsRowed Tryz.prog = true := by kernel_rfl
theorem l0l : Tryz.prog.stopsHeard = true := by kernel_rfl
theorem m0l : Tryz.prog.mayEnter = true := by kernel_rfl
theorem Q0l : (false == Tryz.prog.liftsFinal) = true := by kernel_rfl
theorem R0l : (true == Tryz.prog.plainKeys) = true := by kernel_rfl
end Go.Proofs.YtfdlgbfeceodeaaGreat
