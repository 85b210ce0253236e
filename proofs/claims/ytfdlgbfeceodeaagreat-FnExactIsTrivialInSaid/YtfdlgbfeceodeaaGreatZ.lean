/- Facts of the program's tables alone. -/
import Derived.Test.YtfdlgbfeceodeaaGreatChecked
import Derived.JoinedOf
namespace Go.Proofs.YtfdlgbfeceodeaaGreat
set_option linter.unusedVariables false
theorem s8 {a b : Bool} (h1 : a = true) (h2 : b = true) : (a && b) = true := by rw [h1, h2]; rfl
theorem t0l : laidOutB Tryz.prog = true := by kernel_rfl
theorem l0m : mapsRowed Tryz.prog = true := by kernel_rfl
theorem K0l : Tryz.prog.stopsHeard = true := by kernel_rfl
theorem L0l : Tryz.prog.mayEnter = true := by kernel_rfl
theorem m0m : (false == Tryz.prog.liftsFinal) = true := by kernel_rfl
theorem n0m : (true == Tryz.prog.plainKeys) = true := by kernel_rfl
end Go.Proofs.YtfdlgbfeceodeaaGreat
