/- Facts of the program's tables alone. -/
import Derived.Test.YtfdlgbfeceodeaaGreatChecked
import Derived.JoinedOf
namespace Go.Proofs.YtfdlgbfeceodeaaGreat
set_option linter.unusedVariables false
theorem V7 {a b : Bool} (h1 : a = true) (h2 : b = true) : (a && b) = true := by rw [h1, h2]; rfl
theorem W0j : laidOutB Tryz.prog = true := by kernel_rfl
theorem Q0k : mapsRowed Tryz.prog = true := by kernel_rfl
theorem n0k : Tryz.prog.stopsHeard = true := by kernel_rfl
theorem o0k : Tryz.prog.mayEnter = true := by kernel_rfl
theorem R0k : (false == Tryz.prog.liftsFinal) = true := by kernel_rfl
theorem S0k : (true == Tryz.prog.plainKeys) = true := by kernel_rfl
end Go.Proofs.YtfdlgbfeceodeaaGreat
