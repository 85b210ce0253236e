/- Facts of the program's tables alone. -/
import Derived.Test.YtkjhghloldgioaaGreatChecked
import Derived.JoinedOf
namespace Go.Proofs.YtkjhghloldgioaaGreat
set_option linter.unusedVariables false
theorem b00{a b:Bool}(c:a=true)(d:b=true):(a&&b)=true:=by rw[c,d];rfl
theorem g0r:laidOutB Tryz.prog=true:=by kernel_rfl
theorem n0s:mapsRowed Tryz.prog=true:=by kernel_rfl
theorem I0r:Tryz.prog.stopsHeard=true:=by kernel_rfl
theorem J0r:Tryz.prog.mayEnter=true:=by kernel_rfl
theorem o0s:(false == Tryz.prog.liftsFinal)=true:=by kernel_rfl
theorem p0s:(false == Tryz.prog.plainKeys)=true:=by kernel_rfl
end Go.Proofs.YtkjhghloldgioaaGreat
