/- Facts of the program's tables alone. -/
import Derived.Test.YtkjhghloldgioaaGreatChecked
import Derived.JoinedOf
namespace Go.Proofs.YtkjhghloldgioaaGreat
set_option linter.unusedVariables false
theorem P00{a b:Bool}(c:a=true)(d:b=true):(a&&b)=true:=by rw[c,d];rfl
theorem d0s:laidOutB Tryz.prog=true:=by kernel_rfl
theorem d0t:mapsRowed Tryz.prog=true:=by kernel_rfl
theorem x0s:Tryz.prog.stopsHeard=true:=by kernel_rfl
theorem y0s:Tryz.prog.mayEnter=true:=by kernel_rfl
theorem e0t:(false == Tryz.prog.liftsFinal)=true:=by kernel_rfl
theorem f0t:(false == Tryz.prog.plainKeys)=true:=by kernel_rfl
end Go.Proofs.YtkjhghloldgioaaGreat
