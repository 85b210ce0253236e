/- Facts of the program's tables alone. -/
import Derived.Test.YtkjhghloldgioaaGreatChecked
import Derived.JoinedOf
namespace Go.Proofs.YtkjhghloldgioaaGreat
set_option linter.unusedVariables false
theorem Y9{a b:Bool}(c:a=true)(d:b=true):(a&&b)=true:=by rw[c,d];rfl
theorem z0s:laidOutB Tryz.prog=true:=by kernel_rfl
theorem H0t:mapsRowed Tryz.prog=true:=by kernel_rfl
theorem X0s:Tryz.prog.stopsHeard=true:=by kernel_rfl
theorem Y0s:Tryz.prog.mayEnter=true:=by kernel_rfl
theorem I0t:(false == Tryz.prog.liftsFinal)=true:=by kernel_rfl
theorem J0t:(false == Tryz.prog.plainKeys)=true:=by kernel_rfl
end Go.Proofs.YtkjhghloldgioaaGreat
