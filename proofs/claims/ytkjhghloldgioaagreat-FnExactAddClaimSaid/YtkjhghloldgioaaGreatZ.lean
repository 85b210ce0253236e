/- Facts of the program's tables alone. -/
import Derived.Test.YtkjhghloldgioaaGreatChecked
import Derived.JoinedOf
namespace Go.Proofs.YtkjhghloldgioaaGreat
set_option linter.unusedVariables false
theorem g01{a b:Bool}(c:a=true)(d:b=true):(a&&b)=true:=by rw[c,d];rfl
theorem l0t:laidOutB Tryz.prog=true:=by kernel_rfl
theorem l0u:mapsRowed Tryz.prog=true:=by kernel_rfl
theorem F0t:Tryz.prog.stopsHeard=true:=by kernel_rfl
theorem G0t:Tryz.prog.mayEnter=true:=by kernel_rfl
theorem m0u:(false == Tryz.prog.liftsFinal)=true:=by kernel_rfl
theorem n0u:(false == Tryz.prog.plainKeys)=true:=by kernel_rfl
end Go.Proofs.YtkjhghloldgioaaGreat
