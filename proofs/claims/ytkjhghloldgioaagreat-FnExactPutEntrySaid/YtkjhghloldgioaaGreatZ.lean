/- Facts of the program's tables alone. -/
import Derived.Test.YtkjhghloldgioaaGreatChecked
import Derived.JoinedOf
namespace Go.Proofs.YtkjhghloldgioaaGreat
set_option linter.unusedVariables false
theorem D6{a b:Bool}(c:a=true)(d:b=true):(a&&b)=true:=by rw[c,d];rfl
theorem m0h:laidOutB Tryz.prog=true:=by kernel_rfl
theorem j0i:mapsRowed Tryz.prog=true:=by kernel_rfl
theorem E0h:Tryz.prog.stopsHeard=true:=by kernel_rfl
theorem F0h:Tryz.prog.mayEnter=true:=by kernel_rfl
theorem k0i:(false == Tryz.prog.liftsFinal)=true:=by kernel_rfl
theorem l0i:(false == Tryz.prog.plainKeys)=true:=by kernel_rfl
end Go.Proofs.YtkjhghloldgioaaGreat
