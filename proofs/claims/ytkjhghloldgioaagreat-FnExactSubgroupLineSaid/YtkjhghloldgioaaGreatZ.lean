/- Facts of the program's tables alone. -/
import Derived.Test.YtkjhghloldgioaaGreatChecked
import Derived.JoinedOf
namespace Go.Proofs.YtkjhghloldgioaaGreat
set_option linter.unusedVariables false
theorem O9{a b:Bool}(h1:a=true)(h2:b=true):(a&&b)=true:=by rw[h1,h2];rfl
theorem O0q:laidOutB Tryz.prog=true:=by kernel_rfl
theorem U0r:mapsRowed Tryz.prog=true:=by kernel_rfl
theorem o0r:Tryz.prog.stopsHeard=true:=by kernel_rfl
theorem p0r:Tryz.prog.mayEnter=true:=by kernel_rfl
theorem V0r:(false == Tryz.prog.liftsFinal)=true:=by kernel_rfl
theorem W0r:(false == Tryz.prog.plainKeys)=true:=by kernel_rfl
end Go.Proofs.YtkjhghloldgioaaGreat
