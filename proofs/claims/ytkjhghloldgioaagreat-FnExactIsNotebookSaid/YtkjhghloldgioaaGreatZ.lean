/- Facts of the program's tables alone. -/
import Derived.Test.YtkjhghloldgioaaGreatChecked
import Derived.JoinedOf
namespace Go.Proofs.YtkjhghloldgioaaGreat
set_option linter.unusedVariables false
theorem T9{a b:Bool}(c:a=true)(d:b=true):(a&&b)=true:=by rw[c,d];rfl
theorem G0q:laidOutB Tryz.prog=true:=by kernel_rfl
theorem G0r:mapsRowed Tryz.prog=true:=by kernel_rfl
theorem a0r:Tryz.prog.stopsHeard=true:=by kernel_rfl
theorem b0r:Tryz.prog.mayEnter=true:=by kernel_rfl
theorem H0r:(false == Tryz.prog.liftsFinal)=true:=by kernel_rfl
theorem I0r:(false == Tryz.prog.plainKeys)=true:=by kernel_rfl
end Go.Proofs.YtkjhghloldgioaaGreat
