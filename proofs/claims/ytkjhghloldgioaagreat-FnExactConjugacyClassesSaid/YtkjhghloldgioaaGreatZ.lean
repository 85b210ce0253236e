/- Facts of the program's tables alone. -/
import Derived.Test.YtkjhghloldgioaaGreatChecked
import Derived.JoinedOf
namespace Go.Proofs.YtkjhghloldgioaaGreat
set_option linter.unusedVariables false
theorem g8{a b:Bool}(h1:a=true)(h2:b=true):(a&&b)=true:=by rw[h1,h2];rfl
theorem U0l:laidOutB Tryz.prog=true:=by kernel_rfl
theorem Q0m:mapsRowed Tryz.prog=true:=by kernel_rfl
theorem o0m:Tryz.prog.stopsHeard=true:=by kernel_rfl
theorem p0m:Tryz.prog.mayEnter=true:=by kernel_rfl
theorem R0m:(false == Tryz.prog.liftsFinal)=true:=by kernel_rfl
theorem S0m:(false == Tryz.prog.plainKeys)=true:=by kernel_rfl
end Go.Proofs.YtkjhghloldgioaaGreat
