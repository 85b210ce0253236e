/- Facts of the program's tables alone. -/
import Derived.Test.YtkjhghloldgioaaGreatChecked
import Derived.JoinedOf
namespace Go.Proofs.YtkjhghloldgioaaGreat
set_option linter.unusedVariables false
theorem C5{a b:Bool}(h1:a=true)(h2:b=true):(a&&b)=true:=by rw[h1,h2];rfl
theorem n0c:laidOutB Tryz.prog=true:=by kernel_rfl
theorem a0d:mapsRowed Tryz.prog=true:=by kernel_rfl
theorem w0c:Tryz.prog.stopsHeard=true:=by kernel_rfl
theorem x0c:Tryz.prog.mayEnter=true:=by kernel_rfl
theorem b0d:(false == Tryz.prog.liftsFinal)=true:=by kernel_rfl
theorem c0d:(false == Tryz.prog.plainKeys)=true:=by kernel_rfl
end Go.Proofs.YtkjhghloldgioaaGreat
