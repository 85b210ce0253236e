/- Facts of the program's tables alone. -/
import Derived.Test.YtcakocbgbelmeaaGreatChecked
import Derived.JoinedOf
namespace Go.Proofs.YtcakocbgbelmeaaGreat
set_option linter.unusedVariables false
theorem E9 {a b:Bool} (h1:a=true) (h2:b=true):(a&&b)=true:=by rw[h1,h2];rfl
theorem w0q:laidOutB Tryz.prog=true:=by kernel_rfl
theorem q0r:mapsRowed Tryz.prog=true:=by kernel_rfl
theorem Q0q:Tryz.prog.stopsHeard=true:=by kernel_rfl
theorem R0q:Tryz.prog.mayEnter=true:=by kernel_rfl
theorem r0r:(false == Tryz.prog.liftsFinal)=true:=by kernel_rfl
theorem s0r:(true == Tryz.prog.plainKeys)=true:=by kernel_rfl
end Go.Proofs.YtcakocbgbelmeaaGreat
