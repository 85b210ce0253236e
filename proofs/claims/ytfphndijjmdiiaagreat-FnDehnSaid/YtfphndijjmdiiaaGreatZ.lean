/- Facts of the program's tables alone. -/
import Derived.Test.YtfphndijjmdiiaaGreatChecked
import Derived.JoinedOf
namespace Go.Proofs.YtfphndijjmdiiaaGreat
set_option linter.unusedVariables false
theorem N9{a b:Bool}(c:a=true)(d:b=true):(a&&b)=true:=by rw[c,d];rfl
theorem u0t:laidOutB Tryz.prog=true:=by kernel_rfl
theorem A0u:mapsRowed Tryz.prog=true:=by kernel_rfl
theorem M0t:Tryz.prog.stopsHeard=true:=by kernel_rfl
theorem N0t:Tryz.prog.mayEnter=true:=by kernel_rfl
theorem B0u:(false == Tryz.prog.liftsFinal)=true:=by kernel_rfl
theorem C0u:(true == Tryz.prog.plainKeys)=true:=by kernel_rfl
end Go.Proofs.YtfphndijjmdiiaaGreat
