/- Facts of the program's tables alone. -/
import Derived.Test.YtohcdjhocpakkaaGreatChecked
import Derived.JoinedOf
namespace Go.Proofs.YtohcdjhocpakkaaGreat
set_option linter.unusedVariables false
theorem I9{a b:Bool}(c:a=true)(d:b=true):(a&&b)=true:=by rw[c,d];rfl
theorem N0r:laidOutB Tryz.prog=true:=by kernel_rfl
theorem U0s:mapsRowed Tryz.prog=true:=by kernel_rfl
theorem d0s:Tryz.prog.stopsHeard=true:=by kernel_rfl
theorem e0s:Tryz.prog.mayEnter=true:=by kernel_rfl
theorem V0s:(false == Tryz.prog.liftsFinal)=true:=by kernel_rfl
theorem W0s:(true == Tryz.prog.plainKeys)=true:=by kernel_rfl
end Go.Proofs.YtohcdjhocpakkaaGreat
