/- Facts of the program's tables alone. -/
import Derived.Test.YtmgikbbmpnbbjaaGreatChecked
import Derived.JoinedOf
namespace Go.Proofs.YtmgikbbmpnbbjaaGreat
set_option linter.unusedVariables false
theorem j00{a b:Bool}(c:a=true)(d:b=true):(a&&b)=true:=by rw[c,d];rfl
theorem H0s:laidOutB Tryz.prog=true:=by kernel_rfl
theorem a0u:mapsRowed Tryz.prog=true:=by kernel_rfl
theorem j0t:Tryz.prog.stopsHeard=true:=by kernel_rfl
theorem k0t:Tryz.prog.mayEnter=true:=by kernel_rfl
theorem b0u:(false == Tryz.prog.liftsFinal)=true:=by kernel_rfl
theorem c0u:(false == Tryz.prog.plainKeys)=true:=by kernel_rfl
end Go.Proofs.YtmgikbbmpnbbjaaGreat
