/- Facts of the program's tables alone. -/
import Derived.Test.YtmgikbbmpnbbjaaGreatChecked
import Derived.JoinedOf
namespace Go.Proofs.YtmgikbbmpnbbjaaGreat
set_option linter.unusedVariables false
theorem D00{a b:Bool}(c:a=true)(d:b=true):(a&&b)=true:=by rw[c,d];rfl
theorem L0r:laidOutB Tryz.prog=true:=by kernel_rfl
theorem j0t:mapsRowed Tryz.prog=true:=by kernel_rfl
theorem j0s:Tryz.prog.stopsHeard=true:=by kernel_rfl
theorem k0s:Tryz.prog.mayEnter=true:=by kernel_rfl
theorem k0t:(false == Tryz.prog.liftsFinal)=true:=by kernel_rfl
theorem l0t:(false == Tryz.prog.plainKeys)=true:=by kernel_rfl
end Go.Proofs.YtmgikbbmpnbbjaaGreat
