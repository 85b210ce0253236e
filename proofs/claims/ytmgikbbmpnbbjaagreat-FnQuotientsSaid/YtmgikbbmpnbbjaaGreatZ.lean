/- Facts of the program's tables alone. -/
import Derived.Test.YtmgikbbmpnbbjaaGreatChecked
import Derived.JoinedOf
namespace Go.Proofs.YtmgikbbmpnbbjaaGreat
set_option linter.unusedVariables false
theorem B00{a b:Bool}(c:a=true)(d:b=true):(a&&b)=true:=by rw[c,d];rfl
theorem K0t:laidOutB Tryz.prog=true:=by kernel_rfl
theorem P0u:mapsRowed Tryz.prog=true:=by kernel_rfl
theorem h0u:Tryz.prog.stopsHeard=true:=by kernel_rfl
theorem i0u:Tryz.prog.mayEnter=true:=by kernel_rfl
theorem Q0u:(false == Tryz.prog.liftsFinal)=true:=by kernel_rfl
theorem R0u:(false == Tryz.prog.plainKeys)=true:=by kernel_rfl
end Go.Proofs.YtmgikbbmpnbbjaaGreat
