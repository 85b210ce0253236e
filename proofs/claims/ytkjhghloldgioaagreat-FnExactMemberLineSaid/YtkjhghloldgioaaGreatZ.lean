/- Facts of the program's tables alone. -/
import Derived.Test.YtkjhghloldgioaaGreatChecked
import Derived.JoinedOf
namespace Go.Proofs.YtkjhghloldgioaaGreat
set_option linter.unusedVariables false
theorem W8{a b:Bool}(c:a=true)(d:b=true):(a&&b)=true:=by rw[c,d];rfl
theorem a0p:laidOutB Tryz.prog=true:=by kernel_rfl
theorem m0q:mapsRowed Tryz.prog=true:=by kernel_rfl
theorem F0p:Tryz.prog.stopsHeard=true:=by kernel_rfl
theorem G0p:Tryz.prog.mayEnter=true:=by kernel_rfl
theorem n0q:(false == Tryz.prog.liftsFinal)=true:=by kernel_rfl
theorem o0q:(false == Tryz.prog.plainKeys)=true:=by kernel_rfl
end Go.Proofs.YtkjhghloldgioaaGreat
