/- Facts of the program's tables alone. -/
import Derived.Test.YtkjhghloldgioaaGreatChecked
import Derived.JoinedOf
namespace Go.Proofs.YtkjhghloldgioaaGreat
set_option linter.unusedVariables false
theorem J8{a b:Bool}(h1:a=true)(h2:b=true):(a&&b)=true:=by rw[h1,h2];rfl
theorem L0n:laidOutB Tryz.prog=true:=by kernel_rfl
theorem J0o:mapsRowed Tryz.prog=true:=by kernel_rfl
theorem a0o:Tryz.prog.stopsHeard=true:=by kernel_rfl
theorem b0o:Tryz.prog.mayEnter=true:=by kernel_rfl
theorem K0o:(false == Tryz.prog.liftsFinal)=true:=by kernel_rfl
theorem L0o:(false == Tryz.prog.plainKeys)=true:=by kernel_rfl
end Go.Proofs.YtkjhghloldgioaaGreat
