/- Facts of the program's tables alone. -/
import Derived.Test.YtcakocbgbelmeaaGreatChecked
import Derived.JoinedOf
namespace Go.Proofs.YtcakocbgbelmeaaGreat
set_option linter.unusedVariables false
theorem L9{a b:Bool}(h1:a=true)(h2:b=true):(a&&b)=true:=by rw[h1,h2];rfl
theorem Y0p:laidOutB Tryz.prog=true:=by kernel_rfl
theorem X0q:mapsRowed Tryz.prog=true:=by kernel_rfl
theorem t0q:Tryz.prog.stopsHeard=true:=by kernel_rfl
theorem u0q:Tryz.prog.mayEnter=true:=by kernel_rfl
theorem Y0q:(false == Tryz.prog.liftsFinal)=true:=by kernel_rfl
theorem Z0q:(true == Tryz.prog.plainKeys)=true:=by kernel_rfl
end Go.Proofs.YtcakocbgbelmeaaGreat
