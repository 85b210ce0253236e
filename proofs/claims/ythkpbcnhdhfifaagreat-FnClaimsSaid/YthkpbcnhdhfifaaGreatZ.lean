/- Facts of the program's tables alone. -/
import Derived.Test.YthkpbcnhdhfifaaGreatChecked
import Derived.JoinedOf
namespace Go.Proofs.YthkpbcnhdhfifaaGreat
set_option linter.all false
def C02{a b:Bool}(c:a)(d:b):(a&&b):=by rw[c,d];rfl
def A0z:laidOutB Tryz.prog:=by kernel_rfl
def Y0A:mapsRowed Tryz.prog:=by kernel_rfl
def i0A:Tryz.prog.stopsHeard:=by kernel_rfl
def j0A:Tryz.prog.mayEnter:=by kernel_rfl
def Z0A:(false == Tryz.prog.liftsFinal):=by kernel_rfl
def a0B:(true == Tryz.prog.plainKeys):=by kernel_rfl
end Go.Proofs.YthkpbcnhdhfifaaGreat
