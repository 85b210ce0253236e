/- Facts of the program's tables alone. -/
import Derived.Test.YthakcafglempaaaGreatChecked
import Derived.JoinedOf
namespace Go.Proofs.YthakcafglempaaaGreat
set_option linter.all false
def Z01{a b:Bool}(c:a)(d:b):(a&&b):=by rw[c,d];rfl
def h0y:laidOutB Tryz.prog:=by kernel_rfl
def G0z:mapsRowed Tryz.prog:=by kernel_rfl
def S0y:Tryz.prog.stopsHeard:=by kernel_rfl
def T0y:Tryz.prog.mayEnter:=by kernel_rfl
def H0z:(false == Tryz.prog.liftsFinal):=by kernel_rfl
def I0z:(false == Tryz.prog.plainKeys):=by kernel_rfl
end Go.Proofs.YthakcafglempaaaGreat
