/- Facts of the program's tables alone. -/
import Derived.Test.YtcpjomkcdlggaaaGreatChecked
import Derived.JoinedOf
namespace Go.Proofs.YtcpjomkcdlggaaaGreat
set_option linter.all false
def n02{a b:Bool}(c:a=true)(d:b=true):(a&&b)=true:=by rw[c,d];rfl
def h0x:laidOutB Tryz.prog=true:=by kernel_rfl
def x0y:mapsRowed Tryz.prog=true:=by kernel_rfl
def I0x:Tryz.prog.stopsHeard=true:=by kernel_rfl
def J0x:Tryz.prog.mayEnter=true:=by kernel_rfl
def y0y:(false == Tryz.prog.liftsFinal)=true:=by kernel_rfl
def z0y:(true == Tryz.prog.plainKeys)=true:=by kernel_rfl
end Go.Proofs.YtcpjomkcdlggaaaGreat
