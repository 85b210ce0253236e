/- Texts of the claim, joined: The data types of the laws, as lists and tuples and others. -/
import Derived.Test.YtmgikbbmpnbbjaaGreatHE
import Derived.Test.YtmgikbbmpnbbjaaGreatChecked
namespace Go.Proofs.YtmgikbbmpnbbjaaGreat
open Go.H
set_option linter.unusedVariables false
set_option linter.unusedSimpArgs false
set_option maxRecDepth 10000
abbrev Q0:Type:=Int×Int×Int
abbrev M1:Wp Q0:=Wp.pair Wp.int (Wp.pair Wp.int Wp.int)
instance W0t:DecidableEq Q0:=(@instDecidableEqProd _ _ (inferInstance:DecidableEq Int) (@instDecidableEqProd _ _ (inferInstance:DecidableEq Int) (inferInstance:DecidableEq Int)))
def y0s(x:Q0):Nat:=1+1+1
theorem D2{h:Hp}{cs:List Value}{x:Q0}(f:M1.R h cs x):∃(a:Int) (b:Int) (c:Int),cs = [.int .i64 a,.int .i64 b,.int .i64 c]/\x=(a,b,c)/\I0 a/\I0 b/\I0 c:=by
 obtain⟨a,b,c⟩:=x
 obtain⟨_,_,rfl,⟨rfl,h0⟩,⟨_,_,rfl,⟨rfl,d⟩,⟨rfl,e⟩⟩⟩:=f
 exact⟨a,b,c,rfl,rfl,h0,d,e⟩
theorem E1{h:Hp}{c:Int}{a:Int}{b:Int}(h0:I0 c)(d:I0 a)(e:I0 b):M1.R h [.int .i64 c,.int .i64 a,.int .i64 b] (c,a,b) :=
 ⟨[.int .i64 c],[.int .i64 a,.int .i64 b],rfl,⟨rfl,h0⟩,⟨[.int .i64 a],[.int .i64 b],rfl,⟨rfl,d⟩,⟨rfl,e⟩⟩⟩
theorem e0m{h:Hp}{c:Int}{a:Int}{b:Int}(h0:I0 c)(d:I0 a)(e:I0 b):M1.W h [.int .i64 c,.int .i64 a,.int .i64 b] (c,a,b) ([]++([] ++ [])) :=
 ⟨[.int .i64 c],[.int .i64 a,.int .i64 b],[],([] ++ []),rfl,rfl,⟨⟨rfl,h0⟩,rfl⟩,⟨[.int .i64 a],[.int .i64 b],[],[],rfl,rfl,⟨⟨rfl,d⟩,rfl⟩,⟨⟨rfl,e⟩,rfl⟩⟩⟩
abbrev Y0:Type:=List Q0
abbrev N0:Wp Y0:=Wp.slice M1
instance z0s:DecidableEq Y0:=inferInstanceAs (DecidableEq (List Q0))
def A0s(x:Y0):Nat:=R07 y0s x
abbrev l0:Type:=Int×Int×Y0
abbrev C0:Wp l0:=Wp.pair Wp.int (Wp.pair Wp.int N0)
instance B0s:DecidableEq l0:=(@instDecidableEqProd _ _ (inferInstance:DecidableEq Int) (@instDecidableEqProd _ _ (inferInstance:DecidableEq Int) z0s))
def l0r(x:l0):Nat:=1+1+A0s x.2.2
theorem H0{h:Hp}{cs:List Value}{x:l0}(j:C0.R h cs x):∃(a:Int) (b:Int) (c:Option Addr) (e d:Nat) (f:Y0),cs = [.int .i64 a,.int .i64 b,.slice c e d]/\x=(a,b,f)/\I0 a/\I0 b/\N0.R h [.slice c e d] f:=by
 obtain⟨a,b,f⟩:=x
 obtain⟨_,_,rfl,⟨rfl,h0⟩,⟨_,_,rfl,⟨rfl,i⟩,g⟩⟩:=j
 obtain⟨c,e,d,rfl⟩:=Wp.slice_cell g
 exact⟨a,b,c,e,d,f,rfl,rfl,h0,i,g⟩
theorem j0{h:Hp}{e:Int}{a:Int}{b:Option Addr}{d c:Nat}{f:Y0}(h0:I0 e)(g:I0 a)(i:N0.R h [.slice b d c] f):C0.R h [.int .i64 e,.int .i64 a,.slice b d c] (e,a,f) :=
 ⟨[.int .i64 e],[.int .i64 a,.slice b d c],rfl,⟨rfl,h0⟩,⟨[.int .i64 a],[.slice b d c],rfl,⟨rfl,g⟩,i⟩⟩
abbrev d6:Type:=Int×Int
abbrev j5:Wp d6:=Wp.pair Wp.int Wp.int
instance X0t:DecidableEq d6:=(@instDecidableEqProd _ _ (inferInstance:DecidableEq Int) (inferInstance:DecidableEq Int))
theorem W03{h:Hp}{cs:List Value}{x:d6}(d:j5.R h cs x):∃(a:Int) (b:Int),cs = [.int .i64 a,.int .i64 b]/\x=(a,b)/\I0 a/\I0 b:=by
 obtain⟨a,b⟩:=x
 obtain⟨_,_,rfl,⟨rfl,h0⟩,⟨rfl,c⟩⟩:=d
 exact⟨a,b,rfl,rfl,h0,c⟩
theorem O2{h:Hp}{a:Int}{b:Int}(h0:I0 a)(c:I0 b):j5.R h [.int .i64 a,.int .i64 b] (a,b) :=
 ⟨[.int .i64 a],[.int .i64 b],rfl,⟨rfl,h0⟩,⟨rfl,c⟩⟩
abbrev D0:Type:=List Int
abbrev K0:Wp D0:=Wp.slice Wp.int
instance Y0t:DecidableEq D0:=inferInstanceAs (DecidableEq (List Int))
abbrev N1:Type:=List D0
abbrev R3:Wp N1:=Wp.slice K0
instance P0t:DecidableEq N1:=inferInstanceAs (DecidableEq (List D0))
abbrev f0m:Type:=ByteArray×l0
instance Q0t:DecidableEq f0m:=(@instDecidableEqProd _ _ (inferInstance:DecidableEq ByteArray) B0s)
abbrev J09:Type:=List f0m
instance G0t:DecidableEq J09:=inferInstanceAs (DecidableEq (List f0m))
abbrev Q1:Type:=List l0
abbrev A5:Wp Q1:=Wp.slice C0
instance H0t:DecidableEq Q1:=inferInstanceAs (DecidableEq (List l0))
def l0n(x:Q1):Nat:=R07 l0r x
abbrev N9:Type:=List d6
abbrev M0i:Wp N9:=Wp.slice j5
instance R0t:DecidableEq N9:=inferInstanceAs (DecidableEq (List d6))
theorem g0m(h:Hp):∃ cs,M1.R h cs (0,0,0):=⟨_,E1 (by decide) (by decide) (by decide)⟩
theorem m0n(h:Hp):∃ cs,C0.R h cs (0,0,[]):=⟨_,j0 (by decide) (by decide) (m08 M1 h)⟩
end Go.Proofs.YtmgikbbmpnbbjaaGreat
