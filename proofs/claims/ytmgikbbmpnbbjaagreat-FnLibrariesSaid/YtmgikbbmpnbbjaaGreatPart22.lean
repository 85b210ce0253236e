/- Texts of the claim, joined: The data types of the laws, as lists and tuples and others. -/
import Derived.Test.YtmgikbbmpnbbjaaGreatHE
import Derived.Test.YtmgikbbmpnbbjaaGreatChecked
namespace Go.Proofs.YtmgikbbmpnbbjaaGreat
open Go.H
set_option linter.unusedVariables false
set_option linter.unusedSimpArgs false
set_option maxRecDepth 10000
abbrev Q0:Type:=Int×Int×Int
abbrev P1:Wp Q0:=Wp.pair Wp.int (Wp.pair Wp.int Wp.int)
instance G0v:DecidableEq Q0:=(@instDecidableEqProd _ _ (inferInstance:DecidableEq Int) (@instDecidableEqProd _ _ (inferInstance:DecidableEq Int) (inferInstance:DecidableEq Int)))
theorem Q2{h:Hp}{cs:List Value}{x:Q0}(f:P1.R h cs x):∃(a:Int) (b:Int) (c:Int),cs = [.int .i64 a,.int .i64 b,.int .i64 c]/\x=(a,b,c)/\J0 a/\J0 b/\J0 c:=by
 obtain⟨a,b,c⟩:=x
 obtain⟨_,_,rfl,⟨rfl,h0⟩,⟨_,_,rfl,⟨rfl,d⟩,⟨rfl,e⟩⟩⟩:=f
 exact⟨a,b,c,rfl,rfl,h0,d,e⟩
theorem K1{h:Hp}{c:Int}{a:Int}{b:Int}(h0:J0 c)(d:J0 a)(e:J0 b):P1.R h [.int .i64 c,.int .i64 a,.int .i64 b] (c,a,b) :=
 ⟨[.int .i64 c],[.int .i64 a,.int .i64 b],rfl,⟨rfl,h0⟩,⟨[.int .i64 a],[.int .i64 b],rfl,⟨rfl,d⟩,⟨rfl,e⟩⟩⟩
theorem Q0m{h:Hp}{c:Int}{a:Int}{b:Int}(h0:J0 c)(d:J0 a)(e:J0 b):P1.W h [.int .i64 c,.int .i64 a,.int .i64 b] (c,a,b) ([]++([] ++ [])) :=
 ⟨[.int .i64 c],[.int .i64 a,.int .i64 b],[],([] ++ []),rfl,rfl,⟨⟨rfl,h0⟩,rfl⟩,⟨[.int .i64 a],[.int .i64 b],[],[],rfl,rfl,⟨⟨rfl,d⟩,rfl⟩,⟨⟨rfl,e⟩,rfl⟩⟩⟩
abbrev V0:Type:=List Q0
abbrev U0:Wp V0:=Wp.slice P1
instance v0u:DecidableEq V0:=inferInstanceAs (DecidableEq (List Q0))
abbrev j0:Type:=Int×Int×V0
abbrev O1:Wp j0:=Wp.pair Wp.int (Wp.pair Wp.int U0)
instance w0u:DecidableEq j0:=(@instDecidableEqProd _ _ (inferInstance:DecidableEq Int) (@instDecidableEqProd _ _ (inferInstance:DecidableEq Int) v0u))
theorem F0{h:Hp}{cs:List Value}{x:j0}(j:O1.R h cs x):∃(a:Int) (b:Int) (c:Option Addr) (e d:Nat) (f:V0),cs = [.int .i64 a,.int .i64 b,.slice c e d]/\x=(a,b,f)/\J0 a/\J0 b/\U0.R h [.slice c e d] f:=by
 obtain⟨a,b,f⟩:=x
 obtain⟨_,_,rfl,⟨rfl,h0⟩,⟨_,_,rfl,⟨rfl,i⟩,g⟩⟩:=j
 obtain⟨c,e,d,rfl⟩:=Wp.slice_cell g
 exact⟨a,b,c,e,d,f,rfl,rfl,h0,i,g⟩
theorem l0{h:Hp}{e:Int}{a:Int}{b:Option Addr}{d c:Nat}{f:V0}(h0:J0 e)(g:J0 a)(i:U0.R h [.slice b d c] f):O1.R h [.int .i64 e,.int .i64 a,.slice b d c] (e,a,f) :=
 ⟨[.int .i64 e],[.int .i64 a,.slice b d c],rfl,⟨rfl,h0⟩,⟨[.int .i64 a],[.slice b d c],rfl,⟨rfl,g⟩,i⟩⟩
abbrev H5:Type:=Int×Int
abbrev D4:Wp H5:=Wp.pair Wp.int Wp.int
instance H0v:DecidableEq H5:=(@instDecidableEqProd _ _ (inferInstance:DecidableEq Int) (inferInstance:DecidableEq Int))
theorem X02{h:Hp}{cs:List Value}{x:H5}(d:D4.R h cs x):∃(a:Int) (b:Int),cs = [.int .i64 a,.int .i64 b]/\x=(a,b)/\J0 a/\J0 b:=by
 obtain⟨a,b⟩:=x
 obtain⟨_,_,rfl,⟨rfl,h0⟩,⟨rfl,c⟩⟩:=d
 exact⟨a,b,rfl,rfl,h0,c⟩
theorem G3{h:Hp}{a:Int}{b:Int}(h0:J0 a)(c:J0 b):D4.R h [.int .i64 a,.int .i64 b] (a,b) :=
 ⟨[.int .i64 a],[.int .i64 b],rfl,⟨rfl,h0⟩,⟨rfl,c⟩⟩
abbrev D1:Type:=List Int
abbrev E2:Wp D1:=Wp.slice Wp.int
instance I0v:DecidableEq D1:=inferInstanceAs (DecidableEq (List Int))
abbrev M6:Type:=List D1
abbrev C00:Wp M6:=Wp.slice E2
instance B0v:DecidableEq M6:=inferInstanceAs (DecidableEq (List D1))
abbrev O6:Type:=ByteArray×j0
abbrev L1:Wp O6:=Wp.pair Wp.str O1
instance C0v:DecidableEq O6:=(@instDecidableEqProd _ _ (inferInstance:DecidableEq ByteArray) w0u)
theorem J3{h:Hp}{cs:List Value}{x:O6}(l:L1.R h cs x):∃(a:ByteArray) (b:Int) (c:Int) (d:Option Addr) (f e:Nat) (g:V0),cs = [.string a,.int .i64 b,.int .i64 c,.slice d f e]/\x=(a,(b,c,g))/\a.size<=9223372036854775807/\J0 b/\J0 c/\U0.R h [.slice d f e] g:=by
 obtain⟨a,⟨b,c,g⟩⟩:=x
 obtain⟨_,_,rfl,⟨rfl,h0⟩,⟨_,_,rfl,⟨rfl,j⟩,⟨_,_,rfl,⟨rfl,k⟩,i⟩⟩⟩:=l
 obtain⟨d,f,e,rfl⟩:=Wp.slice_cell i
 exact⟨a,b,c,d,f,e,g,rfl,rfl,h0,j,k,i⟩
theorem L4{h:Hp}{f:ByteArray}{e:Int}{a:Int}{b:Option Addr}{d c:Nat}{g:V0}(h0:f.size<=9223372036854775807)(i:J0 e)(j:J0 a)(k:U0.R h [.slice b d c] g):L1.R h [.string f,.int .i64 e,.int .i64 a,.slice b d c] (f,(e,a,g)) :=
 ⟨[.string f],[.int .i64 e,.int .i64 a,.slice b d c],rfl,⟨rfl,h0⟩,⟨[.int .i64 e],[.int .i64 a,.slice b d c],rfl,⟨rfl,i⟩,⟨[.int .i64 a],[.slice b d c],rfl,⟨rfl,j⟩,k⟩⟩⟩
abbrev N1:Type:=List O6
abbrev U1:Wp N1:=Wp.slice L1
instance k0t:DecidableEq N1:=inferInstanceAs (DecidableEq (List O6))
abbrev N0:Type:=Int×N1
abbrev D3:Wp N0:=Wp.pair Wp.int U1
instance h0v:DecidableEq N0:=(@instDecidableEqProd _ _ (inferInstance:DecidableEq Int) k0t)
theorem E1{h:Hp}{cs:List Value}{x:N0}(g:D3.R h cs x):∃(a:Int) (b:Option Addr) (d c:Nat) (e:N1),cs = [.int .i64 a,.slice b d c]/\x=(a,e)/\J0 a/\U1.R h [.slice b d c] e:=by
 obtain⟨a,e⟩:=x
 obtain⟨_,_,rfl,⟨rfl,h0⟩,f⟩:=g
 obtain⟨b,d,c,rfl⟩:=Wp.slice_cell f
 exact⟨a,b,d,c,e,rfl,rfl,h0,f⟩
theorem K0{h:Hp}{a:Int}{b:Option Addr}{d c:Nat}{e:N1}(h0:J0 a)(f:U1.R h [.slice b d c] e):D3.R h [.int .i64 a,.slice b d c] (a,e) :=
 ⟨[.int .i64 a],[.slice b d c],rfl,⟨rfl,h0⟩,f⟩
abbrev g00:Type:=List H5
abbrev o0j:Wp g00:=Wp.slice D4
instance D0v:DecidableEq g00:=inferInstanceAs (DecidableEq (List H5))
theorem R0m(h:Hp):∃ cs,P1.R h cs (0,0,0):=⟨_,K1 (by decide) (by decide) (by decide)⟩
theorem d08(h:Hp):∃ cs,L1.R h cs (⟨#[]⟩,(0,0,[])):=⟨_,L4 (by decide) (by decide) (by decide) (c08 P1 h)⟩
end Go.Proofs.YtmgikbbmpnbbjaaGreat
