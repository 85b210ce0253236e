/- Texts of the claim, joined: The data types of the laws, as lists and tuples and others. -/
import Derived.Test.YtfphndijjmdiiaaGreatHE
import Derived.Test.YtfphndijjmdiiaaGreatChecked
namespace Go.Proofs.YtfphndijjmdiiaaGreat
open Go.H
set_option linter.unusedVariables false
set_option linter.unusedSimpArgs false
set_option maxRecDepth 10000
abbrev Q0:Type:=Int×Int×Int
abbrev D4:Wp Q0:=Wp.pair Wp.int (Wp.pair Wp.int Wp.int)
instance v0v:DecidableEq Q0:=(@instDecidableEqProd _ _ (inferInstance:DecidableEq Int) (@instDecidableEqProd _ _ (inferInstance:DecidableEq Int) (inferInstance:DecidableEq Int)))
theorem E4{h:Hp}{cs:List Value}{x:Q0}(f:D4.R h cs x):∃(a:Int) (b:Int) (c:Int),cs = [.int .i64 a,.int .i64 b,.int .i64 c]/\x=(a,b,c)/\H0 a/\H0 b/\H0 c:=by
 obtain⟨a,b,c⟩:=x
 obtain⟨_,_,rfl,⟨rfl,h0⟩,⟨_,_,rfl,⟨rfl,d⟩,⟨rfl,e⟩⟩⟩:=f
 exact⟨a,b,c,rfl,rfl,h0,d,e⟩
theorem V2{h:Hp}{c:Int}{a:Int}{b:Int}(h0:H0 c)(d:H0 a)(e:H0 b):D4.R h [.int .i64 c,.int .i64 a,.int .i64 b] (c,a,b) :=
 ⟨[.int .i64 c],[.int .i64 a,.int .i64 b],rfl,⟨rfl,h0⟩,⟨[.int .i64 a],[.int .i64 b],rfl,⟨rfl,d⟩,⟨rfl,e⟩⟩⟩
theorem B0m{h:Hp}{c:Int}{a:Int}{b:Int}(h0:H0 c)(d:H0 a)(e:H0 b):D4.W h [.int .i64 c,.int .i64 a,.int .i64 b] (c,a,b) ([]++([] ++ [])) :=
 ⟨[.int .i64 c],[.int .i64 a,.int .i64 b],[],([] ++ []),rfl,rfl,⟨⟨rfl,h0⟩,rfl⟩,⟨[.int .i64 a],[.int .i64 b],[],[],rfl,rfl,⟨⟨rfl,d⟩,rfl⟩,⟨⟨rfl,e⟩,rfl⟩⟩⟩
abbrev T2:Type:=List Q0
abbrev P1:Wp T2:=Wp.slice D4
instance b0u:DecidableEq T2:=inferInstanceAs (DecidableEq (List Q0))
abbrev j0:Type:=Int×Int×T2
abbrev w4:Wp j0:=Wp.pair Wp.int (Wp.pair Wp.int P1)
instance n0v:DecidableEq j0:=(@instDecidableEqProd _ _ (inferInstance:DecidableEq Int) (@instDecidableEqProd _ _ (inferInstance:DecidableEq Int) b0u))
theorem E1{h:Hp}{cs:List Value}{x:j0}(j:w4.R h cs x):∃(a:Int) (b:Int) (c:Option Addr) (e d:Nat) (f:T2),cs = [.int .i64 a,.int .i64 b,.slice c e d]/\x=(a,b,f)/\H0 a/\H0 b/\P1.R h [.slice c e d] f:=by
 obtain⟨a,b,f⟩:=x
 obtain⟨_,_,rfl,⟨rfl,h0⟩,⟨_,_,rfl,⟨rfl,i⟩,g⟩⟩:=j
 obtain⟨c,e,d,rfl⟩:=Wp.slice_cell g
 exact⟨a,b,c,e,d,f,rfl,rfl,h0,i,g⟩
theorem J0{h:Hp}{e:Int}{a:Int}{b:Option Addr}{d c:Nat}{f:T2}(h0:H0 e)(g:H0 a)(i:P1.R h [.slice b d c] f):w4.R h [.int .i64 e,.int .i64 a,.slice b d c] (e,a,f) :=
 ⟨[.int .i64 e],[.int .i64 a,.slice b d c],rfl,⟨rfl,h0⟩,⟨[.int .i64 a],[.slice b d c],rfl,⟨rfl,g⟩,i⟩⟩
abbrev Z8:Type:=Int×Int
abbrev g00:Wp Z8:=Wp.pair Wp.int Wp.int
instance w0v:DecidableEq Z8:=(@instDecidableEqProd _ _ (inferInstance:DecidableEq Int) (inferInstance:DecidableEq Int))
theorem a08{h:Hp}{cs:List Value}{x:Z8}(d:g00.R h cs x):∃(a:Int) (b:Int),cs = [.int .i64 a,.int .i64 b]/\x=(a,b)/\H0 a/\H0 b:=by
 obtain⟨a,b⟩:=x
 obtain⟨_,_,rfl,⟨rfl,h0⟩,⟨rfl,c⟩⟩:=d
 exact⟨a,b,rfl,rfl,h0,c⟩
theorem H6{h:Hp}{a:Int}{b:Int}(h0:H0 a)(c:H0 b):g00.R h [.int .i64 a,.int .i64 b] (a,b) :=
 ⟨[.int .i64 a],[.int .i64 b],rfl,⟨rfl,h0⟩,⟨rfl,c⟩⟩
abbrev D0:Type:=List Int
abbrev C0:Wp D0:=Wp.slice Wp.int
instance N0u:DecidableEq D0:=inferInstanceAs (DecidableEq (List Int))
abbrev L1:Type:=List D0
abbrev K1:Wp L1:=Wp.slice C0
instance c0u:DecidableEq L1:=inferInstanceAs (DecidableEq (List D0))
abbrev l0:Type:=Int×L1
abbrev Q1:Wp l0:=Wp.pair Wp.int K1
instance c0s:DecidableEq l0:=(@instDecidableEqProd _ _ (inferInstance:DecidableEq Int) c0u)
theorem I1{h:Hp}{cs:List Value}{x:l0}(g:Q1.R h cs x):∃(a:Int) (b:Option Addr) (d c:Nat) (e:L1),cs = [.int .i64 a,.slice b d c]/\x=(a,e)/\H0 a/\K1.R h [.slice b d c] e:=by
 obtain⟨a,e⟩:=x
 obtain⟨_,_,rfl,⟨rfl,h0⟩,f⟩:=g
 obtain⟨b,d,c,rfl⟩:=Wp.slice_cell f
 exact⟨a,b,d,c,e,rfl,rfl,h0,f⟩
theorem M0{h:Hp}{a:Int}{b:Option Addr}{d c:Nat}{e:L1}(h0:H0 a)(f:K1.R h [.slice b d c] e):Q1.R h [.int .i64 a,.slice b d c] (a,e) :=
 ⟨[.int .i64 a],[.slice b d c],rfl,⟨rfl,h0⟩,f⟩
abbrev i00:Type:=D0×Int×Int
abbrev I0:Wp i00:=Wp.pair C0 (Wp.pair Wp.int Wp.int)
instance x0v:DecidableEq i00:=(@instDecidableEqProd _ _ N0u (@instDecidableEqProd _ _ (inferInstance:DecidableEq Int) (inferInstance:DecidableEq Int)))
theorem L0k{h:Hp}{cs:List Value}{x:i00}(j:I0.R h cs x):∃(c:Option Addr) (e d:Nat) (f:D0) (a:Int) (b:Int),cs = [.slice c e d,.int .i64 a,.int .i64 b]/\x=(f,a,b)/\C0.R h [.slice c e d] f/\H0 a/\H0 b:=by
 obtain⟨f,a,b⟩:=x
 obtain⟨_,_,rfl,h0,⟨_,_,rfl,⟨rfl,g⟩,⟨rfl,i⟩⟩⟩:=j
 obtain⟨c,e,d,rfl⟩:=Wp.slice_cell h0
 exact⟨c,e,d,f,a,b,rfl,rfl,h0,g,i⟩
theorem N0{h:Hp}{c:Option Addr}{e d:Nat}{f:D0}{a:Int}{b:Int}(h0:C0.R h [.slice c e d] f)(g:H0 a)(i:H0 b):I0.R h [.slice c e d,.int .i64 a,.int .i64 b] (f,a,b) :=
 ⟨[.slice c e d],[.int .i64 a,.int .i64 b],rfl,h0,⟨[.int .i64 a],[.int .i64 b],rfl,⟨rfl,g⟩,⟨rfl,i⟩⟩⟩
abbrev C01:Type:=List i00
abbrev b08:Wp C01:=Wp.slice I0
instance o0v:DecidableEq C01:=inferInstanceAs (DecidableEq (List i00))
abbrev A02:Type:=List Z8
abbrev u0q:Wp A02:=Wp.slice g00
instance p0v:DecidableEq A02:=inferInstanceAs (DecidableEq (List Z8))
theorem v0q(h:Hp):∃ cs,D4.R h cs (0,0,0):=⟨_,V2 (by decide) (by decide) (by decide)⟩
end Go.Proofs.YtfphndijjmdiiaaGreat
