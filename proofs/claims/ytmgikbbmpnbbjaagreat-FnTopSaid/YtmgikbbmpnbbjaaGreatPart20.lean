/- Texts of the claim, joined: The data types of the laws, as lists and tuples and others. -/
import Derived.Test.YtmgikbbmpnbbjaaGreatHE
import Derived.Test.YtmgikbbmpnbbjaaGreatChecked
namespace Go.Proofs.YtmgikbbmpnbbjaaGreat
open Go.H
set_option linter.unusedVariables false
set_option linter.unusedSimpArgs false
set_option maxRecDepth 10000
abbrev K0:Type:=Int×Int×Int
abbrev D1:Wp K0:=Wp.pair Wp.int (Wp.pair Wp.int Wp.int)
instance O0u:DecidableEq K0:=(@instDecidableEqProd _ _ (inferInstance:DecidableEq Int) (@instDecidableEqProd _ _ (inferInstance:DecidableEq Int) (inferInstance:DecidableEq Int)))
theorem Y1{h:Hp}{cs:List Value}{x:K0}(f:D1.R h cs x):∃(a:Int) (b:Int) (c:Int),cs = [.int .i64 a,.int .i64 b,.int .i64 c]/\x=(a,b,c)/\J0 a/\J0 b/\J0 c:=by
 obtain⟨a,b,c⟩:=x
 obtain⟨_,_,rfl,⟨rfl,h0⟩,⟨_,_,rfl,⟨rfl,d⟩,⟨rfl,e⟩⟩⟩:=f
 exact⟨a,b,c,rfl,rfl,h0,d,e⟩
theorem L1{h:Hp}{c:Int}{a:Int}{b:Int}(h0:J0 c)(d:J0 a)(e:J0 b):D1.R h [.int .i64 c,.int .i64 a,.int .i64 b] (c,a,b) :=
 ⟨[.int .i64 c],[.int .i64 a,.int .i64 b],rfl,⟨rfl,h0⟩,⟨[.int .i64 a],[.int .i64 b],rfl,⟨rfl,d⟩,⟨rfl,e⟩⟩⟩
theorem t0m{h:Hp}{c:Int}{a:Int}{b:Int}(h0:J0 c)(d:J0 a)(e:J0 b):D1.W h [.int .i64 c,.int .i64 a,.int .i64 b] (c,a,b) ([]++([] ++ [])) :=
 ⟨[.int .i64 c],[.int .i64 a,.int .i64 b],[],([] ++ []),rfl,rfl,⟨⟨rfl,h0⟩,rfl⟩,⟨[.int .i64 a],[.int .i64 b],[],[],rfl,rfl,⟨⟨rfl,d⟩,rfl⟩,⟨⟨rfl,e⟩,rfl⟩⟩⟩
abbrev V0:Type:=List K0
abbrev N0:Wp V0:=Wp.slice D1
instance z0t:DecidableEq V0:=inferInstanceAs (DecidableEq (List K0))
abbrev l0:Type:=Int×Int×V0
abbrev G1:Wp l0:=Wp.pair Wp.int (Wp.pair Wp.int N0)
instance C0q:DecidableEq l0:=(@instDecidableEqProd _ _ (inferInstance:DecidableEq Int) (@instDecidableEqProd _ _ (inferInstance:DecidableEq Int) z0t))
theorem H0{h:Hp}{cs:List Value}{x:l0}(j:G1.R h cs x):∃(a:Int) (b:Int) (c:Option Addr) (e d:Nat) (f:V0),cs = [.int .i64 a,.int .i64 b,.slice c e d]/\x=(a,b,f)/\J0 a/\J0 b/\N0.R h [.slice c e d] f:=by
 obtain⟨a,b,f⟩:=x
 obtain⟨_,_,rfl,⟨rfl,h0⟩,⟨_,_,rfl,⟨rfl,i⟩,g⟩⟩:=j
 obtain⟨c,e,d,rfl⟩:=Wp.slice_cell g
 exact⟨a,b,c,e,d,f,rfl,rfl,h0,i,g⟩
theorem B0{h:Hp}{e:Int}{a:Int}{b:Option Addr}{d c:Nat}{f:V0}(h0:J0 e)(g:J0 a)(i:N0.R h [.slice b d c] f):G1.R h [.int .i64 e,.int .i64 a,.slice b d c] (e,a,f) :=
 ⟨[.int .i64 e],[.int .i64 a,.slice b d c],rfl,⟨rfl,h0⟩,⟨[.int .i64 a],[.slice b d c],rfl,⟨rfl,g⟩,i⟩⟩
abbrev S4:Type:=Int×Int
abbrev Q3:Wp S4:=Wp.pair Wp.int Wp.int
instance P0u:DecidableEq S4:=(@instDecidableEqProd _ _ (inferInstance:DecidableEq Int) (inferInstance:DecidableEq Int))
theorem R00{h:Hp}{cs:List Value}{x:S4}(d:Q3.R h cs x):∃(a:Int) (b:Int),cs = [.int .i64 a,.int .i64 b]/\x=(a,b)/\J0 a/\J0 b:=by
 obtain⟨a,b⟩:=x
 obtain⟨_,_,rfl,⟨rfl,h0⟩,⟨rfl,c⟩⟩:=d
 exact⟨a,b,rfl,rfl,h0,c⟩
theorem C2{h:Hp}{a:Int}{b:Int}(h0:J0 a)(c:J0 b):Q3.R h [.int .i64 a,.int .i64 b] (a,b) :=
 ⟨[.int .i64 a],[.int .i64 b],rfl,⟨rfl,h0⟩,⟨rfl,c⟩⟩
abbrev M0:Type:=List Int
abbrev P0:Wp M0:=Wp.slice Wp.int
instance N0s:DecidableEq M0:=inferInstanceAs (DecidableEq (List Int))
abbrev E2:Type:=List M0
abbrev I3:Wp E2:=Wp.slice P0
instance A0t:DecidableEq E2:=inferInstanceAs (DecidableEq (List M0))
abbrev L04:Type:=Int×Int×E2×M0×M0×l0×Int
abbrev Y0i:Wp L04:=Wp.pair Wp.int (Wp.pair Wp.int (Wp.pair I3 (Wp.pair P0 (Wp.pair P0 (Wp.pair G1 Wp.int)))))
instance H0u:DecidableEq L04:=(@instDecidableEqProd _ _ (inferInstance:DecidableEq Int) (@instDecidableEqProd _ _ (inferInstance:DecidableEq Int) (@instDecidableEqProd _ _ A0t (@instDecidableEqProd _ _ N0s (@instDecidableEqProd _ _ N0s (@instDecidableEqProd _ _ C0q (inferInstance:DecidableEq Int)))))))
theorem y0c{h:Hp}{cs:List Value}{x:L04}(G:Y0i.R h cs x):∃(a:Int) (b:Int) (f:Option Addr) (o k:Nat) (t:E2) (g:Option Addr) (p l:Nat) (u:M0) (i:Option Addr) (q m:Nat) (v:M0) (c:Int) (d:Int) (j:Option Addr) (s n:Nat) (w:V0) (e:Int),cs = [.int .i64 a,.int .i64 b,.slice f o k,.slice g p l,.slice i q m,.int .i64 c,.int .i64 d,.slice j s n,.int .i64 e]/\x=(a,b,t,u,v,(c,d,w),e)/\J0 a/\J0 b/\I3.R h [.slice f o k] t/\P0.R h [.slice g p l] u/\P0.R h [.slice i q m] v/\J0 c/\J0 d/\N0.R h [.slice j s n] w/\J0 e:=by
 obtain⟨a,b,t,u,v,⟨c,d,w⟩,e⟩:=x
 obtain⟨_,_,rfl,⟨rfl,h0⟩,⟨_,_,rfl,⟨rfl,C⟩,⟨_,_,rfl,y,⟨_,_,rfl,z,⟨_,_,rfl,A,⟨_,_,rfl,⟨_,_,rfl,⟨rfl,D⟩,⟨_,_,rfl,⟨rfl,E⟩,B⟩⟩,⟨rfl,F⟩⟩⟩⟩⟩⟩⟩:=G
 obtain⟨f,o,k,rfl⟩:=Wp.slice_cell y
 obtain⟨g,p,l,rfl⟩:=Wp.slice_cell z
 obtain⟨i,q,m,rfl⟩:=Wp.slice_cell A
 obtain⟨j,s,n,rfl⟩:=Wp.slice_cell B
 exact⟨a,b,f,o,k,t,g,p,l,u,i,q,m,v,c,d,j,s,n,w,e,rfl,rfl,h0,C,y,z,A,D,E,B,F⟩
theorem X0e{h:Hp}{s:Int}{q:Int}{n:Option Addr}{p o:Nat}{t:E2}{k:Option Addr}{m l:Nat}{u:M0}{g:Option Addr}{j i:Nat}{v:M0}{e:Int}{a:Int}{b:Option Addr}{d c:Nat}{w:V0}{f:Int}(h0:J0 s)(x:J0 q)(y:I3.R h [.slice n p o] t)(z:P0.R h [.slice k m l] u)(A:P0.R h [.slice g j i] v)(B:J0 e)(C:J0 a)(D:N0.R h [.slice b d c] w)(E:J0 f):Y0i.R h [.int .i64 s,.int .i64 q,.slice n p o,.slice k m l,.slice g j i,.int .i64 e,.int .i64 a,.slice b d c,.int .i64 f] (s,q,t,u,v,(e,a,w),f) :=
 ⟨[.int .i64 s],[.int .i64 q,.slice n p o,.slice k m l,.slice g j i,.int .i64 e,.int .i64 a,.slice b d c,.int .i64 f],rfl,⟨rfl,h0⟩,⟨[.int .i64 q],[.slice n p o,.slice k m l,.slice g j i,.int .i64 e,.int .i64 a,.slice b d c,.int .i64 f],rfl,⟨rfl,x⟩,⟨[.slice n p o],[.slice k m l,.slice g j i,.int .i64 e,.int .i64 a,.slice b d c,.int .i64 f],rfl,y,⟨[.slice k m l],[.slice g j i,.int .i64 e,.int .i64 a,.slice b d c,.int .i64 f],rfl,z,⟨[.slice g j i],[.int .i64 e,.int .i64 a,.slice b d c,.int .i64 f],rfl,A,⟨[.int .i64 e,.int .i64 a,.slice b d c],[.int .i64 f],rfl,⟨[.int .i64 e],[.int .i64 a,.slice b d c],rfl,⟨rfl,B⟩,⟨[.int .i64 a],[.slice b d c],rfl,⟨rfl,C⟩,D⟩⟩,⟨rfl,E⟩⟩⟩⟩⟩⟩⟩
abbrev u0m:Type:=ByteArray×l0
instance I0u:DecidableEq u0m:=(@instDecidableEqProd _ _ (inferInstance:DecidableEq ByteArray) C0q)
abbrev f0e:Type:=List u0m
instance z0u:DecidableEq f0e:=inferInstanceAs (DecidableEq (List u0m))
abbrev p6:Type:=List S4
abbrev u0a:Wp p6:=Wp.slice Q3
instance J0u:DecidableEq p6:=inferInstanceAs (DecidableEq (List S4))
theorem v0m(h:Hp):∃ cs,D1.R h cs (0,0,0):=⟨_,L1 (by decide) (by decide) (by decide)⟩
end Go.Proofs.YtmgikbbmpnbbjaaGreat
