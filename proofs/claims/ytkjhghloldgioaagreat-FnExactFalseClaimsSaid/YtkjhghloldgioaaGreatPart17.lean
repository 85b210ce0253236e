/- Texts of the claim, joined: The data types of the laws, as lists and tuples and others. -/
import Derived.Test.YtkjhghloldgioaaGreatHE
import Derived.Test.YtkjhghloldgioaaGreatChecked
namespace Go.Proofs.YtkjhghloldgioaaGreat
open Go.H
set_option linter.unusedVariables false
set_option linter.unusedSimpArgs false
set_option maxRecDepth 10000
theorem b0j{x:Int}(a : -9223372036854775808<=x)(b:x<=9223372036854775807):J0 x:=⟨a,b⟩
abbrev K0:Type:=Int×Int×Int
abbrev Z0:Wp K0:=Wp.pair Wp.int (Wp.pair Wp.int Wp.int)
instance H0t:DecidableEq K0:=(@instDecidableEqProd _ _ (inferInstance:DecidableEq Int) (@instDecidableEqProd _ _ (inferInstance:DecidableEq Int) (inferInstance:DecidableEq Int)))
def i0s(x:K0):Nat:=0
def A00(x:K0):Nat:=1+1+1
def k05(x:K0)(k:Int):K0:=(k,(k+(1:Nat)),(k+(1+1:Nat)))
theorem P1{h:Hp}{cs:List Value}{x:K0}(f:Z0.R h cs x):∃(a:Int) (b:Int) (c:Int),cs = [.int .i64 a,.int .i64 b,.int .i64 c]/\x=(a,b,c)/\J0 a/\J0 b/\J0 c:=by
 obtain⟨a,b,c⟩:=x
 obtain⟨_,_,rfl,⟨rfl,h0⟩,⟨_,_,rfl,⟨rfl,d⟩,⟨rfl,e⟩⟩⟩:=f
 exact⟨a,b,c,rfl,rfl,h0,d,e⟩
theorem K1{h:Hp}{c:Int}{a:Int}{b:Int}(h0:J0 c)(d:J0 a)(e:J0 b):Z0.R h [.int .i64 c,.int .i64 a,.int .i64 b] (c,a,b) :=
 ⟨[.int .i64 c],[.int .i64 a,.int .i64 b],rfl,⟨rfl,h0⟩,⟨[.int .i64 a],[.int .i64 b],rfl,⟨rfl,d⟩,⟨rfl,e⟩⟩⟩
theorem V0c{h:Hp}{cs:List Value}{x:K0}{B:List Nat}(f:Z0.W h cs x B):∃(a:Int) (b:Int) (c:Int),cs = [.int .i64 a,.int .i64 b,.int .i64 c]/\x=(a,b,c)/\B=([]++([] ++ []))/\J0 a/\J0 b/\J0 c:=by
 obtain⟨a,b,c⟩:=x
 obtain⟨_,_,_,_,rfl,rfl,⟨⟨rfl,h0⟩,rfl⟩,⟨_,_,_,_,rfl,rfl,⟨⟨rfl,d⟩,rfl⟩,⟨⟨rfl,e⟩,rfl⟩⟩⟩:=f
 exact⟨a,b,c,rfl,rfl,rfl,h0,d,e⟩
theorem X07{h:Hp}{c:Int}{a:Int}{b:Int}(h0:J0 c)(d:J0 a)(e:J0 b):Z0.W h [.int .i64 c,.int .i64 a,.int .i64 b] (c,a,b) ([]++([] ++ [])) :=
 ⟨[.int .i64 c],[.int .i64 a,.int .i64 b],[],([] ++ []),rfl,rfl,⟨⟨rfl,h0⟩,rfl⟩,⟨[.int .i64 a],[.int .i64 b],[],[],rfl,rfl,⟨⟨rfl,d⟩,rfl⟩,⟨⟨rfl,e⟩,rfl⟩⟩⟩
abbrev M0:Type:=List K0
abbrev H0:Wp M0:=Wp.slice Z0
instance L0s:DecidableEq M0:=inferInstanceAs (DecidableEq (List K0))
def U05(x:M0):Nat:=x.length
def x02(x:M0):Nat:=D5 A00 x
def g04(x:M0)(k:Int):M0:=mkL k05 A00 x k
abbrev j0:Type:=Int×Int×M0
abbrev j1:Wp j0:=Wp.pair Wp.int (Wp.pair Wp.int H0)
instance k0q:DecidableEq j0:=(@instDecidableEqProd _ _ (inferInstance:DecidableEq Int) (@instDecidableEqProd _ _ (inferInstance:DecidableEq Int) L0s))
def h04(x:j0):Nat:=U05 x.2.2
def Y07(x:j0):Nat:=1+1+x02 x.2.2
def v0n(x:j0)(k:Int):j0:=(k,(k+(1:Nat)),g04 x.2.2 (k+(1+1:Nat)))
theorem B0{h:Hp}{cs:List Value}{x:j0}(j:j1.R h cs x):∃(a:Int) (b:Int) (c:Option Addr) (e d:Nat) (f:M0),cs = [.int .i64 a,.int .i64 b,.slice c e d]/\x=(a,b,f)/\J0 a/\J0 b/\H0.R h [.slice c e d] f:=by
 obtain⟨a,b,f⟩:=x
 obtain⟨_,_,rfl,⟨rfl,h0⟩,⟨_,_,rfl,⟨rfl,i⟩,g⟩⟩:=j
 obtain⟨c,e,d,rfl⟩:=Wp.slice_cell g
 exact⟨a,b,c,e,d,f,rfl,rfl,h0,i,g⟩
theorem l0{h:Hp}{e:Int}{a:Int}{b:Option Addr}{d c:Nat}{f:M0}(h0:J0 e)(g:J0 a)(i:H0.R h [.slice b d c] f):j1.R h [.int .i64 e,.int .i64 a,.slice b d c] (e,a,f) :=
 ⟨[.int .i64 e],[.int .i64 a,.slice b d c],rfl,⟨rfl,h0⟩,⟨[.int .i64 a],[.slice b d c],rfl,⟨rfl,g⟩,i⟩⟩
abbrev H6:Type:=Int×Int
abbrev L5:Wp H6:=Wp.pair Wp.int Wp.int
instance I0t:DecidableEq H6:=(@instDecidableEqProd _ _ (inferInstance:DecidableEq Int) (inferInstance:DecidableEq Int))
theorem i04{h:Hp}{cs:List Value}{x:H6}(d:L5.R h cs x):∃(a:Int) (b:Int),cs = [.int .i64 a,.int .i64 b]/\x=(a,b)/\J0 a/\J0 b:=by
 obtain⟨a,b⟩:=x
 obtain⟨_,_,rfl,⟨rfl,h0⟩,⟨rfl,c⟩⟩:=d
 exact⟨a,b,rfl,rfl,h0,c⟩
theorem P2{h:Hp}{a:Int}{b:Int}(h0:J0 a)(c:J0 b):L5.R h [.int .i64 a,.int .i64 b] (a,b) :=
 ⟨[.int .i64 a],[.int .i64 b],rfl,⟨rfl,h0⟩,⟨rfl,c⟩⟩
abbrev C0:Type:=List Int
abbrev I0:Wp C0:=Wp.slice Wp.int
instance j0s:DecidableEq C0:=inferInstanceAs (DecidableEq (List Int))
def I4(x:C0):Nat:=x.length
def U0(x:C0):Nat:=D5 (λ_=>1) x
def Q2(x:C0)(k:Int):C0:=mkL (λ_ k=>k) (λ_=>1) x k
abbrev U1:Type:=List C0
abbrev D2:Wp U1:=Wp.slice I0
instance M0s:DecidableEq U1:=inferInstanceAs (DecidableEq (List C0))
def i6(x:U1):Nat:=x.length+D5 I4 x
def E1(x:U1):Nat:=D5 U0 x
def j6(x:U1)(k:Int):U1:=mkL Q2 U0 x k
abbrev t9:Type:=Int×Int×U1×C0×C0×j0×Int
abbrev S6:Wp t9:=Wp.pair Wp.int (Wp.pair Wp.int (Wp.pair D2 (Wp.pair I0 (Wp.pair I0 (Wp.pair j1 Wp.int)))))
instance D0t:DecidableEq t9:=(@instDecidableEqProd _ _ (inferInstance:DecidableEq Int) (@instDecidableEqProd _ _ (inferInstance:DecidableEq Int) (@instDecidableEqProd _ _ M0s (@instDecidableEqProd _ _ j0s (@instDecidableEqProd _ _ j0s (@instDecidableEqProd _ _ k0q (inferInstance:DecidableEq Int)))))))
def w9(x:t9):Nat:=i6 x.2.2.1+I4 x.2.2.2.1+I4 x.2.2.2.2.1+h04 x.2.2.2.2.2.1
def H4(x:t9):Nat:=1+1+E1 x.2.2.1+U0 x.2.2.2.1+U0 x.2.2.2.2.1+Y07 x.2.2.2.2.2.1+1
def N8(x:t9)(k:Int):t9:=(k,(k+(1:Nat)),j6 x.2.2.1 (k+(1+1:Nat)),Q2 x.2.2.2.1 (k+(1+1+E1 x.2.2.1:Nat)),Q2 x.2.2.2.2.1 (k+(1+1+E1 x.2.2.1+U0 x.2.2.2.1:Nat)),v0n x.2.2.2.2.2.1 (k+(1+1+E1 x.2.2.1+U0 x.2.2.2.1+U0 x.2.2.2.2.1:Nat)),(k+(1+1+E1 x.2.2.1+U0 x.2.2.2.1+U0 x.2.2.2.2.1+Y07 x.2.2.2.2.2.1:Nat)))
theorem j00{h:Hp}{cs:List Value}{x:t9}(G:S6.R h cs x):∃(a:Int) (b:Int) (f:Option Addr) (o k:Nat) (t:U1) (g:Option Addr) (p l:Nat) (u:C0) (i:Option Addr) (q m:Nat) (v:C0) (c:Int) (d:Int) (j:Option Addr) (s n:Nat) (w:M0) (e:Int),cs = [.int .i64 a,.int .i64 b,.slice f o k,.slice g p l,.slice i q m,.int .i64 c,.int .i64 d,.slice j s n,.int .i64 e]/\x=(a,b,t,u,v,(c,d,w),e)/\J0 a/\J0 b/\D2.R h [.slice f o k] t/\I0.R h [.slice g p l] u/\I0.R h [.slice i q m] v/\J0 c/\J0 d/\H0.R h [.slice j s n] w/\J0 e:=by
 obtain⟨a,b,t,u,v,⟨c,d,w⟩,e⟩:=x
 obtain⟨_,_,rfl,⟨rfl,h0⟩,⟨_,_,rfl,⟨rfl,C⟩,⟨_,_,rfl,y,⟨_,_,rfl,z,⟨_,_,rfl,A,⟨_,_,rfl,⟨_,_,rfl,⟨rfl,D⟩,⟨_,_,rfl,⟨rfl,E⟩,B⟩⟩,⟨rfl,F⟩⟩⟩⟩⟩⟩⟩:=G
 obtain⟨f,o,k,rfl⟩:=Wp.slice_cell y
 obtain⟨g,p,l,rfl⟩:=Wp.slice_cell z
 obtain⟨i,q,m,rfl⟩:=Wp.slice_cell A
 obtain⟨j,s,n,rfl⟩:=Wp.slice_cell B
 exact⟨a,b,f,o,k,t,g,p,l,u,i,q,m,v,c,d,j,s,n,w,e,rfl,rfl,h0,C,y,z,A,D,E,B,F⟩
theorem G03{h:Hp}{s:Int}{q:Int}{n:Option Addr}{p o:Nat}{t:U1}{k:Option Addr}{m l:Nat}{u:C0}{g:Option Addr}{j i:Nat}{v:C0}{e:Int}{a:Int}{b:Option Addr}{d c:Nat}{w:M0}{f:Int}(h0:J0 s)(x:J0 q)(y:D2.R h [.slice n p o] t)(z:I0.R h [.slice k m l] u)(A:I0.R h [.slice g j i] v)(B:J0 e)(C:J0 a)(D:H0.R h [.slice b d c] w)(E:J0 f):S6.R h [.int .i64 s,.int .i64 q,.slice n p o,.slice k m l,.slice g j i,.int .i64 e,.int .i64 a,.slice b d c,.int .i64 f] (s,q,t,u,v,(e,a,w),f) :=
 ⟨[.int .i64 s],[.int .i64 q,.slice n p o,.slice k m l,.slice g j i,.int .i64 e,.int .i64 a,.slice b d c,.int .i64 f],rfl,⟨rfl,h0⟩,⟨[.int .i64 q],[.slice n p o,.slice k m l,.slice g j i,.int .i64 e,.int .i64 a,.slice b d c,.int .i64 f],rfl,⟨rfl,x⟩,⟨[.slice n p o],[.slice k m l,.slice g j i,.int .i64 e,.int .i64 a,.slice b d c,.int .i64 f],rfl,y,⟨[.slice k m l],[.slice g j i,.int .i64 e,.int .i64 a,.slice b d c,.int .i64 f],rfl,z,⟨[.slice g j i],[.int .i64 e,.int .i64 a,.slice b d c,.int .i64 f],rfl,A,⟨[.int .i64 e,.int .i64 a,.slice b d c],[.int .i64 f],rfl,⟨[.int .i64 e],[.int .i64 a,.slice b d c],rfl,⟨rfl,B⟩,⟨[.int .i64 a],[.slice b d c],rfl,⟨rfl,C⟩,D⟩⟩,⟨rfl,E⟩⟩⟩⟩⟩⟩⟩
theorem Y01{h:Hp}{cs:List Value}{x:t9}{B:List Nat}(L:S6.W h cs x B):∃(a:Int) (b:Int) (f:Option Addr) (o k:Nat) (t:U1) (g:Option Addr) (p l:Nat) (u:C0) (i:Option Addr) (q m:Nat) (v:C0) (c:Int) (d:Int) (j:Option Addr) (s n:Nat) (w:M0) (e:Int) (y z A C:List Nat),cs = [.int .i64 a,.int .i64 b,.slice f o k,.slice g p l,.slice i q m,.int .i64 c,.int .i64 d,.slice j s n,.int .i64 e]/\x=(a,b,t,u,v,(c,d,w),e)/\B=([]++([]++(y++(z++(A++(([]++([]++C)) ++ []))))))/\J0 a/\J0 b/\D2.W h [.slice f o k] t y/\I0.W h [.slice g p l] u z/\I0.W h [.slice i q m] v A/\J0 c/\J0 d/\H0.W h [.slice j s n] w C/\J0 e:=by
 obtain⟨a,b,t,u,v,⟨c,d,w⟩,e⟩:=x
 obtain⟨_,_,_,_,rfl,rfl,⟨⟨rfl,h0⟩,rfl⟩,⟨_,_,_,_,rfl,rfl,⟨⟨rfl,H⟩,rfl⟩,⟨_,_,_,_,rfl,rfl,D,⟨_,_,_,_,rfl,rfl,E,⟨_,_,_,_,rfl,rfl,F,⟨_,_,_,_,rfl,rfl,⟨_,_,_,_,rfl,rfl,⟨⟨rfl,I⟩,rfl⟩,⟨_,_,_,_,rfl,rfl,⟨⟨rfl,J⟩,rfl⟩,G⟩⟩,⟨⟨rfl,K⟩,rfl⟩⟩⟩⟩⟩⟩⟩:=L
 obtain⟨f,o,k,rfl⟩:=Wp.slice_cell (D2.toR D)
 obtain⟨g,p,l,rfl⟩:=Wp.slice_cell (I0.toR E)
 obtain⟨i,q,m,rfl⟩:=Wp.slice_cell (I0.toR F)
 obtain⟨j,s,n,rfl⟩:=Wp.slice_cell (H0.toR G)
 exact⟨a,b,f,o,k,t,g,p,l,u,i,q,m,v,c,d,j,s,n,w,e,_,_,_,_,rfl,rfl,rfl,h0,H,D,E,F,I,J,G,K⟩
theorem n01{h:Hp}{w:Int}{v:Int}{s:Option Addr}{u t:Nat}{x:U1}{n:Option Addr}{p o:Nat}{y:C0}{j:Option Addr}{l k:Nat}{z:C0}{f:Int}{a:Int}{c:Option Addr}{e d:Nat}{A:M0}{g:Int}{q m i b:List Nat}(h0:J0 w)(B:J0 v)(C:D2.W h [.slice s u t] x q)(D:I0.W h [.slice n p o] y m)(E:I0.W h [.slice j l k] z i)(F:J0 f)(G:J0 a)(H:H0.W h [.slice c e d] A b)(I:J0 g):S6.W h [.int .i64 w,.int .i64 v,.slice s u t,.slice n p o,.slice j l k,.int .i64 f,.int .i64 a,.slice c e d,.int .i64 g] (w,v,x,y,z,(f,a,A),g) ([]++([]++(q++(m++(i++(([]++([]++b)) ++ [])))))) :=
 ⟨[.int .i64 w],[.int .i64 v,.slice s u t,.slice n p o,.slice j l k,.int .i64 f,.int .i64 a,.slice c e d,.int .i64 g],[],([]++(q++(m++(i++(([]++([]++b)) ++ []))))),rfl,rfl,⟨⟨rfl,h0⟩,rfl⟩,⟨[.int .i64 v],[.slice s u t,.slice n p o,.slice j l k,.int .i64 f,.int .i64 a,.slice c e d,.int .i64 g],[],(q++(m++(i++(([]++([]++b)) ++ [])))),rfl,rfl,⟨⟨rfl,B⟩,rfl⟩,⟨[.slice s u t],[.slice n p o,.slice j l k,.int .i64 f,.int .i64 a,.slice c e d,.int .i64 g],q,(m++(i++(([]++([]++b)) ++ []))),rfl,rfl,C,⟨[.slice n p o],[.slice j l k,.int .i64 f,.int .i64 a,.slice c e d,.int .i64 g],m,(i++(([]++([]++b)) ++ [])),rfl,rfl,D,⟨[.slice j l k],[.int .i64 f,.int .i64 a,.slice c e d,.int .i64 g],i,(([]++([]++b)) ++ []),rfl,rfl,E,⟨[.int .i64 f,.int .i64 a,.slice c e d],[.int .i64 g],([]++([]++b)),[],rfl,rfl,⟨[.int .i64 f],[.int .i64 a,.slice c e d],[],([]++b),rfl,rfl,⟨⟨rfl,F⟩,rfl⟩,⟨[.int .i64 a],[.slice c e d],[],b,rfl,rfl,⟨⟨rfl,G⟩,rfl⟩,H⟩⟩,⟨⟨rfl,I⟩,rfl⟩⟩⟩⟩⟩⟩⟩
abbrev Y00:Type:=List t9
abbrev n7:Wp Y00:=Wp.slice S6
instance K0r:DecidableEq Y00:=inferInstanceAs (DecidableEq (List t9))
def A03(x:Y00):Nat:=x.length+D5 w9 x
def K09(x:Y00):Nat:=D5 H4 x
def J0b(x:Y00)(k:Int):Y00:=mkL N8 H4 x k
abbrev A4:Type:=Int×Y00
abbrev l5:Wp A4:=Wp.pair Wp.int n7
instance c0t:DecidableEq A4:=(@instDecidableEqProd _ _ (inferInstance:DecidableEq Int) K0r)
def K00(x:A4):Nat:=A03 x.2
def H03(x:A4):Nat:=K09 x.2
def J0a(x:A4)(k:Int):A4:=(x.1,J0b x.2 k)
theorem S8{h:Hp}{cs:List Value}{x:A4}(g:l5.R h cs x):∃(a:Int) (b:Option Addr) (d c:Nat) (e:Y00),cs = [.int .i64 a,.slice b d c]/\x=(a,e)/\J0 a/\n7.R h [.slice b d c] e:=by
 obtain⟨a,e⟩:=x
 obtain⟨_,_,rfl,⟨rfl,h0⟩,f⟩:=g
 obtain⟨b,d,c,rfl⟩:=Wp.slice_cell f
 exact⟨a,b,d,c,e,rfl,rfl,h0,f⟩
theorem s03{h:Hp}{a:Int}{b:Option Addr}{d c:Nat}{e:Y00}(h0:J0 a)(f:n7.R h [.slice b d c] e):l5.R h [.int .i64 a,.slice b d c] (a,e) :=
 ⟨[.int .i64 a],[.slice b d c],rfl,⟨rfl,h0⟩,f⟩
theorem T0g{h:Hp}{cs:List Value}{x:A4}{B:List Nat}(i:l5.W h cs x B):∃(a:Int) (b:Option Addr) (d c:Nat) (e:Y00) (f:List Nat),cs = [.int .i64 a,.slice b d c]/\x=(a,e)/\B=([]++f)/\J0 a/\n7.W h [.slice b d c] e f:=by
 obtain⟨a,e⟩:=x
 obtain⟨_,_,_,_,rfl,rfl,⟨⟨rfl,h0⟩,rfl⟩,g⟩:=i
 obtain⟨b,d,c,rfl⟩:=Wp.slice_cell (n7.toR g)
 exact⟨a,b,d,c,e,_,rfl,rfl,rfl,h0,g⟩
abbrev i0m:Type:=ByteArray×j0
instance E0t:DecidableEq i0m:=(@instDecidableEqProd _ _ (inferInstance:DecidableEq ByteArray) k0q)
abbrev F0e:Type:=List i0m
instance v0t:DecidableEq F0e:=inferInstanceAs (DecidableEq (List i0m))
abbrev T9:Type:=List H6
abbrev c0j:Wp T9:=Wp.slice L5
instance F0t:DecidableEq T9:=inferInstanceAs (DecidableEq (List H6))
theorem L0r(x:K0):A00 x<=3:=by
 simp only[A00]
 omega
theorem M0r(x:M0):x02 x<=16*U05 x:=x0f (c:=A00) (λx=>by have:=L0r x;omega) x
theorem l0q(x:j0):Y07 x<=2+16*h04 x:=by
 have:=M0r x.2.2
 simp only[Y07,h04]
 omega
theorem j0m(x:C0):U0 x<=16*I4 x:=x0f (c:=(λ_=>1)) (λx=>by omega) x
theorem N0r(x:U1):E1 x<=16*i6 x:=Y0i (c:=U0) (m:=I4) (λx=>by have:=j0m x;omega) x
theorem m0q(x:t9):H4 x<=5+16*w9 x:=by
 have:=N0r x.2.2.1
 have:=j0m x.2.2.2.1
 have:=j0m x.2.2.2.2.1
 have:=l0q x.2.2.2.2.2.1
 simp only[H4,w9]
 omega
theorem n0q(x:Y00):K09 x<=16*A03 x:=Y0i (c:=H4) (m:=w9) (λx=>by have:=m0q x;omega) x
theorem k0m(x:A4):H03 x<=16*K00 x:=by
 have:=n0q x.2
 simp only[H03,K00]
 omega
theorem W0c(h:Hp):∃ cs,Z0.R h cs (0,0,0):=⟨_,K1 (by decide) (by decide) (by decide)⟩
theorem O0r(h:Hp):∃ cs,S6.R h cs (0,0,[],[],[],(0,0,[]),0):=⟨_,G03 (by decide) (by decide) (S08 I0 h) (S08 Wp.int h) (S08 Wp.int h) (by decide) (by decide) (S08 Z0 h) (by decide)⟩
theorem h0p(h:Hp)(a:Option Addr)(n c:Nat)(xs:M0)(left:Int)(f:H0.R h [.slice a n c] xs)(g:0<=left/\left<=1048576):
  Tr Tryz.prog 102 #[.slice a n c,.int .i64 left] h λv e=>v = .int .i64 (szR left (U05 xs))/\e=h:=by
 obtain⟨rfl,i⟩:=Sl.len f
 have d:IntKind.i64.wrap (left-(xs.length:Int))=left-xs.length:=w64 (by omega) (by omega)
 refine Z1 (args:=[.slice a xs.length c,.int .i64 left]) (fn:=Tryz.f102) rfl ?_
 refine aI (λb=>?_) (λb=>?_)
 ·refine aI ?_ rfl
  simp[d]at b
  rw[U05,W0i (by omega)]
  rfl
 ·refine aI ?_ rfl
  simp[d]at b
  rw[U05,X0i (by omega)]
  exact congrArg (Value.int .i64) d
theorem i0p(h:Hp)(cs:List Value)(x:j0)(left:Int)(k:j1.R h cs x)(f:0<=left/\left<=1048576):
  Tr Tryz.prog 41 #[.agg cs.toArray,.int .i64 left] h λv i=>v = .int .i64 (szR left (h04 x))/\i=h:=by
 obtain⟨m,n,d,g,e,b,rfl,rfl,h0,o,j⟩:=B0 k
 refine Z1 (args:=[.agg #[.int .i64 m,.int .i64 n,.slice d g e],.int .i64 left]) (fn:=Tryz.f41) rfl ?_
 refine Tr.val (h0p h d g e b (left) j f) ?_
 refine aI (λc=>?_) (λc=>?_)
 ·refine aI ?_ rfl
  rw[h04,b05 (left:=left) (a:=((U05 b:Nat):Int)) (by simpa using c) f.1 (by simp only[];omega)]
  rfl
 have l:0<=szR left ((U05 b:Nat):Int):=by simpa using c
 have p:0<=szR left ((U05 b:Nat):Int)/\szR left ((U05 b:Nat):Int)<=1048576:=by
  have:=V07 l
  omega
 exact aI rfl rfl
theorem K0g(h:Hp)(a:Option Addr)(n c:Nat)(xs:C0)(left:Int)(f:I0.R h [.slice a n c] xs)(g:0<=left/\left<=1048576):
  Tr Tryz.prog 83 #[.slice a n c,.int .i64 left] h λv e=>v = .int .i64 (szR left (I4 xs))/\e=h:=by
 obtain⟨rfl,i⟩:=Sl.len f
 have d:IntKind.i64.wrap (left-(xs.length:Int))=left-xs.length:=w64 (by omega) (by omega)
 refine Z1 (args:=[.slice a xs.length c,.int .i64 left]) (fn:=Tryz.f83) rfl ?_
 refine aI (λb=>?_) (λb=>?_)
 ·refine aI ?_ rfl
  simp[d]at b
  rw[I4,W0i (by omega)]
  rfl
 ·refine aI ?_ rfl
  simp[d]at b
  rw[I4,X0i (by omega)]
  exact congrArg (Value.int .i64) d
theorem j0p(h:Hp)(a:Option Addr)(n c:Nat)(xs:U1)(left:Int)(q:D2.R h [.slice a n c] xs)(z:0<=left/\left<=1048576):
  Tr Tryz.prog 33 #[.slice a n c,.int .i64 left] h λv d=>v = .int .i64 (szR left (i6 xs))/\d=h:=by
 obtain⟨rfl,A⟩:=Sl.len q
 have i:IntKind.i64.wrap (left-(xs.length:Int))=left-xs.length:=w64 (by omega) (by omega)
 refine Z1 (args:=[.slice a xs.length c,.int .i64 left]) (fn:=Tryz.f33) rfl ?_
 refine aI (λe=>?_) (λe=>?_)
 ·refine aI ?_ rfl
  simp[i]at e
  rw[i6,W0i (by omega)]
  rfl
 simp[i]at e
 refine eX { vars:=[1,5],boxes:=[],owns:=[] } (eX (λvs _ d=>∃ k:Nat,k<=xs.length/\0<=szR left ((xs.length+D5 I4 (xs.take k):Nat):Int)/\vs = [.int .i64 (szR left ((xs.length+D5 I4 (xs.take k):Nat):Int)),.int .i64 k]/\d=h) (eX (λvs _=>match vs with | [_,.int _ j]=>((xs.length:Int)-j).toNat|_=>0) ?_))
 have h0:szR left ((xs.length+D5 I4 (xs.take 0):Nat):Int)=left-xs.length:=by rw[X0i (by simp[D5];omega)];simp[D5]
 refine aI ⟨0,by omega,by omega,by rw[h0];exact congrArg (λx=>[Value.int .i64 x,Value.int .i64 0]) i,rfl⟩ ?_
 rintro _ _ G ⟨k,m,p,⟨⟩,rfl⟩
 obtain⟨H,I⟩:=V07 p
 refine aI (λf=>?_) (λf=>?_)
 ·have o:k<xs.length:=by simpa using f
  obtain⟨x,l⟩:=z00 o
  obtain⟨u,F,y,s⟩:=Sl.get q l (by decide)
  have D:=Y1 o A
  obtain⟨t,E,w,rfl⟩:=Wp.slice_cell s
  refine aI u (eX _ (aI y ?_))
  refine Tr.val (K0g _ t E w x _ s ⟨by omega,by omega⟩) ?_
  have g:szR (szR left ((xs.length+D5 I4 (xs.take k):Nat):Int)) (I4 x:Nat)=szR left ((xs.length+D5 I4 (xs.take (k+1)):Nat):Int):=by
   rw[y06 p (by omega) (by omega),D04 l]
   congr 1
   omega
  refine aI (λb=>?_) (λb=>?_)
  ·refine aI ?_ rfl
   rw[g]at b
   have B:szR left ((xs.length+D5 I4 (xs.take (k+1)):Nat):Int)<0:=by simpa using b
   have:=E04 I4 xs (k+1)
   rw[i6,b05 B z.1 (by omega)]
   rfl
  ·rw[g]at b
   have C:0<=szR left ((xs.length+D5 I4 (xs.take (k+1)):Nat):Int):=by simpa using b
   refine aI rfl (aI (by first|exact trivial|exact aI rfl trivial|exact aI rfl (aI rfl trivial)|exact aI rfl (aI rfl (aI rfl trivial))|exact aI rfl (aI rfl (aI rfl (aI rfl trivial)))) (aI (by first|exact trivial|exact aI rfl trivial|exact aI rfl (aI rfl trivial)|exact aI rfl (aI rfl (aI rfl trivial))|exact aI rfl (aI rfl (aI rfl (aI rfl trivial)))) (aI ?_ ?_)))
   ·refine⟨k+1,by omega,C,?_,rfl⟩
    rw[←D,←g]
   ·show((xs.length:Int)-IntKind.i64.wrap ((k:Int)+1)).toNat<((xs.length:Int)-(k:Int)).toNat
    omega
 ·have m:k=xs.length:=by simp at f;omega
  subst m
  refine aI ?_ rfl
  rw[List.take_length]
  rfl
theorem k0p(h:Hp)(cs:List Value)(x:t9)(left:Int)(Q:S6.R h cs x)(k:0<=left/\left<=1048576):
  Tr Tryz.prog 26 #[.agg cs.toArray,.int .i64 left] h λv G=>v = .int .i64 (szR left (w9 x))/\G=h:=by
 obtain⟨T,U,s,C,y,b,t,D,z,c,u,E,A,e,g,i,w,F,B,j,V,rfl,rfl,h0,W,H,I,J,K,L,M,X⟩:=j00 Q
 refine Z1 (args:=[.agg #[.int .i64 T,.int .i64 U,.slice s C y,.slice t D z,.slice u E A,.int .i64 g,.int .i64 i,.slice w F B,.int .i64 V],.int .i64 left]) (fn:=Tryz.f26) rfl ?_
 refine Tr.val (j0p h s C y b (left) H k) ?_
 refine aI (λf=>?_) (λf=>?_)
 ·refine aI ?_ rfl
  rw[w9,b05 (left:=left) (a:=((i6 b:Nat):Int)) (by simpa using f) k.1 (by simp only[];omega)]
  rfl
 have n:0<=szR left ((i6 b:Nat):Int):=by simpa using f
 have N:0<=szR left ((i6 b:Nat):Int)/\szR left ((i6 b:Nat):Int)<=1048576:=by
  have:=V07 n
  omega
 refine Tr.val (K0g h t D z c (szR left ((i6 b:Nat):Int)) I N) ?_
 refine aI (λf=>?_) (λf=>?_)
 ·refine aI ?_ rfl
  have d:szR (szR left ((i6 b:Nat):Int)) ((I4 c:Nat):Int)<0:=by simpa using f
  rw[ y06 n (by omega) (by omega)]at d
  rw[w9,b05 d k.1 (by simp only[];omega)]
  rfl
 have d:0<=szR (szR left ((i6 b:Nat):Int)) ((I4 c:Nat):Int):=by simpa using f
 have l:szR left ((i6 b+I4 c:Nat):Int)=szR (szR left ((i6 b:Nat):Int)) ((I4 c:Nat):Int):=by rw[ y06 n (by omega) (by omega)];congr 1
 have o:0<=szR left ((i6 b+I4 c:Nat):Int):=by rw[l];exact d
 clear d
 have O:0<=szR (szR left ((i6 b:Nat):Int)) ((I4 c:Nat):Int)/\szR (szR left ((i6 b:Nat):Int)) ((I4 c:Nat):Int)<=1048576:=by
  rw[←l]
  have:=V07 o
  omega
 refine Tr.val (K0g h u E A e (szR (szR left ((i6 b:Nat):Int)) ((I4 c:Nat):Int)) J O) ?_
 refine aI (λf=>?_) (λf=>?_)
 ·refine aI ?_ rfl
  have d:szR (szR (szR left ((i6 b:Nat):Int)) ((I4 c:Nat):Int)) ((I4 e:Nat):Int)<0:=by simpa using f
  rw[←l,y06 o (by omega) (by omega)]at d
  rw[w9,b05 d k.1 (by simp only[];omega)]
  rfl
 have d:0<=szR (szR (szR left ((i6 b:Nat):Int)) ((I4 c:Nat):Int)) ((I4 e:Nat):Int):=by simpa using f
 have m:szR left ((i6 b+I4 c+I4 e:Nat):Int)=szR (szR (szR left ((i6 b:Nat):Int)) ((I4 c:Nat):Int)) ((I4 e:Nat):Int):=by rw[←l,y06 o (by omega) (by omega)];congr 1
 have p:0<=szR left ((i6 b+I4 c+I4 e:Nat):Int):=by rw[m];exact d
 clear d
 have P:0<=szR (szR (szR left ((i6 b:Nat):Int)) ((I4 c:Nat):Int)) ((I4 e:Nat):Int)/\szR (szR (szR left ((i6 b:Nat):Int)) ((I4 c:Nat):Int)) ((I4 e:Nat):Int)<=1048576:=by
  rw[←m]
  have:=V07 p
  omega
 refine Tr.val (i0p h [.int .i64 g,.int .i64 i,.slice w F B] (g,i,j) (szR (szR (szR left ((i6 b:Nat):Int)) ((I4 c:Nat):Int)) ((I4 e:Nat):Int)) (l0 K L M) P) ?_
 refine aI (λf=>?_) (λf=>?_)
 ·refine aI ?_ rfl
  have d:szR (szR (szR (szR left ((i6 b:Nat):Int)) ((I4 c:Nat):Int)) ((I4 e:Nat):Int)) ((h04 (g,i,j):Nat):Int)<0:=by simpa using f
  rw[←m,y06 p (by omega) (by omega)]at d
  rw[w9,b05 d k.1 (by simp only[];omega)]
  rfl
 have d:0<=szR (szR (szR (szR left ((i6 b:Nat):Int)) ((I4 c:Nat):Int)) ((I4 e:Nat):Int)) ((h04 (g,i,j):Nat):Int):=by simpa using f
 have q:szR left ((i6 b+I4 c+I4 e+h04 (g,i,j):Nat):Int)=szR (szR (szR (szR left ((i6 b:Nat):Int)) ((I4 c:Nat):Int)) ((I4 e:Nat):Int)) ((h04 (g,i,j):Nat):Int):=by rw[←m,y06 p (by omega) (by omega)];congr 1
 have S:0<=szR left ((i6 b+I4 c+I4 e+h04 (g,i,j):Nat):Int):=by rw[q];exact d
 clear d
 have Y:0<=szR (szR (szR (szR left ((i6 b:Nat):Int)) ((I4 c:Nat):Int)) ((I4 e:Nat):Int)) ((h04 (g,i,j):Nat):Int)/\szR (szR (szR (szR left ((i6 b:Nat):Int)) ((I4 c:Nat):Int)) ((I4 e:Nat):Int)) ((h04 (g,i,j):Nat):Int)<=1048576:=by
  rw[←q]
  have:=V07 S
  omega
 exact aI (congrArg (Value.int .i64) (q.symm.trans (by rw[w9]))) rfl
theorem R0m(h:Hp)(a:Option Addr)(n c:Nat)(xs:Y00)(left:Int)(y:n7.R h [.slice a n c] xs)(X:0<=left/\left<=1048576):
  Tr Tryz.prog 75 #[.slice a n c,.int .i64 left] h λv d=>v = .int .i64 (szR left (A03 xs))/\d=h:=by
 obtain⟨rfl,Y⟩:=Sl.len y
 have i:IntKind.i64.wrap (left-(xs.length:Int))=left-xs.length:=w64 (by omega) (by omega)
 refine Z1 (args:=[.slice a xs.length c,.int .i64 left]) (fn:=Tryz.f75) rfl ?_
 refine aI (λe=>?_) (λe=>?_)
 ·refine aI ?_ rfl
  simp[i]at e
  rw[A03,W0i (by omega)]
  rfl
 simp[i]at e
 refine eX { vars:=[1,5],boxes:=[],owns:=[] } (eX (λvs _ d=>∃ k:Nat,k<=xs.length/\0<=szR left ((xs.length+D5 w9 (xs.take k):Nat):Int)/\vs = [.int .i64 (szR left ((xs.length+D5 w9 (xs.take k):Nat):Int)),.int .i64 k]/\d=h) (eX (λvs _=>match vs with | [_,.int _ j]=>((xs.length:Int)-j).toNat|_=>0) ?_))
 have h0:szR left ((xs.length+D5 w9 (xs.take 0):Nat):Int)=left-xs.length:=by rw[X0i (by simp[D5];omega)];simp[D5]
 refine aI ⟨0,by omega,by omega,by rw[h0];exact congrArg (λx=>[Value.int .i64 x,Value.int .i64 0]) i,rfl⟩ ?_
 rintro _ _ ai ⟨k,t,w,⟨⟩,rfl⟩
 obtain⟨aj,ak⟩:=V07 w
 refine aI (λf=>?_) (λf=>?_)
 ·have u:k<xs.length:=by simpa using f
  obtain⟨x,s⟩:=z00 u
  obtain⟨H,ah,M,ac⟩:=Sl.get y s (by decide)
  have ab:=Y1 u Y
  obtain⟨l,m,D,ad,I,z,E,ae,J,A,F,af,K,B,o,p,G,ag,L,C,q,rfl,rfl,N,O,P,Q,S,T,U,V,W⟩:=j00 ac
  refine aI H (eX _ (aI M ?_))
  refine Tr.val (k0p _ [.int .i64 l,.int .i64 m,.slice D ad I,.slice E ae J,.slice F af K,.int .i64 o,.int .i64 p,.slice G ag L,.int .i64 q] (l,m,z,A,B,(o,p,C),q) _ (G03 N O P Q S T U V W) ⟨by omega,by omega⟩) ?_
  have g:szR (szR left ((xs.length+D5 w9 (xs.take k):Nat):Int)) (w9 (l,m,z,A,B,(o,p,C),q):Nat)=szR left ((xs.length+D5 w9 (xs.take (k+1)):Nat):Int):=by
   rw[y06 w (by omega) (by omega),D04 s]
   congr 1
   omega
  refine aI (λb=>?_) (λb=>?_)
  ·refine aI ?_ rfl
   rw[g]at b
   have Z:szR left ((xs.length+D5 w9 (xs.take (k+1)):Nat):Int)<0:=by simpa using b
   have:=E04 w9 xs (k+1)
   rw[A03,b05 Z X.1 (by omega)]
   rfl
  ·rw[g]at b
   have aa:0<=szR left ((xs.length+D5 w9 (xs.take (k+1)):Nat):Int):=by simpa using b
   refine aI rfl (aI (by first|exact trivial|exact aI rfl trivial|exact aI rfl (aI rfl trivial)|exact aI rfl (aI rfl (aI rfl trivial))|exact aI rfl (aI rfl (aI rfl (aI rfl trivial)))) (aI (by first|exact trivial|exact aI rfl trivial|exact aI rfl (aI rfl trivial)|exact aI rfl (aI rfl (aI rfl trivial))|exact aI rfl (aI rfl (aI rfl (aI rfl trivial)))) (aI ?_ ?_)))
   ·refine⟨k+1,by omega,aa,?_,rfl⟩
    rw[←ab,←g]
   ·show((xs.length:Int)-IntKind.i64.wrap ((k:Int)+1)).toNat<((xs.length:Int)-(k:Int)).toNat
    omega
 ·have t:k=xs.length:=by simp at f;omega
  subst t
  refine aI ?_ rfl
  rw[List.take_length]
  rfl
theorem G0j(h:Hp)(cs:List Value)(x:A4)(left:Int)(k:l5.R h cs x)(f:0<=left/\left<=1048576):
  Tr Tryz.prog 15 #[.agg cs.toArray,.int .i64 left] h λv i=>v = .int .i64 (szR left (K00 x))/\i=h:=by
 obtain⟨m,d,g,e,b,rfl,rfl,h0,j⟩:=S8 k
 refine Z1 (args:=[.agg #[.int .i64 m,.slice d g e],.int .i64 left]) (fn:=Tryz.f15) rfl ?_
 refine Tr.val (R0m h d g e b (left) j f) ?_
 refine aI (λc=>?_) (λc=>?_)
 ·refine aI ?_ rfl
  rw[K00,b05 (left:=left) (a:=((A03 b:Nat):Int)) (by simpa using c) f.1 (by simp only[];omega)]
  rfl
 have l:0<=szR left ((A03 b:Nat):Int):=by simpa using c
 have n:0<=szR left ((A03 b:Nat):Int)/\szR left ((A03 b:Nat):Int)<=1048576:=by
  have:=V07 l
  omega
 exact aI rfl rfl
theorem l0r(h:Hp)(cs ds:List Value)(x y:K0)(l:Z0.R h cs x)(m:Z0.R h ds y):
  Tr Tryz.prog 225 #[.agg cs.toArray,.agg ds.toArray] h λv k=>v = .bool (decide (x=y))/\k=h:=by
 obtain⟨c,f,i,rfl,rfl,h0,s,u⟩:=P1 l
 obtain⟨d,g,j,rfl,rfl,q,t,w⟩:=P1 m
 refine Z1 (args:=[.agg #[.int .i64 c,.int .i64 f,.int .i64 i],.agg #[.int .i64 d,.int .i64 g,.int .i64 j]]) (fn:=Tryz.f225) rfl ?_
 refine aI (λa=>?_) (λa=>?_)
 ·have b:c≠d:=by simpa using a
  exact aI (congrArg Value.bool (decide_eq_false λe=>by cases e;exact b rfl).symm) rfl
 have n:c=d:=by simpa using a
 subst n
 refine aI (λa=>?_) (λa=>?_)
 ·have b:f≠g:=by simpa using a
  exact aI (congrArg Value.bool (decide_eq_false λe=>by cases e;exact b rfl).symm) rfl
 have o:f=g:=by simpa using a
 subst o
 refine aI (λa=>?_) (λa=>?_)
 ·have b:i≠j:=by simpa using a
  exact aI (congrArg Value.bool (decide_eq_false λe=>by cases e;exact b rfl).symm) rfl
 have p:i=j:=by simpa using a
 subst p
 exact aI (congrArg Value.bool (decide_eq_true rfl).symm) rfl
theorem l0p(h:Hp)(a:Option Addr)(n c:Nat)(p:Option Addr)(G q:Nat)(xs b:M0)(E:H0.R h [.slice a n c] xs)(F:H0.R h [.slice p G q] b):
  Tr Tryz.prog 116 #[.slice a n c,.slice p G q] h λv u=>v = .bool (decide (xs=b))/\u=h:=by
 obtain⟨rfl,U⟩:=Sl.len E
 obtain⟨rfl,ac⟩:=Sl.len F
 refine Z1 (args:=[.slice a xs.length c,.slice p b.length q]) (fn:=Tryz.f116) rfl ?_
 refine aI (λw=>?_) (λw=>?_)
 ·refine aI (congrArg Value.bool ?_) rfl
  have:xs.length≠b.length:=by simp at w;omega
  exact(decide_eq_false λe=>this (by rw[e])).symm
 have T:xs.length=b.length:=by simp at w;omega
 refine eX { vars:=[5],boxes:=[],owns:=[] } (eX (λvs _ u=>∃ k:Nat,k<=xs.length/\xs.take k=b.take k/\vs = [.int .i64 k]/\u=h) (eX (λvs _=>match vs with | [.int _ j]=>((xs.length:Int)-j).toNat|_=>0) ?_))
 refine aI ⟨0,by omega,by simp,rfl,rfl⟩ ?_
 rintro _ ab ⟨k,C,B,⟨⟩,rfl⟩
 refine aI (λz=>?_) (λz=>?_)
 ·have D:k<xs.length:=by simpa using z
  obtain⟨x,s⟩:=z00 D
  obtain⟨y,t⟩:=z00 (l:=b) (k:=k) (by omega)
  obtain⟨H,Z,J,X⟩:=Sl.get E s (by decide)
  obtain⟨I,aa,K,Y⟩:=Sl.get F t (by decide)
  have W:=Y1 D U
  obtain⟨d,g,m,rfl,rfl,L,N,P⟩:=P1 X
  obtain⟨f,i,o,rfl,rfl,M,O,Q⟩:=P1 Y
  refine Or.inl (aI (aI (by kernel_rfl) (by kernel_rfl)) ?_)
  refine aI H (eX _ (aI J (aI I (eX _ (aI K ?_)))))
  refine eX (.bool _) (aI (l0r _ [.int .i64 d,.int .i64 g,.int .i64 m] [.int .i64 f,.int .i64 i,.int .i64 o] (d,g,m) (f,i,o) (K1 L N P) (K1 M O Q)) ?_)
  refine aI (λA=>?_) (λA=>?_)
  ·refine aI (congrArg Value.bool ?_) rfl
   have V:(d,g,m)≠(f,i,o):=v05 A
   exact(decide_eq_false λe=>V (oJ (s.symm.trans ((congrArg (λl:M0=>l[k]?) e).trans t)))).symm
  ·have S:(d,g,m)=(f,i,o):=f04 A
   refine aI rfl (aI (by first|exact trivial|exact aI rfl trivial|exact aI rfl (aI rfl trivial)|exact aI rfl (aI rfl (aI rfl trivial))|exact aI rfl (aI rfl (aI rfl (aI rfl trivial)))) (aI (by first|exact trivial|exact aI rfl trivial|exact aI rfl (aI rfl trivial)|exact aI rfl (aI rfl (aI rfl trivial))|exact aI rfl (aI rfl (aI rfl (aI rfl trivial)))) (aI ?_ ?_)))
   ·refine⟨k+1,by omega,by rw[i00 s,i00 t,B,S],?_,rfl⟩
    rw[←W]
   ·show((xs.length:Int)-IntKind.i64.wrap ((k:Int)+1)).toNat<((xs.length:Int)-(k:Int)).toNat
    omega
 ·have C:k=xs.length:=by simp at z;omega
  refine aI (congrArg Value.bool ?_) rfl
  refine(decide_eq_true ?_).symm
  subst C
  rwa [List.take_length,T,List.take_length]at B
theorem m0p(h:Hp)(cs ds:List Value)(x y:j0)(u:j1.R h cs x)(w:j1.R h ds y):
  Tr Tryz.prog 45 #[.agg cs.toArray,.agg ds.toArray] h λv q=>v = .bool (decide (x=y))/\q=h:=by
 obtain⟨c,f,k,o,m,i,rfl,rfl,h0,D,s⟩:=B0 u
 obtain⟨d,g,l,p,n,j,rfl,rfl,C,E,t⟩:=B0 w
 refine Z1 (args:=[.agg #[.int .i64 c,.int .i64 f,.slice k o m],.agg #[.int .i64 d,.int .i64 g,.slice l p n]]) (fn:=Tryz.f45) rfl ?_
 refine aI (λa=>?_) (λa=>?_)
 ·have b:c≠d:=by simpa using a
  exact aI (congrArg Value.bool (decide_eq_false λe=>by cases e;exact b rfl).symm) rfl
 have z:c=d:=by simpa using a
 subst z
 refine aI (λa=>?_) (λa=>?_)
 ·have b:f≠g:=by simpa using a
  exact aI (congrArg Value.bool (decide_eq_false λe=>by cases e;exact b rfl).symm) rfl
 have A:f=g:=by simpa using a
 subst A
 refine Tr.val (l0p h k o m l p n i j s t) ?_
 refine aI (λa=>?_) (λa=>?_)
 ·have b:i≠j:=v05 a
  exact aI (congrArg Value.bool (decide_eq_false λe=>by cases e;exact b rfl).symm) rfl
 have B:i=j:=f04 a
 subst B
 exact aI (congrArg Value.bool (decide_eq_true rfl).symm) rfl
theorem D07(h:Hp)(a:Option Addr)(n c:Nat)(d:Option Addr)(A f:Nat)(xs b:C0)(w:I0.R h [.slice a n c] xs)(z:I0.R h [.slice d A f] b):
  Tr Tryz.prog 22 #[.slice a n c,.slice d A f] h λv m=>v = .bool (decide (xs=b))/\m=h:=by
 obtain⟨rfl,H⟩:=Sl.len w
 obtain⟨rfl,P⟩:=Sl.len z
 refine Z1 (args:=[.slice a xs.length c,.slice d b.length f]) (fn:=Tryz.f22) rfl ?_
 refine aI (λo=>?_) (λo=>?_)
 ·refine aI (congrArg Value.bool ?_) rfl
  have:xs.length≠b.length:=by simp at o;omega
  exact(decide_eq_false λe=>this (by rw[e])).symm
 have G:xs.length=b.length:=by simp at o;omega
 refine eX { vars:=[5],boxes:=[],owns:=[] } (eX (λvs _ m=>∃ k:Nat,k<=xs.length/\xs.take k=b.take k/\vs = [.int .i64 k]/\m=h) (eX (λvs _=>match vs with | [.int _ j]=>((xs.length:Int)-j).toNat|_=>0) ?_))
 refine aI ⟨0,by omega,by simp,rfl,rfl⟩ ?_
 rintro _ O ⟨k,t,s,⟨⟩,rfl⟩
 refine aI (λp=>?_) (λp=>?_)
 ·have u:k<xs.length:=by simpa using p
  obtain⟨x,g⟩:=z00 u
  obtain⟨y,i⟩:=z00 (l:=b) (k:=k) (by omega)
  obtain⟨B,M,D,K⟩:=Sl.get w g (by decide)
  obtain⟨C,N,E,L⟩:=Sl.get z i (by decide)
  have J:=Y1 u H
  obtain⟨rfl,_⟩:=K
  obtain⟨rfl,_⟩:=L
  refine Or.inl (aI (aI (by kernel_rfl) (by kernel_rfl)) ?_)
  refine aI B (eX _ (aI D (aI C (eX _ (aI E ?_)))))
  refine aI (λq=>?_) (λq=>?_)
  ·refine aI (congrArg Value.bool ?_) rfl
   have I:x≠y:=by simpa using q
   exact(decide_eq_false λe=>I (oJ (g.symm.trans ((congrArg (λl:C0=>l[k]?) e).trans i)))).symm
  ·have F:x=y:=by simpa using q
   refine aI rfl (aI (by first|exact trivial|exact aI rfl trivial|exact aI rfl (aI rfl trivial)|exact aI rfl (aI rfl (aI rfl trivial))|exact aI rfl (aI rfl (aI rfl (aI rfl trivial)))) (aI (by first|exact trivial|exact aI rfl trivial|exact aI rfl (aI rfl trivial)|exact aI rfl (aI rfl (aI rfl trivial))|exact aI rfl (aI rfl (aI rfl (aI rfl trivial)))) (aI ?_ ?_)))
   ·refine⟨k+1,by omega,by rw[i00 g,i00 i,s,F],?_,rfl⟩
    rw[←J]
   ·show((xs.length:Int)-IntKind.i64.wrap ((k:Int)+1)).toNat<((xs.length:Int)-(k:Int)).toNat
    omega
 ·have t:k=xs.length:=by simp at p;omega
  refine aI (congrArg Value.bool ?_) rfl
  refine(decide_eq_true ?_).symm
  subst t
  rwa [List.take_length,G,List.take_length]at s
theorem n0p(h:Hp)(a:Option Addr)(n c:Nat)(d:Option Addr)(C f:Nat)(xs b:U1)(w:D2.R h [.slice a n c] xs)(z:D2.R h [.slice d C f] b):
  Tr Tryz.prog 38 #[.slice a n c,.slice d C f] h λv m=>v = .bool (decide (xs=b))/\m=h:=by
 obtain⟨rfl,J⟩:=Sl.len w
 obtain⟨rfl,U⟩:=Sl.len z
 refine Z1 (args:=[.slice a xs.length c,.slice d b.length f]) (fn:=Tryz.f38) rfl ?_
 refine aI (λo=>?_) (λo=>?_)
 ·refine aI (congrArg Value.bool ?_) rfl
  have:xs.length≠b.length:=by simp at o;omega
  exact(decide_eq_false λe=>this (by rw[e])).symm
 have I:xs.length=b.length:=by simp at o;omega
 refine eX { vars:=[5],boxes:=[],owns:=[] } (eX (λvs _ m=>∃ k:Nat,k<=xs.length/\xs.take k=b.take k/\vs = [.int .i64 k]/\m=h) (eX (λvs _=>match vs with | [.int _ j]=>((xs.length:Int)-j).toNat|_=>0) ?_))
 refine aI ⟨0,by omega,by simp,rfl,rfl⟩ ?_
 rintro _ T ⟨k,t,s,⟨⟩,rfl⟩
 refine aI (λp=>?_) (λp=>?_)
 ·have u:k<xs.length:=by simpa using p
  obtain⟨x,g⟩:=z00 u
  obtain⟨y,i⟩:=z00 (l:=b) (k:=k) (by omega)
  obtain⟨D,Q,F,A⟩:=Sl.get w g (by decide)
  obtain⟨E,S,G,B⟩:=Sl.get z i (by decide)
  have L:=Y1 u J
  obtain⟨M,V,O,rfl⟩:=Wp.slice_cell A
  obtain⟨N,W,P,rfl⟩:=Wp.slice_cell B
  refine Or.inl (aI (aI (by kernel_rfl) (by kernel_rfl)) ?_)
  refine aI D (eX _ (aI F (aI E (eX _ (aI G ?_)))))
  refine eX (.bool _) (aI (D07 _ _ _ _ _ _ _ x y A B) ?_)
  refine aI (λq=>?_) (λq=>?_)
  ·refine aI (congrArg Value.bool ?_) rfl
   have K:x≠y:=v05 q
   exact(decide_eq_false λe=>K (oJ (g.symm.trans ((congrArg (λl:U1=>l[k]?) e).trans i)))).symm
  ·have H:x=y:=f04 q
   refine aI rfl (aI (by first|exact trivial|exact aI rfl trivial|exact aI rfl (aI rfl trivial)|exact aI rfl (aI rfl (aI rfl trivial))|exact aI rfl (aI rfl (aI rfl (aI rfl trivial)))) (aI (by first|exact trivial|exact aI rfl trivial|exact aI rfl (aI rfl trivial)|exact aI rfl (aI rfl (aI rfl trivial))|exact aI rfl (aI rfl (aI rfl (aI rfl trivial)))) (aI ?_ ?_)))
   ·refine⟨k+1,by omega,by rw[i00 g,i00 i,s,H],?_,rfl⟩
    rw[←L]
   ·show((xs.length:Int)-IntKind.i64.wrap ((k:Int)+1)).toNat<((xs.length:Int)-(k:Int)).toNat
    omega
 ·have t:k=xs.length:=by simp at p;omega
  refine aI (congrArg Value.bool ?_) rfl
  refine(decide_eq_true ?_).symm
  subst t
  rwa [List.take_length,I,List.take_length]at s
theorem o0p(h:Hp)(cs ds:List Value)(x y:t9)(am:S6.R h cs x)(an:S6.R h ds y):
  Tr Tryz.prog 30 #[.agg cs.toArray,.agg ds.toArray] h λv Z=>v = .bool (decide (x=y))/\Z=h:=by
 obtain⟨i,k,A,Q,I,m,C,T,K,o,E,V,M,q,c,f,G,X,O,t,w,rfl,rfl,h0,ay,aa,ac,ae,ag,ai,ak,aA⟩:=j00 am
 obtain⟨j,l,B,S,J,n,D,U,L,p,F,W,N,s,d,g,H,Y,P,u,z,rfl,rfl,ax,az,ab,ad,af,ah,aj,al,aB⟩:=j00 an
 refine Z1 (args:=[.agg #[.int .i64 i,.int .i64 k,.slice A Q I,.slice C T K,.slice E V M,.int .i64 c,.int .i64 f,.slice G X O,.int .i64 w],.agg #[.int .i64 j,.int .i64 l,.slice B S J,.slice D U L,.slice F W N,.int .i64 d,.int .i64 g,.slice H Y P,.int .i64 z]]) (fn:=Tryz.f30) rfl ?_
 refine aI (λa=>?_) (λa=>?_)
 ·have b:i≠j:=by simpa using a
  exact aI (congrArg Value.bool (decide_eq_false λe=>by cases e;exact b rfl).symm) rfl
 have ao:i=j:=by simpa using a
 subst ao
 refine aI (λa=>?_) (λa=>?_)
 ·have b:k≠l:=by simpa using a
  exact aI (congrArg Value.bool (decide_eq_false λe=>by cases e;exact b rfl).symm) rfl
 have ap:k=l:=by simpa using a
 subst ap
 refine Tr.val (n0p h A Q I B S J m n aa ab) ?_
 refine aI (λa=>?_) (λa=>?_)
 ·have b:m≠n:=v05 a
  exact aI (congrArg Value.bool (decide_eq_false λe=>by cases e;exact b rfl).symm) rfl
 have aq:m=n:=f04 a
 subst aq
 refine Tr.val (D07 h C T K D U L o p ac ad) ?_
 refine aI (λa=>?_) (λa=>?_)
 ·have b:o≠p:=v05 a
  exact aI (congrArg Value.bool (decide_eq_false λe=>by cases e;exact b rfl).symm) rfl
 have ar:o=p:=f04 a
 subst ar
 refine Tr.val (D07 h E V M F W N q s ae af) ?_
 refine aI (λa=>?_) (λa=>?_)
 ·have b:q≠s:=v05 a
  exact aI (congrArg Value.bool (decide_eq_false λe=>by cases e;exact b rfl).symm) rfl
 have au:q=s:=f04 a
 subst au
 refine Tr.val (m0p h [.int .i64 c,.int .i64 f,.slice G X O] [.int .i64 d,.int .i64 g,.slice H Y P] (c,f,t) (d,g,u) (l0 ag ai ak) (l0 ah aj al)) ?_
 refine aI (λa=>?_) (λa=>?_)
 ·have b:(c,f,t)≠(d,g,u):=v05 a
  exact aI (congrArg Value.bool (decide_eq_false λe=>by cases e;exact b rfl).symm) rfl
 have av:(c,f,t)=(d,g,u):=f04 a
 cases av
 refine aI (λa=>?_) (λa=>?_)
 ·have b:w≠z:=by simpa using a
  exact aI (congrArg Value.bool (decide_eq_false λe=>by cases e;exact b rfl).symm) rfl
 have aw:w=z:=by simpa using a
 subst aw
 exact aI (congrArg Value.bool (decide_eq_true rfl).symm) rfl
theorem S0m(h:Hp)(a:Option Addr)(n c:Nat)(u:Option Addr)(T w:Nat)(xs b:Y00)(Q:n7.R h [.slice a n c] xs)(S:n7.R h [.slice u T w] b):
  Tr Tryz.prog 79 #[.slice a n c,.slice u T w] h λv B=>v = .bool (decide (xs=b))/\B=h:=by
 obtain⟨rfl,aL⟩:=Sl.len Q
 obtain⟨rfl,a1⟩:=Sl.len S
 refine Z1 (args:=[.slice a xs.length c,.slice u b.length w]) (fn:=Tryz.f79) rfl ?_
 refine aI (λC=>?_) (λC=>?_)
 ·refine aI (congrArg Value.bool ?_) rfl
  have:xs.length≠b.length:=by simp at C;omega
  exact(decide_eq_false λe=>this (by rw[e])).symm
 have aK:xs.length=b.length:=by simp at C;omega
 refine eX { vars:=[5],boxes:=[],owns:=[] } (eX (λvs _ B=>∃ k:Nat,k<=xs.length/\xs.take k=b.take k/\vs = [.int .i64 k]/\B=h) (eX (λvs _=>match vs with | [.int _ j]=>((xs.length:Int)-j).toNat|_=>0) ?_))
 refine aI ⟨0,by omega,by simp,rfl,rfl⟩ ?_
 rintro _ a0 ⟨k,O,N,⟨⟩,rfl⟩
 refine aI (λD=>?_) (λD=>?_)
 ·have P:k<xs.length:=by simpa using D
  obtain⟨x,z⟩:=z00 P
  obtain⟨y,A⟩:=z00 (l:=b) (k:=k) (by omega)
  obtain⟨ac,aY,am,aO⟩:=Sl.get Q z (by decide)
  obtain⟨ad,aZ,an,aP⟩:=Sl.get S A (by decide)
  have aN:=Y1 P aL
  obtain⟨d,g,U,aQ,ae,F,W,aS,ag,H,Y,aU,ai,J,m,p,aa,aW,ak,L,s,rfl,rfl,ao,aq,au,aw,ay,aA,aC,aE,aG⟩:=j00 aO
  obtain⟨f,i,V,aR,af,G,X,aT,ah,I,Z,aV,aj,K,o,q,ab,aX,al,M,t,rfl,rfl,ap,ar,av,ax,az,aB,aD,aF,aH⟩:=j00 aP
  refine Or.inl (aI (aI (by kernel_rfl) (by kernel_rfl)) ?_)
  refine aI ac (eX _ (aI am (aI ad (eX _ (aI an ?_)))))
  refine eX (.bool _) (aI (o0p _ [.int .i64 d,.int .i64 g,.slice U aQ ae,.slice W aS ag,.slice Y aU ai,.int .i64 m,.int .i64 p,.slice aa aW ak,.int .i64 s] [.int .i64 f,.int .i64 i,.slice V aR af,.slice X aT ah,.slice Z aV aj,.int .i64 o,.int .i64 q,.slice ab aX al,.int .i64 t] (d,g,F,H,J,(m,p,L),s) (f,i,G,I,K,(o,q,M),t) (G03 ao aq au aw ay aA aC aE aG) (G03 ap ar av ax az aB aD aF aH)) ?_)
  refine aI (λE=>?_) (λE=>?_)
  ·refine aI (congrArg Value.bool ?_) rfl
   have aM:(d,g,F,H,J,(m,p,L),s)≠(f,i,G,I,K,(o,q,M),t):=v05 E
   exact(decide_eq_false λe=>aM (oJ (z.symm.trans ((congrArg (λl:Y00=>l[k]?) e).trans A)))).symm
  ·have aJ:(d,g,F,H,J,(m,p,L),s)=(f,i,G,I,K,(o,q,M),t):=f04 E
   refine aI rfl (aI (by first|exact trivial|exact aI rfl trivial|exact aI rfl (aI rfl trivial)|exact aI rfl (aI rfl (aI rfl trivial))|exact aI rfl (aI rfl (aI rfl (aI rfl trivial)))) (aI (by first|exact trivial|exact aI rfl trivial|exact aI rfl (aI rfl trivial)|exact aI rfl (aI rfl (aI rfl trivial))|exact aI rfl (aI rfl (aI rfl (aI rfl trivial)))) (aI ?_ ?_)))
   ·refine⟨k+1,by omega,by rw[i00 z,i00 A,N,aJ],?_,rfl⟩
    rw[←aN]
   ·show((xs.length:Int)-IntKind.i64.wrap ((k:Int)+1)).toNat<((xs.length:Int)-(k:Int)).toNat
    omega
 ·have O:k=xs.length:=by simp at D;omega
  refine aI (congrArg Value.bool ?_) rfl
  refine(decide_eq_true ?_).symm
  subst O
  rwa [List.take_length,aK,List.take_length]at N
theorem H0j(h:Hp)(cs ds:List Value)(x y:A4)(s:l5.R h cs x)(t:l5.R h ds y):
  Tr Tryz.prog 19 #[.agg cs.toArray,.agg ds.toArray] h λv o=>v = .bool (decide (x=y))/\o=h:=by
 obtain⟨c,i,m,k,f,rfl,rfl,h0,p⟩:=S8 s
 obtain⟨d,j,n,l,g,rfl,rfl,z,q⟩:=S8 t
 refine Z1 (args:=[.agg #[.int .i64 c,.slice i m k],.agg #[.int .i64 d,.slice j n l]]) (fn:=Tryz.f19) rfl ?_
 refine aI (λa=>?_) (λa=>?_)
 ·have b:c≠d:=by simpa using a
  exact aI (congrArg Value.bool (decide_eq_false λe=>by cases e;exact b rfl).symm) rfl
 have u:c=d:=by simpa using a
 subst u
 refine Tr.val (S0m h i m k j n l f g p q) ?_
 refine aI (λa=>?_) (λa=>?_)
 ·have b:f≠g:=v05 a
  exact aI (congrArg Value.bool (decide_eq_false λe=>by cases e;exact b rfl).symm) rfl
 have w:f=g:=f04 a
 subst w
 exact aI (congrArg Value.bool (decide_eq_true rfl).symm) rfl
theorem m0r(h:Hp)(cs:List Value)(x:K0)(d:Z0.R h cs x)(i:i0s x<=1048576):
  Tr Tryz.prog 218 #[.agg cs.toArray] h λv a=>∃ cs',v = .agg cs'.toArray/\New Z0 h a cs' x:=by
 obtain⟨e,f,g,rfl,rfl,h0,b,c⟩:=P1 d
 refine Z1 (args:=[.agg #[.int .i64 e,.int .i64 f,.int .i64 g]]) (fn:=Tryz.f218) rfl ?_
 exact eX _ (aI rfl (New.pair (New.int h0) (New.pair (New.int b) (New.int c))))
theorem p0p(h:Hp)(a:Option Addr)(n c:Nat)(xs:M0)(s:H0.R h [.slice a n c] xs)(J:U05 xs<=1048576):
  Tr Tryz.prog 110 #[.slice a n c] h λv b=>New H0 h b [v] xs:=by
 obtain⟨rfl,K⟩:=Sl.len s
 have T:xs.length<=1048576:=by simp only[U05]at J;omega
 refine Z1 (args:=[.slice a xs.length c]) (fn:=Tryz.f110) rfl ?_
 refine aI ?_ ?_
 ·show 0<=(xs.length:Int)/\(xs.length:Int)<=xs.length/\(xs.length:Int)*24<=140737488355328/\(xs.length:Int)<=9223372036854775807
  omega
 refine eX { vars:=[4],boxes:=[],owns:=[0],kept:=[0] } (eX (λvs os b=>∃(k:Nat) (L:List (List Value)) (Bs:List (List Nat)),k<=xs.length/\vs = [.int .i64 k]/\os = [q03 L xs.length [.int .i64 0,.int .i64 0,.int .i64 0]]/\L.length=k /\
  F3 (Z0.W b) L (xs.take k) Bs/\Sub h b/\M6 h Bs.flatten) (eX (λvs _=>match vs with | [.int _ j]=>((xs.length:Int)-j).toNat|_=>0) ?_))
 refine aI ⟨0,[],[],by omega,rfl,rfl,rfl,trivial,Sub.refl _,by simp[M6]⟩ ?_
 rintro _ _ H ⟨k,L,Bs,q,⟨⟩,⟨⟩,i,d,f,p⟩
 refine aI (λg=>?_) (λg=>?_)
 ·have e:k<xs.length:=by simpa using g
  obtain⟨x,l⟩:=z00 e
  obtain⟨C,O,D,N⟩:=Sl.get (Sl.mono f s) l (by decide)
  have M:=Y1 e K
  obtain⟨t,w,z,rfl,rfl,E,F,G⟩:=P1 N
  refine aI C (eX _ (aI D ?_))
  refine Tr.mono (m0r H [.int .i64 t,.int .i64 w,.int .i64 z] (t,w,z) (K1 E F G) (by simp only[i0s];omega)) ?_
  rintro v S ⟨P,rfl,B,m,I,o⟩
  obtain⟨u,y,A,rfl,Q,_,_,_⟩:=P1 (Z0.toR m)
  refine aI ?_ ?_
  ·show 0<=(k:Int)/\(k:Int)<((q03 L xs.length [.int .i64 0,.int .i64 0,.int .i64 0]).length:Nat)
   rw[u05 (by omega)];omega
  refine eX [.int .i64 0,.int .i64 0,.int .i64 0] (aI (G09 i e) ?_)
  refine aI rfl (aI (by first|exact trivial|exact aI rfl trivial|exact aI rfl (aI rfl trivial)|exact aI rfl (aI rfl (aI rfl trivial))|exact aI rfl (aI rfl (aI rfl (aI rfl trivial)))) (aI (by first|exact trivial|exact aI rfl trivial|exact aI rfl (aI rfl trivial)|exact aI rfl (aI rfl (aI rfl trivial))|exact aI rfl (aI rfl (aI rfl (aI rfl trivial)))) (aI ?_ ?_)))
  ·refine⟨k+1,L ++ [[.int .i64 u,.int .i64 y,.int .i64 A]],Bs ++ [B],by omega,by rw[←M],?_,by simp[i],?_,f.trans o,?_⟩
   ·show [(q03 L xs.length [.int .i64 0,.int .i64 0,.int .i64 0]).set k [.int .i64 u,.int .i64 y,.int .i64 A]]=_
    rw[H09 i e]
   ·rw[i00 l]
    exact F3.snoc m (v0f d o)
   ·exact U07 d f p I
  ·show((xs.length:Int)-IntKind.i64.wrap ((k:Int)+1)).toNat<((xs.length:Int)-(k:Int)).toNat
   omega
 ·have q:k=xs.length:=by simp at g;omega
  intro v b hf
  rw[I09 (by omega)]at hf
  rw[q,List.take_length]at d
  exact D1.fresh (r:=Z0) hf d f p
theorem q0p(h:Hp)(cs:List Value)(x:j0)(k:j1.R h cs x)(j:h04 x<=1048576):
  Tr Tryz.prog 43 #[.agg cs.toArray] h λv f=>∃ cs',v = .agg cs'.toArray/\New j1 h f cs' x:=by
 obtain⟨l,m,b,d,c,n,rfl,rfl,h0,g,i⟩:=B0 k
 simp only[h04]at j
 refine Z1 (args:=[.agg #[.int .i64 l,.int .i64 m,.slice b d c]]) (fn:=Tryz.f43) rfl ?_
 refine Tr.mono (p0p h b d c n (Sl.mono (Sub.refl _) i) (by omega)) ?_
 rintro t q a
 obtain⟨o,s,p,e⟩:=Wp.slice_cell a.r
 cases e
 exact eX _ (aI rfl (New.pair (New.int h0) (New.pair (New.int g) a)))
theorem L0g(h:Hp)(a:Option Addr)(n c:Nat)(xs:C0)(q:I0.R h [.slice a n c] xs)(A:I4 xs<=1048576):
  Tr Tryz.prog 36 #[.slice a n c] h λv b=>New I0 h b [v] xs:=by
 obtain⟨rfl,C⟩:=Sl.len q
 have G:xs.length<=1048576:=by simp only[I4]at A;omega
 refine Z1 (args:=[.slice a xs.length c]) (fn:=Tryz.f36) rfl ?_
 refine aI ?_ ?_
 ·show 0<=(xs.length:Int)/\(xs.length:Int)<=xs.length/\(xs.length:Int)*8<=140737488355328/\(xs.length:Int)<=9223372036854775807
  omega
 refine eX { vars:=[4],boxes:=[],owns:=[0],kept:=[0] } (eX (λvs os b=>∃(k:Nat) (L:List (List Value)) (Bs:List (List Nat)),k<=xs.length/\vs = [.int .i64 k]/\os = [q03 L xs.length [.int .i64 0]]/\L.length=k /\
  F3 (Wp.int.W b) L (xs.take k) Bs/\Sub h b/\M6 h Bs.flatten) (eX (λvs _=>match vs with | [.int _ j]=>((xs.length:Int)-j).toNat|_=>0) ?_))
 refine aI ⟨0,[],[],by omega,rfl,rfl,rfl,trivial,Sub.refl _,by simp[M6]⟩ ?_
 rintro _ _ w ⟨k,L,Bs,p,⟨⟩,⟨⟩,i,d,f,o⟩
 refine aI (λg=>?_) (λg=>?_)
 ·have e:k<xs.length:=by simpa using g
  obtain⟨x,l⟩:=z00 e
  obtain⟨s,F,t,E⟩:=Sl.get (Sl.mono f q) l (by decide)
  have D:=Y1 e C
  obtain⟨rfl,u⟩:=E
  refine aI s (eX _ (aI t ?_))
  obtain⟨B,y,z,m⟩:=New.int (h:=w) u
  refine aI ?_ ?_
  ·show 0<=(k:Int)/\(k:Int)<((q03 L xs.length [.int .i64 0]).length:Nat)
   rw[u05 (by omega)];omega
  refine eX [.int .i64 0] (aI (G09 i e) ?_)
  refine aI rfl (aI (by first|exact trivial|exact aI rfl trivial|exact aI rfl (aI rfl trivial)|exact aI rfl (aI rfl (aI rfl trivial))|exact aI rfl (aI rfl (aI rfl (aI rfl trivial)))) (aI (by first|exact trivial|exact aI rfl trivial|exact aI rfl (aI rfl trivial)|exact aI rfl (aI rfl (aI rfl trivial))|exact aI rfl (aI rfl (aI rfl (aI rfl trivial)))) (aI ?_ ?_)))
  ·refine⟨k+1,L ++ [[.int .i64 x]],Bs ++ [B],by omega,by rw[←D],?_,by simp[i],?_,f.trans m,?_⟩
   ·show [(q03 L xs.length [.int .i64 0]).set k [.int .i64 x]]=_
    rw[H09 i e]
   ·rw[i00 l]
    exact F3.snoc y (v0f d m)
   ·exact U07 d f o z
  ·show((xs.length:Int)-IntKind.i64.wrap ((k:Int)+1)).toNat<((xs.length:Int)-(k:Int)).toNat
   omega
 ·have p:k=xs.length:=by simp at g;omega
  intro v b hf
  rw[I09 (by omega)]at hf
  rw[p,List.take_length]at d
  exact D1.fresh (r:=Wp.int) hf d f o
theorem r0p(h:Hp)(a:Option Addr)(n c:Nat)(xs:U1)(y:D2.R h [.slice a n c] xs)(w:i6 xs<=1048576):
  Tr Tryz.prog 35 #[.slice a n c] h λv b=>New D2 h b [v] xs:=by
 obtain⟨rfl,H⟩:=Sl.len y
 have O:xs.length<=1048576:=by simp only[i6]at w;omega
 refine Z1 (args:=[.slice a xs.length c]) (fn:=Tryz.f35) rfl ?_
 refine aI ?_ ?_
 ·show 0<=(xs.length:Int)/\(xs.length:Int)<=xs.length/\(xs.length:Int)*24<=140737488355328/\(xs.length:Int)<=9223372036854775807
  omega
 refine eX { vars:=[4],boxes:=[],owns:=[0],kept:=[0] } (eX (λvs os b=>∃(k:Nat) (L:List (List Value)) (Bs:List (List Nat)),k<=xs.length/\vs = [.int .i64 k]/\os = [q03 L xs.length [.slice none 0 0]]/\L.length=k /\
  F3 (I0.W b) L (xs.take k) Bs/\Sub h b/\M6 h Bs.flatten) (eX (λvs _=>match vs with | [.int _ j]=>((xs.length:Int)-j).toNat|_=>0) ?_))
 refine aI ⟨0,[],[],by omega,rfl,rfl,rfl,trivial,Sub.refl _,by simp[M6]⟩ ?_
 rintro _ _ F ⟨k,L,Bs,u,⟨⟩,⟨⟩,l,d,f,t⟩
 refine aI (λi=>?_) (λi=>?_)
 ·have e:k<xs.length:=by simpa using i
  obtain⟨x,g⟩:=z00 e
  obtain⟨C,M,D,z⟩:=Sl.get (Sl.mono f y) g (by decide)
  have I:=Y1 e H
  obtain⟨J,P,K,rfl⟩:=Wp.slice_cell z
  refine aI C (eX _ (aI D ?_))
  refine Tr.mono (L0g F _ _ _ x z (by have:=z0k (m:=I4) g;simp only[i6]at w;omega)) ?_
  rintro v N ⟨B,q,G,s⟩
  obtain⟨o,A,p,E⟩:=Wp.slice_cell (I0.toR q)
  cases E
  refine aI ?_ ?_
  ·show 0<=(k:Int)/\(k:Int)<((q03 L xs.length [.slice none 0 0]).length:Nat)
   rw[u05 (by omega)];omega
  refine eX [.slice none 0 0] (aI (G09 l e) ?_)
  refine aI rfl (aI (by first|exact trivial|exact aI rfl trivial|exact aI rfl (aI rfl trivial)|exact aI rfl (aI rfl (aI rfl trivial))|exact aI rfl (aI rfl (aI rfl (aI rfl trivial)))) (aI (by first|exact trivial|exact aI rfl trivial|exact aI rfl (aI rfl trivial)|exact aI rfl (aI rfl (aI rfl trivial))|exact aI rfl (aI rfl (aI rfl (aI rfl trivial)))) (aI ?_ ?_)))
  ·refine⟨k+1,L ++ [[.slice o A p]],Bs ++ [B],by omega,by rw[←I],?_,by simp[l],?_,f.trans s,?_⟩
   ·show [(q03 L xs.length [.slice none 0 0]).set k [.slice o A p]]=_
    rw[H09 l e]
   ·rw[i00 g]
    exact F3.snoc q (v0f d s)
   ·exact U07 d f t G
  ·show((xs.length:Int)-IntKind.i64.wrap ((k:Int)+1)).toNat<((xs.length:Int)-(k:Int)).toNat
   omega
 ·have u:k=xs.length:=by simp at i;omega
  intro v b hf
  rw[I09 (by omega)]at hf
  rw[u,List.take_length]at d
  exact D1.fresh (r:=I0) hf d f t
theorem s0p(h:Hp)(cs:List Value)(x:t9)(J:S6.R h cs x)(I:w9 x<=1048576):
  Tr Tryz.prog 28 #[.agg cs.toArray] h λv z=>∃ cs',v = .agg cs'.toArray/\New S6 h z cs' x:=by
 obtain⟨N,O,g,p,l,P,i,q,m,Q,j,s,n,S,d,e,k,t,o,T,U,rfl,rfl,h0,A,B,C,D,E,F,G,H⟩:=j00 J
 simp only[w9]at I
 refine Z1 (args:=[.agg #[.int .i64 N,.int .i64 O,.slice g p l,.slice i q m,.slice j s n,.int .i64 d,.int .i64 e,.slice k t o,.int .i64 U]]) (fn:=Tryz.f28) rfl ?_
 refine Tr.mono (r0p h g p l P (Sl.mono (Sub.refl _) B) (by omega)) ?_
 rintro ak K a
 obtain⟨V,ag,Z,u⟩:=Wp.slice_cell a.r
 cases u
 refine Tr.mono (L0g K i q m Q (Sl.mono a.sub C) (by omega)) ?_
 rintro al L b
 obtain⟨W,ah,aa,w⟩:=Wp.slice_cell b.r
 cases w
 refine Tr.mono (L0g L j s n S (Sl.mono (a.sub.trans b.sub) D) (by omega)) ?_
 rintro am M c
 obtain⟨X,ai,ab,y⟩:=Wp.slice_cell c.r
 cases y
 refine Tr.mono (q0p M [.int .i64 d,.int .i64 e,.slice k t o] (d,e,T) (j1.mono ((a.sub.trans b.sub).trans c.sub) (l0 E F G)) (by omega)) ?_
 rintro an af ⟨ad,rfl,f⟩
 obtain⟨ao,ap,Y,aj,ac,aq,rfl,ae,_,_,_⟩:=B0 f.r
 exact eX _ (aI rfl (New.pair (New.int h0) (New.pair (New.int A) (New.pair a (New.pair b (New.pair c (New.pair f (New.int H))))))))
theorem T0m(h:Hp)(a:Option Addr)(n c:Nat)(xs:Y00)(F:n7.R h [.slice a n c] xs)(E:A03 xs<=1048576):
  Tr Tryz.prog 77 #[.slice a n c] h λv b=>New n7 h b [v] xs:=by
 obtain⟨rfl,au⟩:=Sl.len F
 have aK:xs.length<=1048576:=by simp only[A03]at E;omega
 refine Z1 (args:=[.slice a xs.length c]) (fn:=Tryz.f77) rfl ?_
 refine aI ?_ ?_
 ·show 0<=(xs.length:Int)/\(xs.length:Int)<=xs.length/\(xs.length:Int)*136<=140737488355328/\(xs.length:Int)<=9223372036854775807
  omega
 refine eX { vars:=[4],boxes:=[],owns:=[0],kept:=[0] } (eX (λvs os b=>∃(k:Nat) (L:List (List Value)) (Bs:List (List Nat)),k<=xs.length/\vs = [.int .i64 k]/\os = [q03 L xs.length [.int .i64 0,.int .i64 0,.slice none 0 0,.slice none 0 0,.slice none 0 0,.int .i64 0,.int .i64 0,.slice none 0 0,.int .i64 0]]/\L.length=k /\
  F3 (S6.W b) L (xs.take k) Bs/\Sub h b/\M6 h Bs.flatten) (eX (λvs _=>match vs with | [.int _ j]=>((xs.length:Int)-j).toNat|_=>0) ?_))
 refine aI ⟨0,[],[],by omega,rfl,rfl,rfl,trivial,Sub.refl _,by simp[M6]⟩ ?_
 rintro _ _ aq ⟨k,L,Bs,D,⟨⟩,⟨⟩,l,d,f,C⟩
 refine aI (λi=>?_) (λi=>?_)
 ·have e:k<xs.length:=by simpa using i
  obtain⟨x,g⟩:=z00 e
  obtain⟨ab,aF,ag,aw⟩:=Sl.get (Sl.mono f F) g (by decide)
  have av:=Y1 e au
  obtain⟨K,N,X,ax,ac,aB,Y,ay,ad,aC,Z,az,ae,aD,P,S,aa,aA,af,aE,U,rfl,rfl,ah,ai,aj,ak,al,am,an,ao,ap⟩:=j00 aw
  refine aI ab (eX _ (aI ag ?_))
  refine Tr.mono (s0p aq [.int .i64 K,.int .i64 N,.slice X ax ac,.slice Y ay ad,.slice Z az ae,.int .i64 P,.int .i64 S,.slice aa aA af,.int .i64 U] (K,N,aB,aC,aD,(P,S,aE),U) (G03 ah ai aj ak al am an ao ap) (by first|(have:=z0k (m:=w9) g;simp only[A03]at E;omega)|(show w9 _<=_;simp only[w9];omega))) ?_
  rintro v aJ ⟨aG,rfl,B,z,ar,A⟩
  obtain⟨M,O,o,G,t,aL,p,H,u,aM,q,I,w,aN,Q,T,s,J,y,aO,V,rfl,aH,_,_,_,_,_,_,_,_,_⟩:=j00 (S6.toR z)
  refine aI ?_ ?_
  ·show 0<=(k:Int)/\(k:Int)<((q03 L xs.length [.int .i64 0,.int .i64 0,.slice none 0 0,.slice none 0 0,.slice none 0 0,.int .i64 0,.int .i64 0,.slice none 0 0,.int .i64 0]).length:Nat)
   rw[u05 (by omega)];omega
  refine eX [.int .i64 0,.int .i64 0,.slice none 0 0,.slice none 0 0,.slice none 0 0,.int .i64 0,.int .i64 0,.slice none 0 0,.int .i64 0] (aI (G09 l e) ?_)
  refine aI rfl (aI (by first|exact trivial|exact aI rfl trivial|exact aI rfl (aI rfl trivial)|exact aI rfl (aI rfl (aI rfl trivial))|exact aI rfl (aI rfl (aI rfl (aI rfl trivial)))) (aI (by first|exact trivial|exact aI rfl trivial|exact aI rfl (aI rfl trivial)|exact aI rfl (aI rfl (aI rfl trivial))|exact aI rfl (aI rfl (aI rfl (aI rfl trivial)))) (aI ?_ ?_)))
  ·refine⟨k+1,L ++ [[.int .i64 M,.int .i64 O,.slice o G t,.slice p H u,.slice q I w,.int .i64 Q,.int .i64 T,.slice s J y,.int .i64 V]],Bs ++ [B],by omega,by rw[←av],?_,by simp[l],?_,f.trans A,?_⟩
   ·show [(q03 L xs.length [.int .i64 0,.int .i64 0,.slice none 0 0,.slice none 0 0,.slice none 0 0,.int .i64 0,.int .i64 0,.slice none 0 0,.int .i64 0]).set k [.int .i64 M,.int .i64 O,.slice o G t,.slice p H u,.slice q I w,.int .i64 Q,.int .i64 T,.slice s J y,.int .i64 V]]=_
    rw[H09 l e]
   ·rw[i00 g]
    exact F3.snoc z (v0f d A)
   ·exact U07 d f C ar
  ·show((xs.length:Int)-IntKind.i64.wrap ((k:Int)+1)).toNat<((xs.length:Int)-(k:Int)).toNat
   omega
 ·have D:k=xs.length:=by simp at i;omega
  intro v b hf
  rw[I09 (by omega)]at hf
  rw[D,List.take_length]at d
  exact D1.fresh (r:=S6) hf d f C
theorem z05(h:Hp)(cs:List Value)(x:A4)(j:l5.R h cs x)(i:K00 x<=1048576):
  Tr Tryz.prog 17 #[.agg cs.toArray] h λv f=>∃ cs',v = .agg cs'.toArray/\New l5 h f cs' x:=by
 obtain⟨k,b,d,c,l,rfl,rfl,h0,g⟩:=S8 j
 simp only[K00]at i
 refine Z1 (args:=[.agg #[.int .i64 k,.slice b d c]]) (fn:=Tryz.f17) rfl ?_
 refine Tr.mono (T0m h b d c l (Sl.mono (Sub.refl _) g) (by omega)) ?_
 rintro q o a
 obtain⟨m,p,n,e⟩:=Wp.slice_cell a.r
 cases e
 exact eX _ (aI rfl (New.pair (New.int h0) a))
theorem I0l(h:Hp)(a:Option Addr)(n c:Nat)(xs:M0)(B:List Nat)(k:Int)(N:H0.W h [.slice a n c] xs B)(D:B.Nodup)(aZ:0<=k/\k+(x02 xs:Nat)<=4611686018427387904):
  Tr Tryz.prog 141 #[.slice a n c,.int .i64 k] h λv i=>v = .int .i64 (k+(x02 xs:Nat))/\H0.W i [.slice a n c] (g04 xs k) B/\∀ y,y ∉ B->i y=h y:=by
 obtain⟨rfl,ax⟩:=Sl.len (H0.toR N)
 refine Z1 (args:=[.slice a xs.length c,.int .i64 k]) (fn:=Tryz.f141) rfl ?_
 refine eX { vars:=[1,5],boxes:=[],owns:=[] } (eX (λvs _ i=>∃(j:Nat) (b:Int),b=k+(D5 A00 (xs.take j):Nat)/\j<=xs.length/\vs = [.int .i64 b,.int .i64 j]/\H0.W i [.slice a xs.length c] (S00 k05 A00 xs k j) B/\∀ y,y ∉ B->i y=h y) (eX (λvs _=>match vs with | [_,.int _ j]=>((xs.length:Int)-j).toNat|_=>0) ?_))
 refine aI ⟨0,k,by simp[D5],by omega,rfl,by rw[J09];exact N,λ_ _=>rfl⟩ ?_
 rintro _ _ C ⟨j,b,F,aY,⟨⟩,s,J⟩
 refine aI (λE=>?_) (λE=>?_)
 ·have q:j<xs.length:=by simpa using E
  obtain⟨x,A⟩:=z00 q
  have O:=H0b (mk:=k05) (c:=A00) (k:=k) A
  have ay:D5 A00 (xs.take (j+1))=D5 A00 (xs.take j)+A00 x:=D04 A
  have a3:=E04 A00 xs (j+1)
  have az:=Y1 q ax
  have aw:0<=b/\b+(A00 x:Nat)<=4611686018427387904:=by
   have:(x02 xs:Int)=(D5 A00 xs:Nat):=rfl
   omega
  obtain⟨aF,p,g⟩:=x
  simp only[A00]at aw
  obtain⟨R,aM,aG,d,f,u,G,V,aP,w0,ak,aq,an,aV,a4,a0,be,aA⟩:=Wp.at s D O (by decide)
  cases V
  obtain⟨bh,bk,bn,rfl,ab,rfl,aS,ag,ai⟩:=V0c w0
  cases ab
  refine aI R ?_
  refine k01.mk (Int.natCast_nonneg j) ak (aq 0 (by decide)) (by rw[Int.toNat_natCast];rfl) trivial ?_
  have L:H0.W (C.set d (.cells (u.setIfInBounds (f+(j*Z0.sz+0)) (.int .i64 (b))) G (0,0))) [.slice (some ⟨d,f,none⟩) xs.length c] ((S00 k05 A00 xs k j).set j (b,p,g)) B:=aA 0 (.int .i64 (b)) (b,p,g) (by decide) λi hf=>X07 (b0j (by  omega) (by  omega)) ag ai
  have K:∀ y,y ∉ B->(C.set d (.cells (u.setIfInBounds (f+(j*Z0.sz+0)) (.int .i64 (b))) G (0,0))) y=h y:=λy l=>(Hp.set_other _ _ λe=>l (by rw[e];exact an)).trans (J y l)
  generalize (C.set d (.cells (u.setIfInBounds (f+(j*Z0.sz+0)) (.int .i64 (b))) G (0,0)))=kst0 at L K ⊢
  have m:IntKind.i64.wrap (b+1)=b+(1):=by rw[w64 (by  omega) (by  omega)]<;>omega
  have P:((S00 k05 A00 xs k j).set j (b,p,g))[j]?=some (b,p,g):=by rw[List.getElem?_set_self (by rw[D00];exact q)]
  obtain⟨S,aN,aH,aK,bc,w,H,X,aQ,aD,al,ar,ao,aW,ba,a1,bf,aB⟩:=Wp.at L D P (by decide)
  cases X
  obtain⟨bi,bl,bo,rfl,ac,rfl,ae,aT,aj⟩:=V0c aD
  cases ac
  refine aI S ?_
  refine k01.mk (Int.natCast_nonneg j) al (ar 1 (by decide)) (by rw[Int.toNat_natCast];rfl) trivial ?_
  have M:H0.W (kst0.set d (.cells (w.setIfInBounds (f+(j*Z0.sz+1)) (.int .i64 (IntKind.i64.wrap (b+1)))) H (0,0))) [.slice (some ⟨d,f,none⟩) xs.length c] ((S00 k05 A00 xs k j).set j (b,IntKind.i64.wrap (b+1),g)) B:=by have:=aB 1 (.int .i64 (IntKind.i64.wrap (b+1))) (b,IntKind.i64.wrap (b+1),g) (by decide) λi hf=>X07 ae (b0j (by rw[m];omega) (by rw[m];omega)) aj;rwa [List.set_set]at this
  have F2:∀ y,y ∉ B->(kst0.set d (.cells (w.setIfInBounds (f+(j*Z0.sz+1)) (.int .i64 (IntKind.i64.wrap (b+1)))) H (0,0))) y=h y:=λy l=>(Hp.set_other _ _ λe=>l (by rw[e];exact ao)).trans (K y l)
  generalize (kst0.set d (.cells (w.setIfInBounds (f+(j*Z0.sz+1)) (.int .i64 (IntKind.i64.wrap (b+1)))) H (0,0)))=kst1 at M F2 ⊢
  have o:IntKind.i64.wrap (IntKind.i64.wrap (b+1)+1)=b+(1+1):=by rw[w64 (by rw[m];omega) (by rw[m];omega)]<;>rw[m]<;>omega
  have Q:((S00 k05 A00 xs k j).set j (b,IntKind.i64.wrap (b+1),g))[j]?=some (b,IntKind.i64.wrap (b+1),g):=by rw[List.getElem?_set_self (by rw[D00];exact q)]
  obtain⟨T,aO,aJ,aL,bd,z,I,Y,aR,aE,am,au,ap,aX,bb,a2,bg,aC⟩:=Wp.at M D Q (by decide)
  cases Y
  obtain⟨bj,bm,bp,rfl,ad,rfl,af,ah,aU⟩:=V0c aE
  cases ad
  refine aI T ?_
  refine k01.mk (Int.natCast_nonneg j) am (au 2 (by decide)) (by rw[Int.toNat_natCast];rfl) trivial ?_
  have t:H0.W (kst1.set d (.cells (z.setIfInBounds (f+(j*Z0.sz+2)) (.int .i64 (IntKind.i64.wrap (IntKind.i64.wrap (b+1)+1)))) I (0,0))) [.slice (some ⟨d,f,none⟩) xs.length c] ((S00 k05 A00 xs k j).set j (b,IntKind.i64.wrap (b+1),IntKind.i64.wrap (IntKind.i64.wrap (b+1)+1))) B:=by have:=aC 2 (.int .i64 (IntKind.i64.wrap (IntKind.i64.wrap (b+1)+1))) (b,IntKind.i64.wrap (b+1),IntKind.i64.wrap (IntKind.i64.wrap (b+1)+1)) (by decide) λi hf=>X07 af ah (b0j (by rw[o];omega) (by rw[o];omega));rwa [List.set_set]at this
  have F3:∀ y,y ∉ B->(kst1.set d (.cells (z.setIfInBounds (f+(j*Z0.sz+2)) (.int .i64 (IntKind.i64.wrap (IntKind.i64.wrap (b+1)+1)))) I (0,0))) y=h y:=λy l=>(Hp.set_other _ _ λe=>l (by rw[e];exact ap)).trans (F2 y l)
  generalize (kst1.set d (.cells (z.setIfInBounds (f+(j*Z0.sz+2)) (.int .i64 (IntKind.i64.wrap (IntKind.i64.wrap (b+1)+1)))) I (0,0)))=kst2 at t F3 ⊢
  have Z:IntKind.i64.wrap (IntKind.i64.wrap (IntKind.i64.wrap (b+1)+1)+1)=b+(1+1+1):=by rw[w64 (by rw[o];omega) (by rw[o];omega)]<;>rw[o]<;>omega
  have aa:(b,IntKind.i64.wrap (b+1),IntKind.i64.wrap (IntKind.i64.wrap (b+1)+1))=k05 (aF,p,g) b:=by
   simp only[k05,A00]
   exact(congr (congrArg Prod.mk rfl) (congr (congrArg Prod.mk (by rw[m]<;>first|rfl|omega|(simp;omega))) (by rw[o]<;>first|rfl|omega|(simp;omega))))
  have U:(S00 k05 A00 xs k j).set j (b,IntKind.i64.wrap (b+1),IntKind.i64.wrap (IntKind.i64.wrap (b+1)+1))=S00 k05 A00 xs k (j+1):=by rw[aa];rw[F];exact I0b A
  rw[U]at t
  refine aI rfl (aI (by first|exact trivial|exact aI rfl trivial|exact aI rfl (aI rfl trivial)|exact aI rfl (aI rfl (aI rfl trivial))|exact aI rfl (aI rfl (aI rfl (aI rfl trivial)))) (aI (by first|exact trivial|exact aI rfl trivial|exact aI rfl (aI rfl trivial)|exact aI rfl (aI rfl (aI rfl trivial))|exact aI rfl (aI rfl (aI rfl (aI rfl trivial)))) (aI ?_ ?_)))
  ·refine⟨j+1,IntKind.i64.wrap (IntKind.i64.wrap (IntKind.i64.wrap (b+1)+1)+1),?_,by omega,by rw[←az],t,F3⟩
   rw[Z];rw[ay];simp only[A00];omega
  ·show((xs.length:Int)-IntKind.i64.wrap ((j:Int)+1)).toNat<((xs.length:Int)-(j:Int)).toNat
   omega
 ·have av:j=xs.length:=by simp at E;omega
  subst av
  rw[List.take_length]at F
  rw[G0b]at s
  exact aI (congrArg (Value.int .i64) F) (aI s J)
theorem g08(h:Hp)(a:Option Addr)(n c:Nat)(xs:C0)(B:List Nat)(k:Int)(A:I0.W h [.slice a n c] xs B)(I:B.Nodup)(Y:0<=k/\k+(U0 xs:Nat)<=4611686018427387904):
  Tr Tryz.prog 24 #[.slice a n c,.int .i64 k] h λv d=>v = .int .i64 (k+(U0 xs:Nat))/\I0.W d [.slice a n c] (Q2 xs k) B/\∀ y,y ∉ B->d y=h y:=by
 obtain⟨rfl,N⟩:=Sl.len (I0.toR A)
 refine Z1 (args:=[.slice a xs.length c,.int .i64 k]) (fn:=Tryz.f24) rfl ?_
 refine eX { vars:=[1,5],boxes:=[],owns:=[] } (eX (λvs _ d=>∃(j:Nat) (b:Int),b=k+(D5 (λ_=>1) (xs.take j):Nat)/\j<=xs.length/\vs = [.int .i64 b,.int .i64 j]/\I0.W d [.slice a xs.length c] (S00 (λ_ k=>k) (λ_=>1) xs k j) B/\∀ y,y ∉ B->d y=h y) (eX (λvs _=>match vs with | [_,.int _ j]=>((xs.length:Int)-j).toNat|_=>0) ?_))
 refine aI ⟨0,k,by simp[D5],by omega,rfl,by rw[J09];exact A,λ_ _=>rfl⟩ ?_
 rintro _ _ p ⟨j,b,s,X,⟨⟩,i,u⟩
 refine aI (λq=>?_) (λq=>?_)
 ·have z:j<xs.length:=by simpa using q
  obtain⟨x,o⟩:=z00 z
  have D:=H0b (mk:=(λ_ k=>k)) (c:=(λ_=>1)) (k:=k) o
  have O:D5 (λ_=>1) (xs.take (j+1))=D5 (λ_=>1) (xs.take j)+1:=D04 o
  have ab:=E04 (λ_=>1) xs (j+1)
  have P:=Y1 z N
  have Z:0<=b/\b+(1:Nat)<=4611686018427387904:=by
   have:(U0 xs:Int)=(D5 (λ_=>1) xs:Nat):=rfl
   omega
  obtain⟨E,S,R,f,g,m,t,G,T,w0,J,L,K,V,ac,aa,ad,Q⟩:=Wp.at i I D (by decide)
  cases G
  obtain⟨⟨rfl,_⟩,rfl⟩:=w0
  refine aI E ?_
  refine k01.mk (Int.natCast_nonneg j) J (L 0 (by decide)) (by rw[Int.toNat_natCast];rfl) trivial ?_
  have l:I0.W (p.set f (.cells (m.setIfInBounds (g+(j*Wp.int.sz+0)) (.int .i64 (b))) t (0,0))) [.slice (some ⟨f,g,none⟩) xs.length c] ((S00 (λ_ k=>k) (λ_=>1) xs k j).set j (b)) B:=Q 0 (.int .i64 (b)) (b) (by decide) λd hf=>⟨⟨rfl,b0j (by omega) (by omega)⟩,rfl⟩
  have w:∀ y,y ∉ B->(p.set f (.cells (m.setIfInBounds (g+(j*Wp.int.sz+0)) (.int .i64 (b))) t (0,0))) y=h y:=λy C=>(Hp.set_other _ _ λe=>C (by rw[e];exact K)).trans (u y C)
  generalize (p.set f (.cells (m.setIfInBounds (g+(j*Wp.int.sz+0)) (.int .i64 (b))) t (0,0)))=kst0 at l w ⊢
  have H:IntKind.i64.wrap (b+1)=b+(1):=by rw[w64 (by  omega) (by  omega)]<;>omega
  have U:b=(λ_ k=>k) x b:=rfl
  have F:(S00 (λ_ k=>k) (λ_=>1) xs k j).set j (b)=S00 (λ_ k=>k) (λ_=>1) xs k (j+1):=by rw[s];exact I0b o
  rw[F]at l
  refine aI rfl (aI (by first|exact trivial|exact aI rfl trivial|exact aI rfl (aI rfl trivial)|exact aI rfl (aI rfl (aI rfl trivial))|exact aI rfl (aI rfl (aI rfl (aI rfl trivial)))) (aI (by first|exact trivial|exact aI rfl trivial|exact aI rfl (aI rfl trivial)|exact aI rfl (aI rfl (aI rfl trivial))|exact aI rfl (aI rfl (aI rfl (aI rfl trivial)))) (aI ?_ ?_)))
  ·refine⟨j+1,IntKind.i64.wrap (b+1),?_,by omega,by rw[←P],l,w⟩
   rw[H];rw[O];omega
  ·show((xs.length:Int)-IntKind.i64.wrap ((j:Int)+1)).toNat<((xs.length:Int)-(j:Int)).toNat
   omega
 ·have M:j=xs.length:=by simp at q;omega
  subst M
  rw[List.take_length]at s
  rw[G0b]at i
  exact aI (congrArg (Value.int .i64) s) (aI i u)
theorem J0l(h:Hp)(a:Option Addr)(n c:Nat)(xs:U1)(B:List Nat)(k:Int)(s:D2.W h [.slice a n c] xs B)(K:B.Nodup)(ag:0<=k/\k+(E1 xs:Nat)<=4611686018427387904):
  Tr Tryz.prog 39 #[.slice a n c,.int .i64 k] h λv d=>v = .int .i64 (k+(E1 xs:Nat))/\D2.W d [.slice a n c] (j6 xs k) B/\∀ y,y ∉ B->d y=h y:=by
 obtain⟨rfl,M⟩:=Sl.len (D2.toR s)
 refine Z1 (args:=[.slice a xs.length c,.int .i64 k]) (fn:=Tryz.f39) rfl ?_
 refine eX { vars:=[1,5],boxes:=[],owns:=[] } (eX (λvs _ d=>∃(j:Nat) (b:Int),b=k+(D5 U0 (xs.take j):Nat)/\j<=xs.length/\vs = [.int .i64 b,.int .i64 j]/\D2.W d [.slice a xs.length c] (S00 Q2 U0 xs k j) B/\∀ y,y ∉ B->d y=h y) (eX (λvs _=>match vs with | [_,.int _ j]=>((xs.length:Int)-j).toNat|_=>0) ?_))
 refine aI ⟨0,k,by simp[D5],by omega,rfl,by rw[J09];exact s,λ_ _=>rfl⟩ ?_
 rintro _ _ aa ⟨j,b,l,af,⟨⟩,e,m⟩
 refine aI (λi=>?_) (λi=>?_)
 ·have q:j<xs.length:=by simpa using i
  obtain⟨x,f⟩:=z00 q
  have z:=H0b (mk:=Q2) (c:=U0) (k:=k) f
  have O:D5 U0 (xs.take (j+1))=D5 U0 (xs.take j)+U0 x:=D04 f
  have ai:=E04 U0 xs (j+1)
  have Q:=Y1 q M
  have ah:0<=b/\b+(U0 x:Nat)<=4611686018427387904:=by
   have:(E1 xs:Int)=(D5 U0 xs:Nat):=rfl
   omega
  obtain⟨C,X,u,D,T,Y,ak,H,F,w0,ab,ae,ac,ad,P,N,U,aj⟩:=Wp.at e K z (by decide)
  cases H
  obtain⟨A,S,E,J⟩:=Wp.slice_cell (I0.toR w0)
  cases J
  refine aI C (eX _ (aI F ?_))
  refine Tr.mono (g08 _ A S E (x) u (b) w0 N ⟨by omega,by omega⟩) ?_
  rintro al g ⟨rfl,V,p⟩
  have o:D2.W g [.slice (some ⟨D,T,none⟩) xs.length c] ((S00 Q2 U0 xs k j).set j (Q2 x (b))) B:=U g (Q2 x (b)) (p) V
  have w:∀ y,y ∉ B->g y=h y:=λy t=>(p y λR=>t (P y (by simp[R]))).trans (m y t)
  have I:(b+(U0 x:Nat):Int)=b+((U0 x:Nat)):=by omega
  have Z:(Q2 x (b))=Q2 x b:=rfl
  have G:(S00 Q2 U0 xs k j).set j (Q2 x (b))=S00 Q2 U0 xs k (j+1):=by rw[l];exact I0b f
  rw[G]at o
  refine aI rfl (aI (by first|exact trivial|exact aI rfl trivial|exact aI rfl (aI rfl trivial)|exact aI rfl (aI rfl (aI rfl trivial))|exact aI rfl (aI rfl (aI rfl (aI rfl trivial)))) (aI (by first|exact trivial|exact aI rfl trivial|exact aI rfl (aI rfl trivial)|exact aI rfl (aI rfl (aI rfl trivial))|exact aI rfl (aI rfl (aI rfl (aI rfl trivial)))) (aI ?_ ?_)))
  ·refine⟨j+1,b+(U0 x:Nat),?_,by omega,by rw[←Q],o,w⟩
   rw[I];rw[O];omega
  ·show((xs.length:Int)-IntKind.i64.wrap ((j:Int)+1)).toNat<((xs.length:Int)-(j:Int)).toNat
   omega
 ·have L:j=xs.length:=by simp at i;omega
  subst L
  rw[List.take_length]at l
  rw[G0b]at e
  exact aI (congrArg (Value.int .i64) l) (aI e m)
set_option maxHeartbeats 4000000 in
theorem I0j(h:Hp)(a:Option Addr)(n c:Nat)(xs:Y00)(B:List Nat)(k:Int)(aC:n7.W h [.slice a n c] xs B)(z:B.Nodup)(gN:0<=k/\k+(K09 xs:Nat)<=4611686018427387904):
  Tr Tryz.prog 82 #[.slice a n c,.int .i64 k] h λv u=>v = .int .i64 (k+(K09 xs:Nat))/\n7.W u [.slice a n c] (J0b xs k) B/\∀ y,y ∉ B->u y=h y:=by
 obtain⟨rfl,dm⟩:=Sl.len (n7.toR aC)
 refine Z1 (args:=[.slice a xs.length c,.int .i64 k]) (fn:=Tryz.f82) rfl ?_
 refine eX { vars:=[1,5],boxes:=[],owns:=[] } (eX (λvs _ u=>∃(j:Nat) (b:Int),b=k+(D5 H4 (xs.take j):Nat)/\j<=xs.length/\vs = [.int .i64 b,.int .i64 j]/\n7.W u [.slice a xs.length c] (S00 N8 H4 xs k j) B/\∀ y,y ∉ B->u y=h y) (eX (λvs _=>match vs with | [_,.int _ j]=>((xs.length:Int)-j).toNat|_=>0) ?_))
 refine aI ⟨0,k,by simp[D5],by omega,rfl,by rw[J09];exact aC,λ_ _=>rfl⟩ ?_
 rintro _ _ ad ⟨j,b,ah,gM,⟨⟩,U,ar⟩
 refine aI (λag=>?_) (λag=>?_)
 ·have w:j<xs.length:=by simpa using ag
  obtain⟨x,ac⟩:=z00 w
  have aG:=H0b (mk:=N8) (c:=H4) (k:=k) ac
  have du:D5 H4 (xs.take (j+1))=D5 H4 (xs.take j)+H4 x:=D04 ac
  have gT:=E04 H4 xs (j+1)
  have dz:=Y1 w dm
  have dk:0<=b/\b+(H4 x:Nat)<=4611686018427387904:=by
   have:(K09 xs:Int)=(D5 H4 xs:Nat):=rfl
   omega
  obtain⟨dZ,P,d,f,g,⟨t,p,l⟩,m⟩:=x
  simp only[H4,Y07]at dk
  obtain⟨aY,f0,eE,q,s,X,ai,bl,gg,w0,cY,dd,c3,gz,gU,gO,hP,dE⟩:=Wp.at U z aG (by decide)
  cases bl
  obtain⟨hY,h7,eN,gZ,fu,ii,eV,ha,fC,iu,e4,hj,fK,iD,iM,iW,fc,hr,fS,jb,jk,d1,ef,en,ew,rfl,bx,rfl,gm,bP,bX,b6,cg,cp,cx,cH,cQ⟩:=Y01 w0
  cases bx
  refine aI aY ?_
  refine k01.mk (Int.natCast_nonneg j) cY (dd 0 (by decide)) (by rw[Int.toNat_natCast];rfl) trivial ?_
  have ay:n7.W (ad.set q (.cells (X.setIfInBounds (s+(j*S6.sz+0)) (.int .i64 (b))) ai (0,0))) [.slice (some ⟨q,s,none⟩) xs.length c] ((S00 N8 H4 xs k j).set j (b,P,d,f,g,(t,p,l),m)) B:=dE 0 (.int .i64 (b)) (b,P,d,f,g,(t,p,l),m) (by decide) λu hf=>n01 (b0j (by  omega) (by  omega)) bP (D2.frame bX λy i=>hf y (by simp[i])) (I0.frame b6 λy i=>hf y (by simp[i])) (I0.frame cg λy i=>hf y (by simp[i])) cp cx (H0.frame cH λy i=>hf y (by simp[i])) cQ
  have au:∀ y,y ∉ B->(ad.set q (.cells (X.setIfInBounds (s+(j*S6.sz+0)) (.int .i64 (b))) ai (0,0))) y=h y:=λy i=>(Hp.set_other _ _ λe=>i (by rw[e];exact c3)).trans (ar y i)
  generalize (ad.set q (.cells (X.setIfInBounds (s+(j*S6.sz+0)) (.int .i64 (b))) ai (0,0)))=kst0 at ay au ⊢
  have A:IntKind.i64.wrap (b+1)=b+(1):=by rw[w64 (by  omega) (by  omega)]<;>omega
  have aH:((S00 N8 H4 xs k j).set j (b,P,d,f,g,(t,p,l),m))[j]?=some (b,P,d,f,g,(t,p,l),m):=by rw[List.getElem?_set_self (by rw[D00];exact w)]
  obtain⟨aZ,f1,eF,fk,hz,Y,aj,bm,gh,dN,cZ,df,c4,gA,gV,gP,hQ,dF⟩:=Wp.at ay z aH (by decide)
  cases bm
  obtain⟨hZ,h8,eO,g0,fv,ij,eW,hb,fD,iv,e5,hk,fL,iE,iN,iX,fd,hs,fT,jc,jl,d2,eg,eo,ex,rfl,bz,rfl,bH,gn,bY,b7,ch,cq,cy,cI,cR⟩:=Y01 dN
  cases bz
  refine aI aZ ?_
  refine k01.mk (Int.natCast_nonneg j) cZ (df 1 (by decide)) (by rw[Int.toNat_natCast];rfl) trivial ?_
  have az:n7.W (kst0.set q (.cells (Y.setIfInBounds (s+(j*S6.sz+1)) (.int .i64 (IntKind.i64.wrap (b+1)))) aj (0,0))) [.slice (some ⟨q,s,none⟩) xs.length c] ((S00 N8 H4 xs k j).set j (b,IntKind.i64.wrap (b+1),d,f,g,(t,p,l),m)) B:=by have:=dF 1 (.int .i64 (IntKind.i64.wrap (b+1))) (b,IntKind.i64.wrap (b+1),d,f,g,(t,p,l),m) (by decide) λu hf=>n01 bH (b0j (by rw[A];omega) (by rw[A];omega)) (D2.frame bY λy i=>hf y (by simp[i])) (I0.frame b7 λy i=>hf y (by simp[i])) (I0.frame ch λy i=>hf y (by simp[i])) cq cy (H0.frame cI λy i=>hf y (by simp[i])) cR;rwa [List.set_set]at this
  have F2:∀ y,y ∉ B->(kst0.set q (.cells (Y.setIfInBounds (s+(j*S6.sz+1)) (.int .i64 (IntKind.i64.wrap (b+1)))) aj (0,0))) y=h y:=λy i=>(Hp.set_other _ _ λe=>i (by rw[e];exact c4)).trans (au y i)
  generalize (kst0.set q (.cells (Y.setIfInBounds (s+(j*S6.sz+1)) (.int .i64 (IntKind.i64.wrap (b+1)))) aj (0,0)))=kst1 at az F2 ⊢
  have Q:IntKind.i64.wrap (IntKind.i64.wrap (b+1)+1)=b+(1+1):=by rw[w64 (by rw[A];omega) (by rw[A];omega)]<;>rw[A]<;>omega
  have aJ:((S00 N8 H4 xs k j).set j (b,IntKind.i64.wrap (b+1),d,f,g,(t,p,l),m))[j]?=some (b,IntKind.i64.wrap (b+1),d,f,g,(t,p,l),m):=by rw[List.getElem?_set_self (by rw[D00];exact w)]
  obtain⟨a0,f4,eG,fl,hA,gc,hL,bn,bg,dO,gr,gI,gv,gB,dv,L,dJ,hH⟩:=Wp.at az z aJ (by decide)
  cases bn
  obtain⟨h0,h9,aU,dA,bc,ik,eY,hc,fE,iw,e6,hl,fM,iF,iO,iY,fe,ht,fU,jd,jm,an,eh,ep,ey,rfl,bA,rfl,bI,bQ,bZ,b8,ci,cr,cz,cJ,cS⟩:=Y01 dO
  cases bA
  refine aI a0 (eX _ (aI bg ?_))
  have dn:an.Nodup:=by first|exact L|(have:=L;simp only[List.nil_append,List.append_nil,List.nodup_append]at this;grind)
  refine Tr.mono (J0l _ aU dA bc (d) an (IntKind.i64.wrap (IntKind.i64.wrap (b+1)+1)) bZ dn ⟨by rw[Q];omega,by rw[Q];omega⟩) ?_
  rintro hU ae ⟨rfl,dV,H⟩
  have aQ:n7.W ae [.slice (some ⟨q,s,none⟩) xs.length c] ((S00 N8 H4 xs k j).set j (b,IntKind.i64.wrap (b+1),(j6 d (IntKind.i64.wrap (IntKind.i64.wrap (b+1)+1))),f,g,(t,p,l),m)) B:=by have:=dJ ae (b,IntKind.i64.wrap (b+1),(j6 d (IntKind.i64.wrap (IntKind.i64.wrap (b+1)+1))),f,g,(t,p,l),m) (λy i=>H y λo=>i (by simp[o])) (n01 bI bQ dV (I0.frame b8 λy i=>H y λo=>by have:=L;simp only[List.nil_append,List.append_nil,List.nodup_append]at this;grind) (I0.frame ci λy i=>H y λo=>by have:=L;simp only[List.nil_append,List.append_nil,List.nodup_append]at this;grind) cr cz (H0.frame cJ λy i=>H y λo=>by have:=L;simp only[List.nil_append,List.append_nil,List.nodup_append]at this;grind) cS);rwa [List.set_set]at this
  have F3:∀ y,y ∉ B->ae y=h y:=λy i=>(H y λo=>i (dv y (by simp[o]))).trans (F2 y i)
  have R:(IntKind.i64.wrap (IntKind.i64.wrap (b+1)+1)+(E1 d:Nat):Int)=b+(1+1+(E1 d:Nat)):=by rw[Q];omega
  have aK:((S00 N8 H4 xs k j).set j (b,IntKind.i64.wrap (b+1),(j6 d (IntKind.i64.wrap (IntKind.i64.wrap (b+1)+1))),f,g,(t,p,l),m))[j]?=some (b,IntKind.i64.wrap (b+1),(j6 d (IntKind.i64.wrap (IntKind.i64.wrap (b+1)+1))),f,g,(t,p,l),m):=by rw[List.getElem?_set_self (by rw[D00];exact w)]
  obtain⟨a1,f5,eH,fm,hB,gd,hM,bo,bh,dP,gs,gJ,gw,gC,dw,M,dK,hI⟩:=Wp.at aQ z aK (by decide)
  cases bo
  obtain⟨h1,ia,eP,g1,fw,il,aV,dB,bd,ix,e7,hm,fN,iG,iP,iZ,ff,hu,fV,je,jn,d3,ao,eq,ez,rfl,bB,rfl,bJ,bR,b0,ca,cj,cs,cA,cK,cT⟩:=Y01 dP
  cases bB
  refine aI a1 (eX _ (aI bh ?_))
  have dq:ao.Nodup:=by first|exact M|(have:=M;simp only[List.nil_append,List.append_nil,List.nodup_append]at this;grind)
  refine Tr.mono (g08 _ aV dB bd (f) ao (IntKind.i64.wrap (IntKind.i64.wrap (b+1)+1)+(E1 d:Nat)) ca dq ⟨by rw[R];omega,by rw[R];omega⟩) ?_
  rintro hV af ⟨rfl,dW,I⟩
  have aR:n7.W af [.slice (some ⟨q,s,none⟩) xs.length c] ((S00 N8 H4 xs k j).set j (b,IntKind.i64.wrap (b+1),(j6 d (IntKind.i64.wrap (IntKind.i64.wrap (b+1)+1))),(Q2 f (IntKind.i64.wrap (IntKind.i64.wrap (b+1)+1)+(E1 d:Nat))),g,(t,p,l),m)) B:=by have:=dK af (b,IntKind.i64.wrap (b+1),(j6 d (IntKind.i64.wrap (IntKind.i64.wrap (b+1)+1))),(Q2 f (IntKind.i64.wrap (IntKind.i64.wrap (b+1)+1)+(E1 d:Nat))),g,(t,p,l),m) (λy i=>I y λo=>i (by simp[o])) (n01 bJ bR (D2.frame b0 λy i=>I y λo=>by have:=M;simp only[List.nil_append,List.append_nil,List.nodup_append]at this;grind) dW (I0.frame cj λy i=>I y λo=>by have:=M;simp only[List.nil_append,List.append_nil,List.nodup_append]at this;grind) cs cA (H0.frame cK λy i=>I y λo=>by have:=M;simp only[List.nil_append,List.append_nil,List.nodup_append]at this;grind) cT);rwa [List.set_set]at this
  have aD:∀ y,y ∉ B->af y=h y:=λy i=>(I y λo=>i (dw y (by simp[o]))).trans (F3 y i)
  have S:(IntKind.i64.wrap (IntKind.i64.wrap (b+1)+1)+(E1 d:Nat)+(U0 f:Nat):Int)=b+(1+1+(E1 d:Nat)+(U0 f:Nat)):=by rw[R];omega
  have aL:((S00 N8 H4 xs k j).set j (b,IntKind.i64.wrap (b+1),(j6 d (IntKind.i64.wrap (IntKind.i64.wrap (b+1)+1))),(Q2 f (IntKind.i64.wrap (IntKind.i64.wrap (b+1)+1)+(E1 d:Nat))),g,(t,p,l),m))[j]?=some (b,IntKind.i64.wrap (b+1),(j6 d (IntKind.i64.wrap (IntKind.i64.wrap (b+1)+1))),(Q2 f (IntKind.i64.wrap (IntKind.i64.wrap (b+1)+1)+(E1 d:Nat))),g,(t,p,l),m):=by rw[List.getElem?_set_self (by rw[D00];exact w)]
  obtain⟨a2,f6,eI,fo,hC,ge,hN,bp,bi,dQ,gt,gK,gx,gD,dx,N,dL,hJ⟩:=Wp.at aR z aL (by decide)
  cases bp
  obtain⟨h2,ib,eQ,g2,fx,im,eZ,hd,fF,iy,aW,dC,be,iH,iQ,i0,fg,hv,fW,jf,jo,ea,ei,ap,eA,rfl,bC,rfl,bK,bS,b1,cb,ck,ct,cC,cL,cU⟩:=Y01 dQ
  cases bC
  refine aI a2 (eX _ (aI bi ?_))
  have ds:ap.Nodup:=by first|exact N|(have:=N;simp only[List.nil_append,List.append_nil,List.nodup_append]at this;grind)
  refine Tr.mono (g08 _ aW dC be (g) ap (IntKind.i64.wrap (IntKind.i64.wrap (b+1)+1)+(E1 d:Nat)+(U0 f:Nat)) ck ds ⟨by rw[S];omega,by rw[S];omega⟩) ?_
  rintro hW F ⟨rfl,dX,J⟩
  have aS:n7.W F [.slice (some ⟨q,s,none⟩) xs.length c] ((S00 N8 H4 xs k j).set j (b,IntKind.i64.wrap (b+1),(j6 d (IntKind.i64.wrap (IntKind.i64.wrap (b+1)+1))),(Q2 f (IntKind.i64.wrap (IntKind.i64.wrap (b+1)+1)+(E1 d:Nat))),(Q2 g (IntKind.i64.wrap (IntKind.i64.wrap (b+1)+1)+(E1 d:Nat)+(U0 f:Nat))),(t,p,l),m)) B:=by have:=dL F (b,IntKind.i64.wrap (b+1),(j6 d (IntKind.i64.wrap (IntKind.i64.wrap (b+1)+1))),(Q2 f (IntKind.i64.wrap (IntKind.i64.wrap (b+1)+1)+(E1 d:Nat))),(Q2 g (IntKind.i64.wrap (IntKind.i64.wrap (b+1)+1)+(E1 d:Nat)+(U0 f:Nat))),(t,p,l),m) (λy i=>J y λo=>i (by simp[o])) (n01 bK bS (D2.frame b1 λy i=>J y λo=>by have:=N;simp only[List.nil_append,List.append_nil,List.nodup_append]at this;grind) (I0.frame cb λy i=>J y λo=>by have:=N;simp only[List.nil_append,List.append_nil,List.nodup_append]at this;grind) dX ct cC (H0.frame cL λy i=>J y λo=>by have:=N;simp only[List.nil_append,List.append_nil,List.nodup_append]at this;grind) cU);rwa [List.set_set]at this
  have aE:∀ y,y ∉ B->F y=h y:=λy i=>(J y λo=>i (dx y (by simp[o]))).trans (aD y i)
  have C:(IntKind.i64.wrap (IntKind.i64.wrap (b+1)+1)+(E1 d:Nat)+(U0 f:Nat)+(U0 g:Nat):Int)=b+(1+1+(E1 d:Nat)+(U0 f:Nat)+(U0 g:Nat)):=by rw[S];omega
  have aM:((S00 N8 H4 xs k j).set j (b,IntKind.i64.wrap (b+1),(j6 d (IntKind.i64.wrap (IntKind.i64.wrap (b+1)+1))),(Q2 f (IntKind.i64.wrap (IntKind.i64.wrap (b+1)+1)+(E1 d:Nat))),(Q2 g (IntKind.i64.wrap (IntKind.i64.wrap (b+1)+1)+(E1 d:Nat)+(U0 f:Nat))),(t,p,l),m))[j]?=some (b,IntKind.i64.wrap (b+1),(j6 d (IntKind.i64.wrap (IntKind.i64.wrap (b+1)+1))),(Q2 f (IntKind.i64.wrap (IntKind.i64.wrap (b+1)+1)+(E1 d:Nat))),(Q2 g (IntKind.i64.wrap (IntKind.i64.wrap (b+1)+1)+(E1 d:Nat)+(U0 f:Nat))),(t,p,l),m):=by rw[List.getElem?_set_self (by rw[D00];exact w)]
  obtain⟨a3,f7,eJ,fp,hD,Z,ak,bq,gj,dR,c0,dg,c6,gE,gW,gQ,hR,dG⟩:=Wp.at aS z aM (by decide)
  cases bq
  obtain⟨h3,ic,eR,g3,fy,io,e0,he,fG,iz,e8,hn,fO,iI,iS,i1,fh,hw,fX,jg,jp,eb,ej,er,eB,rfl,bD,rfl,bL,bT,b2,cc,cl,go,cD,cM,cV⟩:=Y01 dR
  cases bD
  refine aI a3 ?_
  refine k01.mk (Int.natCast_nonneg j) c0 (dg 5 (by decide)) (by rw[Int.toNat_natCast];rfl) trivial ?_
  have aA:n7.W (F.set q (.cells (Z.setIfInBounds (s+(j*S6.sz+5)) (.int .i64 (IntKind.i64.wrap (IntKind.i64.wrap (b+1)+1)+(E1 d:Nat)+(U0 f:Nat)+(U0 g:Nat)))) ak (0,0))) [.slice (some ⟨q,s,none⟩) xs.length c] ((S00 N8 H4 xs k j).set j (b,IntKind.i64.wrap (b+1),(j6 d (IntKind.i64.wrap (IntKind.i64.wrap (b+1)+1))),(Q2 f (IntKind.i64.wrap (IntKind.i64.wrap (b+1)+1)+(E1 d:Nat))),(Q2 g (IntKind.i64.wrap (IntKind.i64.wrap (b+1)+1)+(E1 d:Nat)+(U0 f:Nat))),(IntKind.i64.wrap (IntKind.i64.wrap (b+1)+1)+(E1 d:Nat)+(U0 f:Nat)+(U0 g:Nat),p,l),m)) B:=by have:=dG 5 (.int .i64 (IntKind.i64.wrap (IntKind.i64.wrap (b+1)+1)+(E1 d:Nat)+(U0 f:Nat)+(U0 g:Nat))) (b,IntKind.i64.wrap (b+1),(j6 d (IntKind.i64.wrap (IntKind.i64.wrap (b+1)+1))),(Q2 f (IntKind.i64.wrap (IntKind.i64.wrap (b+1)+1)+(E1 d:Nat))),(Q2 g (IntKind.i64.wrap (IntKind.i64.wrap (b+1)+1)+(E1 d:Nat)+(U0 f:Nat))),(IntKind.i64.wrap (IntKind.i64.wrap (b+1)+1)+(E1 d:Nat)+(U0 f:Nat)+(U0 g:Nat),p,l),m) (by decide) λu hf=>n01 bL bT (D2.frame b2 λy i=>hf y (by simp[i])) (I0.frame cc λy i=>hf y (by simp[i])) (I0.frame cl λy i=>hf y (by simp[i])) (b0j (by rw[C];omega) (by rw[C];omega)) cD (H0.frame cM λy i=>hf y (by simp[i])) cV;rwa [List.set_set]at this
  have av:∀ y,y ∉ B->(F.set q (.cells (Z.setIfInBounds (s+(j*S6.sz+5)) (.int .i64 (IntKind.i64.wrap (IntKind.i64.wrap (b+1)+1)+(E1 d:Nat)+(U0 f:Nat)+(U0 g:Nat)))) ak (0,0))) y=h y:=λy i=>(Hp.set_other _ _ λe=>i (by rw[e];exact c6)).trans (aE y i)
  generalize (F.set q (.cells (Z.setIfInBounds (s+(j*S6.sz+5)) (.int .i64 (IntKind.i64.wrap (IntKind.i64.wrap (b+1)+1)+(E1 d:Nat)+(U0 f:Nat)+(U0 g:Nat)))) ak (0,0)))=kst5 at aA av ⊢
  have D:IntKind.i64.wrap (IntKind.i64.wrap (IntKind.i64.wrap (b+1)+1)+(E1 d:Nat)+(U0 f:Nat)+(U0 g:Nat)+1)=b+(1+1+(E1 d:Nat)+(U0 f:Nat)+(U0 g:Nat)+1):=by rw[w64 (by rw[C];omega) (by rw[C];omega)]<;>rw[C]<;>omega
  have aN:((S00 N8 H4 xs k j).set j (b,IntKind.i64.wrap (b+1),(j6 d (IntKind.i64.wrap (IntKind.i64.wrap (b+1)+1))),(Q2 f (IntKind.i64.wrap (IntKind.i64.wrap (b+1)+1)+(E1 d:Nat))),(Q2 g (IntKind.i64.wrap (IntKind.i64.wrap (b+1)+1)+(E1 d:Nat)+(U0 f:Nat))),(IntKind.i64.wrap (IntKind.i64.wrap (b+1)+1)+(E1 d:Nat)+(U0 f:Nat)+(U0 g:Nat),p,l),m))[j]?=some (b,IntKind.i64.wrap (b+1),(j6 d (IntKind.i64.wrap (IntKind.i64.wrap (b+1)+1))),(Q2 f (IntKind.i64.wrap (IntKind.i64.wrap (b+1)+1)+(E1 d:Nat))),(Q2 g (IntKind.i64.wrap (IntKind.i64.wrap (b+1)+1)+(E1 d:Nat)+(U0 f:Nat))),(IntKind.i64.wrap (IntKind.i64.wrap (b+1)+1)+(E1 d:Nat)+(U0 f:Nat)+(U0 g:Nat),p,l),m):=by rw[List.getElem?_set_self (by rw[D00];exact w)]
  obtain⟨a4,f9,eK,fq,hE,aa,al,br,gk,dS,c1,dh,db,gF,gX,gR,hS,dH⟩:=Wp.at aA z aN (by decide)
  cases br
  obtain⟨h4,ie,eS,g4,fz,ip,e1,hg,fH,iA,e9,ho,fP,iJ,iT,i2,fi,hx,fY,jh,jq,ec,ek,es,eC,rfl,bE,rfl,bM,bU,b3,cd,cm,cu,gp,cN,cW⟩:=Y01 dS
  cases bE
  refine aI a4 ?_
  refine k01.mk (Int.natCast_nonneg j) c1 (dh 6 (by decide)) (by rw[Int.toNat_natCast];rfl) trivial ?_
  have aB:n7.W (kst5.set q (.cells (aa.setIfInBounds (s+(j*S6.sz+6)) (.int .i64 (IntKind.i64.wrap (IntKind.i64.wrap (IntKind.i64.wrap (b+1)+1)+(E1 d:Nat)+(U0 f:Nat)+(U0 g:Nat)+1)))) al (0,0))) [.slice (some ⟨q,s,none⟩) xs.length c] ((S00 N8 H4 xs k j).set j (b,IntKind.i64.wrap (b+1),(j6 d (IntKind.i64.wrap (IntKind.i64.wrap (b+1)+1))),(Q2 f (IntKind.i64.wrap (IntKind.i64.wrap (b+1)+1)+(E1 d:Nat))),(Q2 g (IntKind.i64.wrap (IntKind.i64.wrap (b+1)+1)+(E1 d:Nat)+(U0 f:Nat))),(IntKind.i64.wrap (IntKind.i64.wrap (b+1)+1)+(E1 d:Nat)+(U0 f:Nat)+(U0 g:Nat),IntKind.i64.wrap (IntKind.i64.wrap (IntKind.i64.wrap (b+1)+1)+(E1 d:Nat)+(U0 f:Nat)+(U0 g:Nat)+1),l),m)) B:=by have:=dH 6 (.int .i64 (IntKind.i64.wrap (IntKind.i64.wrap (IntKind.i64.wrap (b+1)+1)+(E1 d:Nat)+(U0 f:Nat)+(U0 g:Nat)+1))) (b,IntKind.i64.wrap (b+1),(j6 d (IntKind.i64.wrap (IntKind.i64.wrap (b+1)+1))),(Q2 f (IntKind.i64.wrap (IntKind.i64.wrap (b+1)+1)+(E1 d:Nat))),(Q2 g (IntKind.i64.wrap (IntKind.i64.wrap (b+1)+1)+(E1 d:Nat)+(U0 f:Nat))),(IntKind.i64.wrap (IntKind.i64.wrap (b+1)+1)+(E1 d:Nat)+(U0 f:Nat)+(U0 g:Nat),IntKind.i64.wrap (IntKind.i64.wrap (IntKind.i64.wrap (b+1)+1)+(E1 d:Nat)+(U0 f:Nat)+(U0 g:Nat)+1),l),m) (by decide) λu hf=>n01 bM bU (D2.frame b3 λy i=>hf y (by simp[i])) (I0.frame cd λy i=>hf y (by simp[i])) (I0.frame cm λy i=>hf y (by simp[i])) cu (b0j (by rw[D];omega) (by rw[D];omega)) (H0.frame cN λy i=>hf y (by simp[i])) cW;rwa [List.set_set]at this
  have aw:∀ y,y ∉ B->(kst5.set q (.cells (aa.setIfInBounds (s+(j*S6.sz+6)) (.int .i64 (IntKind.i64.wrap (IntKind.i64.wrap (IntKind.i64.wrap (b+1)+1)+(E1 d:Nat)+(U0 f:Nat)+(U0 g:Nat)+1)))) al (0,0))) y=h y:=λy i=>(Hp.set_other _ _ λe=>i (by rw[e];exact db)).trans (av y i)
  generalize (kst5.set q (.cells (aa.setIfInBounds (s+(j*S6.sz+6)) (.int .i64 (IntKind.i64.wrap (IntKind.i64.wrap (IntKind.i64.wrap (b+1)+1)+(E1 d:Nat)+(U0 f:Nat)+(U0 g:Nat)+1)))) al (0,0)))=kst6 at aB aw ⊢
  have T:IntKind.i64.wrap (IntKind.i64.wrap (IntKind.i64.wrap (IntKind.i64.wrap (b+1)+1)+(E1 d:Nat)+(U0 f:Nat)+(U0 g:Nat)+1)+1)=b+(1+1+(E1 d:Nat)+(U0 f:Nat)+(U0 g:Nat)+1+1):=by rw[w64 (by rw[D];omega) (by rw[D];omega)]<;>rw[D]<;>omega
  have aO:((S00 N8 H4 xs k j).set j (b,IntKind.i64.wrap (b+1),(j6 d (IntKind.i64.wrap (IntKind.i64.wrap (b+1)+1))),(Q2 f (IntKind.i64.wrap (IntKind.i64.wrap (b+1)+1)+(E1 d:Nat))),(Q2 g (IntKind.i64.wrap (IntKind.i64.wrap (b+1)+1)+(E1 d:Nat)+(U0 f:Nat))),(IntKind.i64.wrap (IntKind.i64.wrap (b+1)+1)+(E1 d:Nat)+(U0 f:Nat)+(U0 g:Nat),IntKind.i64.wrap (IntKind.i64.wrap (IntKind.i64.wrap (b+1)+1)+(E1 d:Nat)+(U0 f:Nat)+(U0 g:Nat)+1),l),m))[j]?=some (b,IntKind.i64.wrap (b+1),(j6 d (IntKind.i64.wrap (IntKind.i64.wrap (b+1)+1))),(Q2 f (IntKind.i64.wrap (IntKind.i64.wrap (b+1)+1)+(E1 d:Nat))),(Q2 g (IntKind.i64.wrap (IntKind.i64.wrap (b+1)+1)+(E1 d:Nat)+(U0 f:Nat))),(IntKind.i64.wrap (IntKind.i64.wrap (b+1)+1)+(E1 d:Nat)+(U0 f:Nat)+(U0 g:Nat),IntKind.i64.wrap (IntKind.i64.wrap (IntKind.i64.wrap (b+1)+1)+(E1 d:Nat)+(U0 f:Nat)+(U0 g:Nat)+1),l),m):=by rw[List.getElem?_set_self (by rw[D00];exact w)]
  obtain⟨ba,ga,eL,fs,hF,gf,hO,bs,bj,dT,gu,gL,gy,gG,dy,O,dM,hK⟩:=Wp.at aB z aO (by decide)
  cases bs
  obtain⟨h5,ig,eT,g5,fA,iq,e2,hh,fI,iB,fa,hp,fQ,iK,iU,i3,aX,dD,bf,ji,jr,ed,el,et,aq,rfl,bF,rfl,bN,bV,b4,ce,cn,cv,cE,cO,cX⟩:=Y01 dT
  cases bF
  refine aI ba (eX _ (aI bj ?_))
  have dt:aq.Nodup:=by first|exact O|(have:=O;simp only[List.nil_append,List.append_nil,List.nodup_append]at this;grind)
  refine Tr.mono (I0l _ aX dD bf (l) aq (IntKind.i64.wrap (IntKind.i64.wrap (IntKind.i64.wrap (IntKind.i64.wrap (b+1)+1)+(E1 d:Nat)+(U0 f:Nat)+(U0 g:Nat)+1)+1)) cO dt ⟨by rw[T];omega,by rw[T];omega⟩) ?_
  rintro hX G ⟨rfl,dY,K⟩
  have aT:n7.W G [.slice (some ⟨q,s,none⟩) xs.length c] ((S00 N8 H4 xs k j).set j (b,IntKind.i64.wrap (b+1),(j6 d (IntKind.i64.wrap (IntKind.i64.wrap (b+1)+1))),(Q2 f (IntKind.i64.wrap (IntKind.i64.wrap (b+1)+1)+(E1 d:Nat))),(Q2 g (IntKind.i64.wrap (IntKind.i64.wrap (b+1)+1)+(E1 d:Nat)+(U0 f:Nat))),(IntKind.i64.wrap (IntKind.i64.wrap (b+1)+1)+(E1 d:Nat)+(U0 f:Nat)+(U0 g:Nat),IntKind.i64.wrap (IntKind.i64.wrap (IntKind.i64.wrap (b+1)+1)+(E1 d:Nat)+(U0 f:Nat)+(U0 g:Nat)+1),(g04 l (IntKind.i64.wrap (IntKind.i64.wrap (IntKind.i64.wrap (IntKind.i64.wrap (b+1)+1)+(E1 d:Nat)+(U0 f:Nat)+(U0 g:Nat)+1)+1)))),m)) B:=by have:=dM G (b,IntKind.i64.wrap (b+1),(j6 d (IntKind.i64.wrap (IntKind.i64.wrap (b+1)+1))),(Q2 f (IntKind.i64.wrap (IntKind.i64.wrap (b+1)+1)+(E1 d:Nat))),(Q2 g (IntKind.i64.wrap (IntKind.i64.wrap (b+1)+1)+(E1 d:Nat)+(U0 f:Nat))),(IntKind.i64.wrap (IntKind.i64.wrap (b+1)+1)+(E1 d:Nat)+(U0 f:Nat)+(U0 g:Nat),IntKind.i64.wrap (IntKind.i64.wrap (IntKind.i64.wrap (b+1)+1)+(E1 d:Nat)+(U0 f:Nat)+(U0 g:Nat)+1),(g04 l (IntKind.i64.wrap (IntKind.i64.wrap (IntKind.i64.wrap (IntKind.i64.wrap (b+1)+1)+(E1 d:Nat)+(U0 f:Nat)+(U0 g:Nat)+1)+1)))),m) (λy i=>K y λo=>i (by simp[o])) (n01 bN bV (D2.frame b4 λy i=>K y λo=>by have:=O;simp only[List.nil_append,List.append_nil,List.nodup_append]at this;grind) (I0.frame ce λy i=>K y λo=>by have:=O;simp only[List.nil_append,List.append_nil,List.nodup_append]at this;grind) (I0.frame cn λy i=>K y λo=>by have:=O;simp only[List.nil_append,List.append_nil,List.nodup_append]at this;grind) cv cE dY cX);rwa [List.set_set]at this
  have aF:∀ y,y ∉ B->G y=h y:=λy i=>(K y λo=>i (dy y (by simp[o]))).trans (aw y i)
  have E:(IntKind.i64.wrap (IntKind.i64.wrap (IntKind.i64.wrap (IntKind.i64.wrap (b+1)+1)+(E1 d:Nat)+(U0 f:Nat)+(U0 g:Nat)+1)+1)+(x02 l:Nat):Int)=b+(1+1+(E1 d:Nat)+(U0 f:Nat)+(U0 g:Nat)+1+1+(x02 l:Nat)):=by rw[T];omega
  have aP:((S00 N8 H4 xs k j).set j (b,IntKind.i64.wrap (b+1),(j6 d (IntKind.i64.wrap (IntKind.i64.wrap (b+1)+1))),(Q2 f (IntKind.i64.wrap (IntKind.i64.wrap (b+1)+1)+(E1 d:Nat))),(Q2 g (IntKind.i64.wrap (IntKind.i64.wrap (b+1)+1)+(E1 d:Nat)+(U0 f:Nat))),(IntKind.i64.wrap (IntKind.i64.wrap (b+1)+1)+(E1 d:Nat)+(U0 f:Nat)+(U0 g:Nat),IntKind.i64.wrap (IntKind.i64.wrap (IntKind.i64.wrap (b+1)+1)+(E1 d:Nat)+(U0 f:Nat)+(U0 g:Nat)+1),(g04 l (IntKind.i64.wrap (IntKind.i64.wrap (IntKind.i64.wrap (IntKind.i64.wrap (b+1)+1)+(E1 d:Nat)+(U0 f:Nat)+(U0 g:Nat)+1)+1)))),m))[j]?=some (b,IntKind.i64.wrap (b+1),(j6 d (IntKind.i64.wrap (IntKind.i64.wrap (b+1)+1))),(Q2 f (IntKind.i64.wrap (IntKind.i64.wrap (b+1)+1)+(E1 d:Nat))),(Q2 g (IntKind.i64.wrap (IntKind.i64.wrap (b+1)+1)+(E1 d:Nat)+(U0 f:Nat))),(IntKind.i64.wrap (IntKind.i64.wrap (b+1)+1)+(E1 d:Nat)+(U0 f:Nat)+(U0 g:Nat),IntKind.i64.wrap (IntKind.i64.wrap (IntKind.i64.wrap (b+1)+1)+(E1 d:Nat)+(U0 f:Nat)+(U0 g:Nat)+1),(g04 l (IntKind.i64.wrap (IntKind.i64.wrap (IntKind.i64.wrap (IntKind.i64.wrap (b+1)+1)+(E1 d:Nat)+(U0 f:Nat)+(U0 g:Nat)+1)+1)))),m):=by rw[List.getElem?_set_self (by rw[D00];exact w)]
  obtain⟨bb,gb,eM,ft,hG,ab,am,bt,gl,dU,c2,di,dc,gH,gY,gS,hT,dI⟩:=Wp.at aT z aP (by decide)
  cases bt
  obtain⟨h6,ih,eU,g6,fB,ir,e3,hi,fJ,iC,fb,hq,fR,iL,iV,ja,fj,hy,fZ,jj,js,ee,em,eu,eD,rfl,bG,rfl,bO,bW,b5,cf,co,cw,cG,cP,gq⟩:=Y01 dU
  cases bG
  refine aI bb ?_
  refine k01.mk (Int.natCast_nonneg j) c2 (di 8 (by decide)) (by rw[Int.toNat_natCast];rfl) trivial ?_
  have V:n7.W (G.set q (.cells (ab.setIfInBounds (s+(j*S6.sz+8)) (.int .i64 (IntKind.i64.wrap (IntKind.i64.wrap (IntKind.i64.wrap (IntKind.i64.wrap (b+1)+1)+(E1 d:Nat)+(U0 f:Nat)+(U0 g:Nat)+1)+1)+(x02 l:Nat)))) am (0,0))) [.slice (some ⟨q,s,none⟩) xs.length c] ((S00 N8 H4 xs k j).set j (b,IntKind.i64.wrap (b+1),(j6 d (IntKind.i64.wrap (IntKind.i64.wrap (b+1)+1))),(Q2 f (IntKind.i64.wrap (IntKind.i64.wrap (b+1)+1)+(E1 d:Nat))),(Q2 g (IntKind.i64.wrap (IntKind.i64.wrap (b+1)+1)+(E1 d:Nat)+(U0 f:Nat))),(IntKind.i64.wrap (IntKind.i64.wrap (b+1)+1)+(E1 d:Nat)+(U0 f:Nat)+(U0 g:Nat),IntKind.i64.wrap (IntKind.i64.wrap (IntKind.i64.wrap (b+1)+1)+(E1 d:Nat)+(U0 f:Nat)+(U0 g:Nat)+1),(g04 l (IntKind.i64.wrap (IntKind.i64.wrap (IntKind.i64.wrap (IntKind.i64.wrap (b+1)+1)+(E1 d:Nat)+(U0 f:Nat)+(U0 g:Nat)+1)+1)))),IntKind.i64.wrap (IntKind.i64.wrap (IntKind.i64.wrap (IntKind.i64.wrap (b+1)+1)+(E1 d:Nat)+(U0 f:Nat)+(U0 g:Nat)+1)+1)+(x02 l:Nat))) B:=by have:=dI 8 (.int .i64 (IntKind.i64.wrap (IntKind.i64.wrap (IntKind.i64.wrap (IntKind.i64.wrap (b+1)+1)+(E1 d:Nat)+(U0 f:Nat)+(U0 g:Nat)+1)+1)+(x02 l:Nat))) (b,IntKind.i64.wrap (b+1),(j6 d (IntKind.i64.wrap (IntKind.i64.wrap (b+1)+1))),(Q2 f (IntKind.i64.wrap (IntKind.i64.wrap (b+1)+1)+(E1 d:Nat))),(Q2 g (IntKind.i64.wrap (IntKind.i64.wrap (b+1)+1)+(E1 d:Nat)+(U0 f:Nat))),(IntKind.i64.wrap (IntKind.i64.wrap (b+1)+1)+(E1 d:Nat)+(U0 f:Nat)+(U0 g:Nat),IntKind.i64.wrap (IntKind.i64.wrap (IntKind.i64.wrap (b+1)+1)+(E1 d:Nat)+(U0 f:Nat)+(U0 g:Nat)+1),(g04 l (IntKind.i64.wrap (IntKind.i64.wrap (IntKind.i64.wrap (IntKind.i64.wrap (b+1)+1)+(E1 d:Nat)+(U0 f:Nat)+(U0 g:Nat)+1)+1)))),IntKind.i64.wrap (IntKind.i64.wrap (IntKind.i64.wrap (IntKind.i64.wrap (b+1)+1)+(E1 d:Nat)+(U0 f:Nat)+(U0 g:Nat)+1)+1)+(x02 l:Nat)) (by decide) λu hf=>n01 bO bW (D2.frame b5 λy i=>hf y (by simp[i])) (I0.frame cf λy i=>hf y (by simp[i])) (I0.frame co λy i=>hf y (by simp[i])) cw cG (H0.frame cP λy i=>hf y (by simp[i])) (b0j (by rw[E];omega) (by rw[E];omega));rwa [List.set_set]at this
  have ax:∀ y,y ∉ B->(G.set q (.cells (ab.setIfInBounds (s+(j*S6.sz+8)) (.int .i64 (IntKind.i64.wrap (IntKind.i64.wrap (IntKind.i64.wrap (IntKind.i64.wrap (b+1)+1)+(E1 d:Nat)+(U0 f:Nat)+(U0 g:Nat)+1)+1)+(x02 l:Nat)))) am (0,0))) y=h y:=λy i=>(Hp.set_other _ _ λe=>i (by rw[e];exact dc)).trans (aF y i)
  generalize (G.set q (.cells (ab.setIfInBounds (s+(j*S6.sz+8)) (.int .i64 (IntKind.i64.wrap (IntKind.i64.wrap (IntKind.i64.wrap (IntKind.i64.wrap (b+1)+1)+(E1 d:Nat)+(U0 f:Nat)+(U0 g:Nat)+1)+1)+(x02 l:Nat)))) am (0,0)))=kst8 at V ax ⊢
  have bu:IntKind.i64.wrap (IntKind.i64.wrap (IntKind.i64.wrap (IntKind.i64.wrap (IntKind.i64.wrap (b+1)+1)+(E1 d:Nat)+(U0 f:Nat)+(U0 g:Nat)+1)+1)+(x02 l:Nat)+1)=b+(1+1+(E1 d:Nat)+(U0 f:Nat)+(U0 g:Nat)+1+1+(x02 l:Nat)+1):=by rw[w64 (by rw[E];omega) (by rw[E];omega)]<;>rw[E]<;>omega
  have bv:(b,IntKind.i64.wrap (b+1),(j6 d (IntKind.i64.wrap (IntKind.i64.wrap (b+1)+1))),(Q2 f (IntKind.i64.wrap (IntKind.i64.wrap (b+1)+1)+(E1 d:Nat))),(Q2 g (IntKind.i64.wrap (IntKind.i64.wrap (b+1)+1)+(E1 d:Nat)+(U0 f:Nat))),(IntKind.i64.wrap (IntKind.i64.wrap (b+1)+1)+(E1 d:Nat)+(U0 f:Nat)+(U0 g:Nat),IntKind.i64.wrap (IntKind.i64.wrap (IntKind.i64.wrap (b+1)+1)+(E1 d:Nat)+(U0 f:Nat)+(U0 g:Nat)+1),(g04 l (IntKind.i64.wrap (IntKind.i64.wrap (IntKind.i64.wrap (IntKind.i64.wrap (b+1)+1)+(E1 d:Nat)+(U0 f:Nat)+(U0 g:Nat)+1)+1)))),IntKind.i64.wrap (IntKind.i64.wrap (IntKind.i64.wrap (IntKind.i64.wrap (b+1)+1)+(E1 d:Nat)+(U0 f:Nat)+(U0 g:Nat)+1)+1)+(x02 l:Nat))=N8 (dZ,P,d,f,g,(t,p,l),m) b:=by
   simp only[N8,H4,v0n,Y07]
   exact(congr (congrArg Prod.mk rfl) (congr (congrArg Prod.mk (by rw[A]<;>first|rfl|omega|(simp;omega))) (congr (congrArg Prod.mk (congrArg (j6 d) (by rw[Q]<;>first|rfl|omega|(simp;omega)))) (congr (congrArg Prod.mk (congrArg (Q2 f) (by rw[R]<;>first|rfl|omega|(simp;omega)))) (congr (congrArg Prod.mk (congrArg (Q2 g) (by rw[S]<;>first|rfl|omega|(simp;omega)))) (congr (congrArg Prod.mk (congr (congrArg Prod.mk (by rw[C]<;>first|rfl|omega|(simp;omega))) (congr (congrArg Prod.mk (by rw[D]<;>first|rfl|omega|(simp;omega))) (congrArg (g04 l) (by rw[T]<;>first|rfl|omega|(simp;omega)))))) (by rw[E]<;>first|rfl|omega|(simp;omega))))))))
  have bk:(S00 N8 H4 xs k j).set j (b,IntKind.i64.wrap (b+1),(j6 d (IntKind.i64.wrap (IntKind.i64.wrap (b+1)+1))),(Q2 f (IntKind.i64.wrap (IntKind.i64.wrap (b+1)+1)+(E1 d:Nat))),(Q2 g (IntKind.i64.wrap (IntKind.i64.wrap (b+1)+1)+(E1 d:Nat)+(U0 f:Nat))),(IntKind.i64.wrap (IntKind.i64.wrap (b+1)+1)+(E1 d:Nat)+(U0 f:Nat)+(U0 g:Nat),IntKind.i64.wrap (IntKind.i64.wrap (IntKind.i64.wrap (b+1)+1)+(E1 d:Nat)+(U0 f:Nat)+(U0 g:Nat)+1),(g04 l (IntKind.i64.wrap (IntKind.i64.wrap (IntKind.i64.wrap (IntKind.i64.wrap (b+1)+1)+(E1 d:Nat)+(U0 f:Nat)+(U0 g:Nat)+1)+1)))),IntKind.i64.wrap (IntKind.i64.wrap (IntKind.i64.wrap (IntKind.i64.wrap (b+1)+1)+(E1 d:Nat)+(U0 f:Nat)+(U0 g:Nat)+1)+1)+(x02 l:Nat))=S00 N8 H4 xs k (j+1):=by rw[bv];rw[ah];exact I0b ac
  rw[bk]at V
  refine aI rfl (aI (by first|exact trivial|exact aI rfl trivial|exact aI rfl (aI rfl trivial)|exact aI rfl (aI rfl (aI rfl trivial))|exact aI rfl (aI rfl (aI rfl (aI rfl trivial)))) (aI (by first|exact trivial|exact aI rfl trivial|exact aI rfl (aI rfl trivial)|exact aI rfl (aI rfl (aI rfl trivial))|exact aI rfl (aI rfl (aI rfl (aI rfl trivial)))) (aI ?_ ?_)))
  ·refine⟨j+1,IntKind.i64.wrap (IntKind.i64.wrap (IntKind.i64.wrap (IntKind.i64.wrap (IntKind.i64.wrap (b+1)+1)+(E1 d:Nat)+(U0 f:Nat)+(U0 g:Nat)+1)+1)+(x02 l:Nat)+1),?_,by omega,by rw[←dz],V,ax⟩
   rw[bu];rw[du];simp only[H4,Y07];omega
  ·show((xs.length:Int)-IntKind.i64.wrap ((j:Int)+1)).toNat<((xs.length:Int)-(j:Int)).toNat
   omega
 ·have dj:j=xs.length:=by simp at ag;omega
  subst dj
  rw[List.take_length]at ah
  rw[G0b]at U
  exact aI (congrArg (Value.int .i64) ah) (aI U ar)
theorem M0g(h:Hp)(cs:List Value)(x:A4)(B:List Nat)(k:Int)(t:l5.W h cs x B)(i:B.Nodup)(q:0<=k/\k+(H03 x:Nat)<=4611686018427387904):
  Tr Tryz.prog 23 #[.agg cs.toArray,.int .i64 k] h λv g=>v = .int .i64 (k+(H03 x:Nat))/\l5.W g cs (J0a x k) B/\∀ y,y ∉ B->g y=h y:=by
 obtain⟨a,c,e,d,b,z,rfl,rfl,rfl,h0,o⟩:=T0g t
 simp only[H03]at q
 refine Z1 (args:=[.agg #[.int .i64 a,.slice c e d],.int .i64 k]) (fn:=Tryz.f23) rfl ?_
 have s:B.Nodup:=by first|exact i|(have:=i;simp only[List.nil_append,List.append_nil,List.nodup_append]at this;grind)
 refine Tr.mono (I0j _ c e d b B (k) o s ⟨by omega,by omega⟩) ?_
 rintro A p ⟨rfl,w,n⟩
 have l:(k+(K09 b:Nat):Int)=k+(H03 (a,b):Nat):=by simp only[H03]<;>omega
 have f:l5.W p [.int .i64 a,.slice c e d] (a,J0b b (k)) (B):=⟨[.int .i64 a],[.slice c e d],[],B,rfl,rfl,⟨⟨rfl,h0⟩,rfl⟩,w⟩
 have m:(a,J0b b (k))=J0a (a,b) k:=by
  unfold J0a
  exact(congr (congrArg Prod.mk rfl) rfl)
 rw[m]at f
 exact aI (congrArg (Value.int .i64) l) (aI f (λy u=>n y (λj=>u (by first|exact j|(simp only[List.nil_append,List.append_nil,List.mem_append,List.not_mem_nil,false_or,or_false]at j ⊢;grind)))))
theorem N0g(h:Hp)(a:Option Addr)(n c:Nat)(xs:C0)(k:Int)(o:I0.R h [.slice a n c] (Q2 xs k))(E:0<=k/\k+(U0 xs:Nat)<=4611686018427387904):
  Tr Tryz.prog 25 #[.slice a n c,.int .i64 k] h λv d=>v = .int .i64 (k+(U0 xs:Nat))/\d=h:=by
 obtain⟨i,w⟩:=Sl.len o
 rw[show(Q2 xs k).length=xs.length from F04 _ _ _ _]at i
 subst i
 refine Z1 (args:=[.slice a xs.length c,.int .i64 k]) (fn:=Tryz.f25) rfl ?_
 refine eX { vars:=[1,5],boxes:=[],owns:=[] } (eX (λvs _ d=>∃(j:Nat) (b:Int),b=k+(D5 (λ_=>1) (xs.take j):Nat)/\j<=xs.length/\vs = [.int .i64 b,.int .i64 j]/\d=h) (eX (λvs _=>match vs with | [_,.int _ j]=>((xs.length:Int)-j).toNat|_=>0) ?_))
 refine aI ⟨0,k,by simp[D5],by omega,rfl,rfl⟩ ?_
 rintro _ _ C ⟨j,b,g,D,⟨⟩,rfl⟩
 refine aI (λf=>?_) (λf=>?_)
 ·have m:j<xs.length:=by simpa using f
  obtain⟨x,l⟩:=z00 m
  have y:D5 (λ_=>1) (xs.take (j+1))=D5 (λ_=>1) (xs.take j)+1:=D04 l
  have G:=E04 (λ_=>1) xs (j+1)
  have z:=Y1 m w
  have F:0<=b/\b+(1:Nat)<=4611686018427387904:=by
   have:(U0 xs:Int)=(D5 (λ_=>1) xs:Nat):=rfl
   omega
  have t:(Q2 xs k)[j]?=some ((λ_ k=>k) x b):=by rw[g];exact u0n l
  obtain⟨p,B,q,A⟩:=Sl.get o t (by decide)
  obtain⟨rfl,_⟩:=A
  refine aI p (eX _ (aI q ?_))
  refine aI (λe=>?_) (λe=>?_)
  ·exact((bne_iff_ne.1 e) (by first|rfl|omega|(simp;omega))).elim
  clear e
  have s:IntKind.i64.wrap (b+1)=b+(1):=by rw[w64 (by  omega) (by  omega)]<;>omega
  refine aI rfl (aI (by first|exact trivial|exact aI rfl trivial|exact aI rfl (aI rfl trivial)|exact aI rfl (aI rfl (aI rfl trivial))|exact aI rfl (aI rfl (aI rfl (aI rfl trivial)))) (aI (by first|exact trivial|exact aI rfl trivial|exact aI rfl (aI rfl trivial)|exact aI rfl (aI rfl (aI rfl trivial))|exact aI rfl (aI rfl (aI rfl (aI rfl trivial)))) (aI ?_ ?_)))
  ·refine⟨j+1,IntKind.i64.wrap (b+1),?_,by omega,by rw[←z],rfl⟩
   rw[s];rw[y];omega
  ·show((xs.length:Int)-IntKind.i64.wrap ((j:Int)+1)).toNat<((xs.length:Int)-(j:Int)).toNat
   omega
 ·have u:j=xs.length:=by simp at f;omega
  subst u
  rw[List.take_length]at g
  exact aI (congrArg (Value.int .i64) g) rfl
end Go.Proofs.YtkjhghloldgioaaGreat
