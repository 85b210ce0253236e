/- Texts of the claim, joined: The data types of the laws, as lists and tuples and others. -/
import Derived.Test.YtkjhghloldgioaaGreatHE
import Derived.Test.YtkjhghloldgioaaGreatChecked
namespace Go.Proofs.YtkjhghloldgioaaGreat
open Go.H
set_option linter.unusedVariables false
set_option linter.unusedSimpArgs false
set_option maxRecDepth 10000
theorem W0j{x:Int}(a : -9223372036854775808<=x)(b:x<=9223372036854775807):J0 x:=⟨a,b⟩
abbrev N0:Type:=Int×Int×Int
abbrev E1:Wp N0:=Wp.pair Wp.int (Wp.pair Wp.int Wp.int)
instance R0u:DecidableEq N0:=(@instDecidableEqProd _ _ (inferInstance:DecidableEq Int) (@instDecidableEqProd _ _ (inferInstance:DecidableEq Int) (inferInstance:DecidableEq Int)))
def q0t(x:N0):Nat:=0
def L7(x:N0):Nat:=1+1+1
def H04(x:N0)(k:Int):N0:=(k,(k+(1:Nat)),(k+(1+1:Nat)))
theorem U1{h:Hp}{cs:List Value}{x:N0}(f:E1.R h cs x):∃(a:Int) (b:Int) (c:Int),cs = [.int .i64 a,.int .i64 b,.int .i64 c]/\x=(a,b,c)/\J0 a/\J0 b/\J0 c:=by
 obtain⟨a,b,c⟩:=x
 obtain⟨_,_,rfl,⟨rfl,h0⟩,⟨_,_,rfl,⟨rfl,d⟩,⟨rfl,e⟩⟩⟩:=f
 exact⟨a,b,c,rfl,rfl,h0,d,e⟩
theorem M1{h:Hp}{c:Int}{a:Int}{b:Int}(h0:J0 c)(d:J0 a)(e:J0 b):E1.R h [.int .i64 c,.int .i64 a,.int .i64 b] (c,a,b) :=
 ⟨[.int .i64 c],[.int .i64 a,.int .i64 b],rfl,⟨rfl,h0⟩,⟨[.int .i64 a],[.int .i64 b],rfl,⟨rfl,d⟩,⟨rfl,e⟩⟩⟩
theorem G0d{h:Hp}{cs:List Value}{x:N0}{B:List Nat}(f:E1.W h cs x B):∃(a:Int) (b:Int) (c:Int),cs = [.int .i64 a,.int .i64 b,.int .i64 c]/\x=(a,b,c)/\B=([]++([] ++ []))/\J0 a/\J0 b/\J0 c:=by
 obtain⟨a,b,c⟩:=x
 obtain⟨_,_,_,_,rfl,rfl,⟨⟨rfl,h0⟩,rfl⟩,⟨_,_,_,_,rfl,rfl,⟨⟨rfl,d⟩,rfl⟩,⟨⟨rfl,e⟩,rfl⟩⟩⟩:=f
 exact⟨a,b,c,rfl,rfl,rfl,h0,d,e⟩
theorem H08{h:Hp}{c:Int}{a:Int}{b:Int}(h0:J0 c)(d:J0 a)(e:J0 b):E1.W h [.int .i64 c,.int .i64 a,.int .i64 b] (c,a,b) ([]++([] ++ [])) :=
 ⟨[.int .i64 c],[.int .i64 a,.int .i64 b],[],([] ++ []),rfl,rfl,⟨⟨rfl,h0⟩,rfl⟩,⟨[.int .i64 a],[.int .i64 b],[],[],rfl,rfl,⟨⟨rfl,d⟩,rfl⟩,⟨⟨rfl,e⟩,rfl⟩⟩⟩
abbrev K0:Type:=List N0
abbrev I0:Wp K0:=Wp.slice E1
instance T0t:DecidableEq K0:=inferInstanceAs (DecidableEq (List N0))
def z06(x:K0):Nat:=x.length
def t9(x:K0):Nat:=U3 L7 x
def Q00(x:K0)(k:Int):K0:=mkL H04 L7 x k
abbrev j0:Type:=Int×Int×K0
abbrev C1:Wp j0:=Wp.pair Wp.int (Wp.pair Wp.int I0)
instance p0r:DecidableEq j0:=(@instDecidableEqProd _ _ (inferInstance:DecidableEq Int) (@instDecidableEqProd _ _ (inferInstance:DecidableEq Int) T0t))
def P03(x:j0):Nat:=z06 x.2.2
def n05(x:j0):Nat:=1+1+t9 x.2.2
def X0j(x:j0)(k:Int):j0:=(k,(k+(1:Nat)),Q00 x.2.2 (k+(1+1:Nat)))
def z02(x:j0):Nat:=t9 x.2.2
def I08(x:j0)(k:Int):j0:=(x.1,x.2.1,Q00 x.2.2 k)
theorem C0{h:Hp}{cs:List Value}{x:j0}(j:C1.R h cs x):∃(a:Int) (b:Int) (c:Option Addr) (e d:Nat) (f:K0),cs = [.int .i64 a,.int .i64 b,.slice c e d]/\x=(a,b,f)/\J0 a/\J0 b/\I0.R h [.slice c e d] f:=by
 obtain⟨a,b,f⟩:=x
 obtain⟨_,_,rfl,⟨rfl,h0⟩,⟨_,_,rfl,⟨rfl,i⟩,g⟩⟩:=j
 obtain⟨c,e,d,rfl⟩:=Wp.slice_cell g
 exact⟨a,b,c,e,d,f,rfl,rfl,h0,i,g⟩
theorem l0{h:Hp}{e:Int}{a:Int}{b:Option Addr}{d c:Nat}{f:K0}(h0:J0 e)(g:J0 a)(i:I0.R h [.slice b d c] f):C1.R h [.int .i64 e,.int .i64 a,.slice b d c] (e,a,f) :=
 ⟨[.int .i64 e],[.int .i64 a,.slice b d c],rfl,⟨rfl,h0⟩,⟨[.int .i64 a],[.slice b d c],rfl,⟨rfl,g⟩,i⟩⟩
theorem p0n{h:Hp}{cs:List Value}{x:j0}{B:List Nat}(k:C1.W h cs x B):∃(a:Int) (b:Int) (c:Option Addr) (e d:Nat) (f:K0) (g:List Nat),cs = [.int .i64 a,.int .i64 b,.slice c e d]/\x=(a,b,f)/\B=([]++([]++g))/\J0 a/\J0 b/\I0.W h [.slice c e d] f g:=by
 obtain⟨a,b,f⟩:=x
 obtain⟨_,_,_,_,rfl,rfl,⟨⟨rfl,h0⟩,rfl⟩,⟨_,_,_,_,rfl,rfl,⟨⟨rfl,j⟩,rfl⟩,i⟩⟩:=k
 obtain⟨c,e,d,rfl⟩:=Wp.slice_cell (I0.toR i)
 exact⟨a,b,c,e,d,f,_,rfl,rfl,rfl,h0,j,i⟩
theorem A0l{h:Hp}{f:Int}{a:Int}{c:Option Addr}{e d:Nat}{g:K0}{b:List Nat}(h0:J0 f)(i:J0 a)(j:I0.W h [.slice c e d] g b):C1.W h [.int .i64 f,.int .i64 a,.slice c e d] (f,a,g) ([]++([]++b)) :=
 ⟨[.int .i64 f],[.int .i64 a,.slice c e d],[],([]++b),rfl,rfl,⟨⟨rfl,h0⟩,rfl⟩,⟨[.int .i64 a],[.slice c e d],[],b,rfl,rfl,⟨⟨rfl,i⟩,rfl⟩,j⟩⟩
abbrev T6:Type:=Int×Int
abbrev a6:Wp T6:=Wp.pair Wp.int Wp.int
instance S0u:DecidableEq T6:=(@instDecidableEqProd _ _ (inferInstance:DecidableEq Int) (inferInstance:DecidableEq Int))
theorem I04{h:Hp}{cs:List Value}{x:T6}(d:a6.R h cs x):∃(a:Int) (b:Int),cs = [.int .i64 a,.int .i64 b]/\x=(a,b)/\J0 a/\J0 b:=by
 obtain⟨a,b⟩:=x
 obtain⟨_,_,rfl,⟨rfl,h0⟩,⟨rfl,c⟩⟩:=d
 exact⟨a,b,rfl,rfl,h0,c⟩
theorem j3{h:Hp}{a:Int}{b:Int}(h0:J0 a)(c:J0 b):a6.R h [.int .i64 a,.int .i64 b] (a,b) :=
 ⟨[.int .i64 a],[.int .i64 b],rfl,⟨rfl,h0⟩,⟨rfl,c⟩⟩
abbrev B0:Type:=List Int
abbrev D0:Wp B0:=Wp.slice Wp.int
instance r0t:DecidableEq B0:=inferInstanceAs (DecidableEq (List Int))
def K4(x:B0):Nat:=x.length
def P0(x:B0):Nat:=U3 (λ_=>1) x
def J2(x:B0)(k:Int):B0:=mkL (λ_ k=>k) (λ_=>1) x k
abbrev Y1:Type:=List B0
abbrev j2:Wp Y1:=Wp.slice D0
instance U0t:DecidableEq Y1:=inferInstanceAs (DecidableEq (List B0))
def d6(x:Y1):Nat:=x.length+U3 K4 x
def Q0(x:Y1):Nat:=U3 P0 x
def A4(x:Y1)(k:Int):Y1:=mkL J2 P0 x k
abbrev Z2:Type:=Int×Int×Y1×B0×B0×j0×Int
abbrev Q1:Wp Z2:=Wp.pair Wp.int (Wp.pair Wp.int (Wp.pair j2 (Wp.pair D0 (Wp.pair D0 (Wp.pair C1 Wp.int)))))
instance M0u:DecidableEq Z2:=(@instDecidableEqProd _ _ (inferInstance:DecidableEq Int) (@instDecidableEqProd _ _ (inferInstance:DecidableEq Int) (@instDecidableEqProd _ _ U0t (@instDecidableEqProd _ _ r0t (@instDecidableEqProd _ _ r0t (@instDecidableEqProd _ _ p0r (inferInstance:DecidableEq Int)))))))
def I6(x:Z2):Nat:=d6 x.2.2.1+K4 x.2.2.2.1+K4 x.2.2.2.2.1+P03 x.2.2.2.2.2.1
def l3(x:Z2):Nat:=1+1+Q0 x.2.2.1+P0 x.2.2.2.1+P0 x.2.2.2.2.1+n05 x.2.2.2.2.2.1+1
def a8(x:Z2)(k:Int):Z2:=(k,(k+(1:Nat)),A4 x.2.2.1 (k+(1+1:Nat)),J2 x.2.2.2.1 (k+(1+1+Q0 x.2.2.1:Nat)),J2 x.2.2.2.2.1 (k+(1+1+Q0 x.2.2.1+P0 x.2.2.2.1:Nat)),X0j x.2.2.2.2.2.1 (k+(1+1+Q0 x.2.2.1+P0 x.2.2.2.1+P0 x.2.2.2.2.1:Nat)),(k+(1+1+Q0 x.2.2.1+P0 x.2.2.2.1+P0 x.2.2.2.2.1+n05 x.2.2.2.2.2.1:Nat)))
def o05(x:Z2):Nat:=Q0 x.2.2.1+P0 x.2.2.2.1+P0 x.2.2.2.2.1+z02 x.2.2.2.2.2.1
def Y0j(x:Z2)(k:Int):Z2:=(x.1,x.2.1,A4 x.2.2.1 k,J2 x.2.2.2.1 (k+(Q0 x.2.2.1:Nat)),J2 x.2.2.2.2.1 (k+(Q0 x.2.2.1+P0 x.2.2.2.1:Nat)),I08 x.2.2.2.2.2.1 (k+(Q0 x.2.2.1+P0 x.2.2.2.1+P0 x.2.2.2.2.1:Nat)),x.2.2.2.2.2.2)
theorem O3{h:Hp}{cs:List Value}{x:Z2}(G:Q1.R h cs x):∃(a:Int) (b:Int) (f:Option Addr) (o k:Nat) (t:Y1) (g:Option Addr) (p l:Nat) (u:B0) (i:Option Addr) (q m:Nat) (v:B0) (c:Int) (d:Int) (j:Option Addr) (s n:Nat) (w:K0) (e:Int),cs = [.int .i64 a,.int .i64 b,.slice f o k,.slice g p l,.slice i q m,.int .i64 c,.int .i64 d,.slice j s n,.int .i64 e]/\x=(a,b,t,u,v,(c,d,w),e)/\J0 a/\J0 b/\j2.R h [.slice f o k] t/\D0.R h [.slice g p l] u/\D0.R h [.slice i q m] v/\J0 c/\J0 d/\I0.R h [.slice j s n] w/\J0 e:=by
 obtain⟨a,b,t,u,v,⟨c,d,w⟩,e⟩:=x
 obtain⟨_,_,rfl,⟨rfl,h0⟩,⟨_,_,rfl,⟨rfl,C⟩,⟨_,_,rfl,y,⟨_,_,rfl,z,⟨_,_,rfl,A,⟨_,_,rfl,⟨_,_,rfl,⟨rfl,D⟩,⟨_,_,rfl,⟨rfl,E⟩,B⟩⟩,⟨rfl,F⟩⟩⟩⟩⟩⟩⟩:=G
 obtain⟨f,o,k,rfl⟩:=Wp.slice_cell y
 obtain⟨g,p,l,rfl⟩:=Wp.slice_cell z
 obtain⟨i,q,m,rfl⟩:=Wp.slice_cell A
 obtain⟨j,s,n,rfl⟩:=Wp.slice_cell B
 exact⟨a,b,f,o,k,t,g,p,l,u,i,q,m,v,c,d,j,s,n,w,e,rfl,rfl,h0,C,y,z,A,D,E,B,F⟩
theorem V2{h:Hp}{s:Int}{q:Int}{n:Option Addr}{p o:Nat}{t:Y1}{k:Option Addr}{m l:Nat}{u:B0}{g:Option Addr}{j i:Nat}{v:B0}{e:Int}{a:Int}{b:Option Addr}{d c:Nat}{w:K0}{f:Int}(h0:J0 s)(x:J0 q)(y:j2.R h [.slice n p o] t)(z:D0.R h [.slice k m l] u)(A:D0.R h [.slice g j i] v)(B:J0 e)(C:J0 a)(D:I0.R h [.slice b d c] w)(E:J0 f):Q1.R h [.int .i64 s,.int .i64 q,.slice n p o,.slice k m l,.slice g j i,.int .i64 e,.int .i64 a,.slice b d c,.int .i64 f] (s,q,t,u,v,(e,a,w),f) :=
 ⟨[.int .i64 s],[.int .i64 q,.slice n p o,.slice k m l,.slice g j i,.int .i64 e,.int .i64 a,.slice b d c,.int .i64 f],rfl,⟨rfl,h0⟩,⟨[.int .i64 q],[.slice n p o,.slice k m l,.slice g j i,.int .i64 e,.int .i64 a,.slice b d c,.int .i64 f],rfl,⟨rfl,x⟩,⟨[.slice n p o],[.slice k m l,.slice g j i,.int .i64 e,.int .i64 a,.slice b d c,.int .i64 f],rfl,y,⟨[.slice k m l],[.slice g j i,.int .i64 e,.int .i64 a,.slice b d c,.int .i64 f],rfl,z,⟨[.slice g j i],[.int .i64 e,.int .i64 a,.slice b d c,.int .i64 f],rfl,A,⟨[.int .i64 e,.int .i64 a,.slice b d c],[.int .i64 f],rfl,⟨[.int .i64 e],[.int .i64 a,.slice b d c],rfl,⟨rfl,B⟩,⟨[.int .i64 a],[.slice b d c],rfl,⟨rfl,C⟩,D⟩⟩,⟨rfl,E⟩⟩⟩⟩⟩⟩⟩
theorem W01{h:Hp}{cs:List Value}{x:Z2}{B:List Nat}(L:Q1.W h cs x B):∃(a:Int) (b:Int) (f:Option Addr) (o k:Nat) (t:Y1) (g:Option Addr) (p l:Nat) (u:B0) (i:Option Addr) (q m:Nat) (v:B0) (c:Int) (d:Int) (j:Option Addr) (s n:Nat) (w:K0) (e:Int) (y z A C:List Nat),cs = [.int .i64 a,.int .i64 b,.slice f o k,.slice g p l,.slice i q m,.int .i64 c,.int .i64 d,.slice j s n,.int .i64 e]/\x=(a,b,t,u,v,(c,d,w),e)/\B=([]++([]++(y++(z++(A++(([]++([]++C)) ++ []))))))/\J0 a/\J0 b/\j2.W h [.slice f o k] t y/\D0.W h [.slice g p l] u z/\D0.W h [.slice i q m] v A/\J0 c/\J0 d/\I0.W h [.slice j s n] w C/\J0 e:=by
 obtain⟨a,b,t,u,v,⟨c,d,w⟩,e⟩:=x
 obtain⟨_,_,_,_,rfl,rfl,⟨⟨rfl,h0⟩,rfl⟩,⟨_,_,_,_,rfl,rfl,⟨⟨rfl,H⟩,rfl⟩,⟨_,_,_,_,rfl,rfl,D,⟨_,_,_,_,rfl,rfl,E,⟨_,_,_,_,rfl,rfl,F,⟨_,_,_,_,rfl,rfl,⟨_,_,_,_,rfl,rfl,⟨⟨rfl,I⟩,rfl⟩,⟨_,_,_,_,rfl,rfl,⟨⟨rfl,J⟩,rfl⟩,G⟩⟩,⟨⟨rfl,K⟩,rfl⟩⟩⟩⟩⟩⟩⟩:=L
 obtain⟨f,o,k,rfl⟩:=Wp.slice_cell (j2.toR D)
 obtain⟨g,p,l,rfl⟩:=Wp.slice_cell (D0.toR E)
 obtain⟨i,q,m,rfl⟩:=Wp.slice_cell (D0.toR F)
 obtain⟨j,s,n,rfl⟩:=Wp.slice_cell (I0.toR G)
 exact⟨a,b,f,o,k,t,g,p,l,u,i,q,m,v,c,d,j,s,n,w,e,_,_,_,_,rfl,rfl,rfl,h0,H,D,E,F,I,J,G,K⟩
theorem G01{h:Hp}{w:Int}{v:Int}{s:Option Addr}{u t:Nat}{x:Y1}{n:Option Addr}{p o:Nat}{y:B0}{j:Option Addr}{l k:Nat}{z:B0}{f:Int}{a:Int}{c:Option Addr}{e d:Nat}{A:K0}{g:Int}{q m i b:List Nat}(h0:J0 w)(B:J0 v)(C:j2.W h [.slice s u t] x q)(D:D0.W h [.slice n p o] y m)(E:D0.W h [.slice j l k] z i)(F:J0 f)(G:J0 a)(H:I0.W h [.slice c e d] A b)(I:J0 g):Q1.W h [.int .i64 w,.int .i64 v,.slice s u t,.slice n p o,.slice j l k,.int .i64 f,.int .i64 a,.slice c e d,.int .i64 g] (w,v,x,y,z,(f,a,A),g) ([]++([]++(q++(m++(i++(([]++([]++b)) ++ [])))))) :=
 ⟨[.int .i64 w],[.int .i64 v,.slice s u t,.slice n p o,.slice j l k,.int .i64 f,.int .i64 a,.slice c e d,.int .i64 g],[],([]++(q++(m++(i++(([]++([]++b)) ++ []))))),rfl,rfl,⟨⟨rfl,h0⟩,rfl⟩,⟨[.int .i64 v],[.slice s u t,.slice n p o,.slice j l k,.int .i64 f,.int .i64 a,.slice c e d,.int .i64 g],[],(q++(m++(i++(([]++([]++b)) ++ [])))),rfl,rfl,⟨⟨rfl,B⟩,rfl⟩,⟨[.slice s u t],[.slice n p o,.slice j l k,.int .i64 f,.int .i64 a,.slice c e d,.int .i64 g],q,(m++(i++(([]++([]++b)) ++ []))),rfl,rfl,C,⟨[.slice n p o],[.slice j l k,.int .i64 f,.int .i64 a,.slice c e d,.int .i64 g],m,(i++(([]++([]++b)) ++ [])),rfl,rfl,D,⟨[.slice j l k],[.int .i64 f,.int .i64 a,.slice c e d,.int .i64 g],i,(([]++([]++b)) ++ []),rfl,rfl,E,⟨[.int .i64 f,.int .i64 a,.slice c e d],[.int .i64 g],([]++([]++b)),[],rfl,rfl,⟨[.int .i64 f],[.int .i64 a,.slice c e d],[],([]++b),rfl,rfl,⟨⟨rfl,F⟩,rfl⟩,⟨[.int .i64 a],[.slice c e d],[],b,rfl,rfl,⟨⟨rfl,G⟩,rfl⟩,H⟩⟩,⟨⟨rfl,I⟩,rfl⟩⟩⟩⟩⟩⟩⟩
abbrev K8:Type:=List Z2
abbrev U4:Wp K8:=Wp.slice Q1
instance S0s:DecidableEq K8:=inferInstanceAs (DecidableEq (List Z2))
def a04(x:K8):Nat:=x.length+U3 I6 x
def p05(x:K8):Nat:=U3 l3 x
def A06(x:K8)(k:Int):K8:=mkL a8 l3 x k
abbrev V1:Type:=Int×K8
abbrev L1:Wp V1:=Wp.pair Wp.int U4
instance k0u:DecidableEq V1:=(@instDecidableEqProd _ _ (inferInstance:DecidableEq Int) S0s)
def Q8(x:V1):Nat:=a04 x.2
def Z6(x:V1):Nat:=p05 x.2
def B06(x:V1)(k:Int):V1:=(x.1,A06 x.2 k)
theorem K3{h:Hp}{cs:List Value}{x:V1}(g:L1.R h cs x):∃(a:Int) (b:Option Addr) (d c:Nat) (e:K8),cs = [.int .i64 a,.slice b d c]/\x=(a,e)/\J0 a/\U4.R h [.slice b d c] e:=by
 obtain⟨a,e⟩:=x
 obtain⟨_,_,rfl,⟨rfl,h0⟩,f⟩:=g
 obtain⟨b,d,c,rfl⟩:=Wp.slice_cell f
 exact⟨a,b,d,c,e,rfl,rfl,h0,f⟩
theorem Q6{h:Hp}{a:Int}{b:Option Addr}{d c:Nat}{e:K8}(h0:J0 a)(f:U4.R h [.slice b d c] e):L1.R h [.int .i64 a,.slice b d c] (a,e) :=
 ⟨[.int .i64 a],[.slice b d c],rfl,⟨rfl,h0⟩,f⟩
theorem L0h{h:Hp}{cs:List Value}{x:V1}{B:List Nat}(i:L1.W h cs x B):∃(a:Int) (b:Option Addr) (d c:Nat) (e:K8) (f:List Nat),cs = [.int .i64 a,.slice b d c]/\x=(a,e)/\B=([]++f)/\J0 a/\U4.W h [.slice b d c] e f:=by
 obtain⟨a,e⟩:=x
 obtain⟨_,_,_,_,rfl,rfl,⟨⟨rfl,h0⟩,rfl⟩,g⟩:=i
 obtain⟨b,d,c,rfl⟩:=Wp.slice_cell (U4.toR g)
 exact⟨a,b,d,c,e,_,rfl,rfl,rfl,h0,g⟩
abbrev q0n:Type:=ByteArray×j0
instance N0u:DecidableEq q0n:=(@instDecidableEqProd _ _ (inferInstance:DecidableEq ByteArray) p0r)
abbrev r0f:Type:=List q0n
instance E0u:DecidableEq r0f:=inferInstanceAs (DecidableEq (List q0n))
abbrev q00:Type:=List T6
abbrev Z0j:Wp q00:=Wp.slice a6
instance O0u:DecidableEq q00:=inferInstanceAs (DecidableEq (List T6))
theorem T0s(x:N0):L7 x<=3:=by
 simp only[L7]
 omega
theorem C0o(x:K0):t9 x<=16*z06 x:=m0g (c:=L7) (λx=>by have:=T0s x;omega) x
theorem q0r(x:j0):n05 x<=2+16*P03 x:=by
 have:=C0o x.2.2
 simp only[n05,P03]
 omega
theorem U0s(x:j0):z02 x<=16*P03 x:=by
 have:=C0o x.2.2
 simp only[z02,P03]
 omega
theorem o0g(x:B0):P0 x<=16*K4 x:=m0g (c:=(λ_=>1)) (λx=>by omega) x
theorem D0o(x:Y1):Q0 x<=16*d6 x:=T0j (c:=P0) (m:=K4) (λx=>by have:=o0g x;omega) x
theorem B0l(x:Z2):l3 x<=5+16*I6 x:=by
 have:=D0o x.2.2.1
 have:=o0g x.2.2.2.1
 have:=o0g x.2.2.2.2.1
 have:=q0r x.2.2.2.2.2.1
 simp only[l3,I6]
 omega
theorem V0s(x:Z2):o05 x<=16*I6 x:=by
 have:=D0o x.2.2.1
 have:=o0g x.2.2.2.1
 have:=o0g x.2.2.2.2.1
 have:=U0s x.2.2.2.2.2.1
 simp only[o05,I6]
 omega
theorem r0r(x:K8):p05 x<=16*a04 x:=T0j (c:=l3) (m:=I6) (λx=>by have:=B0l x;omega) x
theorem p0g(x:V1):Z6 x<=16*Q8 x:=by
 have:=r0r x.2
 simp only[Z6,Q8]
 omega
theorem H0d(h:Hp):∃ cs,E1.R h cs (0,0,0):=⟨_,M1 (by decide) (by decide) (by decide)⟩
theorem W0s(h:Hp):∃ cs,Q1.R h cs (0,0,[],[],[],(0,0,[]),0):=⟨_,V2 (by decide) (by decide) (b09 D0 h) (b09 Wp.int h) (b09 Wp.int h) (by decide) (by decide) (b09 E1 h) (by decide)⟩
theorem p0q(h:Hp)(a:Option Addr)(n c:Nat)(xs:K0)(left:Int)(f:I0.R h [.slice a n c] xs)(g:0<=left/\left<=1048576):
  Tr Tryz.prog 102 #[.slice a n c,.int .i64 left] h λv e=>v = .int .i64 (szR left (z06 xs))/\e=h:=by
 obtain⟨rfl,i⟩:=Sl.len f
 have d:IntKind.i64.wrap (left-(xs.length:Int))=left-xs.length:=w64 (by omega) (by omega)
 refine A2 (args:=[.slice a xs.length c,.int .i64 left]) (fn:=Tryz.f102) rfl ?_
 refine aI (λb=>?_) (λb=>?_)
 ·refine aI ?_ rfl
  simp[d]at b
  rw[z06,R0j (by omega)]
  rfl
 ·refine aI ?_ rfl
  simp[d]at b
  rw[z06,S0j (by omega)]
  exact congrArg (Value.int .i64) d
theorem q0q(h:Hp)(cs:List Value)(x:j0)(left:Int)(k:C1.R h cs x)(f:0<=left/\left<=1048576):
  Tr Tryz.prog 41 #[.agg cs.toArray,.int .i64 left] h λv i=>v = .int .i64 (szR left (P03 x))/\i=h:=by
 obtain⟨m,n,d,g,e,b,rfl,rfl,h0,o,j⟩:=C0 k
 refine A2 (args:=[.agg #[.int .i64 m,.int .i64 n,.slice d g e],.int .i64 left]) (fn:=Tryz.f41) rfl ?_
 refine Tr.val (p0q h d g e b (left) j f) ?_
 refine aI (λc=>?_) (λc=>?_)
 ·refine aI ?_ rfl
  rw[P03,E05 (left:=left) (a:=((z06 b:Nat):Int)) (by simpa using c) f.1 (by simp only[];omega)]
  rfl
 have l:0<=szR left ((z06 b:Nat):Int):=by simpa using c
 have p:0<=szR left ((z06 b:Nat):Int)/\szR left ((z06 b:Nat):Int)<=1048576:=by
  have:=y07 l
  omega
 exact aI rfl rfl
theorem D0h(h:Hp)(a:Option Addr)(n c:Nat)(xs:B0)(left:Int)(f:D0.R h [.slice a n c] xs)(g:0<=left/\left<=1048576):
  Tr Tryz.prog 83 #[.slice a n c,.int .i64 left] h λv e=>v = .int .i64 (szR left (K4 xs))/\e=h:=by
 obtain⟨rfl,i⟩:=Sl.len f
 have d:IntKind.i64.wrap (left-(xs.length:Int))=left-xs.length:=w64 (by omega) (by omega)
 refine A2 (args:=[.slice a xs.length c,.int .i64 left]) (fn:=Tryz.f83) rfl ?_
 refine aI (λb=>?_) (λb=>?_)
 ·refine aI ?_ rfl
  simp[d]at b
  rw[K4,R0j (by omega)]
  rfl
 ·refine aI ?_ rfl
  simp[d]at b
  rw[K4,S0j (by omega)]
  exact congrArg (Value.int .i64) d
theorem r0q(h:Hp)(a:Option Addr)(n c:Nat)(xs:Y1)(left:Int)(q:j2.R h [.slice a n c] xs)(z:0<=left/\left<=1048576):
  Tr Tryz.prog 33 #[.slice a n c,.int .i64 left] h λv d=>v = .int .i64 (szR left (d6 xs))/\d=h:=by
 obtain⟨rfl,A⟩:=Sl.len q
 have i:IntKind.i64.wrap (left-(xs.length:Int))=left-xs.length:=w64 (by omega) (by omega)
 refine A2 (args:=[.slice a xs.length c,.int .i64 left]) (fn:=Tryz.f33) rfl ?_
 refine aI (λe=>?_) (λe=>?_)
 ·refine aI ?_ rfl
  simp[i]at e
  rw[d6,R0j (by omega)]
  rfl
 simp[i]at e
 refine eX { vars:=[1,5],boxes:=[],owns:=[] } (eX (λvs _ d=>∃ k:Nat,k<=xs.length/\0<=szR left ((xs.length+U3 K4 (xs.take k):Nat):Int)/\vs = [.int .i64 (szR left ((xs.length+U3 K4 (xs.take k):Nat):Int)),.int .i64 k]/\d=h) (eX (λvs _=>match vs with | [_,.int _ j]=>((xs.length:Int)-j).toNat|_=>0) ?_))
 have h0:szR left ((xs.length+U3 K4 (xs.take 0):Nat):Int)=left-xs.length:=by rw[S0j (by simp[U3];omega)];simp[U3]
 refine aI ⟨0,by omega,by omega,by rw[h0];exact congrArg (λx=>[Value.int .i64 x,Value.int .i64 0]) i,rfl⟩ ?_
 rintro _ _ G ⟨k,m,p,⟨⟩,rfl⟩
 obtain⟨H,I⟩:=y07 p
 refine aI (λf=>?_) (λf=>?_)
 ·have o:k<xs.length:=by simpa using f
  obtain⟨x,l⟩:=T9 o
  obtain⟨u,F,y,s⟩:=Sl.get q l (by decide)
  have D:=C2 o A
  obtain⟨t,E,w,rfl⟩:=Wp.slice_cell s
  refine aI u (eX _ (aI y ?_))
  refine Tr.val (D0h _ t E w x _ s ⟨by omega,by omega⟩) ?_
  have g:szR (szR left ((xs.length+U3 K4 (xs.take k):Nat):Int)) (K4 x:Nat)=szR left ((xs.length+U3 K4 (xs.take (k+1)):Nat):Int):=by
   rw[h07 p (by omega) (by omega),S02 l]
   congr 1
   omega
  refine aI (λb=>?_) (λb=>?_)
  ·refine aI ?_ rfl
   rw[g]at b
   have B:szR left ((xs.length+U3 K4 (xs.take (k+1)):Nat):Int)<0:=by simpa using b
   have:=T02 K4 xs (k+1)
   rw[d6,E05 B z.1 (by omega)]
   rfl
  ·rw[g]at b
   have C:0<=szR left ((xs.length+U3 K4 (xs.take (k+1)):Nat):Int):=by simpa using b
   refine aI rfl (aI (by first|exact trivial|exact aI rfl trivial|exact aI rfl (aI rfl trivial)|exact aI rfl (aI rfl (aI rfl trivial))|exact aI rfl (aI rfl (aI rfl (aI rfl trivial)))) (aI (by first|exact trivial|exact aI rfl trivial|exact aI rfl (aI rfl trivial)|exact aI rfl (aI rfl (aI rfl trivial))|exact aI rfl (aI rfl (aI rfl (aI rfl trivial)))) (aI ?_ ?_)))
   ·refine⟨k+1,by omega,C,?_,rfl⟩
    rw[←D,←g]
   ·show((xs.length:Int)-IntKind.i64.wrap ((k:Int)+1)).toNat<((xs.length:Int)-(k:Int)).toNat
    omega
 ·have m:k=xs.length:=by simp at f;omega
  subst m
  refine aI ?_ rfl
  rw[List.take_length]
  rfl
theorem n0j(h:Hp)(cs:List Value)(x:Z2)(left:Int)(Q:Q1.R h cs x)(k:0<=left/\left<=1048576):
  Tr Tryz.prog 26 #[.agg cs.toArray,.int .i64 left] h λv G=>v = .int .i64 (szR left (I6 x))/\G=h:=by
 obtain⟨T,U,s,C,y,b,t,D,z,c,u,E,A,e,g,i,w,F,B,j,V,rfl,rfl,h0,W,H,I,J,K,L,M,X⟩:=O3 Q
 refine A2 (args:=[.agg #[.int .i64 T,.int .i64 U,.slice s C y,.slice t D z,.slice u E A,.int .i64 g,.int .i64 i,.slice w F B,.int .i64 V],.int .i64 left]) (fn:=Tryz.f26) rfl ?_
 refine Tr.val (r0q h s C y b (left) H k) ?_
 refine aI (λf=>?_) (λf=>?_)
 ·refine aI ?_ rfl
  rw[I6,E05 (left:=left) (a:=((d6 b:Nat):Int)) (by simpa using f) k.1 (by simp only[];omega)]
  rfl
 have n:0<=szR left ((d6 b:Nat):Int):=by simpa using f
 have N:0<=szR left ((d6 b:Nat):Int)/\szR left ((d6 b:Nat):Int)<=1048576:=by
  have:=y07 n
  omega
 refine Tr.val (D0h h t D z c (szR left ((d6 b:Nat):Int)) I N) ?_
 refine aI (λf=>?_) (λf=>?_)
 ·refine aI ?_ rfl
  have d:szR (szR left ((d6 b:Nat):Int)) ((K4 c:Nat):Int)<0:=by simpa using f
  rw[ h07 n (by omega) (by omega)]at d
  rw[I6,E05 d k.1 (by simp only[];omega)]
  rfl
 have d:0<=szR (szR left ((d6 b:Nat):Int)) ((K4 c:Nat):Int):=by simpa using f
 have l:szR left ((d6 b+K4 c:Nat):Int)=szR (szR left ((d6 b:Nat):Int)) ((K4 c:Nat):Int):=by rw[ h07 n (by omega) (by omega)];congr 1
 have o:0<=szR left ((d6 b+K4 c:Nat):Int):=by rw[l];exact d
 clear d
 have O:0<=szR (szR left ((d6 b:Nat):Int)) ((K4 c:Nat):Int)/\szR (szR left ((d6 b:Nat):Int)) ((K4 c:Nat):Int)<=1048576:=by
  rw[←l]
  have:=y07 o
  omega
 refine Tr.val (D0h h u E A e (szR (szR left ((d6 b:Nat):Int)) ((K4 c:Nat):Int)) J O) ?_
 refine aI (λf=>?_) (λf=>?_)
 ·refine aI ?_ rfl
  have d:szR (szR (szR left ((d6 b:Nat):Int)) ((K4 c:Nat):Int)) ((K4 e:Nat):Int)<0:=by simpa using f
  rw[←l,h07 o (by omega) (by omega)]at d
  rw[I6,E05 d k.1 (by simp only[];omega)]
  rfl
 have d:0<=szR (szR (szR left ((d6 b:Nat):Int)) ((K4 c:Nat):Int)) ((K4 e:Nat):Int):=by simpa using f
 have m:szR left ((d6 b+K4 c+K4 e:Nat):Int)=szR (szR (szR left ((d6 b:Nat):Int)) ((K4 c:Nat):Int)) ((K4 e:Nat):Int):=by rw[←l,h07 o (by omega) (by omega)];congr 1
 have p:0<=szR left ((d6 b+K4 c+K4 e:Nat):Int):=by rw[m];exact d
 clear d
 have P:0<=szR (szR (szR left ((d6 b:Nat):Int)) ((K4 c:Nat):Int)) ((K4 e:Nat):Int)/\szR (szR (szR left ((d6 b:Nat):Int)) ((K4 c:Nat):Int)) ((K4 e:Nat):Int)<=1048576:=by
  rw[←m]
  have:=y07 p
  omega
 refine Tr.val (q0q h [.int .i64 g,.int .i64 i,.slice w F B] (g,i,j) (szR (szR (szR left ((d6 b:Nat):Int)) ((K4 c:Nat):Int)) ((K4 e:Nat):Int)) (l0 K L M) P) ?_
 refine aI (λf=>?_) (λf=>?_)
 ·refine aI ?_ rfl
  have d:szR (szR (szR (szR left ((d6 b:Nat):Int)) ((K4 c:Nat):Int)) ((K4 e:Nat):Int)) ((P03 (g,i,j):Nat):Int)<0:=by simpa using f
  rw[←m,h07 p (by omega) (by omega)]at d
  rw[I6,E05 d k.1 (by simp only[];omega)]
  rfl
 have d:0<=szR (szR (szR (szR left ((d6 b:Nat):Int)) ((K4 c:Nat):Int)) ((K4 e:Nat):Int)) ((P03 (g,i,j):Nat):Int):=by simpa using f
 have q:szR left ((d6 b+K4 c+K4 e+P03 (g,i,j):Nat):Int)=szR (szR (szR (szR left ((d6 b:Nat):Int)) ((K4 c:Nat):Int)) ((K4 e:Nat):Int)) ((P03 (g,i,j):Nat):Int):=by rw[←m,h07 p (by omega) (by omega)];congr 1
 have S:0<=szR left ((d6 b+K4 c+K4 e+P03 (g,i,j):Nat):Int):=by rw[q];exact d
 clear d
 have Y:0<=szR (szR (szR (szR left ((d6 b:Nat):Int)) ((K4 c:Nat):Int)) ((K4 e:Nat):Int)) ((P03 (g,i,j):Nat):Int)/\szR (szR (szR (szR left ((d6 b:Nat):Int)) ((K4 c:Nat):Int)) ((K4 e:Nat):Int)) ((P03 (g,i,j):Nat):Int)<=1048576:=by
  rw[←q]
  have:=y07 S
  omega
 exact aI (congrArg (Value.int .i64) (q.symm.trans (by rw[I6]))) rfl
theorem Y0n(h:Hp)(a:Option Addr)(n c:Nat)(xs:K8)(left:Int)(y:U4.R h [.slice a n c] xs)(X:0<=left/\left<=1048576):
  Tr Tryz.prog 75 #[.slice a n c,.int .i64 left] h λv d=>v = .int .i64 (szR left (a04 xs))/\d=h:=by
 obtain⟨rfl,Y⟩:=Sl.len y
 have i:IntKind.i64.wrap (left-(xs.length:Int))=left-xs.length:=w64 (by omega) (by omega)
 refine A2 (args:=[.slice a xs.length c,.int .i64 left]) (fn:=Tryz.f75) rfl ?_
 refine aI (λe=>?_) (λe=>?_)
 ·refine aI ?_ rfl
  simp[i]at e
  rw[a04,R0j (by omega)]
  rfl
 simp[i]at e
 refine eX { vars:=[1,5],boxes:=[],owns:=[] } (eX (λvs _ d=>∃ k:Nat,k<=xs.length/\0<=szR left ((xs.length+U3 I6 (xs.take k):Nat):Int)/\vs = [.int .i64 (szR left ((xs.length+U3 I6 (xs.take k):Nat):Int)),.int .i64 k]/\d=h) (eX (λvs _=>match vs with | [_,.int _ j]=>((xs.length:Int)-j).toNat|_=>0) ?_))
 have h0:szR left ((xs.length+U3 I6 (xs.take 0):Nat):Int)=left-xs.length:=by rw[S0j (by simp[U3];omega)];simp[U3]
 refine aI ⟨0,by omega,by omega,by rw[h0];exact congrArg (λx=>[Value.int .i64 x,Value.int .i64 0]) i,rfl⟩ ?_
 rintro _ _ ai ⟨k,t,w,⟨⟩,rfl⟩
 obtain⟨aj,ak⟩:=y07 w
 refine aI (λf=>?_) (λf=>?_)
 ·have u:k<xs.length:=by simpa using f
  obtain⟨x,s⟩:=T9 u
  obtain⟨H,ah,M,ac⟩:=Sl.get y s (by decide)
  have ab:=C2 u Y
  obtain⟨l,m,D,ad,I,z,E,ae,J,A,F,af,K,B,o,p,G,ag,L,C,q,rfl,rfl,N,O,P,Q,S,T,U,V,W⟩:=O3 ac
  refine aI H (eX _ (aI M ?_))
  refine Tr.val (n0j _ [.int .i64 l,.int .i64 m,.slice D ad I,.slice E ae J,.slice F af K,.int .i64 o,.int .i64 p,.slice G ag L,.int .i64 q] (l,m,z,A,B,(o,p,C),q) _ (V2 N O P Q S T U V W) ⟨by omega,by omega⟩) ?_
  have g:szR (szR left ((xs.length+U3 I6 (xs.take k):Nat):Int)) (I6 (l,m,z,A,B,(o,p,C),q):Nat)=szR left ((xs.length+U3 I6 (xs.take (k+1)):Nat):Int):=by
   rw[h07 w (by omega) (by omega),S02 s]
   congr 1
   omega
  refine aI (λb=>?_) (λb=>?_)
  ·refine aI ?_ rfl
   rw[g]at b
   have Z:szR left ((xs.length+U3 I6 (xs.take (k+1)):Nat):Int)<0:=by simpa using b
   have:=T02 I6 xs (k+1)
   rw[a04,E05 Z X.1 (by omega)]
   rfl
  ·rw[g]at b
   have aa:0<=szR left ((xs.length+U3 I6 (xs.take (k+1)):Nat):Int):=by simpa using b
   refine aI rfl (aI (by first|exact trivial|exact aI rfl trivial|exact aI rfl (aI rfl trivial)|exact aI rfl (aI rfl (aI rfl trivial))|exact aI rfl (aI rfl (aI rfl (aI rfl trivial)))) (aI (by first|exact trivial|exact aI rfl trivial|exact aI rfl (aI rfl trivial)|exact aI rfl (aI rfl (aI rfl trivial))|exact aI rfl (aI rfl (aI rfl (aI rfl trivial)))) (aI ?_ ?_)))
   ·refine⟨k+1,by omega,aa,?_,rfl⟩
    rw[←ab,←g]
   ·show((xs.length:Int)-IntKind.i64.wrap ((k:Int)+1)).toNat<((xs.length:Int)-(k:Int)).toNat
    omega
 ·have t:k=xs.length:=by simp at f;omega
  subst t
  refine aI ?_ rfl
  rw[List.take_length]
  rfl
theorem F0k(h:Hp)(cs:List Value)(x:V1)(left:Int)(k:L1.R h cs x)(f:0<=left/\left<=1048576):
  Tr Tryz.prog 15 #[.agg cs.toArray,.int .i64 left] h λv i=>v = .int .i64 (szR left (Q8 x))/\i=h:=by
 obtain⟨m,d,g,e,b,rfl,rfl,h0,j⟩:=K3 k
 refine A2 (args:=[.agg #[.int .i64 m,.slice d g e],.int .i64 left]) (fn:=Tryz.f15) rfl ?_
 refine Tr.val (Y0n h d g e b (left) j f) ?_
 refine aI (λc=>?_) (λc=>?_)
 ·refine aI ?_ rfl
  rw[Q8,E05 (left:=left) (a:=((a04 b:Nat):Int)) (by simpa using c) f.1 (by simp only[];omega)]
  rfl
 have l:0<=szR left ((a04 b:Nat):Int):=by simpa using c
 have n:0<=szR left ((a04 b:Nat):Int)/\szR left ((a04 b:Nat):Int)<=1048576:=by
  have:=y07 l
  omega
 exact aI rfl rfl
theorem s0s(h:Hp)(cs ds:List Value)(x y:N0)(l:E1.R h cs x)(m:E1.R h ds y):
  Tr Tryz.prog 225 #[.agg cs.toArray,.agg ds.toArray] h λv k=>v = .bool (decide (x=y))/\k=h:=by
 obtain⟨c,f,i,rfl,rfl,h0,s,u⟩:=U1 l
 obtain⟨d,g,j,rfl,rfl,q,t,w⟩:=U1 m
 refine A2 (args:=[.agg #[.int .i64 c,.int .i64 f,.int .i64 i],.agg #[.int .i64 d,.int .i64 g,.int .i64 j]]) (fn:=Tryz.f225) rfl ?_
 refine aI (λa=>?_) (λa=>?_)
 ·have b:c≠d:=by simpa using a
  exact aI (congrArg Value.bool (decide_eq_false λe=>by cases e;exact b rfl).symm) rfl
 have n:c=d:=by simpa using a
 subst n
 refine aI (λa=>?_) (λa=>?_)
 ·have b:f≠g:=by simpa using a
  exact aI (congrArg Value.bool (decide_eq_false λe=>by cases e;exact b rfl).symm) rfl
 have o:f=g:=by simpa using a
 subst o
 refine aI (λa=>?_) (λa=>?_)
 ·have b:i≠j:=by simpa using a
  exact aI (congrArg Value.bool (decide_eq_false λe=>by cases e;exact b rfl).symm) rfl
 have p:i=j:=by simpa using a
 subst p
 exact aI (congrArg Value.bool (decide_eq_true rfl).symm) rfl
theorem s0q(h:Hp)(a:Option Addr)(n c:Nat)(p:Option Addr)(G q:Nat)(xs b:K0)(E:I0.R h [.slice a n c] xs)(F:I0.R h [.slice p G q] b):
  Tr Tryz.prog 116 #[.slice a n c,.slice p G q] h λv u=>v = .bool (decide (xs=b))/\u=h:=by
 obtain⟨rfl,U⟩:=Sl.len E
 obtain⟨rfl,ac⟩:=Sl.len F
 refine A2 (args:=[.slice a xs.length c,.slice p b.length q]) (fn:=Tryz.f116) rfl ?_
 refine aI (λw=>?_) (λw=>?_)
 ·refine aI (congrArg Value.bool ?_) rfl
  have:xs.length≠b.length:=by simp at w;omega
  exact(decide_eq_false λe=>this (by rw[e])).symm
 have T:xs.length=b.length:=by simp at w;omega
 refine eX { vars:=[5],boxes:=[],owns:=[] } (eX (λvs _ u=>∃ k:Nat,k<=xs.length/\xs.take k=b.take k/\vs = [.int .i64 k]/\u=h) (eX (λvs _=>match vs with | [.int _ j]=>((xs.length:Int)-j).toNat|_=>0) ?_))
 refine aI ⟨0,by omega,by simp,rfl,rfl⟩ ?_
 rintro _ ab ⟨k,C,B,⟨⟩,rfl⟩
 refine aI (λz=>?_) (λz=>?_)
 ·have D:k<xs.length:=by simpa using z
  obtain⟨x,s⟩:=T9 D
  obtain⟨y,t⟩:=T9 (l:=b) (k:=k) (by omega)
  obtain⟨H,Z,J,X⟩:=Sl.get E s (by decide)
  obtain⟨I,aa,K,Y⟩:=Sl.get F t (by decide)
  have W:=C2 D U
  obtain⟨d,g,m,rfl,rfl,L,N,P⟩:=U1 X
  obtain⟨f,i,o,rfl,rfl,M,O,Q⟩:=U1 Y
  refine Or.inl (aI (aI (by kernel_rfl) (by kernel_rfl)) ?_)
  refine aI H (eX _ (aI J (aI I (eX _ (aI K ?_)))))
  refine eX (.bool _) (aI (s0s _ [.int .i64 d,.int .i64 g,.int .i64 m] [.int .i64 f,.int .i64 i,.int .i64 o] (d,g,m) (f,i,o) (M1 L N P) (M1 M O Q)) ?_)
  refine aI (λA=>?_) (λA=>?_)
  ·refine aI (congrArg Value.bool ?_) rfl
   have V:(d,g,m)≠(f,i,o):=Z05 A
   exact(decide_eq_false λe=>V (oJ (s.symm.trans ((congrArg (λl:K0=>l[k]?) e).trans t)))).symm
  ·have S:(d,g,m)=(f,i,o):=G04 A
   refine aI rfl (aI (by first|exact trivial|exact aI rfl trivial|exact aI rfl (aI rfl trivial)|exact aI rfl (aI rfl (aI rfl trivial))|exact aI rfl (aI rfl (aI rfl (aI rfl trivial)))) (aI (by first|exact trivial|exact aI rfl trivial|exact aI rfl (aI rfl trivial)|exact aI rfl (aI rfl (aI rfl trivial))|exact aI rfl (aI rfl (aI rfl (aI rfl trivial)))) (aI ?_ ?_)))
   ·refine⟨k+1,by omega,by rw[C00 s,C00 t,B,S],?_,rfl⟩
    rw[←W]
   ·show((xs.length:Int)-IntKind.i64.wrap ((k:Int)+1)).toNat<((xs.length:Int)-(k:Int)).toNat
    omega
 ·have C:k=xs.length:=by simp at z;omega
  refine aI (congrArg Value.bool ?_) rfl
  refine(decide_eq_true ?_).symm
  subst C
  rwa [List.take_length,T,List.take_length]at B
theorem t0q(h:Hp)(cs ds:List Value)(x y:j0)(u:C1.R h cs x)(w:C1.R h ds y):
  Tr Tryz.prog 45 #[.agg cs.toArray,.agg ds.toArray] h λv q=>v = .bool (decide (x=y))/\q=h:=by
 obtain⟨c,f,k,o,m,i,rfl,rfl,h0,D,s⟩:=C0 u
 obtain⟨d,g,l,p,n,j,rfl,rfl,C,E,t⟩:=C0 w
 refine A2 (args:=[.agg #[.int .i64 c,.int .i64 f,.slice k o m],.agg #[.int .i64 d,.int .i64 g,.slice l p n]]) (fn:=Tryz.f45) rfl ?_
 refine aI (λa=>?_) (λa=>?_)
 ·have b:c≠d:=by simpa using a
  exact aI (congrArg Value.bool (decide_eq_false λe=>by cases e;exact b rfl).symm) rfl
 have z:c=d:=by simpa using a
 subst z
 refine aI (λa=>?_) (λa=>?_)
 ·have b:f≠g:=by simpa using a
  exact aI (congrArg Value.bool (decide_eq_false λe=>by cases e;exact b rfl).symm) rfl
 have A:f=g:=by simpa using a
 subst A
 refine Tr.val (s0q h k o m l p n i j s t) ?_
 refine aI (λa=>?_) (λa=>?_)
 ·have b:i≠j:=Z05 a
  exact aI (congrArg Value.bool (decide_eq_false λe=>by cases e;exact b rfl).symm) rfl
 have B:i=j:=G04 a
 subst B
 exact aI (congrArg Value.bool (decide_eq_true rfl).symm) rfl
theorem E0h(h:Hp)(a:Option Addr)(n c:Nat)(d:Option Addr)(A f:Nat)(xs b:B0)(w:D0.R h [.slice a n c] xs)(z:D0.R h [.slice d A f] b):
  Tr Tryz.prog 22 #[.slice a n c,.slice d A f] h λv m=>v = .bool (decide (xs=b))/\m=h:=by
 obtain⟨rfl,H⟩:=Sl.len w
 obtain⟨rfl,P⟩:=Sl.len z
 refine A2 (args:=[.slice a xs.length c,.slice d b.length f]) (fn:=Tryz.f22) rfl ?_
 refine aI (λo=>?_) (λo=>?_)
 ·refine aI (congrArg Value.bool ?_) rfl
  have:xs.length≠b.length:=by simp at o;omega
  exact(decide_eq_false λe=>this (by rw[e])).symm
 have G:xs.length=b.length:=by simp at o;omega
 refine eX { vars:=[5],boxes:=[],owns:=[] } (eX (λvs _ m=>∃ k:Nat,k<=xs.length/\xs.take k=b.take k/\vs = [.int .i64 k]/\m=h) (eX (λvs _=>match vs with | [.int _ j]=>((xs.length:Int)-j).toNat|_=>0) ?_))
 refine aI ⟨0,by omega,by simp,rfl,rfl⟩ ?_
 rintro _ O ⟨k,t,s,⟨⟩,rfl⟩
 refine aI (λp=>?_) (λp=>?_)
 ·have u:k<xs.length:=by simpa using p
  obtain⟨x,g⟩:=T9 u
  obtain⟨y,i⟩:=T9 (l:=b) (k:=k) (by omega)
  obtain⟨B,M,D,K⟩:=Sl.get w g (by decide)
  obtain⟨C,N,E,L⟩:=Sl.get z i (by decide)
  have J:=C2 u H
  obtain⟨rfl,_⟩:=K
  obtain⟨rfl,_⟩:=L
  refine Or.inl (aI (aI (by kernel_rfl) (by kernel_rfl)) ?_)
  refine aI B (eX _ (aI D (aI C (eX _ (aI E ?_)))))
  refine aI (λq=>?_) (λq=>?_)
  ·refine aI (congrArg Value.bool ?_) rfl
   have I:x≠y:=by simpa using q
   exact(decide_eq_false λe=>I (oJ (g.symm.trans ((congrArg (λl:B0=>l[k]?) e).trans i)))).symm
  ·have F:x=y:=by simpa using q
   refine aI rfl (aI (by first|exact trivial|exact aI rfl trivial|exact aI rfl (aI rfl trivial)|exact aI rfl (aI rfl (aI rfl trivial))|exact aI rfl (aI rfl (aI rfl (aI rfl trivial)))) (aI (by first|exact trivial|exact aI rfl trivial|exact aI rfl (aI rfl trivial)|exact aI rfl (aI rfl (aI rfl trivial))|exact aI rfl (aI rfl (aI rfl (aI rfl trivial)))) (aI ?_ ?_)))
   ·refine⟨k+1,by omega,by rw[C00 g,C00 i,s,F],?_,rfl⟩
    rw[←J]
   ·show((xs.length:Int)-IntKind.i64.wrap ((k:Int)+1)).toNat<((xs.length:Int)-(k:Int)).toNat
    omega
 ·have t:k=xs.length:=by simp at p;omega
  refine aI (congrArg Value.bool ?_) rfl
  refine(decide_eq_true ?_).symm
  subst t
  rwa [List.take_length,G,List.take_length]at s
theorem u0q(h:Hp)(a:Option Addr)(n c:Nat)(d:Option Addr)(C f:Nat)(xs b:Y1)(w:j2.R h [.slice a n c] xs)(z:j2.R h [.slice d C f] b):
  Tr Tryz.prog 38 #[.slice a n c,.slice d C f] h λv m=>v = .bool (decide (xs=b))/\m=h:=by
 obtain⟨rfl,J⟩:=Sl.len w
 obtain⟨rfl,U⟩:=Sl.len z
 refine A2 (args:=[.slice a xs.length c,.slice d b.length f]) (fn:=Tryz.f38) rfl ?_
 refine aI (λo=>?_) (λo=>?_)
 ·refine aI (congrArg Value.bool ?_) rfl
  have:xs.length≠b.length:=by simp at o;omega
  exact(decide_eq_false λe=>this (by rw[e])).symm
 have I:xs.length=b.length:=by simp at o;omega
 refine eX { vars:=[5],boxes:=[],owns:=[] } (eX (λvs _ m=>∃ k:Nat,k<=xs.length/\xs.take k=b.take k/\vs = [.int .i64 k]/\m=h) (eX (λvs _=>match vs with | [.int _ j]=>((xs.length:Int)-j).toNat|_=>0) ?_))
 refine aI ⟨0,by omega,by simp,rfl,rfl⟩ ?_
 rintro _ T ⟨k,t,s,⟨⟩,rfl⟩
 refine aI (λp=>?_) (λp=>?_)
 ·have u:k<xs.length:=by simpa using p
  obtain⟨x,g⟩:=T9 u
  obtain⟨y,i⟩:=T9 (l:=b) (k:=k) (by omega)
  obtain⟨D,Q,F,A⟩:=Sl.get w g (by decide)
  obtain⟨E,S,G,B⟩:=Sl.get z i (by decide)
  have L:=C2 u J
  obtain⟨M,V,O,rfl⟩:=Wp.slice_cell A
  obtain⟨N,W,P,rfl⟩:=Wp.slice_cell B
  refine Or.inl (aI (aI (by kernel_rfl) (by kernel_rfl)) ?_)
  refine aI D (eX _ (aI F (aI E (eX _ (aI G ?_)))))
  refine eX (.bool _) (aI (E0h _ _ _ _ _ _ _ x y A B) ?_)
  refine aI (λq=>?_) (λq=>?_)
  ·refine aI (congrArg Value.bool ?_) rfl
   have K:x≠y:=Z05 q
   exact(decide_eq_false λe=>K (oJ (g.symm.trans ((congrArg (λl:Y1=>l[k]?) e).trans i)))).symm
  ·have H:x=y:=G04 q
   refine aI rfl (aI (by first|exact trivial|exact aI rfl trivial|exact aI rfl (aI rfl trivial)|exact aI rfl (aI rfl (aI rfl trivial))|exact aI rfl (aI rfl (aI rfl (aI rfl trivial)))) (aI (by first|exact trivial|exact aI rfl trivial|exact aI rfl (aI rfl trivial)|exact aI rfl (aI rfl (aI rfl trivial))|exact aI rfl (aI rfl (aI rfl (aI rfl trivial)))) (aI ?_ ?_)))
   ·refine⟨k+1,by omega,by rw[C00 g,C00 i,s,H],?_,rfl⟩
    rw[←L]
   ·show((xs.length:Int)-IntKind.i64.wrap ((k:Int)+1)).toNat<((xs.length:Int)-(k:Int)).toNat
    omega
 ·have t:k=xs.length:=by simp at p;omega
  refine aI (congrArg Value.bool ?_) rfl
  refine(decide_eq_true ?_).symm
  subst t
  rwa [List.take_length,I,List.take_length]at s
theorem o0j(h:Hp)(cs ds:List Value)(x y:Z2)(am:Q1.R h cs x)(an:Q1.R h ds y):
  Tr Tryz.prog 30 #[.agg cs.toArray,.agg ds.toArray] h λv Z=>v = .bool (decide (x=y))/\Z=h:=by
 obtain⟨i,k,A,Q,I,m,C,T,K,o,E,V,M,q,c,f,G,X,O,t,w,rfl,rfl,h0,ay,aa,ac,ae,ag,ai,ak,aA⟩:=O3 am
 obtain⟨j,l,B,S,J,n,D,U,L,p,F,W,N,s,d,g,H,Y,P,u,z,rfl,rfl,ax,az,ab,ad,af,ah,aj,al,aB⟩:=O3 an
 refine A2 (args:=[.agg #[.int .i64 i,.int .i64 k,.slice A Q I,.slice C T K,.slice E V M,.int .i64 c,.int .i64 f,.slice G X O,.int .i64 w],.agg #[.int .i64 j,.int .i64 l,.slice B S J,.slice D U L,.slice F W N,.int .i64 d,.int .i64 g,.slice H Y P,.int .i64 z]]) (fn:=Tryz.f30) rfl ?_
 refine aI (λa=>?_) (λa=>?_)
 ·have b:i≠j:=by simpa using a
  exact aI (congrArg Value.bool (decide_eq_false λe=>by cases e;exact b rfl).symm) rfl
 have ao:i=j:=by simpa using a
 subst ao
 refine aI (λa=>?_) (λa=>?_)
 ·have b:k≠l:=by simpa using a
  exact aI (congrArg Value.bool (decide_eq_false λe=>by cases e;exact b rfl).symm) rfl
 have ap:k=l:=by simpa using a
 subst ap
 refine Tr.val (u0q h A Q I B S J m n aa ab) ?_
 refine aI (λa=>?_) (λa=>?_)
 ·have b:m≠n:=Z05 a
  exact aI (congrArg Value.bool (decide_eq_false λe=>by cases e;exact b rfl).symm) rfl
 have aq:m=n:=G04 a
 subst aq
 refine Tr.val (E0h h C T K D U L o p ac ad) ?_
 refine aI (λa=>?_) (λa=>?_)
 ·have b:o≠p:=Z05 a
  exact aI (congrArg Value.bool (decide_eq_false λe=>by cases e;exact b rfl).symm) rfl
 have ar:o=p:=G04 a
 subst ar
 refine Tr.val (E0h h E V M F W N q s ae af) ?_
 refine aI (λa=>?_) (λa=>?_)
 ·have b:q≠s:=Z05 a
  exact aI (congrArg Value.bool (decide_eq_false λe=>by cases e;exact b rfl).symm) rfl
 have au:q=s:=G04 a
 subst au
 refine Tr.val (t0q h [.int .i64 c,.int .i64 f,.slice G X O] [.int .i64 d,.int .i64 g,.slice H Y P] (c,f,t) (d,g,u) (l0 ag ai ak) (l0 ah aj al)) ?_
 refine aI (λa=>?_) (λa=>?_)
 ·have b:(c,f,t)≠(d,g,u):=Z05 a
  exact aI (congrArg Value.bool (decide_eq_false λe=>by cases e;exact b rfl).symm) rfl
 have av:(c,f,t)=(d,g,u):=G04 a
 cases av
 refine aI (λa=>?_) (λa=>?_)
 ·have b:w≠z:=by simpa using a
  exact aI (congrArg Value.bool (decide_eq_false λe=>by cases e;exact b rfl).symm) rfl
 have aw:w=z:=by simpa using a
 subst aw
 exact aI (congrArg Value.bool (decide_eq_true rfl).symm) rfl
theorem Z0n(h:Hp)(a:Option Addr)(n c:Nat)(u:Option Addr)(T w:Nat)(xs b:K8)(Q:U4.R h [.slice a n c] xs)(S:U4.R h [.slice u T w] b):
  Tr Tryz.prog 79 #[.slice a n c,.slice u T w] h λv B=>v = .bool (decide (xs=b))/\B=h:=by
 obtain⟨rfl,aL⟩:=Sl.len Q
 obtain⟨rfl,a1⟩:=Sl.len S
 refine A2 (args:=[.slice a xs.length c,.slice u b.length w]) (fn:=Tryz.f79) rfl ?_
 refine aI (λC=>?_) (λC=>?_)
 ·refine aI (congrArg Value.bool ?_) rfl
  have:xs.length≠b.length:=by simp at C;omega
  exact(decide_eq_false λe=>this (by rw[e])).symm
 have aK:xs.length=b.length:=by simp at C;omega
 refine eX { vars:=[5],boxes:=[],owns:=[] } (eX (λvs _ B=>∃ k:Nat,k<=xs.length/\xs.take k=b.take k/\vs = [.int .i64 k]/\B=h) (eX (λvs _=>match vs with | [.int _ j]=>((xs.length:Int)-j).toNat|_=>0) ?_))
 refine aI ⟨0,by omega,by simp,rfl,rfl⟩ ?_
 rintro _ a0 ⟨k,O,N,⟨⟩,rfl⟩
 refine aI (λD=>?_) (λD=>?_)
 ·have P:k<xs.length:=by simpa using D
  obtain⟨x,z⟩:=T9 P
  obtain⟨y,A⟩:=T9 (l:=b) (k:=k) (by omega)
  obtain⟨ac,aY,am,aO⟩:=Sl.get Q z (by decide)
  obtain⟨ad,aZ,an,aP⟩:=Sl.get S A (by decide)
  have aN:=C2 P aL
  obtain⟨d,g,U,aQ,ae,F,W,aS,ag,H,Y,aU,ai,J,m,p,aa,aW,ak,L,s,rfl,rfl,ao,aq,au,aw,ay,aA,aC,aE,aG⟩:=O3 aO
  obtain⟨f,i,V,aR,af,G,X,aT,ah,I,Z,aV,aj,K,o,q,ab,aX,al,M,t,rfl,rfl,ap,ar,av,ax,az,aB,aD,aF,aH⟩:=O3 aP
  refine Or.inl (aI (aI (by kernel_rfl) (by kernel_rfl)) ?_)
  refine aI ac (eX _ (aI am (aI ad (eX _ (aI an ?_)))))
  refine eX (.bool _) (aI (o0j _ [.int .i64 d,.int .i64 g,.slice U aQ ae,.slice W aS ag,.slice Y aU ai,.int .i64 m,.int .i64 p,.slice aa aW ak,.int .i64 s] [.int .i64 f,.int .i64 i,.slice V aR af,.slice X aT ah,.slice Z aV aj,.int .i64 o,.int .i64 q,.slice ab aX al,.int .i64 t] (d,g,F,H,J,(m,p,L),s) (f,i,G,I,K,(o,q,M),t) (V2 ao aq au aw ay aA aC aE aG) (V2 ap ar av ax az aB aD aF aH)) ?_)
  refine aI (λE=>?_) (λE=>?_)
  ·refine aI (congrArg Value.bool ?_) rfl
   have aM:(d,g,F,H,J,(m,p,L),s)≠(f,i,G,I,K,(o,q,M),t):=Z05 E
   exact(decide_eq_false λe=>aM (oJ (z.symm.trans ((congrArg (λl:K8=>l[k]?) e).trans A)))).symm
  ·have aJ:(d,g,F,H,J,(m,p,L),s)=(f,i,G,I,K,(o,q,M),t):=G04 E
   refine aI rfl (aI (by first|exact trivial|exact aI rfl trivial|exact aI rfl (aI rfl trivial)|exact aI rfl (aI rfl (aI rfl trivial))|exact aI rfl (aI rfl (aI rfl (aI rfl trivial)))) (aI (by first|exact trivial|exact aI rfl trivial|exact aI rfl (aI rfl trivial)|exact aI rfl (aI rfl (aI rfl trivial))|exact aI rfl (aI rfl (aI rfl (aI rfl trivial)))) (aI ?_ ?_)))
   ·refine⟨k+1,by omega,by rw[C00 z,C00 A,N,aJ],?_,rfl⟩
    rw[←aN]
   ·show((xs.length:Int)-IntKind.i64.wrap ((k:Int)+1)).toNat<((xs.length:Int)-(k:Int)).toNat
    omega
 ·have O:k=xs.length:=by simp at D;omega
  refine aI (congrArg Value.bool ?_) rfl
  refine(decide_eq_true ?_).symm
  subst O
  rwa [List.take_length,aK,List.take_length]at N
theorem d06(h:Hp)(cs ds:List Value)(x y:V1)(s:L1.R h cs x)(t:L1.R h ds y):
  Tr Tryz.prog 19 #[.agg cs.toArray,.agg ds.toArray] h λv o=>v = .bool (decide (x=y))/\o=h:=by
 obtain⟨c,i,m,k,f,rfl,rfl,h0,p⟩:=K3 s
 obtain⟨d,j,n,l,g,rfl,rfl,z,q⟩:=K3 t
 refine A2 (args:=[.agg #[.int .i64 c,.slice i m k],.agg #[.int .i64 d,.slice j n l]]) (fn:=Tryz.f19) rfl ?_
 refine aI (λa=>?_) (λa=>?_)
 ·have b:c≠d:=by simpa using a
  exact aI (congrArg Value.bool (decide_eq_false λe=>by cases e;exact b rfl).symm) rfl
 have u:c=d:=by simpa using a
 subst u
 refine Tr.val (Z0n h i m k j n l f g p q) ?_
 refine aI (λa=>?_) (λa=>?_)
 ·have b:f≠g:=Z05 a
  exact aI (congrArg Value.bool (decide_eq_false λe=>by cases e;exact b rfl).symm) rfl
 have w:f=g:=G04 a
 subst w
 exact aI (congrArg Value.bool (decide_eq_true rfl).symm) rfl
theorem t0s(h:Hp)(cs:List Value)(x:N0)(d:E1.R h cs x)(i:q0t x<=1048576):
  Tr Tryz.prog 218 #[.agg cs.toArray] h λv a=>∃ cs',v = .agg cs'.toArray/\New E1 h a cs' x:=by
 obtain⟨e,f,g,rfl,rfl,h0,b,c⟩:=U1 d
 refine A2 (args:=[.agg #[.int .i64 e,.int .i64 f,.int .i64 g]]) (fn:=Tryz.f218) rfl ?_
 exact eX _ (aI rfl (New.pair (New.int h0) (New.pair (New.int b) (New.int c))))
theorem v0q(h:Hp)(a:Option Addr)(n c:Nat)(xs:K0)(s:I0.R h [.slice a n c] xs)(J:z06 xs<=1048576):
  Tr Tryz.prog 110 #[.slice a n c] h λv b=>New I0 h b [v] xs:=by
 obtain⟨rfl,K⟩:=Sl.len s
 have T:xs.length<=1048576:=by simp only[z06]at J;omega
 refine A2 (args:=[.slice a xs.length c]) (fn:=Tryz.f110) rfl ?_
 refine aI ?_ ?_
 ·show 0<=(xs.length:Int)/\(xs.length:Int)<=xs.length/\(xs.length:Int)*24<=140737488355328/\(xs.length:Int)<=9223372036854775807
  omega
 refine eX { vars:=[4],boxes:=[],owns:=[0],kept:=[0] } (eX (λvs os b=>∃(k:Nat) (L:List (List Value)) (Bs:List (List Nat)),k<=xs.length/\vs = [.int .i64 k]/\os = [S03 L xs.length [.int .i64 0,.int .i64 0,.int .i64 0]]/\L.length=k /\
  F3 (E1.W b) L (xs.take k) Bs/\Sub h b/\l4 h Bs.flatten) (eX (λvs _=>match vs with | [.int _ j]=>((xs.length:Int)-j).toNat|_=>0) ?_))
 refine aI ⟨0,[],[],by omega,rfl,rfl,rfl,trivial,Sub.refl _,by simp[l4]⟩ ?_
 rintro _ _ H ⟨k,L,Bs,q,⟨⟩,⟨⟩,i,d,f,p⟩
 refine aI (λg=>?_) (λg=>?_)
 ·have e:k<xs.length:=by simpa using g
  obtain⟨x,l⟩:=T9 e
  obtain⟨C,O,D,N⟩:=Sl.get (Sl.mono f s) l (by decide)
  have M:=C2 e K
  obtain⟨t,w,z,rfl,rfl,E,F,G⟩:=U1 N
  refine aI C (eX _ (aI D ?_))
  refine Tr.mono (t0s H [.int .i64 t,.int .i64 w,.int .i64 z] (t,w,z) (M1 E F G) (by simp only[q0t];omega)) ?_
  rintro v S ⟨P,rfl,B,m,I,o⟩
  obtain⟨u,y,A,rfl,Q,_,_,_⟩:=U1 (E1.toR m)
  refine aI ?_ ?_
  ·show 0<=(k:Int)/\(k:Int)<((S03 L xs.length [.int .i64 0,.int .i64 0,.int .i64 0]).length:Nat)
   rw[Y05 (by omega)];omega
  refine eX [.int .i64 0,.int .i64 0,.int .i64 0] (aI (u0a i e) ?_)
  refine aI rfl (aI (by first|exact trivial|exact aI rfl trivial|exact aI rfl (aI rfl trivial)|exact aI rfl (aI rfl (aI rfl trivial))|exact aI rfl (aI rfl (aI rfl (aI rfl trivial)))) (aI (by first|exact trivial|exact aI rfl trivial|exact aI rfl (aI rfl trivial)|exact aI rfl (aI rfl (aI rfl trivial))|exact aI rfl (aI rfl (aI rfl (aI rfl trivial)))) (aI ?_ ?_)))
  ·refine⟨k+1,L ++ [[.int .i64 u,.int .i64 y,.int .i64 A]],Bs ++ [B],by omega,by rw[←M],?_,by simp[i],?_,f.trans o,?_⟩
   ·show [(S03 L xs.length [.int .i64 0,.int .i64 0,.int .i64 0]).set k [.int .i64 u,.int .i64 y,.int .i64 A]]=_
    rw[v0a i e]
   ·rw[C00 l]
    exact F3.snoc m (B09 d o)
   ·exact k03 d f p I
  ·show((xs.length:Int)-IntKind.i64.wrap ((k:Int)+1)).toNat<((xs.length:Int)-(k:Int)).toNat
   omega
 ·have q:k=xs.length:=by simp at g;omega
  intro v b hf
  rw[w0a (by omega)]at hf
  rw[q,List.take_length]at d
  exact Z0.fresh (r:=E1) hf d f p
theorem w0q(h:Hp)(cs:List Value)(x:j0)(k:C1.R h cs x)(j:P03 x<=1048576):
  Tr Tryz.prog 43 #[.agg cs.toArray] h λv f=>∃ cs',v = .agg cs'.toArray/\New C1 h f cs' x:=by
 obtain⟨l,m,b,d,c,n,rfl,rfl,h0,g,i⟩:=C0 k
 simp only[P03]at j
 refine A2 (args:=[.agg #[.int .i64 l,.int .i64 m,.slice b d c]]) (fn:=Tryz.f43) rfl ?_
 refine Tr.mono (v0q h b d c n (Sl.mono (Sub.refl _) i) (by omega)) ?_
 rintro t q a
 obtain⟨o,s,p,e⟩:=Wp.slice_cell a.r
 cases e
 exact eX _ (aI rfl (New.pair (New.int h0) (New.pair (New.int g) a)))
theorem F0h(h:Hp)(a:Option Addr)(n c:Nat)(xs:B0)(q:D0.R h [.slice a n c] xs)(A:K4 xs<=1048576):
  Tr Tryz.prog 36 #[.slice a n c] h λv b=>New D0 h b [v] xs:=by
 obtain⟨rfl,C⟩:=Sl.len q
 have G:xs.length<=1048576:=by simp only[K4]at A;omega
 refine A2 (args:=[.slice a xs.length c]) (fn:=Tryz.f36) rfl ?_
 refine aI ?_ ?_
 ·show 0<=(xs.length:Int)/\(xs.length:Int)<=xs.length/\(xs.length:Int)*8<=140737488355328/\(xs.length:Int)<=9223372036854775807
  omega
 refine eX { vars:=[4],boxes:=[],owns:=[0],kept:=[0] } (eX (λvs os b=>∃(k:Nat) (L:List (List Value)) (Bs:List (List Nat)),k<=xs.length/\vs = [.int .i64 k]/\os = [S03 L xs.length [.int .i64 0]]/\L.length=k /\
  F3 (Wp.int.W b) L (xs.take k) Bs/\Sub h b/\l4 h Bs.flatten) (eX (λvs _=>match vs with | [.int _ j]=>((xs.length:Int)-j).toNat|_=>0) ?_))
 refine aI ⟨0,[],[],by omega,rfl,rfl,rfl,trivial,Sub.refl _,by simp[l4]⟩ ?_
 rintro _ _ w ⟨k,L,Bs,p,⟨⟩,⟨⟩,i,d,f,o⟩
 refine aI (λg=>?_) (λg=>?_)
 ·have e:k<xs.length:=by simpa using g
  obtain⟨x,l⟩:=T9 e
  obtain⟨s,F,t,E⟩:=Sl.get (Sl.mono f q) l (by decide)
  have D:=C2 e C
  obtain⟨rfl,u⟩:=E
  refine aI s (eX _ (aI t ?_))
  obtain⟨B,y,z,m⟩:=New.int (h:=w) u
  refine aI ?_ ?_
  ·show 0<=(k:Int)/\(k:Int)<((S03 L xs.length [.int .i64 0]).length:Nat)
   rw[Y05 (by omega)];omega
  refine eX [.int .i64 0] (aI (u0a i e) ?_)
  refine aI rfl (aI (by first|exact trivial|exact aI rfl trivial|exact aI rfl (aI rfl trivial)|exact aI rfl (aI rfl (aI rfl trivial))|exact aI rfl (aI rfl (aI rfl (aI rfl trivial)))) (aI (by first|exact trivial|exact aI rfl trivial|exact aI rfl (aI rfl trivial)|exact aI rfl (aI rfl (aI rfl trivial))|exact aI rfl (aI rfl (aI rfl (aI rfl trivial)))) (aI ?_ ?_)))
  ·refine⟨k+1,L ++ [[.int .i64 x]],Bs ++ [B],by omega,by rw[←D],?_,by simp[i],?_,f.trans m,?_⟩
   ·show [(S03 L xs.length [.int .i64 0]).set k [.int .i64 x]]=_
    rw[v0a i e]
   ·rw[C00 l]
    exact F3.snoc y (B09 d m)
   ·exact k03 d f o z
  ·show((xs.length:Int)-IntKind.i64.wrap ((k:Int)+1)).toNat<((xs.length:Int)-(k:Int)).toNat
   omega
 ·have p:k=xs.length:=by simp at g;omega
  intro v b hf
  rw[w0a (by omega)]at hf
  rw[p,List.take_length]at d
  exact Z0.fresh (r:=Wp.int) hf d f o
theorem y0q(h:Hp)(a:Option Addr)(n c:Nat)(xs:Y1)(y:j2.R h [.slice a n c] xs)(w:d6 xs<=1048576):
  Tr Tryz.prog 35 #[.slice a n c] h λv b=>New j2 h b [v] xs:=by
 obtain⟨rfl,H⟩:=Sl.len y
 have O:xs.length<=1048576:=by simp only[d6]at w;omega
 refine A2 (args:=[.slice a xs.length c]) (fn:=Tryz.f35) rfl ?_
 refine aI ?_ ?_
 ·show 0<=(xs.length:Int)/\(xs.length:Int)<=xs.length/\(xs.length:Int)*24<=140737488355328/\(xs.length:Int)<=9223372036854775807
  omega
 refine eX { vars:=[4],boxes:=[],owns:=[0],kept:=[0] } (eX (λvs os b=>∃(k:Nat) (L:List (List Value)) (Bs:List (List Nat)),k<=xs.length/\vs = [.int .i64 k]/\os = [S03 L xs.length [.slice none 0 0]]/\L.length=k /\
  F3 (D0.W b) L (xs.take k) Bs/\Sub h b/\l4 h Bs.flatten) (eX (λvs _=>match vs with | [.int _ j]=>((xs.length:Int)-j).toNat|_=>0) ?_))
 refine aI ⟨0,[],[],by omega,rfl,rfl,rfl,trivial,Sub.refl _,by simp[l4]⟩ ?_
 rintro _ _ F ⟨k,L,Bs,u,⟨⟩,⟨⟩,l,d,f,t⟩
 refine aI (λi=>?_) (λi=>?_)
 ·have e:k<xs.length:=by simpa using i
  obtain⟨x,g⟩:=T9 e
  obtain⟨C,M,D,z⟩:=Sl.get (Sl.mono f y) g (by decide)
  have I:=C2 e H
  obtain⟨J,P,K,rfl⟩:=Wp.slice_cell z
  refine aI C (eX _ (aI D ?_))
  refine Tr.mono (F0h F _ _ _ x z (by have:=y0l (m:=K4) g;simp only[d6]at w;omega)) ?_
  rintro v N ⟨B,q,G,s⟩
  obtain⟨o,A,p,E⟩:=Wp.slice_cell (D0.toR q)
  cases E
  refine aI ?_ ?_
  ·show 0<=(k:Int)/\(k:Int)<((S03 L xs.length [.slice none 0 0]).length:Nat)
   rw[Y05 (by omega)];omega
  refine eX [.slice none 0 0] (aI (u0a l e) ?_)
  refine aI rfl (aI (by first|exact trivial|exact aI rfl trivial|exact aI rfl (aI rfl trivial)|exact aI rfl (aI rfl (aI rfl trivial))|exact aI rfl (aI rfl (aI rfl (aI rfl trivial)))) (aI (by first|exact trivial|exact aI rfl trivial|exact aI rfl (aI rfl trivial)|exact aI rfl (aI rfl (aI rfl trivial))|exact aI rfl (aI rfl (aI rfl (aI rfl trivial)))) (aI ?_ ?_)))
  ·refine⟨k+1,L ++ [[.slice o A p]],Bs ++ [B],by omega,by rw[←I],?_,by simp[l],?_,f.trans s,?_⟩
   ·show [(S03 L xs.length [.slice none 0 0]).set k [.slice o A p]]=_
    rw[v0a l e]
   ·rw[C00 g]
    exact F3.snoc q (B09 d s)
   ·exact k03 d f t G
  ·show((xs.length:Int)-IntKind.i64.wrap ((k:Int)+1)).toNat<((xs.length:Int)-(k:Int)).toNat
   omega
 ·have u:k=xs.length:=by simp at i;omega
  intro v b hf
  rw[w0a (by omega)]at hf
  rw[u,List.take_length]at d
  exact Z0.fresh (r:=D0) hf d f t
theorem p08(h:Hp)(cs:List Value)(x:Z2)(J:Q1.R h cs x)(I:I6 x<=1048576):
  Tr Tryz.prog 28 #[.agg cs.toArray] h λv z=>∃ cs',v = .agg cs'.toArray/\New Q1 h z cs' x:=by
 obtain⟨N,O,g,p,l,P,i,q,m,Q,j,s,n,S,d,e,k,t,o,T,U,rfl,rfl,h0,A,B,C,D,E,F,G,H⟩:=O3 J
 simp only[I6]at I
 refine A2 (args:=[.agg #[.int .i64 N,.int .i64 O,.slice g p l,.slice i q m,.slice j s n,.int .i64 d,.int .i64 e,.slice k t o,.int .i64 U]]) (fn:=Tryz.f28) rfl ?_
 refine Tr.mono (y0q h g p l P (Sl.mono (Sub.refl _) B) (by omega)) ?_
 rintro ak K a
 obtain⟨V,ag,Z,u⟩:=Wp.slice_cell a.r
 cases u
 refine Tr.mono (F0h K i q m Q (Sl.mono a.sub C) (by omega)) ?_
 rintro al L b
 obtain⟨W,ah,aa,w⟩:=Wp.slice_cell b.r
 cases w
 refine Tr.mono (F0h L j s n S (Sl.mono (a.sub.trans b.sub) D) (by omega)) ?_
 rintro am M c
 obtain⟨X,ai,ab,y⟩:=Wp.slice_cell c.r
 cases y
 refine Tr.mono (w0q M [.int .i64 d,.int .i64 e,.slice k t o] (d,e,T) (C1.mono ((a.sub.trans b.sub).trans c.sub) (l0 E F G)) (by omega)) ?_
 rintro an af ⟨ad,rfl,f⟩
 obtain⟨ao,ap,Y,aj,ac,aq,rfl,ae,_,_,_⟩:=C0 f.r
 exact eX _ (aI rfl (New.pair (New.int h0) (New.pair (New.int A) (New.pair a (New.pair b (New.pair c (New.pair f (New.int H))))))))
theorem a0o(h:Hp)(a:Option Addr)(n c:Nat)(xs:K8)(F:U4.R h [.slice a n c] xs)(E:a04 xs<=1048576):
  Tr Tryz.prog 77 #[.slice a n c] h λv b=>New U4 h b [v] xs:=by
 obtain⟨rfl,au⟩:=Sl.len F
 have aK:xs.length<=1048576:=by simp only[a04]at E;omega
 refine A2 (args:=[.slice a xs.length c]) (fn:=Tryz.f77) rfl ?_
 refine aI ?_ ?_
 ·show 0<=(xs.length:Int)/\(xs.length:Int)<=xs.length/\(xs.length:Int)*136<=140737488355328/\(xs.length:Int)<=9223372036854775807
  omega
 refine eX { vars:=[4],boxes:=[],owns:=[0],kept:=[0] } (eX (λvs os b=>∃(k:Nat) (L:List (List Value)) (Bs:List (List Nat)),k<=xs.length/\vs = [.int .i64 k]/\os = [S03 L xs.length [.int .i64 0,.int .i64 0,.slice none 0 0,.slice none 0 0,.slice none 0 0,.int .i64 0,.int .i64 0,.slice none 0 0,.int .i64 0]]/\L.length=k /\
  F3 (Q1.W b) L (xs.take k) Bs/\Sub h b/\l4 h Bs.flatten) (eX (λvs _=>match vs with | [.int _ j]=>((xs.length:Int)-j).toNat|_=>0) ?_))
 refine aI ⟨0,[],[],by omega,rfl,rfl,rfl,trivial,Sub.refl _,by simp[l4]⟩ ?_
 rintro _ _ aq ⟨k,L,Bs,D,⟨⟩,⟨⟩,l,d,f,C⟩
 refine aI (λi=>?_) (λi=>?_)
 ·have e:k<xs.length:=by simpa using i
  obtain⟨x,g⟩:=T9 e
  obtain⟨ab,aF,ag,aw⟩:=Sl.get (Sl.mono f F) g (by decide)
  have av:=C2 e au
  obtain⟨K,N,X,ax,ac,aB,Y,ay,ad,aC,Z,az,ae,aD,P,S,aa,aA,af,aE,U,rfl,rfl,ah,ai,aj,ak,al,am,an,ao,ap⟩:=O3 aw
  refine aI ab (eX _ (aI ag ?_))
  refine Tr.mono (p08 aq [.int .i64 K,.int .i64 N,.slice X ax ac,.slice Y ay ad,.slice Z az ae,.int .i64 P,.int .i64 S,.slice aa aA af,.int .i64 U] (K,N,aB,aC,aD,(P,S,aE),U) (V2 ah ai aj ak al am an ao ap) (by first|(have:=y0l (m:=I6) g;simp only[a04]at E;omega)|(show I6 _<=_;simp only[I6];omega))) ?_
  rintro v aJ ⟨aG,rfl,B,z,ar,A⟩
  obtain⟨M,O,o,G,t,aL,p,H,u,aM,q,I,w,aN,Q,T,s,J,y,aO,V,rfl,aH,_,_,_,_,_,_,_,_,_⟩:=O3 (Q1.toR z)
  refine aI ?_ ?_
  ·show 0<=(k:Int)/\(k:Int)<((S03 L xs.length [.int .i64 0,.int .i64 0,.slice none 0 0,.slice none 0 0,.slice none 0 0,.int .i64 0,.int .i64 0,.slice none 0 0,.int .i64 0]).length:Nat)
   rw[Y05 (by omega)];omega
  refine eX [.int .i64 0,.int .i64 0,.slice none 0 0,.slice none 0 0,.slice none 0 0,.int .i64 0,.int .i64 0,.slice none 0 0,.int .i64 0] (aI (u0a l e) ?_)
  refine aI rfl (aI (by first|exact trivial|exact aI rfl trivial|exact aI rfl (aI rfl trivial)|exact aI rfl (aI rfl (aI rfl trivial))|exact aI rfl (aI rfl (aI rfl (aI rfl trivial)))) (aI (by first|exact trivial|exact aI rfl trivial|exact aI rfl (aI rfl trivial)|exact aI rfl (aI rfl (aI rfl trivial))|exact aI rfl (aI rfl (aI rfl (aI rfl trivial)))) (aI ?_ ?_)))
  ·refine⟨k+1,L ++ [[.int .i64 M,.int .i64 O,.slice o G t,.slice p H u,.slice q I w,.int .i64 Q,.int .i64 T,.slice s J y,.int .i64 V]],Bs ++ [B],by omega,by rw[←av],?_,by simp[l],?_,f.trans A,?_⟩
   ·show [(S03 L xs.length [.int .i64 0,.int .i64 0,.slice none 0 0,.slice none 0 0,.slice none 0 0,.int .i64 0,.int .i64 0,.slice none 0 0,.int .i64 0]).set k [.int .i64 M,.int .i64 O,.slice o G t,.slice p H u,.slice q I w,.int .i64 Q,.int .i64 T,.slice s J y,.int .i64 V]]=_
    rw[v0a l e]
   ·rw[C00 g]
    exact F3.snoc z (B09 d A)
   ·exact k03 d f C ar
  ·show((xs.length:Int)-IntKind.i64.wrap ((k:Int)+1)).toNat<((xs.length:Int)-(k:Int)).toNat
   omega
 ·have D:k=xs.length:=by simp at i;omega
  intro v b hf
  rw[w0a (by omega)]at hf
  rw[D,List.take_length]at d
  exact Z0.fresh (r:=Q1) hf d f C
theorem e06(h:Hp)(cs:List Value)(x:V1)(j:L1.R h cs x)(i:Q8 x<=1048576):
  Tr Tryz.prog 17 #[.agg cs.toArray] h λv f=>∃ cs',v = .agg cs'.toArray/\New L1 h f cs' x:=by
 obtain⟨k,b,d,c,l,rfl,rfl,h0,g⟩:=K3 j
 simp only[Q8]at i
 refine A2 (args:=[.agg #[.int .i64 k,.slice b d c]]) (fn:=Tryz.f17) rfl ?_
 refine Tr.mono (a0o h b d c l (Sl.mono (Sub.refl _) g) (by omega)) ?_
 rintro q o a
 obtain⟨m,p,n,e⟩:=Wp.slice_cell a.r
 cases e
 exact eX _ (aI rfl (New.pair (New.int h0) a))
theorem N0e(h:Hp)(a:Option Addr)(n c:Nat)(xs:K0)(B:List Nat)(k:Int)(N:I0.W h [.slice a n c] xs B)(D:B.Nodup)(aZ:0<=k/\k+(t9 xs:Nat)<=4611686018427387904):
  Tr Tryz.prog 141 #[.slice a n c,.int .i64 k] h λv i=>v = .int .i64 (k+(t9 xs:Nat))/\I0.W i [.slice a n c] (Q00 xs k) B/\∀ y,y ∉ B->i y=h y:=by
 obtain⟨rfl,ax⟩:=Sl.len (I0.toR N)
 refine A2 (args:=[.slice a xs.length c,.int .i64 k]) (fn:=Tryz.f141) rfl ?_
 refine eX { vars:=[1,5],boxes:=[],owns:=[] } (eX (λvs _ i=>∃(j:Nat) (b:Int),b=k+(U3 L7 (xs.take j):Nat)/\j<=xs.length/\vs = [.int .i64 b,.int .i64 j]/\I0.W i [.slice a xs.length c] (j01 H04 L7 xs k j) B/\∀ y,y ∉ B->i y=h y) (eX (λvs _=>match vs with | [_,.int _ j]=>((xs.length:Int)-j).toNat|_=>0) ?_))
 refine aI ⟨0,k,by simp[U3],by omega,rfl,by rw[x0a];exact N,λ_ _=>rfl⟩ ?_
 rintro _ _ C ⟨j,b,F,aY,⟨⟩,s,J⟩
 refine aI (λE=>?_) (λE=>?_)
 ·have q:j<xs.length:=by simpa using E
  obtain⟨x,A⟩:=T9 q
  have O:=w0c (mk:=H04) (c:=L7) (k:=k) A
  have ay:U3 L7 (xs.take (j+1))=U3 L7 (xs.take j)+L7 x:=S02 A
  have a3:=T02 L7 xs (j+1)
  have az:=C2 q ax
  have aw:0<=b/\b+(L7 x:Nat)<=4611686018427387904:=by
   have:(t9 xs:Int)=(U3 L7 xs:Nat):=rfl
   omega
  obtain⟨aF,p,g⟩:=x
  simp only[L7]at aw
  obtain⟨R,aM,aG,d,f,u,G,V,aP,w0,ak,aq,an,aV,a4,a0,be,aA⟩:=Wp.at s D O (by decide)
  cases V
  obtain⟨bh,bk,bn,rfl,ab,rfl,aS,ag,ai⟩:=G0d w0
  cases ab
  refine aI R ?_
  refine D01.mk (Int.natCast_nonneg j) ak (aq 0 (by decide)) (by rw[Int.toNat_natCast];rfl) trivial ?_
  have L:I0.W (C.set d (.cells (u.setIfInBounds (f+(j*E1.sz+0)) (.int .i64 (b))) G (0,0))) [.slice (some ⟨d,f,none⟩) xs.length c] ((j01 H04 L7 xs k j).set j (b,p,g)) B:=aA 0 (.int .i64 (b)) (b,p,g) (by decide) λi hf=>H08 (W0j (by  omega) (by  omega)) ag ai
  have K:∀ y,y ∉ B->(C.set d (.cells (u.setIfInBounds (f+(j*E1.sz+0)) (.int .i64 (b))) G (0,0))) y=h y:=λy l=>(Hp.set_other _ _ λe=>l (by rw[e];exact an)).trans (J y l)
  generalize (C.set d (.cells (u.setIfInBounds (f+(j*E1.sz+0)) (.int .i64 (b))) G (0,0)))=kst0 at L K ⊢
  have m:IntKind.i64.wrap (b+1)=b+(1):=by rw[w64 (by  omega) (by  omega)]<;>omega
  have P:((j01 H04 L7 xs k j).set j (b,p,g))[j]?=some (b,p,g):=by rw[List.getElem?_set_self (by rw[U00];exact q)]
  obtain⟨S,aN,aH,aK,bc,w,H,X,aQ,aD,al,ar,ao,aW,ba,a1,bf,aB⟩:=Wp.at L D P (by decide)
  cases X
  obtain⟨bi,bl,bo,rfl,ac,rfl,ae,aT,aj⟩:=G0d aD
  cases ac
  refine aI S ?_
  refine D01.mk (Int.natCast_nonneg j) al (ar 1 (by decide)) (by rw[Int.toNat_natCast];rfl) trivial ?_
  have M:I0.W (kst0.set d (.cells (w.setIfInBounds (f+(j*E1.sz+1)) (.int .i64 (IntKind.i64.wrap (b+1)))) H (0,0))) [.slice (some ⟨d,f,none⟩) xs.length c] ((j01 H04 L7 xs k j).set j (b,IntKind.i64.wrap (b+1),g)) B:=by have:=aB 1 (.int .i64 (IntKind.i64.wrap (b+1))) (b,IntKind.i64.wrap (b+1),g) (by decide) λi hf=>H08 ae (W0j (by rw[m];omega) (by rw[m];omega)) aj;rwa [List.set_set]at this
  have F2:∀ y,y ∉ B->(kst0.set d (.cells (w.setIfInBounds (f+(j*E1.sz+1)) (.int .i64 (IntKind.i64.wrap (b+1)))) H (0,0))) y=h y:=λy l=>(Hp.set_other _ _ λe=>l (by rw[e];exact ao)).trans (K y l)
  generalize (kst0.set d (.cells (w.setIfInBounds (f+(j*E1.sz+1)) (.int .i64 (IntKind.i64.wrap (b+1)))) H (0,0)))=kst1 at M F2 ⊢
  have o:IntKind.i64.wrap (IntKind.i64.wrap (b+1)+1)=b+(1+1):=by rw[w64 (by rw[m];omega) (by rw[m];omega)]<;>rw[m]<;>omega
  have Q:((j01 H04 L7 xs k j).set j (b,IntKind.i64.wrap (b+1),g))[j]?=some (b,IntKind.i64.wrap (b+1),g):=by rw[List.getElem?_set_self (by rw[U00];exact q)]
  obtain⟨T,aO,aJ,aL,bd,z,I,Y,aR,aE,am,au,ap,aX,bb,a2,bg,aC⟩:=Wp.at M D Q (by decide)
  cases Y
  obtain⟨bj,bm,bp,rfl,ad,rfl,af,ah,aU⟩:=G0d aE
  cases ad
  refine aI T ?_
  refine D01.mk (Int.natCast_nonneg j) am (au 2 (by decide)) (by rw[Int.toNat_natCast];rfl) trivial ?_
  have t:I0.W (kst1.set d (.cells (z.setIfInBounds (f+(j*E1.sz+2)) (.int .i64 (IntKind.i64.wrap (IntKind.i64.wrap (b+1)+1)))) I (0,0))) [.slice (some ⟨d,f,none⟩) xs.length c] ((j01 H04 L7 xs k j).set j (b,IntKind.i64.wrap (b+1),IntKind.i64.wrap (IntKind.i64.wrap (b+1)+1))) B:=by have:=aC 2 (.int .i64 (IntKind.i64.wrap (IntKind.i64.wrap (b+1)+1))) (b,IntKind.i64.wrap (b+1),IntKind.i64.wrap (IntKind.i64.wrap (b+1)+1)) (by decide) λi hf=>H08 af ah (W0j (by rw[o];omega) (by rw[o];omega));rwa [List.set_set]at this
  have F3:∀ y,y ∉ B->(kst1.set d (.cells (z.setIfInBounds (f+(j*E1.sz+2)) (.int .i64 (IntKind.i64.wrap (IntKind.i64.wrap (b+1)+1)))) I (0,0))) y=h y:=λy l=>(Hp.set_other _ _ λe=>l (by rw[e];exact ap)).trans (F2 y l)
  generalize (kst1.set d (.cells (z.setIfInBounds (f+(j*E1.sz+2)) (.int .i64 (IntKind.i64.wrap (IntKind.i64.wrap (b+1)+1)))) I (0,0)))=kst2 at t F3 ⊢
  have Z:IntKind.i64.wrap (IntKind.i64.wrap (IntKind.i64.wrap (b+1)+1)+1)=b+(1+1+1):=by rw[w64 (by rw[o];omega) (by rw[o];omega)]<;>rw[o]<;>omega
  have aa:(b,IntKind.i64.wrap (b+1),IntKind.i64.wrap (IntKind.i64.wrap (b+1)+1))=H04 (aF,p,g) b:=by
   simp only[H04,L7]
   exact(congr (congrArg Prod.mk rfl) (congr (congrArg Prod.mk (by rw[m]<;>first|rfl|omega|(simp;omega))) (by rw[o]<;>first|rfl|omega|(simp;omega))))
  have U:(j01 H04 L7 xs k j).set j (b,IntKind.i64.wrap (b+1),IntKind.i64.wrap (IntKind.i64.wrap (b+1)+1))=j01 H04 L7 xs k (j+1):=by rw[aa];rw[F];exact x0c A
  rw[U]at t
  refine aI rfl (aI (by first|exact trivial|exact aI rfl trivial|exact aI rfl (aI rfl trivial)|exact aI rfl (aI rfl (aI rfl trivial))|exact aI rfl (aI rfl (aI rfl (aI rfl trivial)))) (aI (by first|exact trivial|exact aI rfl trivial|exact aI rfl (aI rfl trivial)|exact aI rfl (aI rfl (aI rfl trivial))|exact aI rfl (aI rfl (aI rfl (aI rfl trivial)))) (aI ?_ ?_)))
  ·refine⟨j+1,IntKind.i64.wrap (IntKind.i64.wrap (IntKind.i64.wrap (b+1)+1)+1),?_,by omega,by rw[←az],t,F3⟩
   rw[Z];rw[ay];simp only[L7];omega
  ·show((xs.length:Int)-IntKind.i64.wrap ((j:Int)+1)).toNat<((xs.length:Int)-(j:Int)).toNat
   omega
 ·have av:j=xs.length:=by simp at E;omega
  subst av
  rw[List.take_length]at F
  rw[v0c]at s
  exact aI (congrArg (Value.int .i64) F) (aI s J)
theorem P0m(h:Hp)(cs:List Value)(x:j0)(B:List Nat)(k:Int)(w:C1.W h cs x B)(j:B.Nodup)(t:0<=k/\k+(z02 x:Nat)<=4611686018427387904):
  Tr Tryz.prog 54 #[.agg cs.toArray,.int .i64 k] h λv i=>v = .int .i64 (k+(z02 x:Nat))/\C1.W i cs (I08 x k) B/\∀ y,y ∉ B->i y=h y:=by
 obtain⟨b,a,d,f,e,c,C,rfl,rfl,rfl,h0,p,q⟩:=p0n w
 simp only[z02]at t
 refine A2 (args:=[.agg #[.int .i64 b,.int .i64 a,.slice d f e],.int .i64 k]) (fn:=Tryz.f54) rfl ?_
 have u:B.Nodup:=by first|exact j|(have:=j;simp only[List.nil_append,List.append_nil,List.nodup_append]at this;grind)
 refine Tr.mono (N0e _ d f e c B (k) q u ⟨by omega,by omega⟩) ?_
 rintro D s ⟨rfl,A,o⟩
 have m:(k+(t9 c:Nat):Int)=k+(z02 (b,a,c):Nat):=by simp only[z02]<;>omega
 have g:C1.W s [.int .i64 b,.int .i64 a,.slice d f e] (b,a,Q00 c (k)) (B):=⟨[.int .i64 b],[.int .i64 a,.slice d f e],[],([]++B),rfl,rfl,⟨⟨rfl,h0⟩,rfl⟩,⟨[.int .i64 a],[.slice d f e],[],B,rfl,rfl,⟨⟨rfl,p⟩,rfl⟩,A⟩⟩
 have n:(b,a,Q00 c (k))=I08 (b,a,c) k:=by
  unfold I08
  exact(congr (congrArg Prod.mk rfl) (congr (congrArg Prod.mk rfl) rfl))
 rw[n]at g
 exact aI (congrArg (Value.int .i64) m) (aI g (λy z=>o y (λl=>z (by first|exact l|(simp only[List.nil_append,List.append_nil,List.mem_append,List.not_mem_nil,false_or,or_false]at l ⊢;grind)))))
theorem R06(h:Hp)(a:Option Addr)(n c:Nat)(xs:B0)(B:List Nat)(k:Int)(A:D0.W h [.slice a n c] xs B)(I:B.Nodup)(Y:0<=k/\k+(P0 xs:Nat)<=4611686018427387904):
  Tr Tryz.prog 24 #[.slice a n c,.int .i64 k] h λv d=>v = .int .i64 (k+(P0 xs:Nat))/\D0.W d [.slice a n c] (J2 xs k) B/\∀ y,y ∉ B->d y=h y:=by
 obtain⟨rfl,N⟩:=Sl.len (D0.toR A)
 refine A2 (args:=[.slice a xs.length c,.int .i64 k]) (fn:=Tryz.f24) rfl ?_
 refine eX { vars:=[1,5],boxes:=[],owns:=[] } (eX (λvs _ d=>∃(j:Nat) (b:Int),b=k+(U3 (λ_=>1) (xs.take j):Nat)/\j<=xs.length/\vs = [.int .i64 b,.int .i64 j]/\D0.W d [.slice a xs.length c] (j01 (λ_ k=>k) (λ_=>1) xs k j) B/\∀ y,y ∉ B->d y=h y) (eX (λvs _=>match vs with | [_,.int _ j]=>((xs.length:Int)-j).toNat|_=>0) ?_))
 refine aI ⟨0,k,by simp[U3],by omega,rfl,by rw[x0a];exact A,λ_ _=>rfl⟩ ?_
 rintro _ _ p ⟨j,b,s,X,⟨⟩,i,u⟩
 refine aI (λq=>?_) (λq=>?_)
 ·have z:j<xs.length:=by simpa using q
  obtain⟨x,o⟩:=T9 z
  have D:=w0c (mk:=(λ_ k=>k)) (c:=(λ_=>1)) (k:=k) o
  have O:U3 (λ_=>1) (xs.take (j+1))=U3 (λ_=>1) (xs.take j)+1:=S02 o
  have ab:=T02 (λ_=>1) xs (j+1)
  have P:=C2 z N
  have Z:0<=b/\b+(1:Nat)<=4611686018427387904:=by
   have:(P0 xs:Int)=(U3 (λ_=>1) xs:Nat):=rfl
   omega
  obtain⟨E,S,R,f,g,m,t,G,T,w0,J,L,K,V,ac,aa,ad,Q⟩:=Wp.at i I D (by decide)
  cases G
  obtain⟨⟨rfl,_⟩,rfl⟩:=w0
  refine aI E ?_
  refine D01.mk (Int.natCast_nonneg j) J (L 0 (by decide)) (by rw[Int.toNat_natCast];rfl) trivial ?_
  have l:D0.W (p.set f (.cells (m.setIfInBounds (g+(j*Wp.int.sz+0)) (.int .i64 (b))) t (0,0))) [.slice (some ⟨f,g,none⟩) xs.length c] ((j01 (λ_ k=>k) (λ_=>1) xs k j).set j (b)) B:=Q 0 (.int .i64 (b)) (b) (by decide) λd hf=>⟨⟨rfl,W0j (by omega) (by omega)⟩,rfl⟩
  have w:∀ y,y ∉ B->(p.set f (.cells (m.setIfInBounds (g+(j*Wp.int.sz+0)) (.int .i64 (b))) t (0,0))) y=h y:=λy C=>(Hp.set_other _ _ λe=>C (by rw[e];exact K)).trans (u y C)
  generalize (p.set f (.cells (m.setIfInBounds (g+(j*Wp.int.sz+0)) (.int .i64 (b))) t (0,0)))=kst0 at l w ⊢
  have H:IntKind.i64.wrap (b+1)=b+(1):=by rw[w64 (by  omega) (by  omega)]<;>omega
  have U:b=(λ_ k=>k) x b:=rfl
  have F:(j01 (λ_ k=>k) (λ_=>1) xs k j).set j (b)=j01 (λ_ k=>k) (λ_=>1) xs k (j+1):=by rw[s];exact x0c o
  rw[F]at l
  refine aI rfl (aI (by first|exact trivial|exact aI rfl trivial|exact aI rfl (aI rfl trivial)|exact aI rfl (aI rfl (aI rfl trivial))|exact aI rfl (aI rfl (aI rfl (aI rfl trivial)))) (aI (by first|exact trivial|exact aI rfl trivial|exact aI rfl (aI rfl trivial)|exact aI rfl (aI rfl (aI rfl trivial))|exact aI rfl (aI rfl (aI rfl (aI rfl trivial)))) (aI ?_ ?_)))
  ·refine⟨j+1,IntKind.i64.wrap (b+1),?_,by omega,by rw[←P],l,w⟩
   rw[H];rw[O];omega
  ·show((xs.length:Int)-IntKind.i64.wrap ((j:Int)+1)).toNat<((xs.length:Int)-(j:Int)).toNat
   omega
 ·have M:j=xs.length:=by simp at q;omega
  subst M
  rw[List.take_length]at s
  rw[v0c]at i
  exact aI (congrArg (Value.int .i64) s) (aI i u)
theorem O0e(h:Hp)(a:Option Addr)(n c:Nat)(xs:Y1)(B:List Nat)(k:Int)(s:j2.W h [.slice a n c] xs B)(K:B.Nodup)(ag:0<=k/\k+(Q0 xs:Nat)<=4611686018427387904):
  Tr Tryz.prog 39 #[.slice a n c,.int .i64 k] h λv d=>v = .int .i64 (k+(Q0 xs:Nat))/\j2.W d [.slice a n c] (A4 xs k) B/\∀ y,y ∉ B->d y=h y:=by
 obtain⟨rfl,M⟩:=Sl.len (j2.toR s)
 refine A2 (args:=[.slice a xs.length c,.int .i64 k]) (fn:=Tryz.f39) rfl ?_
 refine eX { vars:=[1,5],boxes:=[],owns:=[] } (eX (λvs _ d=>∃(j:Nat) (b:Int),b=k+(U3 P0 (xs.take j):Nat)/\j<=xs.length/\vs = [.int .i64 b,.int .i64 j]/\j2.W d [.slice a xs.length c] (j01 J2 P0 xs k j) B/\∀ y,y ∉ B->d y=h y) (eX (λvs _=>match vs with | [_,.int _ j]=>((xs.length:Int)-j).toNat|_=>0) ?_))
 refine aI ⟨0,k,by simp[U3],by omega,rfl,by rw[x0a];exact s,λ_ _=>rfl⟩ ?_
 rintro _ _ aa ⟨j,b,l,af,⟨⟩,e,m⟩
 refine aI (λi=>?_) (λi=>?_)
 ·have q:j<xs.length:=by simpa using i
  obtain⟨x,f⟩:=T9 q
  have z:=w0c (mk:=J2) (c:=P0) (k:=k) f
  have O:U3 P0 (xs.take (j+1))=U3 P0 (xs.take j)+P0 x:=S02 f
  have ai:=T02 P0 xs (j+1)
  have Q:=C2 q M
  have ah:0<=b/\b+(P0 x:Nat)<=4611686018427387904:=by
   have:(Q0 xs:Int)=(U3 P0 xs:Nat):=rfl
   omega
  obtain⟨C,X,u,D,T,Y,ak,H,F,w0,ab,ae,ac,ad,P,N,U,aj⟩:=Wp.at e K z (by decide)
  cases H
  obtain⟨A,S,E,J⟩:=Wp.slice_cell (D0.toR w0)
  cases J
  refine aI C (eX _ (aI F ?_))
  refine Tr.mono (R06 _ A S E (x) u (b) w0 N ⟨by omega,by omega⟩) ?_
  rintro al g ⟨rfl,V,p⟩
  have o:j2.W g [.slice (some ⟨D,T,none⟩) xs.length c] ((j01 J2 P0 xs k j).set j (J2 x (b))) B:=U g (J2 x (b)) (p) V
  have w:∀ y,y ∉ B->g y=h y:=λy t=>(p y λR=>t (P y (by simp[R]))).trans (m y t)
  have I:(b+(P0 x:Nat):Int)=b+((P0 x:Nat)):=by omega
  have Z:(J2 x (b))=J2 x b:=rfl
  have G:(j01 J2 P0 xs k j).set j (J2 x (b))=j01 J2 P0 xs k (j+1):=by rw[l];exact x0c f
  rw[G]at o
  refine aI rfl (aI (by first|exact trivial|exact aI rfl trivial|exact aI rfl (aI rfl trivial)|exact aI rfl (aI rfl (aI rfl trivial))|exact aI rfl (aI rfl (aI rfl (aI rfl trivial)))) (aI (by first|exact trivial|exact aI rfl trivial|exact aI rfl (aI rfl trivial)|exact aI rfl (aI rfl (aI rfl trivial))|exact aI rfl (aI rfl (aI rfl (aI rfl trivial)))) (aI ?_ ?_)))
  ·refine⟨j+1,b+(P0 x:Nat),?_,by omega,by rw[←Q],o,w⟩
   rw[I];rw[O];omega
  ·show((xs.length:Int)-IntKind.i64.wrap ((j:Int)+1)).toNat<((xs.length:Int)-(j:Int)).toNat
   omega
 ·have L:j=xs.length:=by simp at i;omega
  subst L
  rw[List.take_length]at l
  rw[v0c]at e
  exact aI (congrArg (Value.int .i64) l) (aI e m)
theorem Q0m(h:Hp)(cs:List Value)(x:Z2)(B:List Nat)(k:Int)(ag:Q1.W h cs x B)(c:B.Nodup)(ab:0<=k/\k+(o05 x:Nat)<=4611686018427387904):
  Tr Tryz.prog 31 #[.agg cs.toArray,.int .i64 k] h λv O=>v = .int .i64 (k+(o05 x:Nat))/\Q1.W O cs (Y0j x k) B/\∀ y,y ∉ B->O y=h y:=by
 obtain⟨D,u,G,I,H,f,z,C,A,g,q,t,s,j,d,e,m,o,n,E,i,F,w,p,l,rfl,rfl,rfl,h0,R,S,T,U,V,X,Y,aa⟩:=W01 ag
 simp only[o05,z02]at ab
 refine A2 (args:=[.agg #[.int .i64 D,.int .i64 u,.slice G I H,.slice z C A,.slice q t s,.int .i64 d,.int .i64 e,.slice m o n,.int .i64 i],.int .i64 k]) (fn:=Tryz.f31) rfl ?_
 have ac:F.Nodup:=by first|exact c|(have:=c;simp only[List.nil_append,List.append_nil,List.nodup_append]at this;grind)
 refine Tr.mono (O0e _ G I H f F (k) S ac ⟨by omega,by omega⟩) ?_
 rintro ao al ⟨rfl,ah,J⟩
 have ad:w.Nodup:=by first|exact c|(have:=c;simp only[List.nil_append,List.append_nil,List.nodup_append]at this;grind)
 refine Tr.mono (R06 _ z C A g w (k+(Q0 f:Nat)) (D0.frame T λy b=>J y λa=>by have:=c;simp only[List.nil_append,List.append_nil,List.nodup_append,List.mem_append,List.not_mem_nil,false_or,or_false]at this a;grind) ad ⟨by omega,by omega⟩) ?_
 rintro ap am ⟨rfl,ai,K⟩
 have ae:p.Nodup:=by first|exact c|(have:=c;simp only[List.nil_append,List.append_nil,List.nodup_append]at this;grind)
 refine Tr.mono (R06 _ q t s j p (k+(Q0 f:Nat)+(P0 g:Nat)) (D0.frame (D0.frame U λy b=>J y λa=>by have:=c;simp only[List.nil_append,List.append_nil,List.nodup_append,List.mem_append,List.not_mem_nil,false_or,or_false]at this a;grind) λy b=>K y λa=>by have:=c;simp only[List.nil_append,List.append_nil,List.nodup_append,List.mem_append,List.not_mem_nil,false_or,or_false]at this a;grind) ae ⟨by omega,by omega⟩) ?_
 rintro aq an ⟨rfl,aj,L⟩
 have af:(([]++([]++l))).Nodup:=by first|exact c|(have:=c;simp only[List.nil_append,List.append_nil,List.nodup_append]at this ⊢;grind)
 refine Tr.mono (P0m _ [.int .i64 d,.int .i64 e,.slice m o n] (d,e,E) (([]++([]++l))) (k+(Q0 f:Nat)+(P0 g:Nat)+(P0 j:Nat)) (A0l V X (I0.frame (I0.frame (I0.frame Y λy b=>J y λa=>by have:=c;simp only[List.nil_append,List.append_nil,List.nodup_append,List.mem_append,List.not_mem_nil,false_or,or_false]at this a;grind) λy b=>K y λa=>by have:=c;simp only[List.nil_append,List.append_nil,List.nodup_append,List.mem_append,List.not_mem_nil,false_or,or_false]at this a;grind) λy b=>L y λa=>by have:=c;simp only[List.nil_append,List.append_nil,List.nodup_append,List.mem_append,List.not_mem_nil,false_or,or_false]at this a;grind)) af ⟨by omega,by simp only[z02];omega⟩) ?_
 rintro ar Z ⟨rfl,ak,M⟩
 have P:(k+(Q0 f:Nat)+(P0 g:Nat)+(P0 j:Nat)+(z02 (d,e,E):Nat):Int)=k+(o05 (D,u,f,g,j,(d,e,E),i):Nat):=by simp only[o05,z02]<;>omega
 have N:Q1.W Z [.int .i64 D,.int .i64 u,.slice G I H,.slice z C A,.slice q t s,.int .i64 d,.int .i64 e,.slice m o n,.int .i64 i] (D,u,A4 f (k),J2 g (k+(Q0 f:Nat)),J2 j (k+(Q0 f:Nat)+(P0 g:Nat)),I08 (d,e,E) (k+(Q0 f:Nat)+(P0 g:Nat)+(P0 j:Nat)),i) (([]++([]++(F++(w++(p++(([]++([]++l)) ++ []))))))):=⟨[.int .i64 D],[.int .i64 u,.slice G I H,.slice z C A,.slice q t s,.int .i64 d,.int .i64 e,.slice m o n,.int .i64 i],[],([]++(F++(w++(p++(([]++([]++l)) ++ []))))),rfl,rfl,⟨⟨rfl,h0⟩,rfl⟩,⟨[.int .i64 u],[.slice G I H,.slice z C A,.slice q t s,.int .i64 d,.int .i64 e,.slice m o n,.int .i64 i],[],(F++(w++(p++(([]++([]++l)) ++ [])))),rfl,rfl,⟨⟨rfl,R⟩,rfl⟩,⟨[.slice G I H],[.slice z C A,.slice q t s,.int .i64 d,.int .i64 e,.slice m o n,.int .i64 i],F,(w++(p++(([]++([]++l)) ++ []))),rfl,rfl,(j2.frame (j2.frame (j2.frame ah λy b=>K y λa=>by have:=c;simp only[List.nil_append,List.append_nil,List.nodup_append,List.mem_append,List.not_mem_nil,false_or,or_false]at this a b;grind) λy b=>L y λa=>by have:=c;simp only[List.nil_append,List.append_nil,List.nodup_append,List.mem_append,List.not_mem_nil,false_or,or_false]at this a b;grind) λy b=>M y λa=>by have:=c;simp only[List.nil_append,List.append_nil,List.nodup_append,List.mem_append,List.not_mem_nil,false_or,or_false]at this a b;grind),⟨[.slice z C A],[.slice q t s,.int .i64 d,.int .i64 e,.slice m o n,.int .i64 i],w,(p++(([]++([]++l)) ++ [])),rfl,rfl,(D0.frame (D0.frame ai λy b=>L y λa=>by have:=c;simp only[List.nil_append,List.append_nil,List.nodup_append,List.mem_append,List.not_mem_nil,false_or,or_false]at this a b;grind) λy b=>M y λa=>by have:=c;simp only[List.nil_append,List.append_nil,List.nodup_append,List.mem_append,List.not_mem_nil,false_or,or_false]at this a b;grind),⟨[.slice q t s],[.int .i64 d,.int .i64 e,.slice m o n,.int .i64 i],p,(([]++([]++l)) ++ []),rfl,rfl,(D0.frame aj λy b=>M y λa=>by have:=c;simp only[List.nil_append,List.append_nil,List.nodup_append,List.mem_append,List.not_mem_nil,false_or,or_false]at this a b;grind),⟨[.int .i64 d,.int .i64 e,.slice m o n],[.int .i64 i],([]++([]++l)),[],rfl,rfl,ak,⟨⟨rfl,aa⟩,rfl⟩⟩⟩⟩⟩⟩⟩
 have Q:(D,u,A4 f (k),J2 g (k+(Q0 f:Nat)),J2 j (k+(Q0 f:Nat)+(P0 g:Nat)),I08 (d,e,E) (k+(Q0 f:Nat)+(P0 g:Nat)+(P0 j:Nat)),i)=Y0j (D,u,f,g,j,(d,e,E),i) k:=by
  unfold Y0j
  exact(congr (congrArg Prod.mk rfl) (congr (congrArg Prod.mk rfl) (congr (congrArg Prod.mk rfl) (congr (congrArg Prod.mk (congrArg (J2 g) (by simp only[o05,z02]<;>omega))) (congr (congrArg Prod.mk (congrArg (J2 j) (by simp only[o05,z02]<;>omega))) (congr (congrArg Prod.mk (congrArg (I08 (d,e,E)) (by simp only[o05,z02]<;>omega))) rfl))))))
 rw[Q]at N
 exact aI (congrArg (Value.int .i64) P) (aI N (λy b=>(M y (λa=>b (by first|exact a|(simp only[List.nil_append,List.append_nil,List.mem_append,List.not_mem_nil,false_or,or_false]at a ⊢;grind)))).trans ((L y (λa=>b (by first|exact a|(simp only[List.nil_append,List.append_nil,List.mem_append,List.not_mem_nil,false_or,or_false]at a ⊢;grind)))).trans ((K y (λa=>b (by first|exact a|(simp only[List.nil_append,List.append_nil,List.mem_append,List.not_mem_nil,false_or,or_false]at a ⊢;grind)))).trans (J y (λa=>b (by first|exact a|(simp only[List.nil_append,List.append_nil,List.mem_append,List.not_mem_nil,false_or,or_false]at a ⊢;grind))))))))
set_option maxHeartbeats 4000000 in
theorem G0k(h:Hp)(a:Option Addr)(n c:Nat)(xs:K8)(B:List Nat)(k:Int)(aC:U4.W h [.slice a n c] xs B)(z:B.Nodup)(gL:0<=k/\k+(p05 xs:Nat)<=4611686018427387904):
  Tr Tryz.prog 82 #[.slice a n c,.int .i64 k] h λv u=>v = .int .i64 (k+(p05 xs:Nat))/\U4.W u [.slice a n c] (A06 xs k) B/\∀ y,y ∉ B->u y=h y:=by
 obtain⟨rfl,di⟩:=Sl.len (U4.toR aC)
 refine A2 (args:=[.slice a xs.length c,.int .i64 k]) (fn:=Tryz.f82) rfl ?_
 refine eX { vars:=[1,5],boxes:=[],owns:=[] } (eX (λvs _ u=>∃(j:Nat) (b:Int),b=k+(U3 l3 (xs.take j):Nat)/\j<=xs.length/\vs = [.int .i64 b,.int .i64 j]/\U4.W u [.slice a xs.length c] (j01 a8 l3 xs k j) B/\∀ y,y ∉ B->u y=h y) (eX (λvs _=>match vs with | [_,.int _ j]=>((xs.length:Int)-j).toNat|_=>0) ?_))
 refine aI ⟨0,k,by simp[U3],by omega,rfl,by rw[x0a];exact aC,λ_ _=>rfl⟩ ?_
 rintro _ _ ad ⟨j,b,ah,gK,⟨⟩,U,ar⟩
 refine aI (λag=>?_) (λag=>?_)
 ·have w:j<xs.length:=by simpa using ag
  obtain⟨x,ac⟩:=T9 w
  have aG:=w0c (mk:=a8) (c:=l3) (k:=k) ac
  have dq:U3 l3 (xs.take (j+1))=U3 l3 (xs.take j)+l3 x:=S02 ac
  have gR:=T02 l3 xs (j+1)
  have dw:=C2 w di
  have dh:0<=b/\b+(l3 x:Nat)<=4611686018427387904:=by
   have:(p05 xs:Int)=(U3 l3 xs:Nat):=rfl
   omega
  obtain⟨dW,P,d,f,g,⟨t,p,l⟩,m⟩:=x
  simp only[l3,n05]at dh
  obtain⟨aY,fX,eB,q,s,X,ai,bl,ge,w0,cY,c8,c3,gx,gS,gM,hN,dB⟩:=Wp.at U z aG (by decide)
  cases bl
  obtain⟨hW,h5,eK,gX,fq,ig,eS,g5,fz,iq,e1,hh,fH,iB,iK,iU,e9,hp,fP,i3,ji,dX,ec,ek,es,rfl,bx,rfl,gk,bP,bX,b6,cg,cp,cx,cH,cQ⟩:=W01 w0
  cases bx
  refine aI aY ?_
  refine D01.mk (Int.natCast_nonneg j) cY (c8 0 (by decide)) (by rw[Int.toNat_natCast];rfl) trivial ?_
  have ay:U4.W (ad.set q (.cells (X.setIfInBounds (s+(j*Q1.sz+0)) (.int .i64 (b))) ai (0,0))) [.slice (some ⟨q,s,none⟩) xs.length c] ((j01 a8 l3 xs k j).set j (b,P,d,f,g,(t,p,l),m)) B:=dB 0 (.int .i64 (b)) (b,P,d,f,g,(t,p,l),m) (by decide) λu hf=>G01 (W0j (by  omega) (by  omega)) bP (j2.frame bX λy i=>hf y (by simp[i])) (D0.frame b6 λy i=>hf y (by simp[i])) (D0.frame cg λy i=>hf y (by simp[i])) cp cx (I0.frame cH λy i=>hf y (by simp[i])) cQ
  have au:∀ y,y ∉ B->(ad.set q (.cells (X.setIfInBounds (s+(j*Q1.sz+0)) (.int .i64 (b))) ai (0,0))) y=h y:=λy i=>(Hp.set_other _ _ λe=>i (by rw[e];exact c3)).trans (ar y i)
  generalize (ad.set q (.cells (X.setIfInBounds (s+(j*Q1.sz+0)) (.int .i64 (b))) ai (0,0)))=kst0 at ay au ⊢
  have A:IntKind.i64.wrap (b+1)=b+(1):=by rw[w64 (by  omega) (by  omega)]<;>omega
  have aH:((j01 a8 l3 xs k j).set j (b,P,d,f,g,(t,p,l),m))[j]?=some (b,P,d,f,g,(t,p,l),m):=by rw[List.getElem?_set_self (by rw[U00];exact w)]
  obtain⟨aZ,fY,eC,fh,hx,Y,aj,bm,gf,dK,cZ,db,c4,gy,gT,gN,hO,dC⟩:=Wp.at ay z aH (by decide)
  cases bm
  obtain⟨hX,h6,eL,gY,fs,ih,eT,g6,fA,ir,e2,hi,fI,iC,iL,iV,fa,hq,fQ,ja,jj,dY,ed,el,et,rfl,bz,rfl,bH,gl,bY,b7,ch,cq,cy,cI,cR⟩:=W01 dK
  cases bz
  refine aI aZ ?_
  refine D01.mk (Int.natCast_nonneg j) cZ (db 1 (by decide)) (by rw[Int.toNat_natCast];rfl) trivial ?_
  have az:U4.W (kst0.set q (.cells (Y.setIfInBounds (s+(j*Q1.sz+1)) (.int .i64 (IntKind.i64.wrap (b+1)))) aj (0,0))) [.slice (some ⟨q,s,none⟩) xs.length c] ((j01 a8 l3 xs k j).set j (b,IntKind.i64.wrap (b+1),d,f,g,(t,p,l),m)) B:=by have:=dC 1 (.int .i64 (IntKind.i64.wrap (b+1))) (b,IntKind.i64.wrap (b+1),d,f,g,(t,p,l),m) (by decide) λu hf=>G01 bH (W0j (by rw[A];omega) (by rw[A];omega)) (j2.frame bY λy i=>hf y (by simp[i])) (D0.frame b7 λy i=>hf y (by simp[i])) (D0.frame ch λy i=>hf y (by simp[i])) cq cy (I0.frame cI λy i=>hf y (by simp[i])) cR;rwa [List.set_set]at this
  have F2:∀ y,y ∉ B->(kst0.set q (.cells (Y.setIfInBounds (s+(j*Q1.sz+1)) (.int .i64 (IntKind.i64.wrap (b+1)))) aj (0,0))) y=h y:=λy i=>(Hp.set_other _ _ λe=>i (by rw[e];exact c4)).trans (au y i)
  generalize (kst0.set q (.cells (Y.setIfInBounds (s+(j*Q1.sz+1)) (.int .i64 (IntKind.i64.wrap (b+1)))) aj (0,0)))=kst1 at az F2 ⊢
  have Q:IntKind.i64.wrap (IntKind.i64.wrap (b+1)+1)=b+(1+1):=by rw[w64 (by rw[A];omega) (by rw[A];omega)]<;>rw[A]<;>omega
  have aJ:((j01 a8 l3 xs k j).set j (b,IntKind.i64.wrap (b+1),d,f,g,(t,p,l),m))[j]?=some (b,IntKind.i64.wrap (b+1),d,f,g,(t,p,l),m):=by rw[List.getElem?_set_self (by rw[U00];exact w)]
  obtain⟨a0,fZ,eD,fi,hy,ga,hJ,bn,bg,dL,gp,gG,gt,gz,ds,L,dG,hF⟩:=Wp.at az z aJ (by decide)
  cases bn
  obtain⟨hY,h7,aU,dx,bc,ii,eU,ha,fB,iu,e3,hj,fJ,iD,iM,iW,fb,hr,fR,jb,jk,an,ee,em,eu,rfl,bA,rfl,bI,bQ,bZ,b8,ci,cr,cz,cJ,cS⟩:=W01 dL
  cases bA
  refine aI a0 (eX _ (aI bg ?_))
  have dj:an.Nodup:=by first|exact L|(have:=L;simp only[List.nil_append,List.append_nil,List.nodup_append]at this;grind)
  refine Tr.mono (O0e _ aU dx bc (d) an (IntKind.i64.wrap (IntKind.i64.wrap (b+1)+1)) bZ dj ⟨by rw[Q];omega,by rw[Q];omega⟩) ?_
  rintro hS ae ⟨rfl,dS,H⟩
  have aQ:U4.W ae [.slice (some ⟨q,s,none⟩) xs.length c] ((j01 a8 l3 xs k j).set j (b,IntKind.i64.wrap (b+1),(A4 d (IntKind.i64.wrap (IntKind.i64.wrap (b+1)+1))),f,g,(t,p,l),m)) B:=by have:=dG ae (b,IntKind.i64.wrap (b+1),(A4 d (IntKind.i64.wrap (IntKind.i64.wrap (b+1)+1))),f,g,(t,p,l),m) (λy i=>H y λo=>i (by simp[o])) (G01 bI bQ dS (D0.frame b8 λy i=>H y λo=>by have:=L;simp only[List.nil_append,List.append_nil,List.nodup_append]at this;grind) (D0.frame ci λy i=>H y λo=>by have:=L;simp only[List.nil_append,List.append_nil,List.nodup_append]at this;grind) cr cz (I0.frame cJ λy i=>H y λo=>by have:=L;simp only[List.nil_append,List.append_nil,List.nodup_append]at this;grind) cS);rwa [List.set_set]at this
  have F3:∀ y,y ∉ B->ae y=h y:=λy i=>(H y λo=>i (ds y (by simp[o]))).trans (F2 y i)
  have R:(IntKind.i64.wrap (IntKind.i64.wrap (b+1)+1)+(Q0 d:Nat):Int)=b+(1+1+(Q0 d:Nat)):=by rw[Q];omega
  have aK:((j01 a8 l3 xs k j).set j (b,IntKind.i64.wrap (b+1),(A4 d (IntKind.i64.wrap (IntKind.i64.wrap (b+1)+1))),f,g,(t,p,l),m))[j]?=some (b,IntKind.i64.wrap (b+1),(A4 d (IntKind.i64.wrap (IntKind.i64.wrap (b+1)+1))),f,g,(t,p,l),m):=by rw[List.getElem?_set_self (by rw[U00];exact w)]
  obtain⟨a1,f0,eE,fj,hz,gb,hK,bo,bh,dM,gq,gH,gu,gA,dt,M,dH,hG⟩:=Wp.at aQ z aK (by decide)
  cases bo
  obtain⟨hZ,h8,eM,gZ,ft,ij,aV,dy,bd,iv,e4,hk,fK,iE,iN,iX,fc,hs,fS,jc,jl,dZ,ao,en,ew,rfl,bB,rfl,bJ,bR,b0,ca,cj,cs,cA,cK,cT⟩:=W01 dM
  cases bB
  refine aI a1 (eX _ (aI bh ?_))
  have dk:ao.Nodup:=by first|exact M|(have:=M;simp only[List.nil_append,List.append_nil,List.nodup_append]at this;grind)
  refine Tr.mono (R06 _ aV dy bd (f) ao (IntKind.i64.wrap (IntKind.i64.wrap (b+1)+1)+(Q0 d:Nat)) ca dk ⟨by rw[R];omega,by rw[R];omega⟩) ?_
  rintro hT af ⟨rfl,dT,I⟩
  have aR:U4.W af [.slice (some ⟨q,s,none⟩) xs.length c] ((j01 a8 l3 xs k j).set j (b,IntKind.i64.wrap (b+1),(A4 d (IntKind.i64.wrap (IntKind.i64.wrap (b+1)+1))),(J2 f (IntKind.i64.wrap (IntKind.i64.wrap (b+1)+1)+(Q0 d:Nat))),g,(t,p,l),m)) B:=by have:=dH af (b,IntKind.i64.wrap (b+1),(A4 d (IntKind.i64.wrap (IntKind.i64.wrap (b+1)+1))),(J2 f (IntKind.i64.wrap (IntKind.i64.wrap (b+1)+1)+(Q0 d:Nat))),g,(t,p,l),m) (λy i=>I y λo=>i (by simp[o])) (G01 bJ bR (j2.frame b0 λy i=>I y λo=>by have:=M;simp only[List.nil_append,List.append_nil,List.nodup_append]at this;grind) dT (D0.frame cj λy i=>I y λo=>by have:=M;simp only[List.nil_append,List.append_nil,List.nodup_append]at this;grind) cs cA (I0.frame cK λy i=>I y λo=>by have:=M;simp only[List.nil_append,List.append_nil,List.nodup_append]at this;grind) cT);rwa [List.set_set]at this
  have aD:∀ y,y ∉ B->af y=h y:=λy i=>(I y λo=>i (dt y (by simp[o]))).trans (F3 y i)
  have S:(IntKind.i64.wrap (IntKind.i64.wrap (b+1)+1)+(Q0 d:Nat)+(P0 f:Nat):Int)=b+(1+1+(Q0 d:Nat)+(P0 f:Nat)):=by rw[R];omega
  have aL:((j01 a8 l3 xs k j).set j (b,IntKind.i64.wrap (b+1),(A4 d (IntKind.i64.wrap (IntKind.i64.wrap (b+1)+1))),(J2 f (IntKind.i64.wrap (IntKind.i64.wrap (b+1)+1)+(Q0 d:Nat))),g,(t,p,l),m))[j]?=some (b,IntKind.i64.wrap (b+1),(A4 d (IntKind.i64.wrap (IntKind.i64.wrap (b+1)+1))),(J2 f (IntKind.i64.wrap (IntKind.i64.wrap (b+1)+1)+(Q0 d:Nat))),g,(t,p,l),m):=by rw[List.getElem?_set_self (by rw[U00];exact w)]
  obtain⟨a2,f1,eF,fk,hA,gc,hL,bp,bi,dN,gr,gI,gv,gB,du,N,dI,hH⟩:=Wp.at aR z aL (by decide)
  cases bp
  obtain⟨h0,h9,eN,g0,fu,ik,eV,hb,fC,iw,aW,dz,be,iF,iO,iY,fd,ht,fT,jd,jm,d1,ef,ap,ex,rfl,bC,rfl,bK,bS,b1,cb,ck,ct,cC,cL,cU⟩:=W01 dN
  cases bC
  refine aI a2 (eX _ (aI bi ?_))
  have dm:ap.Nodup:=by first|exact N|(have:=N;simp only[List.nil_append,List.append_nil,List.nodup_append]at this;grind)
  refine Tr.mono (R06 _ aW dz be (g) ap (IntKind.i64.wrap (IntKind.i64.wrap (b+1)+1)+(Q0 d:Nat)+(P0 f:Nat)) ck dm ⟨by rw[S];omega,by rw[S];omega⟩) ?_
  rintro hU F ⟨rfl,dU,J⟩
  have aS:U4.W F [.slice (some ⟨q,s,none⟩) xs.length c] ((j01 a8 l3 xs k j).set j (b,IntKind.i64.wrap (b+1),(A4 d (IntKind.i64.wrap (IntKind.i64.wrap (b+1)+1))),(J2 f (IntKind.i64.wrap (IntKind.i64.wrap (b+1)+1)+(Q0 d:Nat))),(J2 g (IntKind.i64.wrap (IntKind.i64.wrap (b+1)+1)+(Q0 d:Nat)+(P0 f:Nat))),(t,p,l),m)) B:=by have:=dI F (b,IntKind.i64.wrap (b+1),(A4 d (IntKind.i64.wrap (IntKind.i64.wrap (b+1)+1))),(J2 f (IntKind.i64.wrap (IntKind.i64.wrap (b+1)+1)+(Q0 d:Nat))),(J2 g (IntKind.i64.wrap (IntKind.i64.wrap (b+1)+1)+(Q0 d:Nat)+(P0 f:Nat))),(t,p,l),m) (λy i=>J y λo=>i (by simp[o])) (G01 bK bS (j2.frame b1 λy i=>J y λo=>by have:=N;simp only[List.nil_append,List.append_nil,List.nodup_append]at this;grind) (D0.frame cb λy i=>J y λo=>by have:=N;simp only[List.nil_append,List.append_nil,List.nodup_append]at this;grind) dU ct cC (I0.frame cL λy i=>J y λo=>by have:=N;simp only[List.nil_append,List.append_nil,List.nodup_append]at this;grind) cU);rwa [List.set_set]at this
  have aE:∀ y,y ∉ B->F y=h y:=λy i=>(J y λo=>i (du y (by simp[o]))).trans (aD y i)
  have C:(IntKind.i64.wrap (IntKind.i64.wrap (b+1)+1)+(Q0 d:Nat)+(P0 f:Nat)+(P0 g:Nat):Int)=b+(1+1+(Q0 d:Nat)+(P0 f:Nat)+(P0 g:Nat)):=by rw[S];omega
  have aM:((j01 a8 l3 xs k j).set j (b,IntKind.i64.wrap (b+1),(A4 d (IntKind.i64.wrap (IntKind.i64.wrap (b+1)+1))),(J2 f (IntKind.i64.wrap (IntKind.i64.wrap (b+1)+1)+(Q0 d:Nat))),(J2 g (IntKind.i64.wrap (IntKind.i64.wrap (b+1)+1)+(Q0 d:Nat)+(P0 f:Nat))),(t,p,l),m))[j]?=some (b,IntKind.i64.wrap (b+1),(A4 d (IntKind.i64.wrap (IntKind.i64.wrap (b+1)+1))),(J2 f (IntKind.i64.wrap (IntKind.i64.wrap (b+1)+1)+(Q0 d:Nat))),(J2 g (IntKind.i64.wrap (IntKind.i64.wrap (b+1)+1)+(Q0 d:Nat)+(P0 f:Nat))),(t,p,l),m):=by rw[List.getElem?_set_self (by rw[U00];exact w)]
  obtain⟨a3,f5,eG,fl,hB,Z,ak,bq,gg,dO,c0,dc,c5,gC,gU,gO,hP,dD⟩:=Wp.at aS z aM (by decide)
  cases bq
  obtain⟨h1,ia,eO,g1,fv,il,eW,hc,fD,ix,e5,hl,fL,iG,iP,iZ,fe,hu,fU,je,jn,d2,eg,eo,ey,rfl,bD,rfl,bL,bT,b2,cc,cl,gm,cD,cM,cV⟩:=W01 dO
  cases bD
  refine aI a3 ?_
  refine D01.mk (Int.natCast_nonneg j) c0 (dc 5 (by decide)) (by rw[Int.toNat_natCast];rfl) trivial ?_
  have aA:U4.W (F.set q (.cells (Z.setIfInBounds (s+(j*Q1.sz+5)) (.int .i64 (IntKind.i64.wrap (IntKind.i64.wrap (b+1)+1)+(Q0 d:Nat)+(P0 f:Nat)+(P0 g:Nat)))) ak (0,0))) [.slice (some ⟨q,s,none⟩) xs.length c] ((j01 a8 l3 xs k j).set j (b,IntKind.i64.wrap (b+1),(A4 d (IntKind.i64.wrap (IntKind.i64.wrap (b+1)+1))),(J2 f (IntKind.i64.wrap (IntKind.i64.wrap (b+1)+1)+(Q0 d:Nat))),(J2 g (IntKind.i64.wrap (IntKind.i64.wrap (b+1)+1)+(Q0 d:Nat)+(P0 f:Nat))),(IntKind.i64.wrap (IntKind.i64.wrap (b+1)+1)+(Q0 d:Nat)+(P0 f:Nat)+(P0 g:Nat),p,l),m)) B:=by have:=dD 5 (.int .i64 (IntKind.i64.wrap (IntKind.i64.wrap (b+1)+1)+(Q0 d:Nat)+(P0 f:Nat)+(P0 g:Nat))) (b,IntKind.i64.wrap (b+1),(A4 d (IntKind.i64.wrap (IntKind.i64.wrap (b+1)+1))),(J2 f (IntKind.i64.wrap (IntKind.i64.wrap (b+1)+1)+(Q0 d:Nat))),(J2 g (IntKind.i64.wrap (IntKind.i64.wrap (b+1)+1)+(Q0 d:Nat)+(P0 f:Nat))),(IntKind.i64.wrap (IntKind.i64.wrap (b+1)+1)+(Q0 d:Nat)+(P0 f:Nat)+(P0 g:Nat),p,l),m) (by decide) λu hf=>G01 bL bT (j2.frame b2 λy i=>hf y (by simp[i])) (D0.frame cc λy i=>hf y (by simp[i])) (D0.frame cl λy i=>hf y (by simp[i])) (W0j (by rw[C];omega) (by rw[C];omega)) cD (I0.frame cM λy i=>hf y (by simp[i])) cV;rwa [List.set_set]at this
  have av:∀ y,y ∉ B->(F.set q (.cells (Z.setIfInBounds (s+(j*Q1.sz+5)) (.int .i64 (IntKind.i64.wrap (IntKind.i64.wrap (b+1)+1)+(Q0 d:Nat)+(P0 f:Nat)+(P0 g:Nat)))) ak (0,0))) y=h y:=λy i=>(Hp.set_other _ _ λe=>i (by rw[e];exact c5)).trans (aE y i)
  generalize (F.set q (.cells (Z.setIfInBounds (s+(j*Q1.sz+5)) (.int .i64 (IntKind.i64.wrap (IntKind.i64.wrap (b+1)+1)+(Q0 d:Nat)+(P0 f:Nat)+(P0 g:Nat)))) ak (0,0)))=kst5 at aA av ⊢
  have D:IntKind.i64.wrap (IntKind.i64.wrap (IntKind.i64.wrap (b+1)+1)+(Q0 d:Nat)+(P0 f:Nat)+(P0 g:Nat)+1)=b+(1+1+(Q0 d:Nat)+(P0 f:Nat)+(P0 g:Nat)+1):=by rw[w64 (by rw[C];omega) (by rw[C];omega)]<;>rw[C]<;>omega
  have aN:((j01 a8 l3 xs k j).set j (b,IntKind.i64.wrap (b+1),(A4 d (IntKind.i64.wrap (IntKind.i64.wrap (b+1)+1))),(J2 f (IntKind.i64.wrap (IntKind.i64.wrap (b+1)+1)+(Q0 d:Nat))),(J2 g (IntKind.i64.wrap (IntKind.i64.wrap (b+1)+1)+(Q0 d:Nat)+(P0 f:Nat))),(IntKind.i64.wrap (IntKind.i64.wrap (b+1)+1)+(Q0 d:Nat)+(P0 f:Nat)+(P0 g:Nat),p,l),m))[j]?=some (b,IntKind.i64.wrap (b+1),(A4 d (IntKind.i64.wrap (IntKind.i64.wrap (b+1)+1))),(J2 f (IntKind.i64.wrap (IntKind.i64.wrap (b+1)+1)+(Q0 d:Nat))),(J2 g (IntKind.i64.wrap (IntKind.i64.wrap (b+1)+1)+(Q0 d:Nat)+(P0 f:Nat))),(IntKind.i64.wrap (IntKind.i64.wrap (b+1)+1)+(Q0 d:Nat)+(P0 f:Nat)+(P0 g:Nat),p,l),m):=by rw[List.getElem?_set_self (by rw[U00];exact w)]
  obtain⟨a4,f6,eH,fm,hC,aa,al,br,gh,dP,c1,dd,c6,gD,gV,gP,hQ,dE⟩:=Wp.at aA z aN (by decide)
  cases br
  obtain⟨h2,ib,eP,g2,fw,im,eY,hd,fE,iy,e6,hm,fM,iH,iQ,i0,ff,hv,fV,jf,jo,d3,eh,ep,ez,rfl,bE,rfl,bM,bU,b3,cd,cm,cu,gn,cN,cW⟩:=W01 dP
  cases bE
  refine aI a4 ?_
  refine D01.mk (Int.natCast_nonneg j) c1 (dd 6 (by decide)) (by rw[Int.toNat_natCast];rfl) trivial ?_
  have aB:U4.W (kst5.set q (.cells (aa.setIfInBounds (s+(j*Q1.sz+6)) (.int .i64 (IntKind.i64.wrap (IntKind.i64.wrap (IntKind.i64.wrap (b+1)+1)+(Q0 d:Nat)+(P0 f:Nat)+(P0 g:Nat)+1)))) al (0,0))) [.slice (some ⟨q,s,none⟩) xs.length c] ((j01 a8 l3 xs k j).set j (b,IntKind.i64.wrap (b+1),(A4 d (IntKind.i64.wrap (IntKind.i64.wrap (b+1)+1))),(J2 f (IntKind.i64.wrap (IntKind.i64.wrap (b+1)+1)+(Q0 d:Nat))),(J2 g (IntKind.i64.wrap (IntKind.i64.wrap (b+1)+1)+(Q0 d:Nat)+(P0 f:Nat))),(IntKind.i64.wrap (IntKind.i64.wrap (b+1)+1)+(Q0 d:Nat)+(P0 f:Nat)+(P0 g:Nat),IntKind.i64.wrap (IntKind.i64.wrap (IntKind.i64.wrap (b+1)+1)+(Q0 d:Nat)+(P0 f:Nat)+(P0 g:Nat)+1),l),m)) B:=by have:=dE 6 (.int .i64 (IntKind.i64.wrap (IntKind.i64.wrap (IntKind.i64.wrap (b+1)+1)+(Q0 d:Nat)+(P0 f:Nat)+(P0 g:Nat)+1))) (b,IntKind.i64.wrap (b+1),(A4 d (IntKind.i64.wrap (IntKind.i64.wrap (b+1)+1))),(J2 f (IntKind.i64.wrap (IntKind.i64.wrap (b+1)+1)+(Q0 d:Nat))),(J2 g (IntKind.i64.wrap (IntKind.i64.wrap (b+1)+1)+(Q0 d:Nat)+(P0 f:Nat))),(IntKind.i64.wrap (IntKind.i64.wrap (b+1)+1)+(Q0 d:Nat)+(P0 f:Nat)+(P0 g:Nat),IntKind.i64.wrap (IntKind.i64.wrap (IntKind.i64.wrap (b+1)+1)+(Q0 d:Nat)+(P0 f:Nat)+(P0 g:Nat)+1),l),m) (by decide) λu hf=>G01 bM bU (j2.frame b3 λy i=>hf y (by simp[i])) (D0.frame cd λy i=>hf y (by simp[i])) (D0.frame cm λy i=>hf y (by simp[i])) cu (W0j (by rw[D];omega) (by rw[D];omega)) (I0.frame cN λy i=>hf y (by simp[i])) cW;rwa [List.set_set]at this
  have aw:∀ y,y ∉ B->(kst5.set q (.cells (aa.setIfInBounds (s+(j*Q1.sz+6)) (.int .i64 (IntKind.i64.wrap (IntKind.i64.wrap (IntKind.i64.wrap (b+1)+1)+(Q0 d:Nat)+(P0 f:Nat)+(P0 g:Nat)+1)))) al (0,0))) y=h y:=λy i=>(Hp.set_other _ _ λe=>i (by rw[e];exact c6)).trans (av y i)
  generalize (kst5.set q (.cells (aa.setIfInBounds (s+(j*Q1.sz+6)) (.int .i64 (IntKind.i64.wrap (IntKind.i64.wrap (IntKind.i64.wrap (b+1)+1)+(Q0 d:Nat)+(P0 f:Nat)+(P0 g:Nat)+1)))) al (0,0)))=kst6 at aB aw ⊢
  have T:IntKind.i64.wrap (IntKind.i64.wrap (IntKind.i64.wrap (IntKind.i64.wrap (b+1)+1)+(Q0 d:Nat)+(P0 f:Nat)+(P0 g:Nat)+1)+1)=b+(1+1+(Q0 d:Nat)+(P0 f:Nat)+(P0 g:Nat)+1+1):=by rw[w64 (by rw[D];omega) (by rw[D];omega)]<;>rw[D]<;>omega
  have aO:((j01 a8 l3 xs k j).set j (b,IntKind.i64.wrap (b+1),(A4 d (IntKind.i64.wrap (IntKind.i64.wrap (b+1)+1))),(J2 f (IntKind.i64.wrap (IntKind.i64.wrap (b+1)+1)+(Q0 d:Nat))),(J2 g (IntKind.i64.wrap (IntKind.i64.wrap (b+1)+1)+(Q0 d:Nat)+(P0 f:Nat))),(IntKind.i64.wrap (IntKind.i64.wrap (b+1)+1)+(Q0 d:Nat)+(P0 f:Nat)+(P0 g:Nat),IntKind.i64.wrap (IntKind.i64.wrap (IntKind.i64.wrap (b+1)+1)+(Q0 d:Nat)+(P0 f:Nat)+(P0 g:Nat)+1),l),m))[j]?=some (b,IntKind.i64.wrap (b+1),(A4 d (IntKind.i64.wrap (IntKind.i64.wrap (b+1)+1))),(J2 f (IntKind.i64.wrap (IntKind.i64.wrap (b+1)+1)+(Q0 d:Nat))),(J2 g (IntKind.i64.wrap (IntKind.i64.wrap (b+1)+1)+(Q0 d:Nat)+(P0 f:Nat))),(IntKind.i64.wrap (IntKind.i64.wrap (b+1)+1)+(Q0 d:Nat)+(P0 f:Nat)+(P0 g:Nat),IntKind.i64.wrap (IntKind.i64.wrap (IntKind.i64.wrap (b+1)+1)+(Q0 d:Nat)+(P0 f:Nat)+(P0 g:Nat)+1),l),m):=by rw[List.getElem?_set_self (by rw[U00];exact w)]
  obtain⟨ba,f7,eI,fo,hD,gd,hM,bs,bj,dQ,gs,gJ,gw,gE,dv,O,dJ,hI⟩:=Wp.at aB z aO (by decide)
  cases bs
  obtain⟨h3,ic,eQ,g3,fx,io,eZ,he,fF,iz,e7,hn,fN,iI,iS,i1,aX,dA,bf,jg,jp,ea,ei,eq,aq,rfl,bF,rfl,bN,bV,b4,ce,cn,cv,cE,cO,cX⟩:=W01 dQ
  cases bF
  refine aI ba (eX _ (aI bj ?_))
  have dn:aq.Nodup:=by first|exact O|(have:=O;simp only[List.nil_append,List.append_nil,List.nodup_append]at this;grind)
  refine Tr.mono (N0e _ aX dA bf (l) aq (IntKind.i64.wrap (IntKind.i64.wrap (IntKind.i64.wrap (IntKind.i64.wrap (b+1)+1)+(Q0 d:Nat)+(P0 f:Nat)+(P0 g:Nat)+1)+1)) cO dn ⟨by rw[T];omega,by rw[T];omega⟩) ?_
  rintro hV G ⟨rfl,dV,K⟩
  have aT:U4.W G [.slice (some ⟨q,s,none⟩) xs.length c] ((j01 a8 l3 xs k j).set j (b,IntKind.i64.wrap (b+1),(A4 d (IntKind.i64.wrap (IntKind.i64.wrap (b+1)+1))),(J2 f (IntKind.i64.wrap (IntKind.i64.wrap (b+1)+1)+(Q0 d:Nat))),(J2 g (IntKind.i64.wrap (IntKind.i64.wrap (b+1)+1)+(Q0 d:Nat)+(P0 f:Nat))),(IntKind.i64.wrap (IntKind.i64.wrap (b+1)+1)+(Q0 d:Nat)+(P0 f:Nat)+(P0 g:Nat),IntKind.i64.wrap (IntKind.i64.wrap (IntKind.i64.wrap (b+1)+1)+(Q0 d:Nat)+(P0 f:Nat)+(P0 g:Nat)+1),(Q00 l (IntKind.i64.wrap (IntKind.i64.wrap (IntKind.i64.wrap (IntKind.i64.wrap (b+1)+1)+(Q0 d:Nat)+(P0 f:Nat)+(P0 g:Nat)+1)+1)))),m)) B:=by have:=dJ G (b,IntKind.i64.wrap (b+1),(A4 d (IntKind.i64.wrap (IntKind.i64.wrap (b+1)+1))),(J2 f (IntKind.i64.wrap (IntKind.i64.wrap (b+1)+1)+(Q0 d:Nat))),(J2 g (IntKind.i64.wrap (IntKind.i64.wrap (b+1)+1)+(Q0 d:Nat)+(P0 f:Nat))),(IntKind.i64.wrap (IntKind.i64.wrap (b+1)+1)+(Q0 d:Nat)+(P0 f:Nat)+(P0 g:Nat),IntKind.i64.wrap (IntKind.i64.wrap (IntKind.i64.wrap (b+1)+1)+(Q0 d:Nat)+(P0 f:Nat)+(P0 g:Nat)+1),(Q00 l (IntKind.i64.wrap (IntKind.i64.wrap (IntKind.i64.wrap (IntKind.i64.wrap (b+1)+1)+(Q0 d:Nat)+(P0 f:Nat)+(P0 g:Nat)+1)+1)))),m) (λy i=>K y λo=>i (by simp[o])) (G01 bN bV (j2.frame b4 λy i=>K y λo=>by have:=O;simp only[List.nil_append,List.append_nil,List.nodup_append]at this;grind) (D0.frame ce λy i=>K y λo=>by have:=O;simp only[List.nil_append,List.append_nil,List.nodup_append]at this;grind) (D0.frame cn λy i=>K y λo=>by have:=O;simp only[List.nil_append,List.append_nil,List.nodup_append]at this;grind) cv cE dV cX);rwa [List.set_set]at this
  have aF:∀ y,y ∉ B->G y=h y:=λy i=>(K y λo=>i (dv y (by simp[o]))).trans (aw y i)
  have E:(IntKind.i64.wrap (IntKind.i64.wrap (IntKind.i64.wrap (IntKind.i64.wrap (b+1)+1)+(Q0 d:Nat)+(P0 f:Nat)+(P0 g:Nat)+1)+1)+(t9 l:Nat):Int)=b+(1+1+(Q0 d:Nat)+(P0 f:Nat)+(P0 g:Nat)+1+1+(t9 l:Nat)):=by rw[T];omega
  have aP:((j01 a8 l3 xs k j).set j (b,IntKind.i64.wrap (b+1),(A4 d (IntKind.i64.wrap (IntKind.i64.wrap (b+1)+1))),(J2 f (IntKind.i64.wrap (IntKind.i64.wrap (b+1)+1)+(Q0 d:Nat))),(J2 g (IntKind.i64.wrap (IntKind.i64.wrap (b+1)+1)+(Q0 d:Nat)+(P0 f:Nat))),(IntKind.i64.wrap (IntKind.i64.wrap (b+1)+1)+(Q0 d:Nat)+(P0 f:Nat)+(P0 g:Nat),IntKind.i64.wrap (IntKind.i64.wrap (IntKind.i64.wrap (b+1)+1)+(Q0 d:Nat)+(P0 f:Nat)+(P0 g:Nat)+1),(Q00 l (IntKind.i64.wrap (IntKind.i64.wrap (IntKind.i64.wrap (IntKind.i64.wrap (b+1)+1)+(Q0 d:Nat)+(P0 f:Nat)+(P0 g:Nat)+1)+1)))),m))[j]?=some (b,IntKind.i64.wrap (b+1),(A4 d (IntKind.i64.wrap (IntKind.i64.wrap (b+1)+1))),(J2 f (IntKind.i64.wrap (IntKind.i64.wrap (b+1)+1)+(Q0 d:Nat))),(J2 g (IntKind.i64.wrap (IntKind.i64.wrap (b+1)+1)+(Q0 d:Nat)+(P0 f:Nat))),(IntKind.i64.wrap (IntKind.i64.wrap (b+1)+1)+(Q0 d:Nat)+(P0 f:Nat)+(P0 g:Nat),IntKind.i64.wrap (IntKind.i64.wrap (IntKind.i64.wrap (b+1)+1)+(Q0 d:Nat)+(P0 f:Nat)+(P0 g:Nat)+1),(Q00 l (IntKind.i64.wrap (IntKind.i64.wrap (IntKind.i64.wrap (IntKind.i64.wrap (b+1)+1)+(Q0 d:Nat)+(P0 f:Nat)+(P0 g:Nat)+1)+1)))),m):=by rw[List.getElem?_set_self (by rw[U00];exact w)]
  obtain⟨bb,f9,eJ,fp,hE,ab,am,bt,gj,dR,c2,df,c7,gF,gW,gQ,hR,dF⟩:=Wp.at aT z aP (by decide)
  cases bt
  obtain⟨h4,ie,eR,g4,fy,ip,e0,hg,fG,iA,e8,ho,fO,iJ,iT,i2,fg,hw,fW,jh,jq,eb,ej,er,eA,rfl,bG,rfl,bO,bW,b5,cf,co,cw,cG,cP,go⟩:=W01 dR
  cases bG
  refine aI bb ?_
  refine D01.mk (Int.natCast_nonneg j) c2 (df 8 (by decide)) (by rw[Int.toNat_natCast];rfl) trivial ?_
  have V:U4.W (G.set q (.cells (ab.setIfInBounds (s+(j*Q1.sz+8)) (.int .i64 (IntKind.i64.wrap (IntKind.i64.wrap (IntKind.i64.wrap (IntKind.i64.wrap (b+1)+1)+(Q0 d:Nat)+(P0 f:Nat)+(P0 g:Nat)+1)+1)+(t9 l:Nat)))) am (0,0))) [.slice (some ⟨q,s,none⟩) xs.length c] ((j01 a8 l3 xs k j).set j (b,IntKind.i64.wrap (b+1),(A4 d (IntKind.i64.wrap (IntKind.i64.wrap (b+1)+1))),(J2 f (IntKind.i64.wrap (IntKind.i64.wrap (b+1)+1)+(Q0 d:Nat))),(J2 g (IntKind.i64.wrap (IntKind.i64.wrap (b+1)+1)+(Q0 d:Nat)+(P0 f:Nat))),(IntKind.i64.wrap (IntKind.i64.wrap (b+1)+1)+(Q0 d:Nat)+(P0 f:Nat)+(P0 g:Nat),IntKind.i64.wrap (IntKind.i64.wrap (IntKind.i64.wrap (b+1)+1)+(Q0 d:Nat)+(P0 f:Nat)+(P0 g:Nat)+1),(Q00 l (IntKind.i64.wrap (IntKind.i64.wrap (IntKind.i64.wrap (IntKind.i64.wrap (b+1)+1)+(Q0 d:Nat)+(P0 f:Nat)+(P0 g:Nat)+1)+1)))),IntKind.i64.wrap (IntKind.i64.wrap (IntKind.i64.wrap (IntKind.i64.wrap (b+1)+1)+(Q0 d:Nat)+(P0 f:Nat)+(P0 g:Nat)+1)+1)+(t9 l:Nat))) B:=by have:=dF 8 (.int .i64 (IntKind.i64.wrap (IntKind.i64.wrap (IntKind.i64.wrap (IntKind.i64.wrap (b+1)+1)+(Q0 d:Nat)+(P0 f:Nat)+(P0 g:Nat)+1)+1)+(t9 l:Nat))) (b,IntKind.i64.wrap (b+1),(A4 d (IntKind.i64.wrap (IntKind.i64.wrap (b+1)+1))),(J2 f (IntKind.i64.wrap (IntKind.i64.wrap (b+1)+1)+(Q0 d:Nat))),(J2 g (IntKind.i64.wrap (IntKind.i64.wrap (b+1)+1)+(Q0 d:Nat)+(P0 f:Nat))),(IntKind.i64.wrap (IntKind.i64.wrap (b+1)+1)+(Q0 d:Nat)+(P0 f:Nat)+(P0 g:Nat),IntKind.i64.wrap (IntKind.i64.wrap (IntKind.i64.wrap (b+1)+1)+(Q0 d:Nat)+(P0 f:Nat)+(P0 g:Nat)+1),(Q00 l (IntKind.i64.wrap (IntKind.i64.wrap (IntKind.i64.wrap (IntKind.i64.wrap (b+1)+1)+(Q0 d:Nat)+(P0 f:Nat)+(P0 g:Nat)+1)+1)))),IntKind.i64.wrap (IntKind.i64.wrap (IntKind.i64.wrap (IntKind.i64.wrap (b+1)+1)+(Q0 d:Nat)+(P0 f:Nat)+(P0 g:Nat)+1)+1)+(t9 l:Nat)) (by decide) λu hf=>G01 bO bW (j2.frame b5 λy i=>hf y (by simp[i])) (D0.frame cf λy i=>hf y (by simp[i])) (D0.frame co λy i=>hf y (by simp[i])) cw cG (I0.frame cP λy i=>hf y (by simp[i])) (W0j (by rw[E];omega) (by rw[E];omega));rwa [List.set_set]at this
  have ax:∀ y,y ∉ B->(G.set q (.cells (ab.setIfInBounds (s+(j*Q1.sz+8)) (.int .i64 (IntKind.i64.wrap (IntKind.i64.wrap (IntKind.i64.wrap (IntKind.i64.wrap (b+1)+1)+(Q0 d:Nat)+(P0 f:Nat)+(P0 g:Nat)+1)+1)+(t9 l:Nat)))) am (0,0))) y=h y:=λy i=>(Hp.set_other _ _ λe=>i (by rw[e];exact c7)).trans (aF y i)
  generalize (G.set q (.cells (ab.setIfInBounds (s+(j*Q1.sz+8)) (.int .i64 (IntKind.i64.wrap (IntKind.i64.wrap (IntKind.i64.wrap (IntKind.i64.wrap (b+1)+1)+(Q0 d:Nat)+(P0 f:Nat)+(P0 g:Nat)+1)+1)+(t9 l:Nat)))) am (0,0)))=kst8 at V ax ⊢
  have bu:IntKind.i64.wrap (IntKind.i64.wrap (IntKind.i64.wrap (IntKind.i64.wrap (IntKind.i64.wrap (b+1)+1)+(Q0 d:Nat)+(P0 f:Nat)+(P0 g:Nat)+1)+1)+(t9 l:Nat)+1)=b+(1+1+(Q0 d:Nat)+(P0 f:Nat)+(P0 g:Nat)+1+1+(t9 l:Nat)+1):=by rw[w64 (by rw[E];omega) (by rw[E];omega)]<;>rw[E]<;>omega
  have bv:(b,IntKind.i64.wrap (b+1),(A4 d (IntKind.i64.wrap (IntKind.i64.wrap (b+1)+1))),(J2 f (IntKind.i64.wrap (IntKind.i64.wrap (b+1)+1)+(Q0 d:Nat))),(J2 g (IntKind.i64.wrap (IntKind.i64.wrap (b+1)+1)+(Q0 d:Nat)+(P0 f:Nat))),(IntKind.i64.wrap (IntKind.i64.wrap (b+1)+1)+(Q0 d:Nat)+(P0 f:Nat)+(P0 g:Nat),IntKind.i64.wrap (IntKind.i64.wrap (IntKind.i64.wrap (b+1)+1)+(Q0 d:Nat)+(P0 f:Nat)+(P0 g:Nat)+1),(Q00 l (IntKind.i64.wrap (IntKind.i64.wrap (IntKind.i64.wrap (IntKind.i64.wrap (b+1)+1)+(Q0 d:Nat)+(P0 f:Nat)+(P0 g:Nat)+1)+1)))),IntKind.i64.wrap (IntKind.i64.wrap (IntKind.i64.wrap (IntKind.i64.wrap (b+1)+1)+(Q0 d:Nat)+(P0 f:Nat)+(P0 g:Nat)+1)+1)+(t9 l:Nat))=a8 (dW,P,d,f,g,(t,p,l),m) b:=by
   simp only[a8,l3,X0j,n05]
   exact(congr (congrArg Prod.mk rfl) (congr (congrArg Prod.mk (by rw[A]<;>first|rfl|omega|(simp;omega))) (congr (congrArg Prod.mk (congrArg (A4 d) (by rw[Q]<;>first|rfl|omega|(simp;omega)))) (congr (congrArg Prod.mk (congrArg (J2 f) (by rw[R]<;>first|rfl|omega|(simp;omega)))) (congr (congrArg Prod.mk (congrArg (J2 g) (by rw[S]<;>first|rfl|omega|(simp;omega)))) (congr (congrArg Prod.mk (congr (congrArg Prod.mk (by rw[C]<;>first|rfl|omega|(simp;omega))) (congr (congrArg Prod.mk (by rw[D]<;>first|rfl|omega|(simp;omega))) (congrArg (Q00 l) (by rw[T]<;>first|rfl|omega|(simp;omega)))))) (by rw[E]<;>first|rfl|omega|(simp;omega))))))))
  have bk:(j01 a8 l3 xs k j).set j (b,IntKind.i64.wrap (b+1),(A4 d (IntKind.i64.wrap (IntKind.i64.wrap (b+1)+1))),(J2 f (IntKind.i64.wrap (IntKind.i64.wrap (b+1)+1)+(Q0 d:Nat))),(J2 g (IntKind.i64.wrap (IntKind.i64.wrap (b+1)+1)+(Q0 d:Nat)+(P0 f:Nat))),(IntKind.i64.wrap (IntKind.i64.wrap (b+1)+1)+(Q0 d:Nat)+(P0 f:Nat)+(P0 g:Nat),IntKind.i64.wrap (IntKind.i64.wrap (IntKind.i64.wrap (b+1)+1)+(Q0 d:Nat)+(P0 f:Nat)+(P0 g:Nat)+1),(Q00 l (IntKind.i64.wrap (IntKind.i64.wrap (IntKind.i64.wrap (IntKind.i64.wrap (b+1)+1)+(Q0 d:Nat)+(P0 f:Nat)+(P0 g:Nat)+1)+1)))),IntKind.i64.wrap (IntKind.i64.wrap (IntKind.i64.wrap (IntKind.i64.wrap (b+1)+1)+(Q0 d:Nat)+(P0 f:Nat)+(P0 g:Nat)+1)+1)+(t9 l:Nat))=j01 a8 l3 xs k (j+1):=by rw[bv];rw[ah];exact x0c ac
  rw[bk]at V
  refine aI rfl (aI (by first|exact trivial|exact aI rfl trivial|exact aI rfl (aI rfl trivial)|exact aI rfl (aI rfl (aI rfl trivial))|exact aI rfl (aI rfl (aI rfl (aI rfl trivial)))) (aI (by first|exact trivial|exact aI rfl trivial|exact aI rfl (aI rfl trivial)|exact aI rfl (aI rfl (aI rfl trivial))|exact aI rfl (aI rfl (aI rfl (aI rfl trivial)))) (aI ?_ ?_)))
  ·refine⟨j+1,IntKind.i64.wrap (IntKind.i64.wrap (IntKind.i64.wrap (IntKind.i64.wrap (IntKind.i64.wrap (b+1)+1)+(Q0 d:Nat)+(P0 f:Nat)+(P0 g:Nat)+1)+1)+(t9 l:Nat)+1),?_,by omega,by rw[←dw],V,ax⟩
   rw[bu];rw[dq];simp only[l3,n05];omega
  ·show((xs.length:Int)-IntKind.i64.wrap ((j:Int)+1)).toNat<((xs.length:Int)-(j:Int)).toNat
   omega
 ·have dg:j=xs.length:=by simp at ag;omega
  subst dg
  rw[List.take_length]at ah
  rw[v0c]at U
  exact aI (congrArg (Value.int .i64) ah) (aI U ar)
theorem k0a(h:Hp)(cs:List Value)(x:V1)(B:List Nat)(k:Int)(t:L1.W h cs x B)(i:B.Nodup)(q:0<=k/\k+(Z6 x:Nat)<=4611686018427387904):
  Tr Tryz.prog 23 #[.agg cs.toArray,.int .i64 k] h λv g=>v = .int .i64 (k+(Z6 x:Nat))/\L1.W g cs (B06 x k) B/\∀ y,y ∉ B->g y=h y:=by
 obtain⟨a,c,e,d,b,z,rfl,rfl,rfl,h0,o⟩:=L0h t
 simp only[Z6]at q
 refine A2 (args:=[.agg #[.int .i64 a,.slice c e d],.int .i64 k]) (fn:=Tryz.f23) rfl ?_
 have s:B.Nodup:=by first|exact i|(have:=i;simp only[List.nil_append,List.append_nil,List.nodup_append]at this;grind)
 refine Tr.mono (G0k _ c e d b B (k) o s ⟨by omega,by omega⟩) ?_
 rintro A p ⟨rfl,w,n⟩
 have l:(k+(p05 b:Nat):Int)=k+(Z6 (a,b):Nat):=by simp only[Z6]<;>omega
 have f:L1.W p [.int .i64 a,.slice c e d] (a,A06 b (k)) (B):=⟨[.int .i64 a],[.slice c e d],[],B,rfl,rfl,⟨⟨rfl,h0⟩,rfl⟩,w⟩
 have m:(a,A06 b (k))=B06 (a,b) k:=by
  unfold B06
  exact(congr (congrArg Prod.mk rfl) rfl)
 rw[m]at f
 exact aI (congrArg (Value.int .i64) l) (aI f (λy u=>n y (λj=>u (by first|exact j|(simp only[List.nil_append,List.append_nil,List.mem_append,List.not_mem_nil,false_or,or_false]at j ⊢;grind)))))
theorem R0m(h:Hp)(a:Option Addr)(n c:Nat)(xs:K0)(k:Int)(u:I0.R h [.slice a n c] (Q00 xs k))(L:0<=k/\k+(t9 xs:Nat)<=4611686018427387904):
  Tr Tryz.prog 156 #[.slice a n c,.int .i64 k] h λv l=>v = .int .i64 (k+(t9 xs:Nat))/\l=h:=by
 obtain⟨p,B⟩:=Sl.len u
 rw[show(Q00 xs k).length=xs.length from y02 _ _ _ _]at p
 subst p
 refine A2 (args:=[.slice a xs.length c,.int .i64 k]) (fn:=Tryz.f156) rfl ?_
 refine eX { vars:=[1,5],boxes:=[],owns:=[] } (eX (λvs _ l=>∃(j:Nat) (b:Int),b=k+(U3 L7 (xs.take j):Nat)/\j<=xs.length/\vs = [.int .i64 b,.int .i64 j]/\l=h) (eX (λvs _=>match vs with | [_,.int _ j]=>((xs.length:Int)-j).toNat|_=>0) ?_))
 refine aI ⟨0,k,by simp[U3],by omega,rfl,rfl⟩ ?_
 rintro _ _ J ⟨j,b,o,K,⟨⟩,rfl⟩
 refine aI (λm=>?_) (λm=>?_)
 ·have t:j<xs.length:=by simpa using m
  obtain⟨x,s⟩:=T9 t
  have C:U3 L7 (xs.take (j+1))=U3 L7 (xs.take j)+L7 x:=S02 s
  have M:=T02 L7 xs (j+1)
  have D:=C2 t B
  have A:0<=b/\b+(L7 x:Nat)<=4611686018427387904:=by
   have:(t9 xs:Int)=(U3 L7 xs:Nat):=rfl
   omega
  have y:(Q00 xs k)[j]?=some (H04 x b):=by rw[o];exact u0c s
  obtain⟨g,F,i,E⟩:=Sl.get u y (by decide)
  obtain⟨N,P,S⟩:=x
  simp only[L7]at A
  obtain⟨O,Q,T,rfl,q,G,H,I⟩:=U1 E
  simp only[H04,L7,Prod.mk.injEq]at q
  obtain⟨rfl,rfl,rfl⟩:=q
  refine aI g (eX _ (aI i ?_))
  refine aI (λd=>?_) (λd=>?_)
  ·exact((bne_iff_ne.1 d) (by first|rfl|omega|(simp;omega))).elim
  clear d
  have e:IntKind.i64.wrap (b+1)=b+(1):=by rw[w64 (by  omega) (by  omega)]<;>omega
  refine aI g (eX _ (aI i ?_))
  refine aI (λd=>?_) (λd=>?_)
  ·exact((bne_iff_ne.1 d) (by rw[e];first|rfl|omega|(simp;omega))).elim
  clear d
  have f:IntKind.i64.wrap (IntKind.i64.wrap (b+1)+1)=b+(1+1):=by rw[w64 (by rw[e];  omega) (by rw[e];  omega)]<;>rw[e]<;>omega
  refine aI g (eX _ (aI i ?_))
  refine aI (λd=>?_) (λd=>?_)
  ·exact((bne_iff_ne.1 d) (by rw[f];first|rfl|omega|(simp;omega))).elim
  clear d
  have w:IntKind.i64.wrap (IntKind.i64.wrap (IntKind.i64.wrap (b+1)+1)+1)=b+(1+1+1):=by rw[w64 (by rw[f];  omega) (by rw[f];  omega)]<;>rw[f]<;>omega
  refine aI rfl (aI (by first|exact trivial|exact aI rfl trivial|exact aI rfl (aI rfl trivial)|exact aI rfl (aI rfl (aI rfl trivial))|exact aI rfl (aI rfl (aI rfl (aI rfl trivial)))) (aI (by first|exact trivial|exact aI rfl trivial|exact aI rfl (aI rfl trivial)|exact aI rfl (aI rfl (aI rfl trivial))|exact aI rfl (aI rfl (aI rfl (aI rfl trivial)))) (aI ?_ ?_)))
  ·refine⟨j+1,IntKind.i64.wrap (IntKind.i64.wrap (IntKind.i64.wrap (b+1)+1)+1),?_,by omega,by rw[←D],rfl⟩
   rw[w];rw[C];simp only[L7];omega
  ·show((xs.length:Int)-IntKind.i64.wrap ((j:Int)+1)).toNat<((xs.length:Int)-(j:Int)).toNat
   omega
 ·have z:j=xs.length:=by simp at m;omega
  subst z
  rw[List.take_length]at o
  exact aI (congrArg (Value.int .i64) o) rfl
theorem N0b(h:Hp)(a:Option Addr)(n c:Nat)(xs:B0)(k:Int)(o:D0.R h [.slice a n c] (J2 xs k))(E:0<=k/\k+(P0 xs:Nat)<=4611686018427387904):
  Tr Tryz.prog 25 #[.slice a n c,.int .i64 k] h λv d=>v = .int .i64 (k+(P0 xs:Nat))/\d=h:=by
 obtain⟨i,w⟩:=Sl.len o
 rw[show(J2 xs k).length=xs.length from y02 _ _ _ _]at i
 subst i
 refine A2 (args:=[.slice a xs.length c,.int .i64 k]) (fn:=Tryz.f25) rfl ?_
 refine eX { vars:=[1,5],boxes:=[],owns:=[] } (eX (λvs _ d=>∃(j:Nat) (b:Int),b=k+(U3 (λ_=>1) (xs.take j):Nat)/\j<=xs.length/\vs = [.int .i64 b,.int .i64 j]/\d=h) (eX (λvs _=>match vs with | [_,.int _ j]=>((xs.length:Int)-j).toNat|_=>0) ?_))
 refine aI ⟨0,k,by simp[U3],by omega,rfl,rfl⟩ ?_
 rintro _ _ C ⟨j,b,g,D,⟨⟩,rfl⟩
 refine aI (λf=>?_) (λf=>?_)
 ·have m:j<xs.length:=by simpa using f
  obtain⟨x,l⟩:=T9 m
  have y:U3 (λ_=>1) (xs.take (j+1))=U3 (λ_=>1) (xs.take j)+1:=S02 l
  have G:=T02 (λ_=>1) xs (j+1)
  have z:=C2 m w
  have F:0<=b/\b+(1:Nat)<=4611686018427387904:=by
   have:(P0 xs:Int)=(U3 (λ_=>1) xs:Nat):=rfl
   omega
  have t:(J2 xs k)[j]?=some ((λ_ k=>k) x b):=by rw[g];exact u0c l
  obtain⟨p,B,q,A⟩:=Sl.get o t (by decide)
  obtain⟨rfl,_⟩:=A
  refine aI p (eX _ (aI q ?_))
  refine aI (λe=>?_) (λe=>?_)
  ·exact((bne_iff_ne.1 e) (by first|rfl|omega|(simp;omega))).elim
  clear e
  have s:IntKind.i64.wrap (b+1)=b+(1):=by rw[w64 (by  omega) (by  omega)]<;>omega
  refine aI rfl (aI (by first|exact trivial|exact aI rfl trivial|exact aI rfl (aI rfl trivial)|exact aI rfl (aI rfl (aI rfl trivial))|exact aI rfl (aI rfl (aI rfl (aI rfl trivial)))) (aI (by first|exact trivial|exact aI rfl trivial|exact aI rfl (aI rfl trivial)|exact aI rfl (aI rfl (aI rfl trivial))|exact aI rfl (aI rfl (aI rfl (aI rfl trivial)))) (aI ?_ ?_)))
  ·refine⟨j+1,IntKind.i64.wrap (b+1),?_,by omega,by rw[←z],rfl⟩
   rw[s];rw[y];omega
  ·show((xs.length:Int)-IntKind.i64.wrap ((j:Int)+1)).toNat<((xs.length:Int)-(j:Int)).toNat
   omega
 ·have u:j=xs.length:=by simp at f;omega
  subst u
  rw[List.take_length]at g
  exact aI (congrArg (Value.int .i64) g) rfl
theorem S0m(h:Hp)(a:Option Addr)(n c:Nat)(xs:Y1)(k:Int)(q:j2.R h [.slice a n c] (A4 xs k))(I:0<=k/\k+(Q0 xs:Nat)<=4611686018427387904):
  Tr Tryz.prog 67 #[.slice a n c,.int .i64 k] h λv d=>v = .int .i64 (k+(Q0 xs:Nat))/\d=h:=by
 obtain⟨m,D⟩:=Sl.len q
 rw[show(A4 xs k).length=xs.length from y02 _ _ _ _]at m
 subst m
 refine A2 (args:=[.slice a xs.length c,.int .i64 k]) (fn:=Tryz.f67) rfl ?_
 refine eX { vars:=[1,5],boxes:=[],owns:=[] } (eX (λvs _ d=>∃(j:Nat) (b:Int),b=k+(U3 P0 (xs.take j):Nat)/\j<=xs.length/\vs = [.int .i64 b,.int .i64 j]/\d=h) (eX (λvs _=>match vs with | [_,.int _ j]=>((xs.length:Int)-j).toNat|_=>0) ?_))
 refine aI ⟨0,k,by simp[U3],by omega,rfl,rfl⟩ ?_
 rintro _ _ B ⟨j,b,g,H,⟨⟩,rfl⟩
 refine aI (λf=>?_) (λf=>?_)
 ·have p:j<xs.length:=by simpa using f
  obtain⟨x,o⟩:=T9 p
  have E:U3 P0 (xs.take (j+1))=U3 P0 (xs.take j)+P0 x:=S02 o
  have K:=T02 P0 xs (j+1)
  have F:=C2 p D
  have J:0<=b/\b+(P0 x:Nat)<=4611686018427387904:=by
   have:(Q0 xs:Int)=(U3 P0 xs:Nat):=rfl
   omega
  have A:(A4 xs k)[j]?=some (J2 x b):=by rw[g];exact u0c o
  obtain⟨u,G,w,s⟩:=Sl.get q A (by decide)
  obtain⟨i,t,l,eq⟩:=Wp.slice_cell s
  cases eq
  refine aI u (eX _ (aI w ?_))
  have z:D0.R B [.slice i t l] (J2 x (b)):=s
  refine Tr.val (N0b _ i t l x (b) z ⟨by omega,by omega⟩) ?_
  refine aI (λe=>?_) (λe=>?_)
  ·have:(b+(P0 x:Nat):Int)<0:=by simpa only[decide_eq_true_eq] using e
   exact absurd this (by omega)
  clear e
  have y:(b+(P0 x:Nat):Int)=b+((P0 x:Nat)):=by omega
  refine aI rfl (aI (by first|exact trivial|exact aI rfl trivial|exact aI rfl (aI rfl trivial)|exact aI rfl (aI rfl (aI rfl trivial))|exact aI rfl (aI rfl (aI rfl (aI rfl trivial)))) (aI (by first|exact trivial|exact aI rfl trivial|exact aI rfl (aI rfl trivial)|exact aI rfl (aI rfl (aI rfl trivial))|exact aI rfl (aI rfl (aI rfl (aI rfl trivial)))) (aI ?_ ?_)))
  ·refine⟨j+1,b+(P0 x:Nat),?_,by omega,by rw[←F],rfl⟩
   rw[y];rw[E];omega
  ·show((xs.length:Int)-IntKind.i64.wrap ((j:Int)+1)).toNat<((xs.length:Int)-(j:Int)).toNat
   omega
 ·have C:j=xs.length:=by simp at f;omega
  subst C
  rw[List.take_length]at g
  exact aI (congrArg (Value.int .i64) g) rfl
theorem H0k(h:Hp)(a:Option Addr)(n c:Nat)(xs:K8)(k:Int)(W:U4.R h [.slice a n c] (A06 xs k))(aw:0<=k/\k+(p05 xs:Nat)<=4611686018427387904):
  Tr Tryz.prog 88 #[.slice a n c,.int .i64 k] h λv J=>v = .int .i64 (k+(p05 xs:Nat))/\J=h:=by
 obtain⟨S,aj⟩:=Sl.len W
 rw[show(A06 xs k).length=xs.length from y02 _ _ _ _]at S
 subst S
 refine A2 (args:=[.slice a xs.length c,.int .i64 k]) (fn:=Tryz.f88) rfl ?_
 refine eX { vars:=[1,5],boxes:=[],owns:=[] } (eX (λvs _ J=>∃(j:Nat) (b:Int),b=k+(U3 l3 (xs.take j):Nat)/\j<=xs.length/\vs = [.int .i64 b,.int .i64 j]/\J=h) (eX (λvs _=>match vs with | [_,.int _ j]=>((xs.length:Int)-j).toNat|_=>0) ?_))
 refine aI ⟨0,k,by simp[U3],by omega,rfl,rfl⟩ ?_
 rintro _ _ o ⟨j,b,L,av,⟨⟩,rfl⟩
 refine aI (λK=>?_) (λK=>?_)
 ·have V:j<xs.length:=by simpa using K
  obtain⟨x,U⟩:=T9 V
  have ak:U3 l3 (xs.take (j+1))=U3 l3 (xs.take j)+l3 x:=S02 U
  have ax:=T02 l3 xs (j+1)
  have al:=C2 V aj
  have ai:0<=b/\b+(l3 x:Nat)<=4611686018427387904:=by
   have:(p05 xs:Int)=(U3 l3 xs:Nat):=rfl
   omega
  have ag:(A06 xs k)[j]?=some (a8 x b):=by rw[L];exact u0c U
  obtain⟨i,an,l,am⟩:=Sl.get W ag (by decide)
  obtain⟨ay,aA,e,f,g,⟨aF,aH,m⟩,aL⟩:=x
  simp only[l3,n05]at ai
  obtain⟨az,aB,B,M,F,aC,C,N,G,aD,D,O,H,aE,aG,aJ,E,Q,I,aK,aM,rfl,T,ao,ap,Y,Z,aa,aq,ar,ab,au⟩:=O3 am
  simp only[a8,l3,X0j,n05,Prod.mk.injEq]at T
  obtain⟨rfl,rfl,rfl,rfl,rfl,⟨rfl,rfl,rfl⟩,rfl⟩:=T
  refine aI i (eX _ (aI l ?_))
  refine aI (λd=>?_) (λd=>?_)
  ·exact((bne_iff_ne.1 d) (by first|rfl|omega|(simp;omega))).elim
  clear d
  have u:IntKind.i64.wrap (b+1)=b+(1):=by rw[w64 (by  omega) (by  omega)]<;>omega
  refine aI i (eX _ (aI l ?_))
  refine aI (λd=>?_) (λd=>?_)
  ·exact((bne_iff_ne.1 d) (by rw[u];first|rfl|omega|(simp;omega))).elim
  clear d
  have p:IntKind.i64.wrap (IntKind.i64.wrap (b+1)+1)=b+(1+1):=by rw[w64 (by rw[u];  omega) (by rw[u];  omega)]<;>rw[u]<;>omega
  refine aI i (eX _ (aI l ?_))
  have ac:j2.R o [.slice B M F] (A4 e (IntKind.i64.wrap (IntKind.i64.wrap (b+1)+1))):=B0o (P:=λz=>j2.R o [.slice B M F] (A4 e z)) Y (by rw[p];first|rfl|omega|(simp;omega))
  refine Tr.val (S0m _ B M F e (IntKind.i64.wrap (IntKind.i64.wrap (b+1)+1)) ac ⟨by rw[p];omega,by rw[p];omega⟩) ?_
  refine aI (λd=>?_) (λd=>?_)
  ·have:(IntKind.i64.wrap (IntKind.i64.wrap (b+1)+1)+(Q0 e:Nat):Int)<0:=by simpa only[decide_eq_true_eq] using d
   exact absurd this (by rw[p];omega)
  clear d
  have q:(IntKind.i64.wrap (IntKind.i64.wrap (b+1)+1)+(Q0 e:Nat):Int)=b+(1+1+(Q0 e:Nat)):=by rw[p];omega
  refine aI i (eX _ (aI l ?_))
  have ad:D0.R o [.slice C N G] (J2 f (IntKind.i64.wrap (IntKind.i64.wrap (b+1)+1)+(Q0 e:Nat))):=B0o (P:=λz=>D0.R o [.slice C N G] (J2 f z)) Z (by rw[q];first|rfl|omega|(simp;omega))
  refine Tr.val (N0b _ C N G f (IntKind.i64.wrap (IntKind.i64.wrap (b+1)+1)+(Q0 e:Nat)) ad ⟨by rw[q];omega,by rw[q];omega⟩) ?_
  refine aI (λd=>?_) (λd=>?_)
  ·have:(IntKind.i64.wrap (IntKind.i64.wrap (b+1)+1)+(Q0 e:Nat)+(P0 f:Nat):Int)<0:=by simpa only[decide_eq_true_eq] using d
   exact absurd this (by rw[q];omega)
  clear d
  have s:(IntKind.i64.wrap (IntKind.i64.wrap (b+1)+1)+(Q0 e:Nat)+(P0 f:Nat):Int)=b+(1+1+(Q0 e:Nat)+(P0 f:Nat)):=by rw[q];omega
  refine aI i (eX _ (aI l ?_))
  have ae:D0.R o [.slice D O H] (J2 g (IntKind.i64.wrap (IntKind.i64.wrap (b+1)+1)+(Q0 e:Nat)+(P0 f:Nat))):=B0o (P:=λz=>D0.R o [.slice D O H] (J2 g z)) aa (by rw[s];first|rfl|omega|(simp;omega))
  refine Tr.val (N0b _ D O H g (IntKind.i64.wrap (IntKind.i64.wrap (b+1)+1)+(Q0 e:Nat)+(P0 f:Nat)) ae ⟨by rw[s];omega,by rw[s];omega⟩) ?_
  refine aI (λd=>?_) (λd=>?_)
  ·have:(IntKind.i64.wrap (IntKind.i64.wrap (b+1)+1)+(Q0 e:Nat)+(P0 f:Nat)+(P0 g:Nat):Int)<0:=by simpa only[decide_eq_true_eq] using d
   exact absurd this (by rw[s];omega)
  clear d
  have w:(IntKind.i64.wrap (IntKind.i64.wrap (b+1)+1)+(Q0 e:Nat)+(P0 f:Nat)+(P0 g:Nat):Int)=b+(1+1+(Q0 e:Nat)+(P0 f:Nat)+(P0 g:Nat)):=by rw[s];omega
  refine aI i (eX _ (aI l ?_))
  refine aI (λd=>?_) (λd=>?_)
  ·exact((bne_iff_ne.1 d) (by rw[w];first|rfl|omega|(simp;omega))).elim
  clear d
  have y:IntKind.i64.wrap (IntKind.i64.wrap (IntKind.i64.wrap (b+1)+1)+(Q0 e:Nat)+(P0 f:Nat)+(P0 g:Nat)+1)=b+(1+1+(Q0 e:Nat)+(P0 f:Nat)+(P0 g:Nat)+1):=by rw[w64 (by rw[w];  omega) (by rw[w];  omega)]<;>rw[w]<;>omega
  refine aI i (eX _ (aI l ?_))
  refine aI (λd=>?_) (λd=>?_)
  ·exact((bne_iff_ne.1 d) (by rw[y];first|rfl|omega|(simp;omega))).elim
  clear d
  have t:IntKind.i64.wrap (IntKind.i64.wrap (IntKind.i64.wrap (IntKind.i64.wrap (b+1)+1)+(Q0 e:Nat)+(P0 f:Nat)+(P0 g:Nat)+1)+1)=b+(1+1+(Q0 e:Nat)+(P0 f:Nat)+(P0 g:Nat)+1+1):=by rw[w64 (by rw[y];  omega) (by rw[y];  omega)]<;>rw[y]<;>omega
  refine aI i (eX _ (aI l ?_))
  have af:I0.R o [.slice E Q I] (Q00 m (IntKind.i64.wrap (IntKind.i64.wrap (IntKind.i64.wrap (IntKind.i64.wrap (b+1)+1)+(Q0 e:Nat)+(P0 f:Nat)+(P0 g:Nat)+1)+1))):=B0o (P:=λz=>I0.R o [.slice E Q I] (Q00 m z)) ab (by rw[t];first|rfl|omega|(simp;omega))
  refine Tr.val (R0m _ E Q I m (IntKind.i64.wrap (IntKind.i64.wrap (IntKind.i64.wrap (IntKind.i64.wrap (b+1)+1)+(Q0 e:Nat)+(P0 f:Nat)+(P0 g:Nat)+1)+1)) af ⟨by rw[t];omega,by rw[t];omega⟩) ?_
  refine aI (λd=>?_) (λd=>?_)
  ·have:(IntKind.i64.wrap (IntKind.i64.wrap (IntKind.i64.wrap (IntKind.i64.wrap (b+1)+1)+(Q0 e:Nat)+(P0 f:Nat)+(P0 g:Nat)+1)+1)+(t9 m:Nat):Int)<0:=by simpa only[decide_eq_true_eq] using d
   exact absurd this (by rw[t];omega)
  clear d
  have A:(IntKind.i64.wrap (IntKind.i64.wrap (IntKind.i64.wrap (IntKind.i64.wrap (b+1)+1)+(Q0 e:Nat)+(P0 f:Nat)+(P0 g:Nat)+1)+1)+(t9 m:Nat):Int)=b+(1+1+(Q0 e:Nat)+(P0 f:Nat)+(P0 g:Nat)+1+1+(t9 m:Nat)):=by rw[t];omega
  refine aI i (eX _ (aI l ?_))
  refine aI (λd=>?_) (λd=>?_)
  ·exact((bne_iff_ne.1 d) (by rw[A];first|rfl|omega|(simp;omega))).elim
  clear d
  have X:IntKind.i64.wrap (IntKind.i64.wrap (IntKind.i64.wrap (IntKind.i64.wrap (IntKind.i64.wrap (b+1)+1)+(Q0 e:Nat)+(P0 f:Nat)+(P0 g:Nat)+1)+1)+(t9 m:Nat)+1)=b+(1+1+(Q0 e:Nat)+(P0 f:Nat)+(P0 g:Nat)+1+1+(t9 m:Nat)+1):=by rw[w64 (by rw[A];  omega) (by rw[A];  omega)]<;>rw[A]<;>omega
  refine aI rfl (aI (by first|exact trivial|exact aI rfl trivial|exact aI rfl (aI rfl trivial)|exact aI rfl (aI rfl (aI rfl trivial))|exact aI rfl (aI rfl (aI rfl (aI rfl trivial)))) (aI (by first|exact trivial|exact aI rfl trivial|exact aI rfl (aI rfl trivial)|exact aI rfl (aI rfl (aI rfl trivial))|exact aI rfl (aI rfl (aI rfl (aI rfl trivial)))) (aI ?_ ?_)))
  ·refine⟨j+1,IntKind.i64.wrap (IntKind.i64.wrap (IntKind.i64.wrap (IntKind.i64.wrap (IntKind.i64.wrap (b+1)+1)+(Q0 e:Nat)+(P0 f:Nat)+(P0 g:Nat)+1)+1)+(t9 m:Nat)+1),?_,by omega,by rw[←al],rfl⟩
   rw[X];rw[ak];simp only[l3,n05];omega
  ·show((xs.length:Int)-IntKind.i64.wrap ((j:Int)+1)).toNat<((xs.length:Int)-(j:Int)).toNat
   omega
 ·have ah:j=xs.length:=by simp at K;omega
  subst ah
  rw[List.take_length]at L
  exact aI (congrArg (Value.int .i64) L) rfl
theorem l0a(h:Hp)(cs:List Value)(x:V1)(k:Int)(m:L1.R h cs (B06 x k))(l:0<=k/\k+(Z6 x:Nat)<=4611686018427387904):
  Tr Tryz.prog 32 #[.agg cs.toArray,.int .i64 k] h λv j=>v = .int .i64 (k+(Z6 x:Nat))/\j=h:=by
 obtain⟨n,g⟩:=x
 obtain⟨p,b,f,c,q,rfl,d,o,i⟩:=K3 m
 simp only[B06,Z6,Prod.mk.injEq]at d
 obtain⟨rfl,rfl⟩:=d
 simp only[Z6]at l
 refine A2 (args:=[.agg #[.int .i64 n,.slice b f c],.int .i64 k]) (fn:=Tryz.f32) rfl ?_
 refine Tr.val (H0k _ b f c g (k) (by have e:=i;first|exact e|(rwa [show k+(((0:Nat):Int))=k from by omega]at e)) ⟨by omega,by omega⟩) ?_
 refine aI (λa=>?_) (λa=>?_)
 ·have:(k+(p05 g:Nat):Int)<0:=by simpa only[decide_eq_true_eq] using a
  exact absurd this (by omega)
 clear a
 exact aI (congrArg (Value.int .i64) (by simp only[Z6]<;>omega)) rfl
end Go.Proofs.YtkjhghloldgioaaGreat
