/- Texts of the claim, joined: The data types of the laws, as lists and tuples and others. -/
import Derived.Test.YthakcafglempaaaGreatHE
import Derived.Test.YthakcafglempaaaGreatChecked
namespace Go.Proofs.YthakcafglempaaaGreat
set_option linter.all false
open Go.H
open IntKind (i64)
set_option maxRecDepth 10000
def m0d:Nat->Nat->List UInt8->List UInt8
 |0,_,acc=>acc
 |f+1,n,acc=>if n=0 then acc else m0d f (n / 10) (UInt8.ofNat (48+n % 10)::acc)
theorem k0j:∀(f n:Nat) (acc:List UInt8),(m0d f n acc).length<=f+acc.length
 |0,n,acc=>by simp[m0d]
 |f+1,n,acc=>by
  simp only[m0d];split;·omega
  have:=k0j f (n / 10) (UInt8.ofNat (48+n % 10)::acc);simp only[lC]at this;omega
abbrev O0:Type:=Int×Int×Int
abbrev C1:Wp O0:=Wp.pair Wp.int (Wp.pair Wp.int Wp.int)
instance K0A:DecidableEq O0:=(@instDecidableEqProd _ _ (inferInstance:DecidableEq Int) (@instDecidableEqProd _ _ (inferInstance:DecidableEq Int) (inferInstance:DecidableEq Int)))
def Q1{h:Hp}{cs:List Value}{x:O0}(f:C1.R h cs x):∃(a:Int) (b:Int) (c:Int),cs = [.int .i64 a,.int .i64 b,.int .i64 c]/\x=(a,b,c)/\H0 a/\H0 b/\H0 c:=by obtain⟨a,b,c⟩:=x;obtain⟨_,_,rfl,⟨rfl,h0⟩,⟨_,_,rfl,⟨rfl,d⟩,⟨rfl,e⟩⟩⟩:=f;exact⟨a,b,c,rfl,rfl,h0,d,e⟩
def N1{h:Hp}{c:Int}{a:Int}{b:Int}(h0:H0 c)(d:H0 a)(e:H0 b):C1.R h [.int .i64 c,.int .i64 a,.int .i64 b] (c,a,b) :=
 ⟨[.int .i64 c],[.int .i64 a,.int .i64 b],rfl,⟨rfl,h0⟩,⟨[.int .i64 a],[.int .i64 b],rfl,⟨rfl,d⟩,⟨rfl,e⟩⟩⟩
def c0r{h:Hp}{c:Int}{a:Int}{b:Int}(h0:H0 c)(d:H0 a)(e:H0 b):C1.W h [.int .i64 c,.int .i64 a,.int .i64 b] (c,a,b) ([]++([] ++ [])) :=
 ⟨[.int .i64 c],[.int .i64 a,.int .i64 b],[],([] ++ []),rfl,rfl,⟨⟨rfl,h0⟩,rfl⟩,⟨[.int .i64 a],[.int .i64 b],[],[],rfl,rfl,⟨⟨rfl,d⟩,rfl⟩,⟨⟨rfl,e⟩,rfl⟩⟩⟩
abbrev T0:Type:=List O0
abbrev N0:Wp T0:=Wp.slice C1
instance j0z:DecidableEq T0:=inferInstanceAs (DecidableEq (List O0))
abbrev j0:Type:=Int×Int×T0
abbrev F1:Wp j0:=Wp.pair Wp.int (Wp.pair Wp.int N0)
instance y0v:DecidableEq j0:=(@instDecidableEqProd _ _ (inferInstance:DecidableEq Int) (@instDecidableEqProd _ _ (inferInstance:DecidableEq Int) j0z))
def Z0{h:Hp}{cs:List Value}{x:j0}(j:F1.R h cs x):∃(a:Int) (b:Int) (c:Option Addr) (e d:Nat) (f:T0),cs = [.int .i64 a,.int .i64 b,.slice c e d]/\x=(a,b,f)/\H0 a/\H0 b/\N0.R h [.slice c e d] f:=by obtain⟨a,b,f⟩:=x;obtain⟨_,_,rfl,⟨rfl,h0⟩,⟨_,_,rfl,⟨rfl,i⟩,g⟩⟩:=j;obtain⟨c,e,d,rfl⟩:=Wp.slice_cell g;exact⟨a,b,c,e,d,f,rfl,rfl,h0,i,g⟩
def D0{h:Hp}{e:Int}{a:Int}{b:Option Addr}{d c:Nat}{f:T0}(h0:H0 e)(g:H0 a)(i:N0.R h [.slice b d c] f):F1.R h [.int .i64 e,.int .i64 a,.slice b d c] (e,a,f) :=
 ⟨[.int .i64 e],[.int .i64 a,.slice b d c],rfl,⟨rfl,h0⟩,⟨[.int .i64 a],[.slice b d c],rfl,⟨rfl,g⟩,i⟩⟩
abbrev F6:Type:=Int×Int
abbrev G6:Wp F6:=Wp.pair Wp.int Wp.int
instance L0A:DecidableEq F6:=(@instDecidableEqProd _ _ (inferInstance:DecidableEq Int) (inferInstance:DecidableEq Int))
def f06{h:Hp}{cs:List Value}{x:F6}(d:G6.R h cs x):∃(a:Int) (b:Int),cs = [.int .i64 a,.int .i64 b]/\x=(a,b)/\H0 a/\H0 b:=by obtain⟨a,b⟩:=x;obtain⟨_,_,rfl,⟨rfl,h0⟩,⟨rfl,c⟩⟩:=d;exact⟨a,b,rfl,rfl,h0,c⟩
def C3{h:Hp}{a:Int}{b:Int}(h0:H0 a)(c:H0 b):G6.R h [.int .i64 a,.int .i64 b] (a,b) :=
 ⟨[.int .i64 a],[.int .i64 b],rfl,⟨rfl,h0⟩,⟨rfl,c⟩⟩
abbrev I0:Type:=List Int
abbrev J0:Wp I0:=Wp.slice Wp.int
instance n0y:DecidableEq I0:=inferInstanceAs (DecidableEq (List Int))
abbrev M1:Type:=List I0
abbrev T1:Wp M1:=Wp.slice J0
instance k0z:DecidableEq M1:=inferInstanceAs (DecidableEq (List I0))
abbrev j6:Type:=Int×Int×M1×I0×I0×j0×Int
abbrev S4:Wp j6:=Wp.pair Wp.int (Wp.pair Wp.int (Wp.pair T1 (Wp.pair J0 (Wp.pair J0 (Wp.pair F1 Wp.int)))))
instance w0A:DecidableEq j6:=(@instDecidableEqProd _ _ (inferInstance:DecidableEq Int) (@instDecidableEqProd _ _ (inferInstance:DecidableEq Int) (@instDecidableEqProd _ _ k0z (@instDecidableEqProd _ _ n0y (@instDecidableEqProd _ _ n0y (@instDecidableEqProd _ _ y0v (inferInstance:DecidableEq Int)))))))
def p01{h:Hp}{cs:List Value}{x:j6}(H:S4.R h cs x):∃(a:Int) (b:Int) (f:Option Addr) (o k:Nat) (t:M1) (g:Option Addr) (p l:Nat) (u:I0) (i:Option Addr) (q m:Nat) (v:I0) (c:Int) (d:Int) (j:Option Addr) (s n:Nat) (w:T0) (e:Int),cs = [.int .i64 a,.int .i64 b,.slice f o k,.slice g p l,.slice i q m,.int .i64 c,.int .i64 d,.slice j s n,.int .i64 e]/\x=(a,b,t,u,v,(c,d,w),e)/\H0 a/\H0 b/\T1.R h [.slice f o k] t/\J0.R h [.slice g p l] u/\J0.R h [.slice i q m] v/\H0 c/\H0 d/\N0.R h [.slice j s n] w/\H0 e:=by obtain⟨a,b,t,u,v,⟨c,d,w⟩,e⟩:=x;obtain⟨_,_,rfl,⟨rfl,h0⟩,⟨_,_,rfl,⟨rfl,D⟩,⟨_,_,rfl,y,⟨_,_,rfl,z,⟨_,_,rfl,A,⟨_,_,rfl,⟨_,_,rfl,⟨rfl,E⟩,⟨_,_,rfl,⟨rfl,F⟩,C⟩⟩,⟨rfl,G⟩⟩⟩⟩⟩⟩⟩:=H;obtain⟨f,o,k,rfl⟩:=Wp.slice_cell y;obtain⟨g,p,l,rfl⟩:=Wp.slice_cell z;obtain⟨i,q,m,rfl⟩:=Wp.slice_cell A;obtain⟨j,s,n,rfl⟩:=Wp.slice_cell C;exact⟨a,b,f,o,k,t,g,p,l,u,i,q,m,v,c,d,j,s,n,w,e,rfl,rfl,h0,D,y,z,A,E,F,C,G⟩
def W7{h:Hp}{s:Int}{q:Int}{n:Option Addr}{p o:Nat}{t:M1}{k:Option Addr}{m l:Nat}{u:I0}{g:Option Addr}{j i:Nat}{v:I0}{e:Int}{a:Int}{b:Option Addr}{d c:Nat}{w:T0}{f:Int}(h0:H0 s)(x:H0 q)(y:T1.R h [.slice n p o] t)(z:J0.R h [.slice k m l] u)(A:J0.R h [.slice g j i] v)(C:H0 e)(D:H0 a)(E:N0.R h [.slice b d c] w)(F:H0 f):S4.R h [.int .i64 s,.int .i64 q,.slice n p o,.slice k m l,.slice g j i,.int .i64 e,.int .i64 a,.slice b d c,.int .i64 f] (s,q,t,u,v,(e,a,w),f) :=
 ⟨[.int .i64 s],[.int .i64 q,.slice n p o,.slice k m l,.slice g j i,.int .i64 e,.int .i64 a,.slice b d c,.int .i64 f],rfl,⟨rfl,h0⟩,⟨[.int .i64 q],[.slice n p o,.slice k m l,.slice g j i,.int .i64 e,.int .i64 a,.slice b d c,.int .i64 f],rfl,⟨rfl,x⟩,⟨[.slice n p o],[.slice k m l,.slice g j i,.int .i64 e,.int .i64 a,.slice b d c,.int .i64 f],rfl,y,⟨[.slice k m l],[.slice g j i,.int .i64 e,.int .i64 a,.slice b d c,.int .i64 f],rfl,z,⟨[.slice g j i],[.int .i64 e,.int .i64 a,.slice b d c,.int .i64 f],rfl,A,⟨[.int .i64 e,.int .i64 a,.slice b d c],[.int .i64 f],rfl,⟨[.int .i64 e],[.int .i64 a,.slice b d c],rfl,⟨rfl,C⟩,⟨[.int .i64 a],[.slice b d c],rfl,⟨rfl,D⟩,E⟩⟩,⟨rfl,F⟩⟩⟩⟩⟩⟩⟩
def d0r{h:Hp}{cs:List Value}{x:j6}{B:List Nat}(L:S4.W h cs x B):∃(a:Int) (b:Int) (f:Option Addr) (o k:Nat) (t:M1) (g:Option Addr) (p l:Nat) (u:I0) (i:Option Addr) (q m:Nat) (v:I0) (c:Int) (d:Int) (j:Option Addr) (s n:Nat) (w:T0) (e:Int) (y z A C:List Nat),cs = [.int .i64 a,.int .i64 b,.slice f o k,.slice g p l,.slice i q m,.int .i64 c,.int .i64 d,.slice j s n,.int .i64 e]/\x=(a,b,t,u,v,(c,d,w),e)/\B=([]++([]++(y++(z++(A++(([]++([]++C)) ++ []))))))/\H0 a/\H0 b/\T1.W h [.slice f o k] t y/\J0.W h [.slice g p l] u z/\J0.W h [.slice i q m] v A/\H0 c/\H0 d/\N0.W h [.slice j s n] w C/\H0 e:=by obtain⟨a,b,t,u,v,⟨c,d,w⟩,e⟩:=x;obtain⟨_,_,_,_,rfl,rfl,⟨⟨rfl,h0⟩,rfl⟩,⟨_,_,_,_,rfl,rfl,⟨⟨rfl,H⟩,rfl⟩,⟨_,_,_,_,rfl,rfl,D,⟨_,_,_,_,rfl,rfl,E,⟨_,_,_,_,rfl,rfl,F,⟨_,_,_,_,rfl,rfl,⟨_,_,_,_,rfl,rfl,⟨⟨rfl,I⟩,rfl⟩,⟨_,_,_,_,rfl,rfl,⟨⟨rfl,J⟩,rfl⟩,G⟩⟩,⟨⟨rfl,K⟩,rfl⟩⟩⟩⟩⟩⟩⟩:=L;obtain⟨f,o,k,rfl⟩:=Wp.slice_cell (T1.toR D);obtain⟨g,p,l,rfl⟩:=Wp.slice_cell (J0.toR E);obtain⟨i,q,m,rfl⟩:=Wp.slice_cell (J0.toR F);obtain⟨j,s,n,rfl⟩:=Wp.slice_cell (N0.toR G);exact⟨a,b,f,o,k,t,g,p,l,u,i,q,m,v,c,d,j,s,n,w,e,_,_,_,_,rfl,rfl,rfl,h0,H,D,E,F,I,J,G,K⟩
abbrev o01:Type:=List j6
abbrev J3:Wp o01:=Wp.slice S4
instance u0x:DecidableEq o01:=inferInstanceAs (DecidableEq (List j6))
abbrev T3:Type:=Int×o01
abbrev L04:Wp T3:=Wp.pair Wp.int J3
instance F0z:DecidableEq T3:=(@instDecidableEqProd _ _ (inferInstance:DecidableEq Int) u0x)
def x03{h:Hp}{cs:List Value}{x:T3}(g:L04.R h cs x):∃(a:Int) (b:Option Addr) (d c:Nat) (e:o01),cs = [.int .i64 a,.slice b d c]/\x=(a,e)/\H0 a/\J3.R h [.slice b d c] e:=by obtain⟨a,e⟩:=x;obtain⟨_,_,rfl,⟨rfl,h0⟩,f⟩:=g;obtain⟨b,d,c,rfl⟩:=Wp.slice_cell f;exact⟨a,b,d,c,e,rfl,rfl,h0,f⟩
def a04{h:Hp}{a:Int}{b:Option Addr}{d c:Nat}{e:o01}(h0:H0 a)(f:J3.R h [.slice b d c] e):L04.R h [.int .i64 a,.slice b d c] (a,e) :=
 ⟨[.int .i64 a],[.slice b d c],rfl,⟨rfl,h0⟩,f⟩
abbrev K0a:Type:=BA×j0
abbrev g00:Wp K0a:=Wp.pair Wp.str F1
instance x0A:DecidableEq K0a:=(@instDecidableEqProd _ _ (inferInstance:DecidableEq BA) y0v)
def a08{h:Hp}{cs:List Value}{x:K0a}(l:g00.R h cs x):∃(a:BA) (b:Int) (c:Int) (d:Option Addr) (f e:Nat) (g:T0),cs = [.string a,.int .i64 b,.int .i64 c,.slice d f e]/\x=(a,(b,c,g))/\a.size<=9223372036854775807/\H0 b/\H0 c/\N0.R h [.slice d f e] g:=by obtain⟨a,⟨b,c,g⟩⟩:=x;obtain⟨_,_,rfl,⟨rfl,h0⟩,⟨_,_,rfl,⟨rfl,j⟩,⟨_,_,rfl,⟨rfl,k⟩,i⟩⟩⟩:=l;obtain⟨d,f,e,rfl⟩:=Wp.slice_cell i;exact⟨a,b,c,d,f,e,g,rfl,rfl,h0,j,k,i⟩
def B08{h:Hp}{f:BA}{e:Int}{a:Int}{b:Option Addr}{d c:Nat}{g:T0}(h0:f.size<=9223372036854775807)(i:H0 e)(j:H0 a)(k:N0.R h [.slice b d c] g):g00.R h [.string f,.int .i64 e,.int .i64 a,.slice b d c] (f,(e,a,g)) :=
 ⟨[.string f],[.int .i64 e,.int .i64 a,.slice b d c],rfl,⟨rfl,h0⟩,⟨[.int .i64 e],[.int .i64 a,.slice b d c],rfl,⟨rfl,i⟩,⟨[.int .i64 a],[.slice b d c],rfl,⟨rfl,j⟩,k⟩⟩⟩
abbrev T5:Type:=List K0a
abbrev Z2:Wp T5:=Wp.slice g00
instance v0x:DecidableEq T5:=inferInstanceAs (DecidableEq (List K0a))
abbrev E3:Type:=Int×T5
abbrev c05:Wp E3:=Wp.pair Wp.int Z2
instance U0z:DecidableEq E3:=(@instDecidableEqProd _ _ (inferInstance:DecidableEq Int) v0x)
def s03{h:Hp}{cs:List Value}{x:E3}(g:c05.R h cs x):∃(a:Int) (b:Option Addr) (d c:Nat) (e:T5),cs = [.int .i64 a,.slice b d c]/\x=(a,e)/\H0 a/\Z2.R h [.slice b d c] e:=by obtain⟨a,e⟩:=x;obtain⟨_,_,rfl,⟨rfl,h0⟩,f⟩:=g;obtain⟨b,d,c,rfl⟩:=Wp.slice_cell f;exact⟨a,b,d,c,e,rfl,rfl,h0,f⟩
def u02{h:Hp}{a:Int}{b:Option Addr}{d c:Nat}{e:T5}(h0:H0 a)(f:Z2.R h [.slice b d c] e):c05.R h [.int .i64 a,.slice b d c] (a,e) :=
 ⟨[.int .i64 a],[.slice b d c],rfl,⟨rfl,h0⟩,f⟩
abbrev J01:Type:=List F6
abbrev o0n:Wp J01:=Wp.slice G6
instance y0A:DecidableEq J01:=inferInstanceAs (DecidableEq (List F6))
def Q0b(h:Hp):∃ cs,C1.R h cs (0,0,0):=⟨_,N1 oD oD oD⟩
def s0s(h:Hp):∃ cs,g00.R h cs (⟨#[]⟩,(0,0,[])):=⟨_,B08 oD oD oD (z09 C1 h)⟩
end Go.Proofs.YthakcafglempaaaGreat
