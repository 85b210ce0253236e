/- Texts of the claim, joined: The data types of the laws, as lists and tuples and others. -/
import Derived.Test.YtcpjomkcdlggaaaGreatHE
import Derived.Test.YtcpjomkcdlggaaaGreatChecked
namespace Go.Proofs.YtcpjomkcdlggaaaGreat
set_option linter.all false
open Go.H
open IntKind (i64)
set_option maxRecDepth 10000
def F0d:Nat->Nat->List UInt8->List UInt8
 |0,_,acc=>acc
 |f+1,n,acc=>if n=0 then acc else F0d f (n / 10) (UInt8.ofNat (48+n % 10)::acc)
theorem I0j:∀(f n:Nat) (acc:List UInt8),(F0d f n acc).length<=f+acc.length
 |0,n,acc=>by simp[F0d]
 |f+1,n,acc=>by
  simp only[F0d]
  split
  ·omega
  ·have:=I0j f (n / 10) (UInt8.ofNat (48+n % 10)::acc)
   simp only[lC]at this
   omega
abbrev O0:Type:=Int×Int×Int
abbrev J1:Wp O0:=Wp.pair Wp.int (Wp.pair Wp.int Wp.int)
instance v0z:DecidableEq O0:=(@instDecidableEqProd _ _ (inferInstance:DecidableEq Int) (@instDecidableEqProd _ _ (inferInstance:DecidableEq Int) (inferInstance:DecidableEq Int)))
def C2{h:Hp}{cs:List Value}{x:O0}(f:J1.R h cs x):∃(a:Int) (b:Int) (c:Int),cs = [.int .i64 a,.int .i64 b,.int .i64 c]/\x=(a,b,c)/\F0 a/\F0 b/\F0 c:=by
 obtain⟨a,b,c⟩:=x
 obtain⟨_,_,rfl,⟨rfl,h0⟩,⟨_,_,rfl,⟨rfl,d⟩,⟨rfl,e⟩⟩⟩:=f
 exact⟨a,b,c,rfl,rfl,h0,d,e⟩
def U1{h:Hp}{c:Int}{a:Int}{b:Int}(h0:F0 c)(d:F0 a)(e:F0 b):J1.R h [.int .i64 c,.int .i64 a,.int .i64 b] (c,a,b) :=
 ⟨[.int .i64 c],[.int .i64 a,.int .i64 b],rfl,⟨rfl,h0⟩,⟨[.int .i64 a],[.int .i64 b],rfl,⟨rfl,d⟩,⟨rfl,e⟩⟩⟩
def N0q{h:Hp}{c:Int}{a:Int}{b:Int}(h0:F0 c)(d:F0 a)(e:F0 b):J1.W h [.int .i64 c,.int .i64 a,.int .i64 b] (c,a,b) ([]++([] ++ [])) :=
 ⟨[.int .i64 c],[.int .i64 a,.int .i64 b],[],([] ++ []),rfl,rfl,⟨⟨rfl,h0⟩,rfl⟩,⟨[.int .i64 a],[.int .i64 b],[],[],rfl,rfl,⟨⟨rfl,d⟩,rfl⟩,⟨⟨rfl,e⟩,rfl⟩⟩⟩
abbrev S0:Type:=List O0
abbrev M0:Wp S0:=Wp.slice J1
instance Y0x:DecidableEq S0:=inferInstanceAs (DecidableEq (List O0))
abbrev z0:Type:=Int×Int×S0
abbrev L1:Wp z0:=Wp.pair Wp.int (Wp.pair Wp.int M0)
instance Z0x:DecidableEq z0:=(@instDecidableEqProd _ _ (inferInstance:DecidableEq Int) (@instDecidableEqProd _ _ (inferInstance:DecidableEq Int) Y0x))
def W0{h:Hp}{cs:List Value}{x:z0}(j:L1.R h cs x):∃(a:Int) (b:Int) (c:Option Addr) (e d:Nat) (f:S0),cs = [.int .i64 a,.int .i64 b,.slice c e d]/\x=(a,b,f)/\F0 a/\F0 b/\M0.R h [.slice c e d] f:=by
 obtain⟨a,b,f⟩:=x
 obtain⟨_,_,rfl,⟨rfl,h0⟩,⟨_,_,rfl,⟨rfl,i⟩,g⟩⟩:=j
 obtain⟨c,e,d,rfl⟩:=Wp.slice_cell g
 exact⟨a,b,c,e,d,f,rfl,rfl,h0,i,g⟩
def C0{h:Hp}{e:Int}{a:Int}{b:Option Addr}{d c:Nat}{f:S0}(h0:F0 e)(g:F0 a)(i:M0.R h [.slice b d c] f):L1.R h [.int .i64 e,.int .i64 a,.slice b d c] (e,a,f) :=
 ⟨[.int .i64 e],[.int .i64 a,.slice b d c],rfl,⟨rfl,h0⟩,⟨[.int .i64 a],[.slice b d c],rfl,⟨rfl,g⟩,i⟩⟩
abbrev K7:Type:=Int×Int
abbrev I6:Wp K7:=Wp.pair Wp.int Wp.int
instance w0z:DecidableEq K7:=(@instDecidableEqProd _ _ (inferInstance:DecidableEq Int) (inferInstance:DecidableEq Int))
def u06{h:Hp}{cs:List Value}{x:K7}(d:I6.R h cs x):∃(a:Int) (b:Int),cs = [.int .i64 a,.int .i64 b]/\x=(a,b)/\F0 a/\F0 b:=by
 obtain⟨a,b⟩:=x
 obtain⟨_,_,rfl,⟨rfl,h0⟩,⟨rfl,c⟩⟩:=d
 exact⟨a,b,rfl,rfl,h0,c⟩
def D3{h:Hp}{a:Int}{b:Int}(h0:F0 a)(c:F0 b):I6.R h [.int .i64 a,.int .i64 b] (a,b) :=
 ⟨[.int .i64 a],[.int .i64 b],rfl,⟨rfl,h0⟩,⟨rfl,c⟩⟩
abbrev H0:Type:=List Int
abbrev I0:Wp H0:=Wp.slice Wp.int
instance n0x:DecidableEq H0:=inferInstanceAs (DecidableEq (List Int))
abbrev O1:Type:=List H0
abbrev T1:Wp O1:=Wp.slice I0
instance a0y:DecidableEq O1:=inferInstanceAs (DecidableEq (List H0))
abbrev P1:Type:=Int×Int×O1×H0×H0×z0×Int
abbrev Y1:Wp P1:=Wp.pair Wp.int (Wp.pair Wp.int (Wp.pair T1 (Wp.pair I0 (Wp.pair I0 (Wp.pair L1 Wp.int)))))
instance m0z:DecidableEq P1:=(@instDecidableEqProd _ _ (inferInstance:DecidableEq Int) (@instDecidableEqProd _ _ (inferInstance:DecidableEq Int) (@instDecidableEqProd _ _ a0y (@instDecidableEqProd _ _ n0x (@instDecidableEqProd _ _ n0x (@instDecidableEqProd _ _ Z0x (inferInstance:DecidableEq Int)))))))
def Y2{h:Hp}{cs:List Value}{x:P1}(I:Y1.R h cs x):∃(a:Int) (b:Int) (f:Option Addr) (p k:Nat) (u:O1) (g:Option Addr) (q l:Nat) (v:H0) (i:Option Addr) (s m:Nat) (w:H0) (c:Int) (d:Int) (j:Option Addr) (t o:Nat) (y:S0) (e:Int),cs = [.int .i64 a,.int .i64 b,.slice f p k,.slice g q l,.slice i s m,.int .i64 c,.int .i64 d,.slice j t o,.int .i64 e]/\x=(a,b,u,v,w,(c,d,y),e)/\F0 a/\F0 b/\T1.R h [.slice f p k] u/\I0.R h [.slice g q l] v/\I0.R h [.slice i s m] w/\F0 c/\F0 d/\M0.R h [.slice j t o] y/\F0 e:=by
 obtain⟨a,b,u,v,w,⟨c,d,y⟩,e⟩:=x
 obtain⟨_,_,rfl,⟨rfl,h0⟩,⟨_,_,rfl,⟨rfl,E⟩,⟨_,_,rfl,z,⟨_,_,rfl,A,⟨_,_,rfl,C,⟨_,_,rfl,⟨_,_,rfl,⟨rfl,F⟩,⟨_,_,rfl,⟨rfl,G⟩,D⟩⟩,⟨rfl,H⟩⟩⟩⟩⟩⟩⟩:=I
 obtain⟨f,p,k,rfl⟩:=Wp.slice_cell z
 obtain⟨g,q,l,rfl⟩:=Wp.slice_cell A
 obtain⟨i,s,m,rfl⟩:=Wp.slice_cell C
 obtain⟨j,t,o,rfl⟩:=Wp.slice_cell D
 exact⟨a,b,f,p,k,u,g,q,l,v,i,s,m,w,c,d,j,t,o,y,e,rfl,rfl,h0,E,z,A,C,F,G,D,H⟩
def Q2{h:Hp}{t:Int}{s:Int}{o:Option Addr}{q p:Nat}{u:O1}{k:Option Addr}{m l:Nat}{v:H0}{g:Option Addr}{j i:Nat}{w:H0}{e:Int}{a:Int}{b:Option Addr}{d c:Nat}{x:S0}{f:Int}(h0:F0 t)(y:F0 s)(z:T1.R h [.slice o q p] u)(A:I0.R h [.slice k m l] v)(C:I0.R h [.slice g j i] w)(D:F0 e)(E:F0 a)(F:M0.R h [.slice b d c] x)(G:F0 f):Y1.R h [.int .i64 t,.int .i64 s,.slice o q p,.slice k m l,.slice g j i,.int .i64 e,.int .i64 a,.slice b d c,.int .i64 f] (t,s,u,v,w,(e,a,x),f) :=
 ⟨[.int .i64 t],[.int .i64 s,.slice o q p,.slice k m l,.slice g j i,.int .i64 e,.int .i64 a,.slice b d c,.int .i64 f],rfl,⟨rfl,h0⟩,⟨[.int .i64 s],[.slice o q p,.slice k m l,.slice g j i,.int .i64 e,.int .i64 a,.slice b d c,.int .i64 f],rfl,⟨rfl,y⟩,⟨[.slice o q p],[.slice k m l,.slice g j i,.int .i64 e,.int .i64 a,.slice b d c,.int .i64 f],rfl,z,⟨[.slice k m l],[.slice g j i,.int .i64 e,.int .i64 a,.slice b d c,.int .i64 f],rfl,A,⟨[.slice g j i],[.int .i64 e,.int .i64 a,.slice b d c,.int .i64 f],rfl,C,⟨[.int .i64 e,.int .i64 a,.slice b d c],[.int .i64 f],rfl,⟨[.int .i64 e],[.int .i64 a,.slice b d c],rfl,⟨rfl,D⟩,⟨[.int .i64 a],[.slice b d c],rfl,⟨rfl,E⟩,F⟩⟩,⟨rfl,G⟩⟩⟩⟩⟩⟩⟩
def O0q{h:Hp}{cs:List Value}{x:P1}{B:List Nat}(M:Y1.W h cs x B):∃(a:Int) (b:Int) (f:Option Addr) (p k:Nat) (u:O1) (g:Option Addr) (q l:Nat) (v:H0) (i:Option Addr) (s m:Nat) (w:H0) (c:Int) (d:Int) (j:Option Addr) (t o:Nat) (y:S0) (e:Int) (z A C D:List Nat),cs = [.int .i64 a,.int .i64 b,.slice f p k,.slice g q l,.slice i s m,.int .i64 c,.int .i64 d,.slice j t o,.int .i64 e]/\x=(a,b,u,v,w,(c,d,y),e)/\B=([]++([]++(z++(A++(C++(([]++([]++D)) ++ []))))))/\F0 a/\F0 b/\T1.W h [.slice f p k] u z/\I0.W h [.slice g q l] v A/\I0.W h [.slice i s m] w C/\F0 c/\F0 d/\M0.W h [.slice j t o] y D/\F0 e:=by
 obtain⟨a,b,u,v,w,⟨c,d,y⟩,e⟩:=x
 obtain⟨_,_,_,_,rfl,rfl,⟨⟨rfl,h0⟩,rfl⟩,⟨_,_,_,_,rfl,rfl,⟨⟨rfl,I⟩,rfl⟩,⟨_,_,_,_,rfl,rfl,E,⟨_,_,_,_,rfl,rfl,F,⟨_,_,_,_,rfl,rfl,G,⟨_,_,_,_,rfl,rfl,⟨_,_,_,_,rfl,rfl,⟨⟨rfl,J⟩,rfl⟩,⟨_,_,_,_,rfl,rfl,⟨⟨rfl,K⟩,rfl⟩,H⟩⟩,⟨⟨rfl,L⟩,rfl⟩⟩⟩⟩⟩⟩⟩:=M
 obtain⟨f,p,k,rfl⟩:=Wp.slice_cell (T1.toR E)
 obtain⟨g,q,l,rfl⟩:=Wp.slice_cell (I0.toR F)
 obtain⟨i,s,m,rfl⟩:=Wp.slice_cell (I0.toR G)
 obtain⟨j,t,o,rfl⟩:=Wp.slice_cell (M0.toR H)
 exact⟨a,b,f,p,k,u,g,q,l,v,i,s,m,w,c,d,j,t,o,y,e,_,_,_,_,rfl,rfl,rfl,h0,I,E,F,G,J,K,H,L⟩
abbrev R7:Type:=List P1
abbrev M3:Wp R7:=Wp.slice Y1
instance L0w:DecidableEq R7:=inferInstanceAs (DecidableEq (List P1))
abbrev C1:Type:=Int×R7
abbrev G3:Wp C1:=Wp.pair Wp.int M3
instance w0y:DecidableEq C1:=(@instDecidableEqProd _ _ (inferInstance:DecidableEq Int) L0w)
def I2{h:Hp}{cs:List Value}{x:C1}(g:G3.R h cs x):∃(a:Int) (b:Option Addr) (d c:Nat) (e:R7),cs = [.int .i64 a,.slice b d c]/\x=(a,e)/\F0 a/\M3.R h [.slice b d c] e:=by
 obtain⟨a,e⟩:=x
 obtain⟨_,_,rfl,⟨rfl,h0⟩,f⟩:=g
 obtain⟨b,d,c,rfl⟩:=Wp.slice_cell f
 exact⟨a,b,d,c,e,rfl,rfl,h0,f⟩
def Q1{h:Hp}{a:Int}{b:Option Addr}{d c:Nat}{e:R7}(h0:F0 a)(f:M3.R h [.slice b d c] e):G3.R h [.int .i64 a,.slice b d c] (a,e) :=
 ⟨[.int .i64 a],[.slice b d c],rfl,⟨rfl,h0⟩,f⟩
abbrev Y01:Type:=List K7
abbrev u0n:Wp Y01:=Wp.slice I6
instance n0z:DecidableEq Y01:=inferInstanceAs (DecidableEq (List K7))
def Y0a(h:Hp):∃ cs,J1.R h cs (0,0,0):=⟨_,U1 (by decide) (by decide) (by decide)⟩
def M0w(h:Hp):∃ cs,Y1.R h cs (0,0,[],[],[],(0,0,[]),0):=⟨_,Q2 (by decide) (by decide) (E0d I0 h) (E0d Wp.int h) (E0d Wp.int h) (by decide) (by decide) (E0d J1 h) (by decide)⟩
end Go.Proofs.YtcpjomkcdlggaaaGreat
