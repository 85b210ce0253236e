/- Texts of the claim, joined: The data types of the laws, as lists and tuples and others. -/
import Derived.Test.YthkpbcnhdhfifaaGreatHE
import Derived.Test.YthkpbcnhdhfifaaGreatChecked
namespace Go.Proofs.YthkpbcnhdhfifaaGreat
set_option linter.all false
open Go.H
open IntKind (i64)
set_option maxRecDepth 10000
def w0e:Nat->Nat->List UInt8->List UInt8
 |0,_,acc=>acc
 |f+1,n,acc=>if n=0 then acc else w0e f (n / 10) (UInt8.ofNat (48+n % 10)::acc)
theorem u0k:∀(f n:Nat) (acc:List UInt8),(w0e f n acc).length<=f+acc.length
 |0,n,acc=>by simp[w0e]
 |f+1,n,acc=>by
  simp only[w0e];split;·omega
  have:=u0k f (n / 10) (UInt8.ofNat (48+n % 10)::acc);simp only[lC]at this;omega
abbrev Q0:Type:=Int×Int×Int
abbrev E1:Wp Q0:=Wp.pair Wp.int (Wp.pair Wp.int Wp.int)
instance W0B:DecidableEq Q0:=(@instDecidableEqProd _ _ (inferInstance:DecidableEq Int) (@instDecidableEqProd _ _ (inferInstance:DecidableEq Int) (inferInstance:DecidableEq Int)))
def D2{h:Hp}{cs:List Value}{x:Q0}(f:E1.R h cs x):∃(a:Int) (b:Int) (c:Int),cs = [.int .i64 a,.int .i64 b,.int .i64 c]/\x=(a,b,c)/\I0 a/\I0 b/\I0 c:=by obtain⟨a,b,c⟩:=x;obtain⟨_,_,rfl,⟨rfl,h0⟩,⟨_,_,rfl,⟨rfl,d⟩,⟨rfl,e⟩⟩⟩:=f;exact⟨a,b,c,rfl,rfl,h0,d,e⟩
def Z1{h:Hp}{c:Int}{a:Int}{b:Int}(h0:I0 c)(d:I0 a)(e:I0 b):E1.R h [.int .i64 c,.int .i64 a,.int .i64 b] (c,a,b) :=
 ⟨[.int .i64 c],[.int .i64 a,.int .i64 b],rfl,⟨rfl,h0⟩,⟨[.int .i64 a],[.int .i64 b],rfl,⟨rfl,d⟩,⟨rfl,e⟩⟩⟩
def v0s{h:Hp}{c:Int}{a:Int}{b:Int}(h0:I0 c)(d:I0 a)(e:I0 b):E1.W h [.int .i64 c,.int .i64 a,.int .i64 b] (c,a,b) ([]++([] ++ [])) :=
 ⟨[.int .i64 c],[.int .i64 a,.int .i64 b],[],([] ++ []),rfl,rfl,⟨⟨rfl,h0⟩,rfl⟩,⟨[.int .i64 a],[.int .i64 b],[],[],rfl,rfl,⟨⟨rfl,d⟩,rfl⟩,⟨⟨rfl,e⟩,rfl⟩⟩⟩
abbrev T0:Type:=List Q0
abbrev M0:Wp T0:=Wp.slice E1
instance x0A:DecidableEq T0:=inferInstanceAs (DecidableEq (List Q0))
abbrev B0:Type:=Int×Int×T0
abbrev I1:Wp B0:=Wp.pair Wp.int (Wp.pair Wp.int M0)
instance y0A:DecidableEq B0:=(@instDecidableEqProd _ _ (inferInstance:DecidableEq Int) (@instDecidableEqProd _ _ (inferInstance:DecidableEq Int) x0A))
def Z0{h:Hp}{cs:List Value}{x:B0}(j:I1.R h cs x):∃(a:Int) (b:Int) (c:Option Addr) (e d:Nat) (f:T0),cs = [.int .i64 a,.int .i64 b,.slice c e d]/\x=(a,b,f)/\I0 a/\I0 b/\M0.R h [.slice c e d] f:=by obtain⟨a,b,f⟩:=x;obtain⟨_,_,rfl,⟨rfl,h0⟩,⟨_,_,rfl,⟨rfl,i⟩,g⟩⟩:=j;obtain⟨c,e,d,rfl⟩:=Wp.slice_cell g;exact⟨a,b,c,e,d,f,rfl,rfl,h0,i,g⟩
def C0{h:Hp}{e:Int}{a:Int}{b:Option Addr}{d c:Nat}{f:T0}(h0:I0 e)(g:I0 a)(i:M0.R h [.slice b d c] f):I1.R h [.int .i64 e,.int .i64 a,.slice b d c] (e,a,f) :=
 ⟨[.int .i64 e],[.int .i64 a,.slice b d c],rfl,⟨rfl,h0⟩,⟨[.int .i64 a],[.slice b d c],rfl,⟨rfl,g⟩,i⟩⟩
abbrev K6:Type:=Int×Int
abbrev L6:Wp K6:=Wp.pair Wp.int Wp.int
instance X0B:DecidableEq K6:=(@instDecidableEqProd _ _ (inferInstance:DecidableEq Int) (inferInstance:DecidableEq Int))
def L06{h:Hp}{cs:List Value}{x:K6}(d:L6.R h cs x):∃(a:Int) (b:Int),cs = [.int .i64 a,.int .i64 b]/\x=(a,b)/\I0 a/\I0 b:=by obtain⟨a,b⟩:=x;obtain⟨_,_,rfl,⟨rfl,h0⟩,⟨rfl,c⟩⟩:=d;exact⟨a,b,rfl,rfl,h0,c⟩
def E3{h:Hp}{a:Int}{b:Int}(h0:I0 a)(c:I0 b):L6.R h [.int .i64 a,.int .i64 b] (a,b) :=
 ⟨[.int .i64 a],[.int .i64 b],rfl,⟨rfl,h0⟩,⟨rfl,c⟩⟩
abbrev J0:Type:=List Int
abbrev K0:Wp J0:=Wp.slice Wp.int
instance G0z:DecidableEq J0:=inferInstanceAs (DecidableEq (List Int))
abbrev K1:Type:=List J0
abbrev Q1:Wp K1:=Wp.slice K0
instance z0A:DecidableEq K1:=inferInstanceAs (DecidableEq (List J0))
abbrev L2:Type:=Int×Int×K1×J0×J0×B0×Int
abbrev J5:Wp L2:=Wp.pair Wp.int (Wp.pair Wp.int (Wp.pair Q1 (Wp.pair K0 (Wp.pair K0 (Wp.pair I1 Wp.int)))))
instance O0B:DecidableEq L2:=(@instDecidableEqProd _ _ (inferInstance:DecidableEq Int) (@instDecidableEqProd _ _ (inferInstance:DecidableEq Int) (@instDecidableEqProd _ _ z0A (@instDecidableEqProd _ _ G0z (@instDecidableEqProd _ _ G0z (@instDecidableEqProd _ _ y0A (inferInstance:DecidableEq Int)))))))
def B7{h:Hp}{cs:List Value}{x:L2}(H:J5.R h cs x):∃(a:Int) (b:Int) (f:Option Addr) (o k:Nat) (t:K1) (g:Option Addr) (p l:Nat) (u:J0) (i:Option Addr) (q m:Nat) (v:J0) (c:Int) (d:Int) (j:Option Addr) (s n:Nat) (w:T0) (e:Int),cs = [.int .i64 a,.int .i64 b,.slice f o k,.slice g p l,.slice i q m,.int .i64 c,.int .i64 d,.slice j s n,.int .i64 e]/\x=(a,b,t,u,v,(c,d,w),e)/\I0 a/\I0 b/\Q1.R h [.slice f o k] t/\K0.R h [.slice g p l] u/\K0.R h [.slice i q m] v/\I0 c/\I0 d/\M0.R h [.slice j s n] w/\I0 e:=by obtain⟨a,b,t,u,v,⟨c,d,w⟩,e⟩:=x;obtain⟨_,_,rfl,⟨rfl,h0⟩,⟨_,_,rfl,⟨rfl,D⟩,⟨_,_,rfl,y,⟨_,_,rfl,z,⟨_,_,rfl,A,⟨_,_,rfl,⟨_,_,rfl,⟨rfl,E⟩,⟨_,_,rfl,⟨rfl,F⟩,C⟩⟩,⟨rfl,G⟩⟩⟩⟩⟩⟩⟩:=H;obtain⟨f,o,k,rfl⟩:=Wp.slice_cell y;obtain⟨g,p,l,rfl⟩:=Wp.slice_cell z;obtain⟨i,q,m,rfl⟩:=Wp.slice_cell A;obtain⟨j,s,n,rfl⟩:=Wp.slice_cell C;exact⟨a,b,f,o,k,t,g,p,l,u,i,q,m,v,c,d,j,s,n,w,e,rfl,rfl,h0,D,y,z,A,E,F,C,G⟩
def A3{h:Hp}{s:Int}{q:Int}{n:Option Addr}{p o:Nat}{t:K1}{k:Option Addr}{m l:Nat}{u:J0}{g:Option Addr}{j i:Nat}{v:J0}{e:Int}{a:Int}{b:Option Addr}{d c:Nat}{w:T0}{f:Int}(h0:I0 s)(x:I0 q)(y:Q1.R h [.slice n p o] t)(z:K0.R h [.slice k m l] u)(A:K0.R h [.slice g j i] v)(C:I0 e)(D:I0 a)(E:M0.R h [.slice b d c] w)(F:I0 f):J5.R h [.int .i64 s,.int .i64 q,.slice n p o,.slice k m l,.slice g j i,.int .i64 e,.int .i64 a,.slice b d c,.int .i64 f] (s,q,t,u,v,(e,a,w),f) :=
 ⟨[.int .i64 s],[.int .i64 q,.slice n p o,.slice k m l,.slice g j i,.int .i64 e,.int .i64 a,.slice b d c,.int .i64 f],rfl,⟨rfl,h0⟩,⟨[.int .i64 q],[.slice n p o,.slice k m l,.slice g j i,.int .i64 e,.int .i64 a,.slice b d c,.int .i64 f],rfl,⟨rfl,x⟩,⟨[.slice n p o],[.slice k m l,.slice g j i,.int .i64 e,.int .i64 a,.slice b d c,.int .i64 f],rfl,y,⟨[.slice k m l],[.slice g j i,.int .i64 e,.int .i64 a,.slice b d c,.int .i64 f],rfl,z,⟨[.slice g j i],[.int .i64 e,.int .i64 a,.slice b d c,.int .i64 f],rfl,A,⟨[.int .i64 e,.int .i64 a,.slice b d c],[.int .i64 f],rfl,⟨[.int .i64 e],[.int .i64 a,.slice b d c],rfl,⟨rfl,C⟩,⟨[.int .i64 a],[.slice b d c],rfl,⟨rfl,D⟩,E⟩⟩,⟨rfl,F⟩⟩⟩⟩⟩⟩⟩
def w0s{h:Hp}{cs:List Value}{x:L2}{B:List Nat}(L:J5.W h cs x B):∃(a:Int) (b:Int) (f:Option Addr) (o k:Nat) (t:K1) (g:Option Addr) (p l:Nat) (u:J0) (i:Option Addr) (q m:Nat) (v:J0) (c:Int) (d:Int) (j:Option Addr) (s n:Nat) (w:T0) (e:Int) (y z A C:List Nat),cs = [.int .i64 a,.int .i64 b,.slice f o k,.slice g p l,.slice i q m,.int .i64 c,.int .i64 d,.slice j s n,.int .i64 e]/\x=(a,b,t,u,v,(c,d,w),e)/\B=([]++([]++(y++(z++(A++(([]++([]++C)) ++ []))))))/\I0 a/\I0 b/\Q1.W h [.slice f o k] t y/\K0.W h [.slice g p l] u z/\K0.W h [.slice i q m] v A/\I0 c/\I0 d/\M0.W h [.slice j s n] w C/\I0 e:=by obtain⟨a,b,t,u,v,⟨c,d,w⟩,e⟩:=x;obtain⟨_,_,_,_,rfl,rfl,⟨⟨rfl,h0⟩,rfl⟩,⟨_,_,_,_,rfl,rfl,⟨⟨rfl,H⟩,rfl⟩,⟨_,_,_,_,rfl,rfl,D,⟨_,_,_,_,rfl,rfl,E,⟨_,_,_,_,rfl,rfl,F,⟨_,_,_,_,rfl,rfl,⟨_,_,_,_,rfl,rfl,⟨⟨rfl,I⟩,rfl⟩,⟨_,_,_,_,rfl,rfl,⟨⟨rfl,J⟩,rfl⟩,G⟩⟩,⟨⟨rfl,K⟩,rfl⟩⟩⟩⟩⟩⟩⟩:=L;obtain⟨f,o,k,rfl⟩:=Wp.slice_cell (Q1.toR D);obtain⟨g,p,l,rfl⟩:=Wp.slice_cell (K0.toR E);obtain⟨i,q,m,rfl⟩:=Wp.slice_cell (K0.toR F);obtain⟨j,s,n,rfl⟩:=Wp.slice_cell (M0.toR G);exact⟨a,b,f,o,k,t,g,p,l,u,i,q,m,v,c,d,j,s,n,w,e,_,_,_,_,rfl,rfl,rfl,h0,H,D,E,F,I,J,G,K⟩
abbrev Z0t:Type:=List L2
instance V0y:DecidableEq Z0t:=inferInstanceAs (DecidableEq (List L2))
abbrev U0d:Type:=Int×Z0t
instance X0A:DecidableEq U0d:=(@instDecidableEqProd _ _ (inferInstance:DecidableEq Int) V0y)
abbrev n02:Type:=List K6
abbrev G0o:Wp n02:=Wp.slice L6
instance P0B:DecidableEq n02:=inferInstanceAs (DecidableEq (List K6))
def A0b(h:Hp):∃ cs,E1.R h cs (0,0,0):=⟨_,Z1 oD oD oD⟩
end Go.Proofs.YthkpbcnhdhfifaaGreat
