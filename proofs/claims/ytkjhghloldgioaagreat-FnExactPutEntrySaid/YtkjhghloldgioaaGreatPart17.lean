/- Texts of the claim, joined: The data types of the laws, as lists and tuples and others. -/
import Derived.Test.YtkjhghloldgioaaGreatHE
import Derived.Test.YtkjhghloldgioaaGreatChecked
namespace Go.Proofs.YtkjhghloldgioaaGreat
open Go.H
set_option linter.unusedVariables false
set_option linter.unusedSimpArgs false
set_option maxRecDepth 10000
def y07:Nat->Nat->List UInt8->List UInt8
 |0,_,acc=>acc
 |f+1,n,acc=>if n=0 then acc else y07 f (n / 10) (UInt8.ofNat (48+n % 10)::acc)
theorem d0b:∀(f n:Nat) (acc:List UInt8),(y07 f n acc).length<=f+acc.length
 |0,n,acc=>by simp[y07]
 |f+1,n,acc=>by
  simp only[y07]
  split
  ·omega
  ·have:=d0b f (n / 10) (UInt8.ofNat (48+n % 10)::acc)
   simp only[List.length_cons]at this
   omega
theorem B0f{x:Int}(a : -9223372036854775808<=x)(b:x<=9223372036854775807):Q0 x:=⟨a,b⟩
def D7(k:Int):ByteArray:=if k<=0 then⟨#[109,48]⟩else⟨(109::y07 20 k.toNat []).toArray⟩
theorem f0c(k:Int):(D7 k).size<=9223372036854775807:=by
 unfold D7
 split
 ·decide
 ·have:=d0b 20 k.toNat []
  show(109::y07 20 k.toNat []).toArray.size<=_
  simp only[List.size_toArray,List.length_cons]
  simp only[List.length_nil]at this
  omega
abbrev C0:Type:=Int×Int×Int
abbrev D1:Wp C0:=Wp.pair Wp.int (Wp.pair Wp.int Wp.int)
instance N0i:DecidableEq C0:=(@instDecidableEqProd _ _ (inferInstance:DecidableEq Int) (@instDecidableEqProd _ _ (inferInstance:DecidableEq Int) (inferInstance:DecidableEq Int)))
def s0h(x:C0):Nat:=0
def j4(x:C0):Nat:=1+1+1
def h9(x:C0)(k:Int):C0:=(k,(k+(1:Nat)),(k+(1+1:Nat)))
theorem H1{h:Hp}{cs:List Value}{x:C0}(f:D1.R h cs x):∃(a:Int) (b:Int) (c:Int),cs = [.int .i64 a,.int .i64 b,.int .i64 c]/\x=(a,b,c)/\Q0 a/\Q0 b/\Q0 c:=by
 obtain⟨a,b,c⟩:=x
 obtain⟨_,_,rfl,⟨rfl,h0⟩,⟨_,_,rfl,⟨rfl,d⟩,⟨rfl,e⟩⟩⟩:=f
 exact⟨a,b,c,rfl,rfl,h0,d,e⟩
theorem M1{h:Hp}{c:Int}{a:Int}{b:Int}(h0:Q0 c)(d:Q0 a)(e:Q0 b):D1.R h [.int .i64 c,.int .i64 a,.int .i64 b] (c,a,b) :=
 ⟨[.int .i64 c],[.int .i64 a,.int .i64 b],rfl,⟨rfl,h0⟩,⟨[.int .i64 a],[.int .i64 b],rfl,⟨rfl,d⟩,⟨rfl,e⟩⟩⟩
theorem I05{h:Hp}{cs:List Value}{x:C0}{B:List Nat}(f:D1.W h cs x B):∃(a:Int) (b:Int) (c:Int),cs = [.int .i64 a,.int .i64 b,.int .i64 c]/\x=(a,b,c)/\B=([]++([] ++ []))/\Q0 a/\Q0 b/\Q0 c:=by
 obtain⟨a,b,c⟩:=x
 obtain⟨_,_,_,_,rfl,rfl,⟨⟨rfl,h0⟩,rfl⟩,⟨_,_,_,_,rfl,rfl,⟨⟨rfl,d⟩,rfl⟩,⟨⟨rfl,e⟩,rfl⟩⟩⟩:=f
 exact⟨a,b,c,rfl,rfl,rfl,h0,d,e⟩
theorem Y01{h:Hp}{c:Int}{a:Int}{b:Int}(h0:Q0 c)(d:Q0 a)(e:Q0 b):D1.W h [.int .i64 c,.int .i64 a,.int .i64 b] (c,a,b) ([]++([] ++ [])) :=
 ⟨[.int .i64 c],[.int .i64 a,.int .i64 b],[],([] ++ []),rfl,rfl,⟨⟨rfl,h0⟩,rfl⟩,⟨[.int .i64 a],[.int .i64 b],[],[],rfl,rfl,⟨⟨rfl,d⟩,rfl⟩,⟨⟨rfl,e⟩,rfl⟩⟩⟩
abbrev K0:Type:=List C0
abbrev I0:Wp K0:=Wp.slice D1
instance T0h:DecidableEq K0:=inferInstanceAs (DecidableEq (List C0))
def I8(x:K0):Nat:=x.length
def R7(x:K0):Nat:=c4 j4 x
def H7(x:K0)(k:Int):K0:=mkL h9 j4 x k
abbrev j0:Type:=Int×Int×K0
abbrev C1:Wp j0:=Wp.pair Wp.int (Wp.pair Wp.int I0)
instance U0h:DecidableEq j0:=(@instDecidableEqProd _ _ (inferInstance:DecidableEq Int) (@instDecidableEqProd _ _ (inferInstance:DecidableEq Int) T0h))
def Z5(x:j0):Nat:=I8 x.2.2
def F9(x:j0):Nat:=1+1+R7 x.2.2
def N09(x:j0)(k:Int):j0:=(k,(k+(1:Nat)),H7 x.2.2 (k+(1+1:Nat)))
def Z01(x:j0):Nat:=R7 x.2.2
def O09(x:j0)(k:Int):j0:=(x.1,x.2.1,H7 x.2.2 k)
theorem D0{h:Hp}{cs:List Value}{x:j0}(j:C1.R h cs x):∃(a:Int) (b:Int) (c:Option Addr) (e d:Nat) (f:K0),cs = [.int .i64 a,.int .i64 b,.slice c e d]/\x=(a,b,f)/\Q0 a/\Q0 b/\I0.R h [.slice c e d] f:=by
 obtain⟨a,b,f⟩:=x
 obtain⟨_,_,rfl,⟨rfl,h0⟩,⟨_,_,rfl,⟨rfl,i⟩,g⟩⟩:=j
 obtain⟨c,e,d,rfl⟩:=Wp.slice_cell g
 exact⟨a,b,c,e,d,f,rfl,rfl,h0,i,g⟩
theorem B0{h:Hp}{e:Int}{a:Int}{b:Option Addr}{d c:Nat}{f:K0}(h0:Q0 e)(g:Q0 a)(i:I0.R h [.slice b d c] f):C1.R h [.int .i64 e,.int .i64 a,.slice b d c] (e,a,f) :=
 ⟨[.int .i64 e],[.int .i64 a,.slice b d c],rfl,⟨rfl,h0⟩,⟨[.int .i64 a],[.slice b d c],rfl,⟨rfl,g⟩,i⟩⟩
theorem g0c{h:Hp}{cs:List Value}{x:j0}{B:List Nat}(k:C1.W h cs x B):∃(a:Int) (b:Int) (c:Option Addr) (e d:Nat) (f:K0) (g:List Nat),cs = [.int .i64 a,.int .i64 b,.slice c e d]/\x=(a,b,f)/\B=([]++([]++g))/\Q0 a/\Q0 b/\I0.W h [.slice c e d] f g:=by
 obtain⟨a,b,f⟩:=x
 obtain⟨_,_,_,_,rfl,rfl,⟨⟨rfl,h0⟩,rfl⟩,⟨_,_,_,_,rfl,rfl,⟨⟨rfl,j⟩,rfl⟩,i⟩⟩:=k
 obtain⟨c,e,d,rfl⟩:=Wp.slice_cell (I0.toR i)
 exact⟨a,b,c,e,d,f,_,rfl,rfl,rfl,h0,j,i⟩
abbrev S0:Type:=List Int
abbrev F5:Wp S0:=Wp.slice Wp.int
instance O0i:DecidableEq S0:=inferInstanceAs (DecidableEq (List Int))
abbrev P09:Type:=List S0
abbrev V0h:Wp P09:=Wp.slice F5
instance J0i:DecidableEq P09:=inferInstanceAs (DecidableEq (List S0))
abbrev l4:Type:=ByteArray×j0
abbrev H0:Wp l4:=Wp.pair Wp.str C1
instance K0i:DecidableEq l4:=(@instDecidableEqProd _ _ (inferInstance:DecidableEq ByteArray) U0h)
def a6(x:l4):Nat:=x.1.size+Z5 x.2
def U1(x:l4):Nat:=1+F9 x.2
def d7(x:l4)(k:Int):l4:=(D7 k,N09 x.2 (k+(1:Nat)))
theorem Y1{h:Hp}{cs:List Value}{x:l4}(l:H0.R h cs x):∃(a:ByteArray) (b:Int) (c:Int) (d:Option Addr) (f e:Nat) (g:K0),cs = [.string a,.int .i64 b,.int .i64 c,.slice d f e]/\x=(a,(b,c,g))/\a.size<=9223372036854775807/\Q0 b/\Q0 c/\I0.R h [.slice d f e] g:=by
 obtain⟨a,⟨b,c,g⟩⟩:=x
 obtain⟨_,_,rfl,⟨rfl,h0⟩,⟨_,_,rfl,⟨rfl,j⟩,⟨_,_,rfl,⟨rfl,k⟩,i⟩⟩⟩:=l
 obtain⟨d,f,e,rfl⟩:=Wp.slice_cell i
 exact⟨a,b,c,d,f,e,g,rfl,rfl,h0,j,k,i⟩
theorem M2{h:Hp}{f:ByteArray}{e:Int}{a:Int}{b:Option Addr}{d c:Nat}{g:K0}(h0:f.size<=9223372036854775807)(i:Q0 e)(j:Q0 a)(k:I0.R h [.slice b d c] g):H0.R h [.string f,.int .i64 e,.int .i64 a,.slice b d c] (f,(e,a,g)) :=
 ⟨[.string f],[.int .i64 e,.int .i64 a,.slice b d c],rfl,⟨rfl,h0⟩,⟨[.int .i64 e],[.int .i64 a,.slice b d c],rfl,⟨rfl,i⟩,⟨[.int .i64 a],[.slice b d c],rfl,⟨rfl,j⟩,k⟩⟩⟩
theorem a02{h:Hp}{cs:List Value}{x:l4}{B:List Nat}(m:H0.W h cs x B):∃(a:ByteArray) (b:Int) (c:Int) (d:Option Addr) (f e:Nat) (g:K0) (i:List Nat),cs = [.string a,.int .i64 b,.int .i64 c,.slice d f e]/\x=(a,(b,c,g))/\B=([]++([]++([]++i)))/\a.size<=9223372036854775807/\Q0 b/\Q0 c/\I0.W h [.slice d f e] g i:=by
 obtain⟨a,⟨b,c,g⟩⟩:=x
 obtain⟨_,_,_,_,rfl,rfl,⟨⟨rfl,h0⟩,rfl⟩,⟨_,_,_,_,rfl,rfl,⟨⟨rfl,k⟩,rfl⟩,⟨_,_,_,_,rfl,rfl,⟨⟨rfl,l⟩,rfl⟩,j⟩⟩⟩:=m
 obtain⟨d,f,e,rfl⟩:=Wp.slice_cell (I0.toR j)
 exact⟨a,b,c,d,f,e,g,_,rfl,rfl,rfl,h0,k,l,j⟩
theorem W00{h:Hp}{g:ByteArray}{f:Int}{a:Int}{c:Option Addr}{e d:Nat}{i:K0}{b:List Nat}(h0:g.size<=9223372036854775807)(j:Q0 f)(k:Q0 a)(l:I0.W h [.slice c e d] i b):H0.W h [.string g,.int .i64 f,.int .i64 a,.slice c e d] (g,(f,a,i)) ([]++([]++([]++b))) :=
 ⟨[.string g],[.int .i64 f,.int .i64 a,.slice c e d],[],([]++([]++b)),rfl,rfl,⟨⟨rfl,h0⟩,rfl⟩,⟨[.int .i64 f],[.int .i64 a,.slice c e d],[],([]++b),rfl,rfl,⟨⟨rfl,j⟩,rfl⟩,⟨[.int .i64 a],[.slice c e d],[],b,rfl,rfl,⟨⟨rfl,k⟩,rfl⟩,l⟩⟩⟩
abbrev N0:Type:=List l4
abbrev J2:Wp N0:=Wp.slice H0
instance R0g:DecidableEq N0:=inferInstanceAs (DecidableEq (List l4))
def p8(x:N0):Nat:=x.length+c4 a6 x
def G9(x:N0):Nat:=c4 U1 x
def B00(x:N0)(k:Int):N0:=mkL d7 U1 x k
abbrev T0:Type:=Int×N0
abbrev O0:Wp T0:=Wp.pair Wp.int J2
instance y0i:DecidableEq T0:=(@instDecidableEqProd _ _ (inferInstance:DecidableEq Int) R0g)
def p6(x:T0):Nat:=p8 x.2
def O4(x:T0):Nat:=G9 x.2
def C01(x:T0)(k:Int):T0:=(x.1,B00 x.2 k)
theorem V1{h:Hp}{cs:List Value}{x:T0}(g:O0.R h cs x):∃(a:Int) (b:Option Addr) (d c:Nat) (e:N0),cs = [.int .i64 a,.slice b d c]/\x=(a,e)/\Q0 a/\J2.R h [.slice b d c] e:=by
 obtain⟨a,e⟩:=x
 obtain⟨_,_,rfl,⟨rfl,h0⟩,f⟩:=g
 obtain⟨b,d,c,rfl⟩:=Wp.slice_cell f
 exact⟨a,b,d,c,e,rfl,rfl,h0,f⟩
theorem T2{h:Hp}{a:Int}{b:Option Addr}{d c:Nat}{e:N0}(h0:Q0 a)(f:J2.R h [.slice b d c] e):O0.R h [.int .i64 a,.slice b d c] (a,e) :=
 ⟨[.int .i64 a],[.slice b d c],rfl,⟨rfl,h0⟩,f⟩
theorem Q09{h:Hp}{cs:List Value}{x:T0}{B:List Nat}(i:O0.W h cs x B):∃(a:Int) (b:Option Addr) (d c:Nat) (e:N0) (f:List Nat),cs = [.int .i64 a,.slice b d c]/\x=(a,e)/\B=([]++f)/\Q0 a/\J2.W h [.slice b d c] e f:=by
 obtain⟨a,e⟩:=x
 obtain⟨_,_,_,_,rfl,rfl,⟨⟨rfl,h0⟩,rfl⟩,g⟩:=i
 obtain⟨b,d,c,rfl⟩:=Wp.slice_cell (J2.toR g)
 exact⟨a,b,d,c,e,_,rfl,rfl,rfl,h0,g⟩
theorem S0g(x:C0):j4 x<=3:=by
 simp only[j4]
 omega
theorem i0d(x:K0):R7 x<=16*I8 x:=c0b (c:=j4) (λx=>by have:=S0g x;omega) x
theorem C0f(x:j0):F9 x<=2+16*Z5 x:=by
 have:=i0d x.2.2
 simp only[F9,Z5]
 omega
theorem T0g(x:j0):Z01 x<=16*Z5 x:=by
 have:=i0d x.2.2
 simp only[Z01,Z5]
 omega
theorem D0f(x:l4):U1 x<=3+16*a6 x:=by
 have:=C0f x.2
 simp only[U1,a6]
 omega
theorem E0f(x:N0):G9 x<=16*p8 x:=e0d (c:=U1) (m:=a6) (λx=>by have:=D0f x;omega) x
theorem p0e(x:T0):O4 x<=16*p6 x:=by
 have:=E0f x.2
 simp only[O4,p6]
 omega
theorem h0c(h:Hp):∃ cs,D1.R h cs (0,0,0):=⟨_,M1 (by decide) (by decide) (by decide)⟩
theorem R09(h:Hp):∃ cs,H0.R h cs (⟨#[]⟩,(0,0,[])):=⟨_,M2 (by decide) (by decide) (by decide) (x0i D1 h)⟩
theorem H0e(h:Hp)(a:Option Addr)(n c:Nat)(xs:K0)(left:Int)(f:I0.R h [.slice a n c] xs)(g:0<=left/\left<=1048576):
  Tr Tryz.prog 102 #[.slice a n c,.int .i64 left] h λv e=>v = .int .i64 (szR left (I8 xs))/\e=h:=by
 obtain⟨rfl,i⟩:=Sl.len f
 have d:IntKind.i64.wrap (left-(xs.length:Int))=left-xs.length:=w64 (by omega) (by omega)
 refine R3 (args:=[.slice a xs.length c,.int .i64 left]) (fn:=Tryz.f102) rfl ?_
 refine aI (λb=>?_) (λb=>?_)
 ·refine aI ?_ rfl
  simp[d]at b
  rw[I8,d0c (by omega)]
  rfl
 ·refine aI ?_ rfl
  simp[d]at b
  rw[I8,e0c (by omega)]
  exact congrArg (Value.int .i64) d
theorem h09(h:Hp)(cs:List Value)(x:j0)(left:Int)(k:C1.R h cs x)(f:0<=left/\left<=1048576):
  Tr Tryz.prog 41 #[.agg cs.toArray,.int .i64 left] h λv i=>v = .int .i64 (szR left (Z5 x))/\i=h:=by
 obtain⟨m,n,d,g,e,b,rfl,rfl,h0,o,j⟩:=D0 k
 refine R3 (args:=[.agg #[.int .i64 m,.int .i64 n,.slice d g e],.int .i64 left]) (fn:=Tryz.f41) rfl ?_
 refine Tr.val (H0e h d g e b (left) j f) ?_
 refine aI (λc=>?_) (λc=>?_)
 ·refine aI ?_ rfl
  rw[Z5,K04 (left:=left) (a:=((I8 b:Nat):Int)) (by simpa using c) f.1 (by simp only[];omega)]
  rfl
 have l:0<=szR left ((I8 b:Nat):Int):=by simpa using c
 have p:0<=szR left ((I8 b:Nat):Int)/\szR left ((I8 b:Nat):Int)<=1048576:=by
  have:=b04 l
  omega
 exact aI rfl rfl
theorem I0e(h:Hp)(cs:List Value)(x:l4)(left:Int)(w:H0.R h cs x)(t:0<=left/\left<=1048576):
  Tr Tryz.prog 237 #[.agg cs.toArray,.int .i64 left] h λv o=>v = .int .i64 (szR left (a6 x))/\o=h:=by
 obtain⟨a,b,c,l,n,m,d,rfl,rfl,h0,p,q,s⟩:=Y1 w
 refine R3 (args:=[.agg #[.string a,.int .i64 b,.int .i64 c,.slice l n m],.int .i64 left]) (fn:=Tryz.f237) rfl ?_
 have i:IntKind.i64.wrap (left-(a.size:Int))=left-a.size:=w64 (by omega) (by omega)
 refine aI (λe=>?_) (λe=>?_)
 ·simp[i]at e
  refine aI ?_ rfl
  rw[a6,d0c (by simp only[];omega)]
  rfl
 simp[i]at e
 have f:szR left ((a.size:Nat):Int)=left-a.size:=e0c (by omega)
 have j:0<=szR left ((a.size:Nat):Int):=by rw[f];omega
 have f:szR left ((a.size:Nat):Int)=IntKind.i64.wrap (left-(a.size:Int)):=by rw[i];exact f
 have u:0<=IntKind.i64.wrap (left-(a.size:Int))/\IntKind.i64.wrap (left-(a.size:Int))<=1048576:=by
  rw[←f]
  have:=b04 j
  omega
 refine Tr.val (h09 h [.int .i64 b,.int .i64 c,.slice l n m] (b,c,d) (IntKind.i64.wrap (left-(a.size:Int))) (B0 p q s) u) ?_
 refine aI (λe=>?_) (λe=>?_)
 ·refine aI ?_ rfl
  have g:szR (IntKind.i64.wrap (left-(a.size:Int))) ((Z5 (b,c,d):Nat):Int)<0:=by simpa using e
  rw[←f,K09 j (by omega) (by omega)]at g
  rw[a6,K04 g t.1 (by simp only[];omega)]
  rfl
 have g:0<=szR (IntKind.i64.wrap (left-(a.size:Int))) ((Z5 (b,c,d):Nat):Int):=by simpa using e
 have k:szR left ((a.size+Z5 (b,c,d):Nat):Int)=szR (IntKind.i64.wrap (left-(a.size:Int))) ((Z5 (b,c,d):Nat):Int):=by rw[←f,K09 j (by omega) (by omega)];congr 1
 have y:0<=szR left ((a.size+Z5 (b,c,d):Nat):Int):=by rw[k];exact g
 clear g
 have z:0<=szR (IntKind.i64.wrap (left-(a.size:Int))) ((Z5 (b,c,d):Nat):Int)/\szR (IntKind.i64.wrap (left-(a.size:Int))) ((Z5 (b,c,d):Nat):Int)<=1048576:=by
  rw[←k]
  have:=b04 y
  omega
 exact aI (congrArg (Value.int .i64) (k.symm.trans (by rw[a6]))) rfl
theorem A0c(h:Hp)(a:Option Addr)(n c:Nat)(xs:N0)(left:Int)(u:J2.R h [.slice a n c] xs)(G:0<=left/\left<=1048576):
  Tr Tryz.prog 128 #[.slice a n c,.int .i64 left] h λv d=>v = .int .i64 (szR left (p8 xs))/\d=h:=by
 obtain⟨rfl,H⟩:=Sl.len u
 have i:IntKind.i64.wrap (left-(xs.length:Int))=left-xs.length:=w64 (by omega) (by omega)
 refine R3 (args:=[.slice a xs.length c,.int .i64 left]) (fn:=Tryz.f128) rfl ?_
 refine aI (λe=>?_) (λe=>?_)
 ·refine aI ?_ rfl
  simp[i]at e
  rw[p8,d0c (by omega)]
  rfl
 simp[i]at e
 refine eX { vars:=[1,5],boxes:=[],owns:=[] } (eX (λvs _ d=>∃ k:Nat,k<=xs.length/\0<=szR left ((xs.length+c4 a6 (xs.take k):Nat):Int)/\vs = [.int .i64 (szR left ((xs.length+c4 a6 (xs.take k):Nat):Int)),.int .i64 k]/\d=h) (eX (λvs _=>match vs with | [_,.int _ j]=>((xs.length:Int)-j).toNat|_=>0) ?_))
 have h0:szR left ((xs.length+c4 a6 (xs.take 0):Nat):Int)=left-xs.length:=by rw[e0c (by simp[c4];omega)];simp[c4]
 refine aI ⟨0,by omega,by omega,by rw[h0];exact congrArg (λx=>[Value.int .i64 x,Value.int .i64 0]) i,rfl⟩ ?_
 rintro _ _ O ⟨k,q,t,⟨⟩,rfl⟩
 obtain⟨P,Q⟩:=b04 t
 refine aI (λf=>?_) (λf=>?_)
 ·have s:k<xs.length:=by simpa using f
  obtain⟨x,p⟩:=d9 s
  obtain⟨z,N,B,L⟩:=Sl.get u p (by decide)
  have K:=Z2 s H
  obtain⟨l,m,o,y,M,A,w,rfl,rfl,C,D,E,F⟩:=Y1 L
  refine aI z (eX _ (aI B ?_))
  refine Tr.val (I0e _ [.string l,.int .i64 m,.int .i64 o,.slice y M A] (l,(m,o,w)) _ (M2 C D E F) ⟨by omega,by omega⟩) ?_
  have g:szR (szR left ((xs.length+c4 a6 (xs.take k):Nat):Int)) (a6 (l,(m,o,w)):Nat)=szR left ((xs.length+c4 a6 (xs.take (k+1)):Nat):Int):=by
   rw[K09 t (by omega) (by omega),y01 p]
   congr 1
   omega
  refine aI (λb=>?_) (λb=>?_)
  ·refine aI ?_ rfl
   rw[g]at b
   have I:szR left ((xs.length+c4 a6 (xs.take (k+1)):Nat):Int)<0:=by simpa using b
   have:=z01 a6 xs (k+1)
   rw[p8,K04 I G.1 (by omega)]
   rfl
  ·rw[g]at b
   have J:0<=szR left ((xs.length+c4 a6 (xs.take (k+1)):Nat):Int):=by simpa using b
   refine aI rfl (aI (by first|exact trivial|exact aI rfl trivial|exact aI rfl (aI rfl trivial)|exact aI rfl (aI rfl (aI rfl trivial))|exact aI rfl (aI rfl (aI rfl (aI rfl trivial)))) (aI (by first|exact trivial|exact aI rfl trivial|exact aI rfl (aI rfl trivial)|exact aI rfl (aI rfl (aI rfl trivial))|exact aI rfl (aI rfl (aI rfl (aI rfl trivial)))) (aI ?_ ?_)))
   ·refine⟨k+1,by omega,J,?_,rfl⟩
    rw[←K,←g]
   ·show((xs.length:Int)-IntKind.i64.wrap ((k:Int)+1)).toNat<((xs.length:Int)-(k:Int)).toNat
    omega
 ·have q:k=xs.length:=by simp at f;omega
  subst q
  refine aI ?_ rfl
  rw[List.take_length]
  rfl
theorem E0b(h:Hp)(cs:List Value)(x:T0)(left:Int)(k:O0.R h cs x)(f:0<=left/\left<=1048576):
  Tr Tryz.prog 48 #[.agg cs.toArray,.int .i64 left] h λv i=>v = .int .i64 (szR left (p6 x))/\i=h:=by
 obtain⟨m,d,g,e,b,rfl,rfl,h0,j⟩:=V1 k
 refine R3 (args:=[.agg #[.int .i64 m,.slice d g e],.int .i64 left]) (fn:=Tryz.f48) rfl ?_
 refine Tr.val (A0c h d g e b (left) j f) ?_
 refine aI (λc=>?_) (λc=>?_)
 ·refine aI ?_ rfl
  rw[p6,K04 (left:=left) (a:=((p8 b:Nat):Int)) (by simpa using c) f.1 (by simp only[];omega)]
  rfl
 have l:0<=szR left ((p8 b:Nat):Int):=by simpa using c
 have n:0<=szR left ((p8 b:Nat):Int)/\szR left ((p8 b:Nat):Int)<=1048576:=by
  have:=b04 l
  omega
 exact aI rfl rfl
theorem s0g(h:Hp)(cs ds:List Value)(x k:C0)(m:D1.R h cs x)(n:D1.R h ds k):
  Tr Tryz.prog 225 #[.agg cs.toArray,.agg ds.toArray] h λv l=>v = .bool (decide (x=k))/\l=h:=by
 obtain⟨c,f,i,rfl,rfl,h0,t,w⟩:=H1 m
 obtain⟨d,g,j,rfl,rfl,s,u,y⟩:=H1 n
 refine R3 (args:=[.agg #[.int .i64 c,.int .i64 f,.int .i64 i],.agg #[.int .i64 d,.int .i64 g,.int .i64 j]]) (fn:=Tryz.f225) rfl ?_
 refine aI (λa=>?_) (λa=>?_)
 ·have b:c≠d:=by simpa using a
  exact aI (congrArg Value.bool (decide_eq_false λe=>by cases e;exact b rfl).symm) rfl
 have o:c=d:=by simpa using a
 subst o
 refine aI (λa=>?_) (λa=>?_)
 ·have b:f≠g:=by simpa using a
  exact aI (congrArg Value.bool (decide_eq_false λe=>by cases e;exact b rfl).symm) rfl
 have p:f=g:=by simpa using a
 subst p
 refine aI (λa=>?_) (λa=>?_)
 ·have b:i≠j:=by simpa using a
  exact aI (congrArg Value.bool (decide_eq_false λe=>by cases e;exact b rfl).symm) rfl
 have q:i=j:=by simpa using a
 subst q
 exact aI (congrArg Value.bool (decide_eq_true rfl).symm) rfl
theorem J0e(h:Hp)(a:Option Addr)(n c:Nat)(p:Option Addr)(F q:Nat)(xs b:K0)(D:I0.R h [.slice a n c] xs)(E:I0.R h [.slice p F q] b):
  Tr Tryz.prog 116 #[.slice a n c,.slice p F q] h λv u=>v = .bool (decide (xs=b))/\u=h:=by
 obtain⟨rfl,T⟩:=Sl.len D
 obtain⟨rfl,ab⟩:=Sl.len E
 refine R3 (args:=[.slice a xs.length c,.slice p b.length q]) (fn:=Tryz.f116) rfl ?_
 refine aI (λw=>?_) (λw=>?_)
 ·refine aI (congrArg Value.bool ?_) rfl
  have:xs.length≠b.length:=by simp at w;omega
  exact(decide_eq_false λe=>this (by rw[e])).symm
 have S:xs.length=b.length:=by simp at w;omega
 refine eX { vars:=[5],boxes:=[],owns:=[] } (eX (λvs _ u=>∃ k:Nat,k<=xs.length/\xs.take k=b.take k/\vs = [.int .i64 k]/\u=h) (eX (λvs _=>match vs with | [.int _ j]=>((xs.length:Int)-j).toNat|_=>0) ?_))
 refine aI ⟨0,by omega,by simp,rfl,rfl⟩ ?_
 rintro _ aa ⟨k,B,A,⟨⟩,rfl⟩
 refine aI (λy=>?_) (λy=>?_)
 ·have C:k<xs.length:=by simpa using y
  obtain⟨x,s⟩:=d9 C
  obtain⟨ac,t⟩:=d9 (l:=b) (k:=k) (by omega)
  obtain⟨G,Y,I,W⟩:=Sl.get D s (by decide)
  obtain⟨H,Z,J,X⟩:=Sl.get E t (by decide)
  have V:=Z2 C T
  obtain⟨d,g,m,rfl,rfl,K,M,O⟩:=H1 W
  obtain⟨f,i,o,rfl,rfl,L,N,P⟩:=H1 X
  refine Or.inl (aI (aI (by kernel_rfl) (by kernel_rfl)) ?_)
  refine aI G (eX _ (aI I (aI H (eX _ (aI J ?_)))))
  refine eX (.bool _) (aI (s0g _ [.int .i64 d,.int .i64 g,.int .i64 m] [.int .i64 f,.int .i64 i,.int .i64 o] (d,g,m) (f,i,o) (M1 K M O) (M1 L N P)) ?_)
  refine aI (λz=>?_) (λz=>?_)
  ·refine aI (congrArg Value.bool ?_) rfl
   have U:(d,g,m)≠(f,i,o):=L04 z
   exact(decide_eq_false λe=>U (oJ (s.symm.trans ((congrArg (λl:K0=>l[k]?) e).trans t)))).symm
  ·have Q:(d,g,m)=(f,i,o):=N02 z
   refine aI rfl (aI (by first|exact trivial|exact aI rfl trivial|exact aI rfl (aI rfl trivial)|exact aI rfl (aI rfl (aI rfl trivial))|exact aI rfl (aI rfl (aI rfl (aI rfl trivial)))) (aI (by first|exact trivial|exact aI rfl trivial|exact aI rfl (aI rfl trivial)|exact aI rfl (aI rfl (aI rfl trivial))|exact aI rfl (aI rfl (aI rfl (aI rfl trivial)))) (aI ?_ ?_)))
   ·refine⟨k+1,by omega,by rw[T8 s,T8 t,A,Q],?_,rfl⟩
    rw[←V]
   ·show((xs.length:Int)-IntKind.i64.wrap ((k:Int)+1)).toNat<((xs.length:Int)-(k:Int)).toNat
    omega
 ·have B:k=xs.length:=by simp at y;omega
  refine aI (congrArg Value.bool ?_) rfl
  refine(decide_eq_true ?_).symm
  subst B
  rwa [List.take_length,S,List.take_length]at A
theorem i09(h:Hp)(cs ds:List Value)(x q:j0)(w:C1.R h cs x)(y:C1.R h ds q):
  Tr Tryz.prog 45 #[.agg cs.toArray,.agg ds.toArray] h λv s=>v = .bool (decide (x=q))/\s=h:=by
 obtain⟨c,f,k,o,m,i,rfl,rfl,h0,D,t⟩:=D0 w
 obtain⟨d,g,l,p,n,j,rfl,rfl,C,E,u⟩:=D0 y
 refine R3 (args:=[.agg #[.int .i64 c,.int .i64 f,.slice k o m],.agg #[.int .i64 d,.int .i64 g,.slice l p n]]) (fn:=Tryz.f45) rfl ?_
 refine aI (λa=>?_) (λa=>?_)
 ·have b:c≠d:=by simpa using a
  exact aI (congrArg Value.bool (decide_eq_false λe=>by cases e;exact b rfl).symm) rfl
 have z:c=d:=by simpa using a
 subst z
 refine aI (λa=>?_) (λa=>?_)
 ·have b:f≠g:=by simpa using a
  exact aI (congrArg Value.bool (decide_eq_false λe=>by cases e;exact b rfl).symm) rfl
 have A:f=g:=by simpa using a
 subst A
 refine Tr.val (J0e h k o m l p n i j t u) ?_
 refine aI (λa=>?_) (λa=>?_)
 ·have b:i≠j:=L04 a
  exact aI (congrArg Value.bool (decide_eq_false λe=>by cases e;exact b rfl).symm) rfl
 have B:i=j:=N02 a
 subst B
 exact aI (congrArg Value.bool (decide_eq_true rfl).symm) rfl
theorem K0e(h:Hp)(cs ds:List Value)(x t:l4)(D:H0.R h cs x)(E:H0.R h ds t):
  Tr Tryz.prog 239 #[.agg cs.toArray,.agg ds.toArray] h λv u=>v = .bool (decide (x=t))/\u=h:=by
 obtain⟨i,b,d,m,q,o,k,rfl,rfl,h0,w,z,B⟩:=Y1 D
 obtain⟨j,c,f,n,s,p,l,rfl,rfl,H,y,A,C⟩:=Y1 E
 refine R3 (args:=[.agg #[.string i,.int .i64 b,.int .i64 d,.slice m q o],.agg #[.string j,.int .i64 c,.int .i64 f,.slice n s p]]) (fn:=Tryz.f239) rfl ?_
 refine aI (λa=>?_) (λa=>?_)
 ·have g:i≠j:=r0h a
  exact aI (congrArg Value.bool (decide_eq_false λe=>by cases e;exact g rfl).symm) rfl
 have F:i=j:=w0i a
 subst F
 refine Tr.val (i09 h [.int .i64 b,.int .i64 d,.slice m q o] [.int .i64 c,.int .i64 f,.slice n s p] (b,d,k) (c,f,l) (B0 w z B) (B0 y A C)) ?_
 refine aI (λa=>?_) (λa=>?_)
 ·have g:(b,d,k)≠(c,f,l):=L04 a
  exact aI (congrArg Value.bool (decide_eq_false λe=>by cases e;exact g rfl).symm) rfl
 have G:(b,d,k)=(c,f,l):=N02 a
 cases G
 exact aI (congrArg Value.bool (decide_eq_true rfl).symm) rfl
theorem B0c(h:Hp)(a:Option Addr)(n c:Nat)(p:Option Addr)(H q:Nat)(xs b:N0)(F:J2.R h [.slice a n c] xs)(G:J2.R h [.slice p H q] b):
  Tr Tryz.prog 139 #[.slice a n c,.slice p H q] h λv u=>v = .bool (decide (xs=b))/\u=h:=by
 obtain⟨rfl,ab⟩:=Sl.len F
 obtain⟨rfl,al⟩:=Sl.len G
 refine R3 (args:=[.slice a xs.length c,.slice p b.length q]) (fn:=Tryz.f139) rfl ?_
 refine aI (λw=>?_) (λw=>?_)
 ·refine aI (congrArg Value.bool ?_) rfl
  have:xs.length≠b.length:=by simp at w;omega
  exact(decide_eq_false λe=>this (by rw[e])).symm
 have aa:xs.length=b.length:=by simp at w;omega
 refine eX { vars:=[5],boxes:=[],owns:=[] } (eX (λvs _ u=>∃ k:Nat,k<=xs.length/\xs.take k=b.take k/\vs = [.int .i64 k]/\u=h) (eX (λvs _=>match vs with | [.int _ j]=>((xs.length:Int)-j).toNat|_=>0) ?_))
 refine aI ⟨0,by omega,by simp,rfl,rfl⟩ ?_
 rintro _ ak ⟨k,D,C,⟨⟩,rfl⟩
 refine aI (λy=>?_) (λy=>?_)
 ·have E:k<xs.length:=by simpa using y
  obtain⟨x,s⟩:=d9 E
  obtain⟨am,t⟩:=d9 (l:=b) (k:=k) (by omega)
  obtain⟨K,ai,O,ae⟩:=Sl.get F s (by decide)
  obtain⟨L,aj,P,af⟩:=Sl.get G t (by decide)
  have ad:=Z2 E ab
  obtain⟨d,g,m,I,ag,M,A,rfl,rfl,Q,T,V,X⟩:=Y1 ae
  obtain⟨f,i,o,J,ah,N,B,rfl,rfl,S,U,W,Y⟩:=Y1 af
  refine Or.inl (aI (aI (by kernel_rfl) (by kernel_rfl)) ?_)
  refine aI K (eX _ (aI O (aI L (eX _ (aI P ?_)))))
  refine eX (.bool _) (aI (K0e _ [.string d,.int .i64 g,.int .i64 m,.slice I ag M] [.string f,.int .i64 i,.int .i64 o,.slice J ah N] (d,(g,m,A)) (f,(i,o,B)) (M2 Q T V X) (M2 S U W Y)) ?_)
  refine aI (λz=>?_) (λz=>?_)
  ·refine aI (congrArg Value.bool ?_) rfl
   have ac:(d,(g,m,A))≠(f,(i,o,B)):=L04 z
   exact(decide_eq_false λe=>ac (oJ (s.symm.trans ((congrArg (λl:N0=>l[k]?) e).trans t)))).symm
  ·have Z:(d,(g,m,A))=(f,(i,o,B)):=N02 z
   refine aI rfl (aI (by first|exact trivial|exact aI rfl trivial|exact aI rfl (aI rfl trivial)|exact aI rfl (aI rfl (aI rfl trivial))|exact aI rfl (aI rfl (aI rfl (aI rfl trivial)))) (aI (by first|exact trivial|exact aI rfl trivial|exact aI rfl (aI rfl trivial)|exact aI rfl (aI rfl (aI rfl trivial))|exact aI rfl (aI rfl (aI rfl (aI rfl trivial)))) (aI ?_ ?_)))
   ·refine⟨k+1,by omega,by rw[T8 s,T8 t,C,Z],?_,rfl⟩
    rw[←ad]
   ·show((xs.length:Int)-IntKind.i64.wrap ((k:Int)+1)).toNat<((xs.length:Int)-(k:Int)).toNat
    omega
 ·have D:k=xs.length:=by simp at y;omega
  refine aI (congrArg Value.bool ?_) rfl
  refine(decide_eq_true ?_).symm
  subst D
  rwa [List.take_length,aa,List.take_length]at C
theorem c01(h:Hp)(cs ds:List Value)(x o:T0)(t:O0.R h cs x)(u:O0.R h ds o):
  Tr Tryz.prog 52 #[.agg cs.toArray,.agg ds.toArray] h λv p=>v = .bool (decide (x=o))/\p=h:=by
 obtain⟨c,i,m,k,f,rfl,rfl,h0,q⟩:=V1 t
 obtain⟨d,j,n,l,g,rfl,rfl,z,s⟩:=V1 u
 refine R3 (args:=[.agg #[.int .i64 c,.slice i m k],.agg #[.int .i64 d,.slice j n l]]) (fn:=Tryz.f52) rfl ?_
 refine aI (λa=>?_) (λa=>?_)
 ·have b:c≠d:=by simpa using a
  exact aI (congrArg Value.bool (decide_eq_false λe=>by cases e;exact b rfl).symm) rfl
 have w:c=d:=by simpa using a
 subst w
 refine Tr.val (B0c h i m k j n l f g q s) ?_
 refine aI (λa=>?_) (λa=>?_)
 ·have b:f≠g:=L04 a
  exact aI (congrArg Value.bool (decide_eq_false λe=>by cases e;exact b rfl).symm) rfl
 have y:f=g:=N02 a
 subst y
 exact aI (congrArg Value.bool (decide_eq_true rfl).symm) rfl
theorem t0g(h:Hp)(cs:List Value)(x:C0)(d:D1.R h cs x)(i:s0h x<=1048576):
  Tr Tryz.prog 218 #[.agg cs.toArray] h λv a=>∃ cs',v = .agg cs'.toArray/\New D1 h a cs' x:=by
 obtain⟨e,f,g,rfl,rfl,h0,b,c⟩:=H1 d
 refine R3 (args:=[.agg #[.int .i64 e,.int .i64 f,.int .i64 g]]) (fn:=Tryz.f218) rfl ?_
 exact eX _ (aI rfl (New.pair (New.int h0) (New.pair (New.int b) (New.int c))))
theorem L0e(h:Hp)(a:Option Addr)(n c:Nat)(xs:K0)(s:I0.R h [.slice a n c] xs)(J:I8 xs<=1048576):
  Tr Tryz.prog 110 #[.slice a n c] h λv b=>New I0 h b [v] xs:=by
 obtain⟨rfl,K⟩:=Sl.len s
 have T:xs.length<=1048576:=by simp only[I8]at J;omega
 refine R3 (args:=[.slice a xs.length c]) (fn:=Tryz.f110) rfl ?_
 refine aI ?_ ?_
 ·show 0<=(xs.length:Int)/\(xs.length:Int)<=xs.length/\(xs.length:Int)*24<=140737488355328/\(xs.length:Int)<=9223372036854775807
  omega
 refine eX { vars:=[4],boxes:=[],owns:=[0],kept:=[0] } (eX (λvs os b=>∃(k:Nat) (L:List (List Value)) (Bs:List (List Nat)),k<=xs.length/\vs = [.int .i64 k]/\os = [A00 L xs.length [.int .i64 0,.int .i64 0,.int .i64 0]]/\L.length=k /\
  F3 (D1.W b) L (xs.take k) Bs/\Sub h b/\Z3 h Bs.flatten) (eX (λvs _=>match vs with | [.int _ j]=>((xs.length:Int)-j).toNat|_=>0) ?_))
 refine aI ⟨0,[],[],by omega,rfl,rfl,rfl,trivial,Sub.refl _,by simp[Z3]⟩ ?_
 rintro _ _ H ⟨k,L,Bs,q,⟨⟩,⟨⟩,i,d,f,p⟩
 refine aI (λg=>?_) (λg=>?_)
 ·have e:k<xs.length:=by simpa using g
  obtain⟨x,l⟩:=d9 e
  obtain⟨C,O,D,N⟩:=Sl.get (Sl.mono f s) l (by decide)
  have M:=Z2 e K
  obtain⟨t,w,z,rfl,rfl,E,F,G⟩:=H1 N
  refine aI C (eX _ (aI D ?_))
  refine Tr.mono (t0g H [.int .i64 t,.int .i64 w,.int .i64 z] (t,w,z) (M1 E F G) (by simp only[s0h];omega)) ?_
  rintro v S ⟨P,rfl,B,m,I,o⟩
  obtain⟨u,y,A,rfl,Q,_,_,_⟩:=H1 (D1.toR m)
  refine aI ?_ ?_
  ·show 0<=(k:Int)/\(k:Int)<((A00 L xs.length [.int .i64 0,.int .i64 0,.int .i64 0]).length:Nat)
   rw[J04 (by omega)];omega
  refine eX [.int .i64 0,.int .i64 0,.int .i64 0] (aI (M08 i e) ?_)
  refine aI rfl (aI (by first|exact trivial|exact aI rfl trivial|exact aI rfl (aI rfl trivial)|exact aI rfl (aI rfl (aI rfl trivial))|exact aI rfl (aI rfl (aI rfl (aI rfl trivial)))) (aI (by first|exact trivial|exact aI rfl trivial|exact aI rfl (aI rfl trivial)|exact aI rfl (aI rfl (aI rfl trivial))|exact aI rfl (aI rfl (aI rfl (aI rfl trivial)))) (aI ?_ ?_)))
  ·refine⟨k+1,L ++ [[.int .i64 u,.int .i64 y,.int .i64 A]],Bs ++ [B],by omega,by rw[←M],?_,by simp[i],?_,f.trans o,?_⟩
   ·show [(A00 L xs.length [.int .i64 0,.int .i64 0,.int .i64 0]).set k [.int .i64 u,.int .i64 y,.int .i64 A]]=_
    rw[N08 i e]
   ·rw[T8 l]
    exact F3.snoc m (t07 d o)
   ·exact a04 d f p I
  ·show((xs.length:Int)-IntKind.i64.wrap ((k:Int)+1)).toNat<((xs.length:Int)-(k:Int)).toNat
   omega
 ·have q:k=xs.length:=by simp at g;omega
  intro v b hf
  rw[O08 (by omega)]at hf
  rw[q,List.take_length]at d
  exact U0.fresh (r:=D1) hf d f p
theorem I01(h:Hp)(cs:List Value)(x:j0)(k:C1.R h cs x)(j:Z5 x<=1048576):
  Tr Tryz.prog 43 #[.agg cs.toArray] h λv f=>∃ cs',v = .agg cs'.toArray/\New C1 h f cs' x:=by
 obtain⟨l,m,b,d,c,n,rfl,rfl,h0,g,i⟩:=D0 k
 simp only[Z5]at j
 refine R3 (args:=[.agg #[.int .i64 l,.int .i64 m,.slice b d c]]) (fn:=Tryz.f43) rfl ?_
 refine Tr.mono (L0e h b d c n (Sl.mono (Sub.refl _) i) (by omega)) ?_
 rintro t q a
 obtain⟨o,s,p,e⟩:=Wp.slice_cell a.r
 cases e
 exact eX _ (aI rfl (New.pair (New.int h0) (New.pair (New.int g) a)))
theorem M0e(h:Hp)(cs:List Value)(x:l4)(m:H0.R h cs x)(l:a6 x<=1048576):
  Tr Tryz.prog 238 #[.agg cs.toArray] h λv g=>∃ cs',v = .agg cs'.toArray/\New H0 h g cs' x:=by
 obtain⟨n,a,b,d,f,e,o,rfl,rfl,h0,i,j,k⟩:=Y1 m
 simp only[a6]at l
 refine R3 (args:=[.agg #[.string n,.int .i64 a,.int .i64 b,.slice d f e]]) (fn:=Tryz.f238) rfl ?_
 refine Tr.mono (I01 h [.int .i64 a,.int .i64 b,.slice d f e] (a,b,o) (C1.mono (Sub.refl _) (B0 i j k)) (by omega)) ?_
 rintro y u ⟨s,rfl,c⟩
 obtain⟨z,A,p,w,q,B,rfl,t,_,_,_⟩:=D0 c.r
 exact eX _ (aI rfl (New.pair (New.str h0) c))
theorem C0c(h:Hp)(a:Option Addr)(n c:Nat)(xs:N0)(y:J2.R h [.slice a n c] xs)(w:p8 xs<=1048576):
  Tr Tryz.prog 133 #[.slice a n c] h λv b=>New J2 h b [v] xs:=by
 obtain⟨rfl,T⟩:=Sl.len y
 have ad:xs.length<=1048576:=by simp only[p8]at w;omega
 refine R3 (args:=[.slice a xs.length c]) (fn:=Tryz.f133) rfl ?_
 refine aI ?_ ?_
 ·show 0<=(xs.length:Int)/\(xs.length:Int)<=xs.length/\(xs.length:Int)*56<=140737488355328/\(xs.length:Int)<=9223372036854775807
  omega
 refine eX { vars:=[4],boxes:=[],owns:=[0],kept:=[0] } (eX (λvs os b=>∃(k:Nat) (L:List (List Value)) (Bs:List (List Nat)),k<=xs.length/\vs = [.int .i64 k]/\os = [A00 L xs.length [.string ⟨#[]⟩,.int .i64 0,.int .i64 0,.slice none 0 0]]/\L.length=k /\
  F3 (H0.W b) L (xs.take k) Bs/\Sub h b/\Z3 h Bs.flatten) (eX (λvs _=>match vs with | [.int _ j]=>((xs.length:Int)-j).toNat|_=>0) ?_))
 refine aI ⟨0,[],[],by omega,rfl,rfl,rfl,trivial,Sub.refl _,by simp[Z3]⟩ ?_
 rintro _ _ Q ⟨k,L,Bs,u,⟨⟩,⟨⟩,l,d,f,t⟩
 refine aI (λi=>?_) (λi=>?_)
 ·have e:k<xs.length:=by simpa using i
  obtain⟨x,g⟩:=d9 e
  obtain⟨I,Z,K,V⟩:=Sl.get (Sl.mono f y) g (by decide)
  have U:=Z2 e T
  obtain⟨A,D,F,H,X,J,Y,rfl,rfl,M,N,O,P⟩:=Y1 V
  refine aI I (eX _ (aI K ?_))
  refine Tr.mono (M0e Q [.string A,.int .i64 D,.int .i64 F,.slice H X J] (A,(D,F,Y)) (M2 M N O P) (by first|(have:=A0f (m:=a6) g;simp only[p8]at w;omega)|(show a6 _<=_;simp only[a6];omega))) ?_
  rintro v ac ⟨aa,rfl,B,q,S,s⟩
  obtain⟨C,E,G,o,z,p,ae,rfl,ab,_,_,_,_⟩:=Y1 (H0.toR q)
  refine aI ?_ ?_
  ·show 0<=(k:Int)/\(k:Int)<((A00 L xs.length [.string ⟨#[]⟩,.int .i64 0,.int .i64 0,.slice none 0 0]).length:Nat)
   rw[J04 (by omega)];omega
  refine eX [.string ⟨#[]⟩,.int .i64 0,.int .i64 0,.slice none 0 0] (aI (M08 l e) ?_)
  refine aI rfl (aI (by first|exact trivial|exact aI rfl trivial|exact aI rfl (aI rfl trivial)|exact aI rfl (aI rfl (aI rfl trivial))|exact aI rfl (aI rfl (aI rfl (aI rfl trivial)))) (aI (by first|exact trivial|exact aI rfl trivial|exact aI rfl (aI rfl trivial)|exact aI rfl (aI rfl (aI rfl trivial))|exact aI rfl (aI rfl (aI rfl (aI rfl trivial)))) (aI ?_ ?_)))
  ·refine⟨k+1,L ++ [[.string C,.int .i64 E,.int .i64 G,.slice o z p]],Bs ++ [B],by omega,by rw[←U],?_,by simp[l],?_,f.trans s,?_⟩
   ·show [(A00 L xs.length [.string ⟨#[]⟩,.int .i64 0,.int .i64 0,.slice none 0 0]).set k [.string C,.int .i64 E,.int .i64 G,.slice o z p]]=_
    rw[N08 l e]
   ·rw[T8 g]
    exact F3.snoc q (t07 d s)
   ·exact a04 d f t S
  ·show((xs.length:Int)-IntKind.i64.wrap ((k:Int)+1)).toNat<((xs.length:Int)-(k:Int)).toNat
   omega
 ·have u:k=xs.length:=by simp at i;omega
  intro v b hf
  rw[O08 (by omega)]at hf
  rw[u,List.take_length]at d
  exact U0.fresh (r:=H0) hf d f t
theorem d01(h:Hp)(cs:List Value)(x:T0)(j:O0.R h cs x)(i:p6 x<=1048576):
  Tr Tryz.prog 50 #[.agg cs.toArray] h λv f=>∃ cs',v = .agg cs'.toArray/\New O0 h f cs' x:=by
 obtain⟨k,b,d,c,l,rfl,rfl,h0,g⟩:=V1 j
 simp only[p6]at i
 refine R3 (args:=[.agg #[.int .i64 k,.slice b d c]]) (fn:=Tryz.f50) rfl ?_
 refine Tr.mono (C0c h b d c l (Sl.mono (Sub.refl _) g) (by omega)) ?_
 rintro q o a
 obtain⟨m,p,n,e⟩:=Wp.slice_cell a.r
 cases e
 exact eX _ (aI rfl (New.pair (New.int h0) a))
theorem N0e(n:Nat)(acc:List UInt8):∀ f,n=0->y07 f n acc=acc
 |0,_=>rfl
 |f+1,h=>by simp[y07,h]
theorem g08(h:Hp)(k:Int)(u:0<=k/\k<=4611686018427387904):
  Tr Tryz.prog 240 #[.int .i64 k] h λv a=>v = .string (D7 k)/\a=h:=by
 refine Tr.forget ?_
 refine R3 (args:=[.int .i64 k]) (fn:=Tryz.f240) rfl ?_
 refine aI (λb=>?_) (λb=>?_)
 ·have:k=0:=by simp at b;omega
  subst this
  exact aI rfl (Sub.refl _)
 have w:0<k:=by simp at b;omega
 refine eX { vars:=[0,3],boxes:=[],owns:=[] } (eX (λvs _ a=>∃(m f:Nat) (acc:List UInt8),m<=4611686018427387904/\m<10 ^ f/\f<=20/\y07 f m acc=y07 20 k.toNat []/\acc.length<=20-f/\vs = [.int .i64 m,.string ⟨acc.toArray⟩]/\Sub h a) (eX (λvs _=>match vs with | [.int _ j,_]=>j.toNat|_=>0) ?_))
 refine aI ⟨k.toNat,20,[],by omega,by omega,by omega,rfl,by simp,by rw[show((k.toNat:Nat):Int)=k from by omega],Sub.refl _⟩ ?_
 rintro _ _ t ⟨m,f,acc,y,i,hf,e,x,⟨⟩,l⟩
 refine aI (λc=>?_) (λc=>?_)
 ·have g:m≠0:=by rintro rfl;simp at c
  refine aI (by decide) ?_
  refine eX [_] (aI rfl ?_)
  have q:IntKind.u8.wrap (IntKind.i64.wrap (48+(m:Int).tmod 10))=((48+m % 10:Nat):Int):=by
   rw[show(10:Int)=((10:Nat):Int) from rfl,←Int.ofNat_tmod]
   simp[IntKind.wrap,IntKind.signed,IntKind.bits]
   omega
  have p:strOfNums [IntKind.u8.wrap (IntKind.i64.wrap (48+(m:Int).tmod 10))]++⟨acc.toArray⟩=⟨(UInt8.ofNat (48+m % 10)::acc).toArray⟩:=by
   rw[q,show strOfNums [((48+m % 10:Nat):Int)]=⟨#[UInt8.ofNat (48+m % 10)]⟩ from by simp only[strOfNums,List.map_cons,List.map_nil,Int.toNat_natCast]]
   generalize UInt8.ofNat (48+m % 10)=d
   apply ByteArray.ext
   rw[ByteArray.data_append]
   simp
  obtain⟨f,rfl⟩:∃ o,f=o+1:=by
   cases f with
   |zero=>simp at i;omega
   |succ f=>exact⟨f,rfl⟩
  have s:(m:Int).tdiv 10=((m / 10:Nat):Int):=by rw[show(10:Int)=((10:Nat):Int) from rfl,←Int.ofNat_tdiv]
  refine aI ?_ ?_
  ·show(strOfNums _).size+acc.toArray.size<=9223372036854775807
   simp only[strOfNums_size,List.size_toArray,List.length_singleton]
   omega
  have n:IntKind.i64.wrap ((m:Int).tdiv 10)=((m / 10:Nat):Int):=by rw[s];exact w64 (by omega) (by omega)
  refine aI (by decide) ?_
  refine aI rfl (aI (by first|exact trivial|exact aI rfl trivial|exact aI rfl (aI rfl trivial)|exact aI rfl (aI rfl (aI rfl trivial))|exact aI rfl (aI rfl (aI rfl (aI rfl trivial)))) (aI (by first|exact trivial|exact aI rfl trivial|exact aI rfl (aI rfl trivial)|exact aI rfl (aI rfl (aI rfl trivial))|exact aI rfl (aI rfl (aI rfl (aI rfl trivial)))) (aI ?_ ?_)))
  ·refine⟨m / 10,f,UInt8.ofNat (48+m % 10)::acc,by omega,?_,by omega,?_,by simp;omega,?_,l⟩
   ·rw[Nat.pow_succ]at i
    omega
   ·rw[←e]
    simp only[y07,if_neg g]
   ·rw[←n,←p]
  ·show(IntKind.i64.wrap ((m:Int).tdiv 10)).toNat<((m:Int)).toNat
   rw[n]
   omega
 ·have g:m=0:=by simp at c;omega
  refine aI ?_ ?_
  ·show 1+acc.toArray.size<=9223372036854775807
   simp only[List.size_toArray]
   omega
  refine aI (congrArg Value.string ?_) l
  rw[N0e m acc f g]at e
  unfold D7
  rw[if_neg (by omega),←e]
  apply ByteArray.ext
  simp
theorem n06(h:Hp)(a:Option Addr)(n c:Nat)(xs:K0)(B:List Nat)(k:Int)(N:I0.W h [.slice a n c] xs B)(D:B.Nodup)(aZ:0<=k/\k+(R7 xs:Nat)<=4611686018427387904):
  Tr Tryz.prog 141 #[.slice a n c,.int .i64 k] h λv l=>v = .int .i64 (k+(R7 xs:Nat))/\I0.W l [.slice a n c] (H7 xs k) B/\∀ d,d ∉ B->l d=h d:=by
 obtain⟨rfl,ax⟩:=Sl.len (I0.toR N)
 refine R3 (args:=[.slice a xs.length c,.int .i64 k]) (fn:=Tryz.f141) rfl ?_
 refine eX { vars:=[1,5],boxes:=[],owns:=[] } (eX (λvs _ l=>∃(j:Nat) (b:Int),b=k+(c4 j4 (xs.take j):Nat)/\j<=xs.length/\vs = [.int .i64 b,.int .i64 j]/\I0.W l [.slice a xs.length c] (g9 h9 j4 xs k j) B/\∀ d,d ∉ B->l d=h d) (eX (λvs _=>match vs with | [_,.int _ j]=>((xs.length:Int)-j).toNat|_=>0) ?_))
 refine aI ⟨0,k,by simp[c4],by omega,rfl,by rw[P08];exact N,λ_ _=>rfl⟩ ?_
 rintro _ _ C ⟨j,b,F,aY,⟨⟩,t,J⟩
 refine aI (λE=>?_) (λE=>?_)
 ·have s:j<xs.length:=by simpa using E
  obtain⟨x,A⟩:=d9 s
  have O:=Z0a (mk:=h9) (c:=j4) (k:=k) A
  have ay:c4 j4 (xs.take (j+1))=c4 j4 (xs.take j)+j4 x:=y01 A
  have a3:=z01 j4 xs (j+1)
  have az:=Z2 s ax
  have aw:0<=b/\b+(j4 x:Nat)<=4611686018427387904:=by
   have:(R7 xs:Int)=(c4 j4 xs:Nat):=rfl
   omega
  obtain⟨aF,q,i⟩:=x
  simp only[j4]at aw
  obtain⟨R,aM,aG,f,g,w,G,V,aP,w0,ak,aq,an,aV,a4,a0,be,aA⟩:=Wp.at t D O (by decide)
  cases V
  obtain⟨bh,bk,bn,rfl,ab,rfl,aS,ag,ai⟩:=I05 w0
  cases ab
  refine aI R ?_
  refine T7.mk (Int.natCast_nonneg j) ak (aq 0 (by decide)) (by rw[Int.toNat_natCast];rfl) trivial ?_
  have L:I0.W (C.set f (.cells (w.setIfInBounds (g+(j*D1.sz+0)) (.int .i64 (b))) G (0,0))) [.slice (some ⟨f,g,none⟩) xs.length c] ((g9 h9 j4 xs k j).set j (b,q,i)) B:=aA 0 (.int .i64 (b)) (b,q,i) (by decide) λl hf=>Y01 (B0f (by  omega) (by  omega)) ag ai
  have K:∀ d,d ∉ B->(C.set f (.cells (w.setIfInBounds (g+(j*D1.sz+0)) (.int .i64 (b))) G (0,0))) d=h d:=λd m=>(Hp.set_other _ _ λe=>m (by rw[e];exact an)).trans (J d m)
  generalize (C.set f (.cells (w.setIfInBounds (g+(j*D1.sz+0)) (.int .i64 (b))) G (0,0)))=kst0 at L K ⊢
  have o:IntKind.i64.wrap (b+1)=b+(1):=by rw[w64 (by  omega) (by  omega)]<;>omega
  have P:((g9 h9 j4 xs k j).set j (b,q,i))[j]?=some (b,q,i):=by rw[List.getElem?_set_self (by rw[T9];exact s)]
  obtain⟨S,aN,aH,aK,bc,y,H,X,aQ,aD,al,ar,ao,aW,ba,a1,bf,aB⟩:=Wp.at L D P (by decide)
  cases X
  obtain⟨bi,bl,bo,rfl,ac,rfl,ae,aT,aj⟩:=I05 aD
  cases ac
  refine aI S ?_
  refine T7.mk (Int.natCast_nonneg j) al (ar 1 (by decide)) (by rw[Int.toNat_natCast];rfl) trivial ?_
  have M:I0.W (kst0.set f (.cells (y.setIfInBounds (g+(j*D1.sz+1)) (.int .i64 (IntKind.i64.wrap (b+1)))) H (0,0))) [.slice (some ⟨f,g,none⟩) xs.length c] ((g9 h9 j4 xs k j).set j (b,IntKind.i64.wrap (b+1),i)) B:=by have:=aB 1 (.int .i64 (IntKind.i64.wrap (b+1))) (b,IntKind.i64.wrap (b+1),i) (by decide) λl hf=>Y01 ae (B0f (by rw[o];omega) (by rw[o];omega)) aj;rwa [List.set_set]at this
  have F2:∀ d,d ∉ B->(kst0.set f (.cells (y.setIfInBounds (g+(j*D1.sz+1)) (.int .i64 (IntKind.i64.wrap (b+1)))) H (0,0))) d=h d:=λd m=>(Hp.set_other _ _ λe=>m (by rw[e];exact ao)).trans (K d m)
  generalize (kst0.set f (.cells (y.setIfInBounds (g+(j*D1.sz+1)) (.int .i64 (IntKind.i64.wrap (b+1)))) H (0,0)))=kst1 at M F2 ⊢
  have p:IntKind.i64.wrap (IntKind.i64.wrap (b+1)+1)=b+(1+1):=by rw[w64 (by rw[o];omega) (by rw[o];omega)]<;>rw[o]<;>omega
  have Q:((g9 h9 j4 xs k j).set j (b,IntKind.i64.wrap (b+1),i))[j]?=some (b,IntKind.i64.wrap (b+1),i):=by rw[List.getElem?_set_self (by rw[T9];exact s)]
  obtain⟨T,aO,aJ,aL,bd,z,I,Y,aR,aE,am,au,ap,aX,bb,a2,bg,aC⟩:=Wp.at M D Q (by decide)
  cases Y
  obtain⟨bj,bm,bp,rfl,ad,rfl,af,ah,aU⟩:=I05 aE
  cases ad
  refine aI T ?_
  refine T7.mk (Int.natCast_nonneg j) am (au 2 (by decide)) (by rw[Int.toNat_natCast];rfl) trivial ?_
  have u:I0.W (kst1.set f (.cells (z.setIfInBounds (g+(j*D1.sz+2)) (.int .i64 (IntKind.i64.wrap (IntKind.i64.wrap (b+1)+1)))) I (0,0))) [.slice (some ⟨f,g,none⟩) xs.length c] ((g9 h9 j4 xs k j).set j (b,IntKind.i64.wrap (b+1),IntKind.i64.wrap (IntKind.i64.wrap (b+1)+1))) B:=by have:=aC 2 (.int .i64 (IntKind.i64.wrap (IntKind.i64.wrap (b+1)+1))) (b,IntKind.i64.wrap (b+1),IntKind.i64.wrap (IntKind.i64.wrap (b+1)+1)) (by decide) λl hf=>Y01 af ah (B0f (by rw[p];omega) (by rw[p];omega));rwa [List.set_set]at this
  have F3:∀ d,d ∉ B->(kst1.set f (.cells (z.setIfInBounds (g+(j*D1.sz+2)) (.int .i64 (IntKind.i64.wrap (IntKind.i64.wrap (b+1)+1)))) I (0,0))) d=h d:=λd m=>(Hp.set_other _ _ λe=>m (by rw[e];exact ap)).trans (F2 d m)
  generalize (kst1.set f (.cells (z.setIfInBounds (g+(j*D1.sz+2)) (.int .i64 (IntKind.i64.wrap (IntKind.i64.wrap (b+1)+1)))) I (0,0)))=kst2 at u F3 ⊢
  have Z:IntKind.i64.wrap (IntKind.i64.wrap (IntKind.i64.wrap (b+1)+1)+1)=b+(1+1+1):=by rw[w64 (by rw[p];omega) (by rw[p];omega)]<;>rw[p]<;>omega
  have aa:(b,IntKind.i64.wrap (b+1),IntKind.i64.wrap (IntKind.i64.wrap (b+1)+1))=h9 (aF,q,i) b:=by
   simp only[h9,j4]
   exact(congr (congrArg Prod.mk rfl) (congr (congrArg Prod.mk (by rw[o]<;>first|rfl|omega|(simp;omega))) (by rw[p]<;>first|rfl|omega|(simp;omega))))
  have U:(g9 h9 j4 xs k j).set j (b,IntKind.i64.wrap (b+1),IntKind.i64.wrap (IntKind.i64.wrap (b+1)+1))=g9 h9 j4 xs k (j+1):=by rw[aa];rw[F];exact a0b A
  rw[U]at u
  refine aI rfl (aI (by first|exact trivial|exact aI rfl trivial|exact aI rfl (aI rfl trivial)|exact aI rfl (aI rfl (aI rfl trivial))|exact aI rfl (aI rfl (aI rfl (aI rfl trivial)))) (aI (by first|exact trivial|exact aI rfl trivial|exact aI rfl (aI rfl trivial)|exact aI rfl (aI rfl (aI rfl trivial))|exact aI rfl (aI rfl (aI rfl (aI rfl trivial)))) (aI ?_ ?_)))
  ·refine⟨j+1,IntKind.i64.wrap (IntKind.i64.wrap (IntKind.i64.wrap (b+1)+1)+1),?_,by omega,by rw[←az],u,F3⟩
   rw[Z];rw[ay];simp only[j4];omega
  ·show((xs.length:Int)-IntKind.i64.wrap ((j:Int)+1)).toNat<((xs.length:Int)-(j:Int)).toNat
   omega
 ·have av:j=xs.length:=by simp at E;omega
  subst av
  rw[List.take_length]at F
  rw[Y0a]at t
  exact aI (congrArg (Value.int .i64) F) (aI t J)
theorem F0b(h:Hp)(cs:List Value)(x:j0)(B:List Nat)(k:Int)(y:C1.W h cs x B)(l:B.Nodup)(u:0<=k/\k+(Z01 x:Nat)<=4611686018427387904):
  Tr Tryz.prog 54 #[.agg cs.toArray,.int .i64 k] h λv j=>v = .int .i64 (k+(Z01 x:Nat))/\C1.W j cs (O09 x k) B/\∀ g,g ∉ B->j g=h g:=by
 obtain⟨b,a,d,f,e,c,C,rfl,rfl,rfl,h0,q,s⟩:=g0c y
 simp only[Z01]at u
 refine R3 (args:=[.agg #[.int .i64 b,.int .i64 a,.slice d f e],.int .i64 k]) (fn:=Tryz.f54) rfl ?_
 have w:B.Nodup:=by first|exact l|(have:=l;simp only[List.nil_append,List.append_nil,List.nodup_append]at this;grind)
 refine Tr.mono (n06 _ d f e c B (k) s w ⟨by omega,by omega⟩) ?_
 rintro D t ⟨rfl,A,p⟩
 have n:(k+(R7 c:Nat):Int)=k+(Z01 (b,a,c):Nat):=by simp only[Z01]<;>omega
 have i:C1.W t [.int .i64 b,.int .i64 a,.slice d f e] (b,a,H7 c (k)) (B):=⟨[.int .i64 b],[.int .i64 a,.slice d f e],[],([]++B),rfl,rfl,⟨⟨rfl,h0⟩,rfl⟩,⟨[.int .i64 a],[.slice d f e],[],B,rfl,rfl,⟨⟨rfl,q⟩,rfl⟩,A⟩⟩
 have o:(b,a,H7 c (k))=O09 (b,a,c) k:=by
  unfold O09
  exact(congr (congrArg Prod.mk rfl) (congr (congrArg Prod.mk rfl) rfl))
 rw[o]at i
 exact aI (congrArg (Value.int .i64) n) (aI i (λg z=>p g (λm=>z (by first|exact m|(simp only[List.nil_append,List.append_nil,List.mem_append,List.not_mem_nil,false_or,or_false]at m ⊢;grind)))))
theorem f0a(h:Hp)(a:Option Addr)(n c:Nat)(xs:N0)(B:List Nat)(k:Int)(V:J2.W h [.slice a n c] xs B)(w:B.Nodup)(bP:0<=k/\k+(G9 xs:Nat)<=4611686018427387904):
  Tr Tryz.prog 140 #[.slice a n c,.int .i64 k] h λv o=>v = .int .i64 (k+(G9 xs:Nat))/\J2.W o [.slice a n c] (B00 xs k) B/\∀ d,d ∉ B->o d=h d:=by
 obtain⟨rfl,aV⟩:=Sl.len (J2.toR V)
 refine R3 (args:=[.slice a xs.length c,.int .i64 k]) (fn:=Tryz.f140) rfl ?_
 refine eX { vars:=[1,5],boxes:=[],owns:=[] } (eX (λvs _ o=>∃(j:Nat) (b:Int),b=k+(c4 U1 (xs.take j):Nat)/\j<=xs.length/\vs = [.int .i64 b,.int .i64 j]/\J2.W o [.slice a xs.length c] (g9 d7 U1 xs k j) B/\∀ d,d ∉ B->o d=h d) (eX (λvs _=>match vs with | [_,.int _ j]=>((xs.length:Int)-j).toNat|_=>0) ?_))
 refine aI ⟨0,k,by simp[c4],by omega,rfl,by rw[P08];exact V,λ_ _=>rfl⟩ ?_
 rintro _ _ E ⟨j,b,H,bO,⟨⟩,y,N⟩
 refine aI (λG=>?_) (λG=>?_)
 ·have s:j<xs.length:=by simpa using G
  obtain⟨x,D⟩:=d9 s
  have Y:=Z0a (mk:=d7) (c:=U1) (k:=k) D
  have aX:c4 U1 (xs.take (j+1))=c4 U1 (xs.take j)+U1 x:=y01 D
  have bT:=z01 U1 xs (j+1)
  have aZ:=Z2 s aV
  have aU:0<=b/\b+(U1 x:Nat)<=4611686018427387904:=by
   have:(G9 xs:Int)=(c4 U1 xs:Nat):=rfl
   omega
  obtain⟨be,⟨t,m,f⟩⟩:=x
  simp only[U1,F9]at aU
  obtain⟨ad,bv,bj,i,l,z,J,ak,bB,w0,aK,aQ,aN,bJ,bU,bQ,b5,a1⟩:=Wp.at y w Y (by decide)
  cases ak
  obtain⟨ca,ce,ci,bm,bX,bs,cm,bf,rfl,aq,rfl,bE,az,aC,aF⟩:=a02 w0
  cases aq
  refine Tr.val (g08 _ (b) ⟨by omega,by omega⟩) ?_
  refine aI ad ?_
  refine T7.mk (Int.natCast_nonneg j) aK (aQ 0 (by decide)) (by rw[Int.toNat_natCast];rfl) trivial ?_
  have P:J2.W (E.set i (.cells (z.setIfInBounds (l+(j*H0.sz+0)) (.string (D7 (b)))) J (0,0))) [.slice (some ⟨i,l,none⟩) xs.length c] ((g9 d7 U1 xs k j).set j (D7 (b),(t,m,f))) B:=a1 0 (.string (D7 (b))) (D7 (b),(t,m,f)) (by decide) λo hf=>W00 (f0c _) az aC (I0.frame aF λd g=>hf d (by simp[g]))
  have O:∀ d,d ∉ B->(E.set i (.cells (z.setIfInBounds (l+(j*H0.sz+0)) (.string (D7 (b)))) J (0,0))) d=h d:=λd g=>(Hp.set_other _ _ λe=>g (by rw[e];exact aN)).trans (N d g)
  generalize (E.set i (.cells (z.setIfInBounds (l+(j*H0.sz+0)) (.string (D7 (b)))) J (0,0)))=kst0 at P O ⊢
  have p:IntKind.i64.wrap (b+1)=b+(1):=by rw[w64 (by  omega) (by  omega)]<;>omega
  have Z:((g9 d7 U1 xs k j).set j (D7 (b),(t,m,f)))[j]?=some (D7 (b),(t,m,f)):=by rw[List.getElem?_set_self (by rw[T9];exact s)]
  obtain⟨ae,bw,bk,bp,b0,A,K,al,bC,ba,aL,aR,aO,bK,bV,bR,b6,a2⟩:=Wp.at P w Z (by decide)
  cases al
  obtain⟨cb,cf,cj,bn,bY,bt,cn,bg,rfl,ar,rfl,aw,bF,aD,aG⟩:=a02 ba
  cases ar
  refine aI ae ?_
  refine T7.mk (Int.natCast_nonneg j) aL (aR 1 (by decide)) (by rw[Int.toNat_natCast];rfl) trivial ?_
  have Q:J2.W (kst0.set i (.cells (A.setIfInBounds (l+(j*H0.sz+1)) (.int .i64 (IntKind.i64.wrap (b+1)))) K (0,0))) [.slice (some ⟨i,l,none⟩) xs.length c] ((g9 d7 U1 xs k j).set j (D7 (b),(IntKind.i64.wrap (b+1),m,f))) B:=by have:=a2 1 (.int .i64 (IntKind.i64.wrap (b+1))) (D7 (b),(IntKind.i64.wrap (b+1),m,f)) (by decide) λo hf=>W00 aw (B0f (by rw[p];omega) (by rw[p];omega)) aD (I0.frame aG λd g=>hf d (by simp[g]));rwa [List.set_set]at this
  have F2:∀ d,d ∉ B->(kst0.set i (.cells (A.setIfInBounds (l+(j*H0.sz+1)) (.int .i64 (IntKind.i64.wrap (b+1)))) K (0,0))) d=h d:=λd g=>(Hp.set_other _ _ λe=>g (by rw[e];exact aO)).trans (O d g)
  generalize (kst0.set i (.cells (A.setIfInBounds (l+(j*H0.sz+1)) (.int .i64 (IntKind.i64.wrap (b+1)))) K (0,0)))=kst1 at Q F2 ⊢
  have q:IntKind.i64.wrap (IntKind.i64.wrap (b+1)+1)=b+(1+1):=by rw[w64 (by rw[p];omega) (by rw[p];omega)]<;>rw[p]<;>omega
  have aa:((g9 d7 U1 xs k j).set j (D7 (b),(IntKind.i64.wrap (b+1),m,f)))[j]?=some (D7 (b),(IntKind.i64.wrap (b+1),m,f)):=by rw[List.getElem?_set_self (by rw[T9];exact s)]
  obtain⟨af,bx,bl,bq,b1,C,L,am,bD,bb,aM,aS,aP,bL,bW,bS,b7,a3⟩:=Wp.at Q w aa (by decide)
  cases am
  obtain⟨cc,cg,ck,bo,bZ,bu,co,bh,rfl,au,rfl,ax,aA,bG,aH⟩:=a02 bb
  cases au
  refine aI af ?_
  refine T7.mk (Int.natCast_nonneg j) aM (aS 2 (by decide)) (by rw[Int.toNat_natCast];rfl) trivial ?_
  have R:J2.W (kst1.set i (.cells (C.setIfInBounds (l+(j*H0.sz+2)) (.int .i64 (IntKind.i64.wrap (IntKind.i64.wrap (b+1)+1)))) L (0,0))) [.slice (some ⟨i,l,none⟩) xs.length c] ((g9 d7 U1 xs k j).set j (D7 (b),(IntKind.i64.wrap (b+1),IntKind.i64.wrap (IntKind.i64.wrap (b+1)+1),f))) B:=by have:=a3 2 (.int .i64 (IntKind.i64.wrap (IntKind.i64.wrap (b+1)+1))) (D7 (b),(IntKind.i64.wrap (b+1),IntKind.i64.wrap (IntKind.i64.wrap (b+1)+1),f)) (by decide) λo hf=>W00 ax aA (B0f (by rw[q];omega) (by rw[q];omega)) (I0.frame aH λd g=>hf d (by simp[g]));rwa [List.set_set]at this
  have F3:∀ d,d ∉ B->(kst1.set i (.cells (C.setIfInBounds (l+(j*H0.sz+2)) (.int .i64 (IntKind.i64.wrap (IntKind.i64.wrap (b+1)+1)))) L (0,0))) d=h d:=λd g=>(Hp.set_other _ _ λe=>g (by rw[e];exact aP)).trans (F2 d g)
  generalize (kst1.set i (.cells (C.setIfInBounds (l+(j*H0.sz+2)) (.int .i64 (IntKind.i64.wrap (IntKind.i64.wrap (b+1)+1)))) L (0,0)))=kst2 at R F3 ⊢
  have u:IntKind.i64.wrap (IntKind.i64.wrap (IntKind.i64.wrap (b+1)+1)+1)=b+(1+1+1):=by rw[w64 (by rw[q];omega) (by rw[q];omega)]<;>rw[q]<;>omega
  have ab:((g9 d7 U1 xs k j).set j (D7 (b),(IntKind.i64.wrap (b+1),IntKind.i64.wrap (IntKind.i64.wrap (b+1)+1),f)))[j]?=some (D7 (b),(IntKind.i64.wrap (b+1),IntKind.i64.wrap (IntKind.i64.wrap (b+1)+1),f)):=by rw[List.getElem?_set_self (by rw[T9];exact s)]
  obtain⟨ag,bz,M,br,b2,bA,b4,an,ai,bc,bH,bN,bI,bM,aY,U,a4,b3⟩:=Wp.at R w ab (by decide)
  cases an
  obtain⟨cd,ch,cl,ac,a0,ah,cp,bi,rfl,av,rfl,ay,aB,aE,aJ⟩:=a02 bc
  cases av
  refine aI ag (eX _ (aI ai ?_))
  have aW:M.Nodup:=by first|exact U|(have:=U;simp only[List.nil_append,List.append_nil,List.nodup_append]at this;grind)
  refine Tr.mono (n06 _ ac a0 ah (f) M (IntKind.i64.wrap (IntKind.i64.wrap (IntKind.i64.wrap (b+1)+1)+1)) aJ aW ⟨by rw[u];omega,by rw[u];omega⟩) ?_
  rintro b8 F ⟨rfl,bd,T⟩
  have S:J2.W F [.slice (some ⟨i,l,none⟩) xs.length c] ((g9 d7 U1 xs k j).set j (D7 (b),(IntKind.i64.wrap (b+1),IntKind.i64.wrap (IntKind.i64.wrap (b+1)+1),(H7 f (IntKind.i64.wrap (IntKind.i64.wrap (IntKind.i64.wrap (b+1)+1)+1)))))) B:=by have:=a4 F (D7 (b),(IntKind.i64.wrap (b+1),IntKind.i64.wrap (IntKind.i64.wrap (b+1)+1),(H7 f (IntKind.i64.wrap (IntKind.i64.wrap (IntKind.i64.wrap (b+1)+1)+1))))) (λd g=>T d λI=>g (by simp[I])) (W00 ay aB aE bd);rwa [List.set_set]at this
  have X:∀ d,d ∉ B->F d=h d:=λd g=>(T d λI=>g (aY d (by simp[I]))).trans (F3 d g)
  have ao:(IntKind.i64.wrap (IntKind.i64.wrap (IntKind.i64.wrap (b+1)+1)+1)+(R7 f:Nat):Int)=b+(1+1+1+(R7 f:Nat)):=by rw[u];omega
  have ap:(D7 (b),(IntKind.i64.wrap (b+1),IntKind.i64.wrap (IntKind.i64.wrap (b+1)+1),(H7 f (IntKind.i64.wrap (IntKind.i64.wrap (IntKind.i64.wrap (b+1)+1)+1)))))=d7 (be,(t,m,f)) b:=by
   simp only[d7,U1,N09,F9]
   exact(congr (congrArg Prod.mk rfl) (congr (congrArg Prod.mk (by rw[p]<;>first|rfl|omega|(simp;omega))) (congr (congrArg Prod.mk (by rw[q]<;>first|rfl|omega|(simp;omega))) (congrArg (H7 f) (by rw[u]<;>first|rfl|omega|(simp;omega))))))
  have aj:(g9 d7 U1 xs k j).set j (D7 (b),(IntKind.i64.wrap (b+1),IntKind.i64.wrap (IntKind.i64.wrap (b+1)+1),(H7 f (IntKind.i64.wrap (IntKind.i64.wrap (IntKind.i64.wrap (b+1)+1)+1)))))=g9 d7 U1 xs k (j+1):=by rw[ap];rw[H];exact a0b D
  rw[aj]at S
  refine aI rfl (aI (by first|exact trivial|exact aI rfl trivial|exact aI rfl (aI rfl trivial)|exact aI rfl (aI rfl (aI rfl trivial))|exact aI rfl (aI rfl (aI rfl (aI rfl trivial)))) (aI (by first|exact trivial|exact aI rfl trivial|exact aI rfl (aI rfl trivial)|exact aI rfl (aI rfl (aI rfl trivial))|exact aI rfl (aI rfl (aI rfl (aI rfl trivial)))) (aI ?_ ?_)))
  ·refine⟨j+1,IntKind.i64.wrap (IntKind.i64.wrap (IntKind.i64.wrap (b+1)+1)+1)+(R7 f:Nat),?_,by omega,by rw[←aZ],S,X⟩
   rw[ao];rw[aX];simp only[U1,F9];omega
  ·show((xs.length:Int)-IntKind.i64.wrap ((j:Int)+1)).toNat<((xs.length:Int)-(j:Int)).toNat
   omega
 ·have aT:j=xs.length:=by simp at G;omega
  subst aT
  rw[List.take_length]at H
  rw[Y0a]at y
  exact aI (congrArg (Value.int .i64) H) (aI y N)
theorem M03(h:Hp)(cs:List Value)(x:T0)(B:List Nat)(k:Int)(u:O0.W h cs x B)(j:B.Nodup)(s:0<=k/\k+(O4 x:Nat)<=4611686018427387904):
  Tr Tryz.prog 53 #[.agg cs.toArray,.int .i64 k] h λv i=>v = .int .i64 (k+(O4 x:Nat))/\O0.W i cs (C01 x k) B/\∀ c,c ∉ B->i c=h c:=by
 obtain⟨a,d,f,e,b,z,rfl,rfl,rfl,h0,p⟩:=Q09 u
 simp only[O4]at s
 refine R3 (args:=[.agg #[.int .i64 a,.slice d f e],.int .i64 k]) (fn:=Tryz.f53) rfl ?_
 have t:B.Nodup:=by first|exact j|(have:=j;simp only[List.nil_append,List.append_nil,List.nodup_append]at this;grind)
 refine Tr.mono (f0a _ d f e b B (k) p t ⟨by omega,by omega⟩) ?_
 rintro A q ⟨rfl,y,o⟩
 have m:(k+(G9 b:Nat):Int)=k+(O4 (a,b):Nat):=by simp only[O4]<;>omega
 have g:O0.W q [.int .i64 a,.slice d f e] (a,B00 b (k)) (B):=⟨[.int .i64 a],[.slice d f e],[],B,rfl,rfl,⟨⟨rfl,h0⟩,rfl⟩,y⟩
 have n:(a,B00 b (k))=C01 (a,b) k:=by
  unfold C01
  exact(congr (congrArg Prod.mk rfl) rfl)
 rw[n]at g
 exact aI (congrArg (Value.int .i64) m) (aI g (λc w=>o c (λl=>w (by first|exact l|(simp only[List.nil_append,List.append_nil,List.mem_append,List.not_mem_nil,false_or,or_false]at l ⊢;grind)))))
theorem G0b(h:Hp)(a:Option Addr)(n c:Nat)(xs:K0)(k:Int)(u:I0.R h [.slice a n c] (H7 xs k))(L:0<=k/\k+(R7 xs:Nat)<=4611686018427387904):
  Tr Tryz.prog 156 #[.slice a n c,.int .i64 k] h λv l=>v = .int .i64 (k+(R7 xs:Nat))/\l=h:=by
 obtain⟨p,B⟩:=Sl.len u
 rw[show(H7 xs k).length=xs.length from H8 _ _ _ _]at p
 subst p
 refine R3 (args:=[.slice a xs.length c,.int .i64 k]) (fn:=Tryz.f156) rfl ?_
 refine eX { vars:=[1,5],boxes:=[],owns:=[] } (eX (λvs _ l=>∃(j:Nat) (b:Int),b=k+(c4 j4 (xs.take j):Nat)/\j<=xs.length/\vs = [.int .i64 b,.int .i64 j]/\l=h) (eX (λvs _=>match vs with | [_,.int _ j]=>((xs.length:Int)-j).toNat|_=>0) ?_))
 refine aI ⟨0,k,by simp[c4],by omega,rfl,rfl⟩ ?_
 rintro _ _ J ⟨j,b,o,K,⟨⟩,rfl⟩
 refine aI (λm=>?_) (λm=>?_)
 ·have t:j<xs.length:=by simpa using m
  obtain⟨x,s⟩:=d9 t
  have C:c4 j4 (xs.take (j+1))=c4 j4 (xs.take j)+j4 x:=y01 s
  have M:=z01 j4 xs (j+1)
  have D:=Z2 t B
  have A:0<=b/\b+(j4 x:Nat)<=4611686018427387904:=by
   have:(R7 xs:Int)=(c4 j4 xs:Nat):=rfl
   omega
  have y:(H7 xs k)[j]?=some (h9 x b):=by rw[o];exact L09 s
  obtain⟨g,F,i,E⟩:=Sl.get u y (by decide)
  obtain⟨N,P,S⟩:=x
  simp only[j4]at A
  obtain⟨O,Q,T,rfl,q,G,H,I⟩:=H1 E
  simp only[h9,j4,Prod.mk.injEq]at q
  obtain⟨rfl,rfl,rfl⟩:=q
  refine aI g (eX _ (aI i ?_))
  refine aI (λd=>?_) (λd=>?_)
  ·exact((bne_iff_ne.1 d) (by first|rfl|omega|(simp;omega))).elim
  clear d
  have e:IntKind.i64.wrap (b+1)=b+(1):=by rw[w64 (by  omega) (by  omega)]<;>omega
  refine aI g (eX _ (aI i ?_))
  refine aI (λd=>?_) (λd=>?_)
  ·exact((bne_iff_ne.1 d) (by rw[e];first|rfl|omega|(simp;omega))).elim
  clear d
  have f:IntKind.i64.wrap (IntKind.i64.wrap (b+1)+1)=b+(1+1):=by rw[w64 (by rw[e];  omega) (by rw[e];  omega)]<;>rw[e]<;>omega
  refine aI g (eX _ (aI i ?_))
  refine aI (λd=>?_) (λd=>?_)
  ·exact((bne_iff_ne.1 d) (by rw[f];first|rfl|omega|(simp;omega))).elim
  clear d
  have w:IntKind.i64.wrap (IntKind.i64.wrap (IntKind.i64.wrap (b+1)+1)+1)=b+(1+1+1):=by rw[w64 (by rw[f];  omega) (by rw[f];  omega)]<;>rw[f]<;>omega
  refine aI rfl (aI (by first|exact trivial|exact aI rfl trivial|exact aI rfl (aI rfl trivial)|exact aI rfl (aI rfl (aI rfl trivial))|exact aI rfl (aI rfl (aI rfl (aI rfl trivial)))) (aI (by first|exact trivial|exact aI rfl trivial|exact aI rfl (aI rfl trivial)|exact aI rfl (aI rfl (aI rfl trivial))|exact aI rfl (aI rfl (aI rfl (aI rfl trivial)))) (aI ?_ ?_)))
  ·refine⟨j+1,IntKind.i64.wrap (IntKind.i64.wrap (IntKind.i64.wrap (b+1)+1)+1),?_,by omega,by rw[←D],rfl⟩
   rw[w];rw[C];simp only[j4];omega
  ·show((xs.length:Int)-IntKind.i64.wrap ((j:Int)+1)).toNat<((xs.length:Int)-(j:Int)).toNat
   omega
 ·have z:j=xs.length:=by simp at m;omega
  subst z
  rw[List.take_length]at o
  exact aI (congrArg (Value.int .i64) o) rfl
theorem g0a(h:Hp)(a:Option Addr)(n c:Nat)(xs:N0)(k:Int)(D:J2.R h [.slice a n c] (B00 xs k))(V:0<=k/\k+(G9 xs:Nat)<=4611686018427387904):
  Tr Tryz.prog 142 #[.slice a n c,.int .i64 k] h λv q=>v = .int .i64 (k+(G9 xs:Nat))/\q=h:=by
 obtain⟨w,K⟩:=Sl.len D
 rw[show(B00 xs k).length=xs.length from H8 _ _ _ _]at w
 subst w
 refine R3 (args:=[.slice a xs.length c,.int .i64 k]) (fn:=Tryz.f142) rfl ?_
 refine eX { vars:=[1,5],boxes:=[],owns:=[] } (eX (λvs _ q=>∃(j:Nat) (b:Int),b=k+(c4 U1 (xs.take j):Nat)/\j<=xs.length/\vs = [.int .i64 b,.int .i64 j]/\q=h) (eX (λvs _=>match vs with | [_,.int _ j]=>((xs.length:Int)-j).toNat|_=>0) ?_))
 refine aI ⟨0,k,by simp[c4],by omega,rfl,rfl⟩ ?_
 rintro _ _ B ⟨j,b,t,U,⟨⟩,rfl⟩
 refine aI (λs=>?_) (λs=>?_)
 ·have C:j<xs.length:=by simpa using s
  obtain⟨x,A⟩:=d9 C
  have L:c4 U1 (xs.take (j+1))=c4 U1 (xs.take j)+U1 x:=y01 A
  have W:=z01 U1 xs (j+1)
  have M:=Z2 C K
  have J:0<=b/\b+(U1 x:Nat)<=4611686018427387904:=by
   have:(G9 xs:Int)=(c4 U1 xs:Nat):=rfl
   omega
  have H:(B00 xs k)[j]?=some (d7 x b):=by rw[t];exact L09 A
  obtain⟨g,O,i,N⟩:=Sl.get D H (by decide)
  obtain⟨X,⟨Z,ab,e⟩⟩:=x
  simp only[U1,F9]at J
  obtain⟨Y,aa,ac,o,u,p,ad,rfl,y,Q,S,T,F⟩:=Y1 N
  simp only[d7,U1,N09,F9,Prod.mk.injEq]at y
  obtain⟨rfl,⟨rfl,rfl,rfl⟩⟩:=y
  refine Or.inl (aI (aI (by kernel_rfl) (by kernel_rfl)) ?_)
  refine aI g (eX _ (aI i ?_))
  refine eX (.string _) (aI (g08 _ (b) ⟨by omega,by omega⟩) ?_)
  refine aI (λd=>?_) (λd=>?_)
  ·exact((r0h d) (congrArg D7 (by first|rfl|omega|(simp;omega)))).elim
  clear d
  have l:IntKind.i64.wrap (b+1)=b+(1):=by rw[w64 (by  omega) (by  omega)]<;>omega
  refine aI g (eX _ (aI i ?_))
  refine aI (λd=>?_) (λd=>?_)
  ·exact((bne_iff_ne.1 d) (by rw[l];first|rfl|omega|(simp;omega))).elim
  clear d
  have m:IntKind.i64.wrap (IntKind.i64.wrap (b+1)+1)=b+(1+1):=by rw[w64 (by rw[l];  omega) (by rw[l];  omega)]<;>rw[l]<;>omega
  refine aI g (eX _ (aI i ?_))
  refine aI (λd=>?_) (λd=>?_)
  ·exact((bne_iff_ne.1 d) (by rw[m];first|rfl|omega|(simp;omega))).elim
  clear d
  have f:IntKind.i64.wrap (IntKind.i64.wrap (IntKind.i64.wrap (b+1)+1)+1)=b+(1+1+1):=by rw[w64 (by rw[m];  omega) (by rw[m];  omega)]<;>rw[m]<;>omega
  refine aI g (eX _ (aI i ?_))
  have G:I0.R B [.slice o u p] (H7 e (IntKind.i64.wrap (IntKind.i64.wrap (IntKind.i64.wrap (b+1)+1)+1))):=v0i (P:=λz=>I0.R B [.slice o u p] (H7 e z)) F (by rw[f];first|rfl|omega|(simp;omega))
  refine Tr.val (G0b _ o u p e (IntKind.i64.wrap (IntKind.i64.wrap (IntKind.i64.wrap (b+1)+1)+1)) G ⟨by rw[f];omega,by rw[f];omega⟩) ?_
  refine aI (λd=>?_) (λd=>?_)
  ·have:(IntKind.i64.wrap (IntKind.i64.wrap (IntKind.i64.wrap (b+1)+1)+1)+(R7 e:Nat):Int)<0:=by simpa only[decide_eq_true_eq] using d
   exact absurd this (by rw[f];omega)
  clear d
  have E:(IntKind.i64.wrap (IntKind.i64.wrap (IntKind.i64.wrap (b+1)+1)+1)+(R7 e:Nat):Int)=b+(1+1+1+(R7 e:Nat)):=by rw[f];omega
  refine aI rfl (aI (by first|exact trivial|exact aI rfl trivial|exact aI rfl (aI rfl trivial)|exact aI rfl (aI rfl (aI rfl trivial))|exact aI rfl (aI rfl (aI rfl (aI rfl trivial)))) (aI (by first|exact trivial|exact aI rfl trivial|exact aI rfl (aI rfl trivial)|exact aI rfl (aI rfl (aI rfl trivial))|exact aI rfl (aI rfl (aI rfl (aI rfl trivial)))) (aI ?_ ?_)))
  ·refine⟨j+1,IntKind.i64.wrap (IntKind.i64.wrap (IntKind.i64.wrap (b+1)+1)+1)+(R7 e:Nat),?_,by omega,by rw[←M],rfl⟩
   rw[E];rw[L];simp only[U1,F9];omega
  ·show((xs.length:Int)-IntKind.i64.wrap ((j:Int)+1)).toNat<((xs.length:Int)-(j:Int)).toNat
   omega
 ·have I:j=xs.length:=by simp at s;omega
  subst I
  rw[List.take_length]at t
  exact aI (congrArg (Value.int .i64) t) rfl
theorem N03(h:Hp)(cs:List Value)(x:T0)(k:Int)(m:O0.R h cs (C01 x k))(l:0<=k/\k+(O4 x:Nat)<=4611686018427387904):
  Tr Tryz.prog 55 #[.agg cs.toArray,.int .i64 k] h λv j=>v = .int .i64 (k+(O4 x:Nat))/\j=h:=by
 obtain⟨n,g⟩:=x
 obtain⟨p,b,f,c,q,rfl,d,o,i⟩:=V1 m
 simp only[C01,O4,Prod.mk.injEq]at d
 obtain⟨rfl,rfl⟩:=d
 simp only[O4]at l
 refine R3 (args:=[.agg #[.int .i64 n,.slice b f c],.int .i64 k]) (fn:=Tryz.f55) rfl ?_
 refine Tr.val (g0a _ b f c g (k) (by have e:=i;first|exact e|(rwa [show k+(((0:Nat):Int))=k from by omega]at e)) ⟨by omega,by omega⟩) ?_
 refine aI (λa=>?_) (λa=>?_)
 ·have:(k+(G9 g:Nat):Int)<0:=by simpa only[decide_eq_true_eq] using a
  exact absurd this (by omega)
 clear a
 exact aI (congrArg (Value.int .i64) (by simp only[O4]<;>omega)) rfl
end Go.Proofs.YtkjhghloldgioaaGreat
