/- Texts of the claim, joined: The data types of the laws, as lists and tuples and others. -/
import Derived.Test.YtkjhghloldgioaaGreatHE
import Derived.Test.YtkjhghloldgioaaGreatChecked
namespace Go.Proofs.YtkjhghloldgioaaGreat
open Go.H
set_option linter.unusedVariables false
set_option linter.unusedSimpArgs false
set_option maxRecDepth 10000
abbrev J0:Type:=Int×Int×Int
abbrev Z0:Wp J0:=Wp.pair Wp.int (Wp.pair Wp.int Wp.int)
instance k0s:DecidableEq J0:=(@instDecidableEqProd _ _ (inferInstance:DecidableEq Int) (@instDecidableEqProd _ _ (inferInstance:DecidableEq Int) (inferInstance:DecidableEq Int)))
def L0q(x:J0):Nat:=0
theorem I1{h:Hp}{cs:List Value}{x:J0}(f:Z0.R h cs x):∃(a:Int) (b:Int) (c:Int),cs = [.int .i64 a,.int .i64 b,.int .i64 c]/\x=(a,b,c)/\H0 a/\H0 b/\H0 c:=by
 obtain⟨a,b,c⟩:=x
 obtain⟨_,_,rfl,⟨rfl,h0⟩,⟨_,_,rfl,⟨rfl,d⟩,⟨rfl,e⟩⟩⟩:=f
 exact⟨a,b,c,rfl,rfl,h0,d,e⟩
theorem E1{h:Hp}{c:Int}{a:Int}{b:Int}(h0:H0 c)(d:H0 a)(e:H0 b):Z0.R h [.int .i64 c,.int .i64 a,.int .i64 b] (c,a,b) :=
 ⟨[.int .i64 c],[.int .i64 a,.int .i64 b],rfl,⟨rfl,h0⟩,⟨[.int .i64 a],[.int .i64 b],rfl,⟨rfl,d⟩,⟨rfl,e⟩⟩⟩
theorem W0k{h:Hp}{c:Int}{a:Int}{b:Int}(h0:H0 c)(d:H0 a)(e:H0 b):Z0.W h [.int .i64 c,.int .i64 a,.int .i64 b] (c,a,b) ([]++([] ++ [])) :=
 ⟨[.int .i64 c],[.int .i64 a,.int .i64 b],[],([] ++ []),rfl,rfl,⟨⟨rfl,h0⟩,rfl⟩,⟨[.int .i64 a],[.int .i64 b],[],[],rfl,rfl,⟨⟨rfl,d⟩,rfl⟩,⟨⟨rfl,e⟩,rfl⟩⟩⟩
abbrev M0:Type:=List J0
abbrev F0:Wp M0:=Wp.slice Z0
instance o0r:DecidableEq M0:=inferInstanceAs (DecidableEq (List J0))
def R05(x:M0):Nat:=x.length
abbrev j0:Type:=Int×Int×M0
abbrev V0:Wp j0:=Wp.pair Wp.int (Wp.pair Wp.int F0)
instance T0o:DecidableEq j0:=(@instDecidableEqProd _ _ (inferInstance:DecidableEq Int) (@instDecidableEqProd _ _ (inferInstance:DecidableEq Int) o0r))
def p04(x:j0):Nat:=R05 x.2.2
theorem B0{h:Hp}{cs:List Value}{x:j0}(j:V0.R h cs x):∃(a:Int) (b:Int) (c:Option Addr) (e d:Nat) (f:M0),cs = [.int .i64 a,.int .i64 b,.slice c e d]/\x=(a,b,f)/\H0 a/\H0 b/\F0.R h [.slice c e d] f:=by
 obtain⟨a,b,f⟩:=x
 obtain⟨_,_,rfl,⟨rfl,h0⟩,⟨_,_,rfl,⟨rfl,i⟩,g⟩⟩:=j
 obtain⟨c,e,d,rfl⟩:=Wp.slice_cell g
 exact⟨a,b,c,e,d,f,rfl,rfl,h0,i,g⟩
theorem l0{h:Hp}{e:Int}{a:Int}{b:Option Addr}{d c:Nat}{f:M0}(h0:H0 e)(g:H0 a)(i:F0.R h [.slice b d c] f):V0.R h [.int .i64 e,.int .i64 a,.slice b d c] (e,a,f) :=
 ⟨[.int .i64 e],[.int .i64 a,.slice b d c],rfl,⟨rfl,h0⟩,⟨[.int .i64 a],[.slice b d c],rfl,⟨rfl,g⟩,i⟩⟩
abbrev O5:Type:=Int×Int
abbrev Y4:Wp O5:=Wp.pair Wp.int Wp.int
instance l0s:DecidableEq O5:=(@instDecidableEqProd _ _ (inferInstance:DecidableEq Int) (inferInstance:DecidableEq Int))
theorem p03{h:Hp}{cs:List Value}{x:O5}(d:Y4.R h cs x):∃(a:Int) (b:Int),cs = [.int .i64 a,.int .i64 b]/\x=(a,b)/\H0 a/\H0 b:=by
 obtain⟨a,b⟩:=x
 obtain⟨_,_,rfl,⟨rfl,h0⟩,⟨rfl,c⟩⟩:=d
 exact⟨a,b,rfl,rfl,h0,c⟩
theorem D2{h:Hp}{a:Int}{b:Int}(h0:H0 a)(c:H0 b):Y4.R h [.int .i64 a,.int .i64 b] (a,b) :=
 ⟨[.int .i64 a],[.int .i64 b],rfl,⟨rfl,h0⟩,⟨rfl,c⟩⟩
abbrev C0:Type:=List Int
abbrev N0:Wp C0:=Wp.slice Wp.int
instance M0q:DecidableEq C0:=inferInstanceAs (DecidableEq (List Int))
def F4(x:C0):Nat:=x.length
abbrev T1:Type:=List C0
abbrev Q2:Wp T1:=Wp.slice N0
instance p0r:DecidableEq T1:=inferInstanceAs (DecidableEq (List C0))
def I5(x:T1):Nat:=x.length+U01 F4 x
abbrev W9:Type:=Int×Int×T1×C0×C0×j0×Int
abbrev D01:Wp W9:=Wp.pair Wp.int (Wp.pair Wp.int (Wp.pair Q2 (Wp.pair N0 (Wp.pair N0 (Wp.pair V0 Wp.int)))))
instance g0s:DecidableEq W9:=(@instDecidableEqProd _ _ (inferInstance:DecidableEq Int) (@instDecidableEqProd _ _ (inferInstance:DecidableEq Int) (@instDecidableEqProd _ _ p0r (@instDecidableEqProd _ _ M0q (@instDecidableEqProd _ _ M0q (@instDecidableEqProd _ _ T0o (inferInstance:DecidableEq Int)))))))
def t9(x:W9):Nat:=I5 x.2.2.1+F4 x.2.2.2.1+F4 x.2.2.2.2.1+p04 x.2.2.2.2.2.1
theorem g9{h:Hp}{cs:List Value}{x:W9}(G:D01.R h cs x):∃(a:Int) (b:Int) (f:Option Addr) (o k:Nat) (t:T1) (g:Option Addr) (p l:Nat) (u:C0) (i:Option Addr) (q m:Nat) (v:C0) (c:Int) (d:Int) (j:Option Addr) (s n:Nat) (w:M0) (e:Int),cs = [.int .i64 a,.int .i64 b,.slice f o k,.slice g p l,.slice i q m,.int .i64 c,.int .i64 d,.slice j s n,.int .i64 e]/\x=(a,b,t,u,v,(c,d,w),e)/\H0 a/\H0 b/\Q2.R h [.slice f o k] t/\N0.R h [.slice g p l] u/\N0.R h [.slice i q m] v/\H0 c/\H0 d/\F0.R h [.slice j s n] w/\H0 e:=by
 obtain⟨a,b,t,u,v,⟨c,d,w⟩,e⟩:=x
 obtain⟨_,_,rfl,⟨rfl,h0⟩,⟨_,_,rfl,⟨rfl,C⟩,⟨_,_,rfl,y,⟨_,_,rfl,z,⟨_,_,rfl,A,⟨_,_,rfl,⟨_,_,rfl,⟨rfl,D⟩,⟨_,_,rfl,⟨rfl,E⟩,B⟩⟩,⟨rfl,F⟩⟩⟩⟩⟩⟩⟩:=G
 obtain⟨f,o,k,rfl⟩:=Wp.slice_cell y
 obtain⟨g,p,l,rfl⟩:=Wp.slice_cell z
 obtain⟨i,q,m,rfl⟩:=Wp.slice_cell A
 obtain⟨j,s,n,rfl⟩:=Wp.slice_cell B
 exact⟨a,b,f,o,k,t,g,p,l,u,i,q,m,v,c,d,j,s,n,w,e,rfl,rfl,h0,C,y,z,A,D,E,B,F⟩
theorem Q02{h:Hp}{s:Int}{q:Int}{n:Option Addr}{p o:Nat}{t:T1}{k:Option Addr}{m l:Nat}{u:C0}{g:Option Addr}{j i:Nat}{v:C0}{e:Int}{a:Int}{b:Option Addr}{d c:Nat}{w:M0}{f:Int}(h0:H0 s)(x:H0 q)(y:Q2.R h [.slice n p o] t)(z:N0.R h [.slice k m l] u)(A:N0.R h [.slice g j i] v)(B:H0 e)(C:H0 a)(D:F0.R h [.slice b d c] w)(E:H0 f):D01.R h [.int .i64 s,.int .i64 q,.slice n p o,.slice k m l,.slice g j i,.int .i64 e,.int .i64 a,.slice b d c,.int .i64 f] (s,q,t,u,v,(e,a,w),f) :=
 ⟨[.int .i64 s],[.int .i64 q,.slice n p o,.slice k m l,.slice g j i,.int .i64 e,.int .i64 a,.slice b d c,.int .i64 f],rfl,⟨rfl,h0⟩,⟨[.int .i64 q],[.slice n p o,.slice k m l,.slice g j i,.int .i64 e,.int .i64 a,.slice b d c,.int .i64 f],rfl,⟨rfl,x⟩,⟨[.slice n p o],[.slice k m l,.slice g j i,.int .i64 e,.int .i64 a,.slice b d c,.int .i64 f],rfl,y,⟨[.slice k m l],[.slice g j i,.int .i64 e,.int .i64 a,.slice b d c,.int .i64 f],rfl,z,⟨[.slice g j i],[.int .i64 e,.int .i64 a,.slice b d c,.int .i64 f],rfl,A,⟨[.int .i64 e,.int .i64 a,.slice b d c],[.int .i64 f],rfl,⟨[.int .i64 e],[.int .i64 a,.slice b d c],rfl,⟨rfl,B⟩,⟨[.int .i64 a],[.slice b d c],rfl,⟨rfl,C⟩,D⟩⟩,⟨rfl,E⟩⟩⟩⟩⟩⟩⟩
abbrev K02:Type:=List W9
abbrev G01:Wp K02:=Wp.slice D01
instance q0q:DecidableEq K02:=inferInstanceAs (DecidableEq (List W9))
def q03(x:K02):Nat:=x.length+U01 t9 x
abbrev R3:Type:=Int×K02
abbrev Y5:Wp R3:=Wp.pair Wp.int G01
instance F0r:DecidableEq R3:=(@instDecidableEqProd _ _ (inferInstance:DecidableEq Int) q0q)
def x01(x:R3):Nat:=q03 x.2
theorem t7{h:Hp}{cs:List Value}{x:R3}(g:Y5.R h cs x):∃(a:Int) (b:Option Addr) (d c:Nat) (e:K02),cs = [.int .i64 a,.slice b d c]/\x=(a,e)/\H0 a/\G01.R h [.slice b d c] e:=by
 obtain⟨a,e⟩:=x
 obtain⟨_,_,rfl,⟨rfl,h0⟩,f⟩:=g
 obtain⟨b,d,c,rfl⟩:=Wp.slice_cell f
 exact⟨a,b,d,c,e,rfl,rfl,h0,f⟩
theorem y01{h:Hp}{a:Int}{b:Option Addr}{d c:Nat}{e:K02}(h0:H0 a)(f:G01.R h [.slice b d c] e):Y5.R h [.int .i64 a,.slice b d c] (a,e) :=
 ⟨[.int .i64 a],[.slice b d c],rfl,⟨rfl,h0⟩,f⟩
abbrev X0k:Type:=ByteArray×j0
instance h0s:DecidableEq X0k:=(@instDecidableEqProd _ _ (inferInstance:DecidableEq ByteArray) T0o)
abbrev B0d:Type:=List X0k
instance Y0r:DecidableEq B0d:=inferInstanceAs (DecidableEq (List X0k))
abbrev R8:Type:=List O5
abbrev S0h:Wp R8:=Wp.slice Y4
instance i0s:DecidableEq R8:=inferInstanceAs (DecidableEq (List O5))
theorem R0b(h:Hp):∃ cs,Z0.R h cs (0,0,0):=⟨_,E1 (by decide) (by decide) (by decide)⟩
theorem r0q(h:Hp):∃ cs,D01.R h cs (0,0,[],[],[],(0,0,[]),0):=⟨_,Q02 (by decide) (by decide) (T07 N0 h) (T07 Wp.int h) (T07 Wp.int h) (by decide) (by decide) (T07 Z0 h) (by decide)⟩
theorem R0n(h:Hp)(a:Option Addr)(n c:Nat)(xs:M0)(left:Int)(f:F0.R h [.slice a n c] xs)(g:0<=left/\left<=1048576):
  Tr Tryz.prog 102 #[.slice a n c,.int .i64 left] h λv e=>v = .int .i64 (szR left (R05 xs))/\e=h:=by
 obtain⟨rfl,i⟩:=Sl.len f
 have d:IntKind.i64.wrap (left-(xs.length:Int))=left-xs.length:=w64 (by omega) (by omega)
 refine O1 (args:=[.slice a xs.length c,.int .i64 left]) (fn:=Tryz.f102) rfl ?_
 refine aI (λb=>?_) (λb=>?_)
 ·refine aI ?_ rfl
  simp[d]at b
  rw[R05,O0h (by omega)]
  rfl
 ·refine aI ?_ rfl
  simp[d]at b
  rw[R05,P0h (by omega)]
  exact congrArg (Value.int .i64) d
theorem S0n(h:Hp)(cs:List Value)(x:j0)(left:Int)(k:V0.R h cs x)(f:0<=left/\left<=1048576):
  Tr Tryz.prog 41 #[.agg cs.toArray,.int .i64 left] h λv i=>v = .int .i64 (szR left (p04 x))/\i=h:=by
 obtain⟨m,n,d,g,e,b,rfl,rfl,h0,o,j⟩:=B0 k
 refine O1 (args:=[.agg #[.int .i64 m,.int .i64 n,.slice d g e],.int .i64 left]) (fn:=Tryz.f41) rfl ?_
 refine Tr.val (R0n h d g e b (left) j f) ?_
 refine aI (λc=>?_) (λc=>?_)
 ·refine aI ?_ rfl
  rw[p04,g04 (left:=left) (a:=((R05 b:Nat):Int)) (by simpa using c) f.1 (by simp only[];omega)]
  rfl
 have l:0<=szR left ((R05 b:Nat):Int):=by simpa using c
 have p:0<=szR left ((R05 b:Nat):Int)/\szR left ((R05 b:Nat):Int)<=1048576:=by
  have:=X06 l
  omega
 exact aI rfl rfl
theorem C0f(h:Hp)(a:Option Addr)(n c:Nat)(xs:C0)(left:Int)(f:N0.R h [.slice a n c] xs)(g:0<=left/\left<=1048576):
  Tr Tryz.prog 83 #[.slice a n c,.int .i64 left] h λv e=>v = .int .i64 (szR left (F4 xs))/\e=h:=by
 obtain⟨rfl,i⟩:=Sl.len f
 have d:IntKind.i64.wrap (left-(xs.length:Int))=left-xs.length:=w64 (by omega) (by omega)
 refine O1 (args:=[.slice a xs.length c,.int .i64 left]) (fn:=Tryz.f83) rfl ?_
 refine aI (λb=>?_) (λb=>?_)
 ·refine aI ?_ rfl
  simp[d]at b
  rw[F4,O0h (by omega)]
  rfl
 ·refine aI ?_ rfl
  simp[d]at b
  rw[F4,P0h (by omega)]
  exact congrArg (Value.int .i64) d
theorem T0n(h:Hp)(a:Option Addr)(n c:Nat)(xs:T1)(left:Int)(q:Q2.R h [.slice a n c] xs)(z:0<=left/\left<=1048576):
  Tr Tryz.prog 33 #[.slice a n c,.int .i64 left] h λv d=>v = .int .i64 (szR left (I5 xs))/\d=h:=by
 obtain⟨rfl,A⟩:=Sl.len q
 have i:IntKind.i64.wrap (left-(xs.length:Int))=left-xs.length:=w64 (by omega) (by omega)
 refine O1 (args:=[.slice a xs.length c,.int .i64 left]) (fn:=Tryz.f33) rfl ?_
 refine aI (λe=>?_) (λe=>?_)
 ·refine aI ?_ rfl
  simp[i]at e
  rw[I5,O0h (by omega)]
  rfl
 simp[i]at e
 refine eX { vars:=[1,5],boxes:=[],owns:=[] } (eX (λvs _ d=>∃ k:Nat,k<=xs.length/\0<=szR left ((xs.length+U01 F4 (xs.take k):Nat):Int)/\vs = [.int .i64 (szR left ((xs.length+U01 F4 (xs.take k):Nat):Int)),.int .i64 k]/\d=h) (eX (λvs _=>match vs with | [_,.int _ j]=>((xs.length:Int)-j).toNat|_=>0) ?_))
 have h0:szR left ((xs.length+U01 F4 (xs.take 0):Nat):Int)=left-xs.length:=by rw[P0h (by simp[U01];omega)];simp[U01]
 refine aI ⟨0,by omega,by omega,by rw[h0];exact congrArg (λx=>[Value.int .i64 x,Value.int .i64 0]) i,rfl⟩ ?_
 rintro _ _ G ⟨k,m,p,⟨⟩,rfl⟩
 obtain⟨H,I⟩:=X06 p
 refine aI (λf=>?_) (λf=>?_)
 ·have o:k<xs.length:=by simpa using f
  obtain⟨x,l⟩:=F01 o
  obtain⟨u,F,y,s⟩:=Sl.get q l (by decide)
  have D:=P1 o A
  obtain⟨t,E,w,rfl⟩:=Wp.slice_cell s
  refine aI u (eX _ (aI y ?_))
  refine Tr.val (C0f _ t E w x _ s ⟨by omega,by omega⟩) ?_
  have g:szR (szR left ((xs.length+U01 F4 (xs.take k):Nat):Int)) (F4 x:Nat)=szR left ((xs.length+U01 F4 (xs.take (k+1)):Nat):Int):=by
   rw[B05 p (by omega) (by omega),s0g l]
   congr 1
   omega
  refine aI (λb=>?_) (λb=>?_)
  ·refine aI ?_ rfl
   rw[g]at b
   have B:szR left ((xs.length+U01 F4 (xs.take (k+1)):Nat):Int)<0:=by simpa using b
   have:=t0g F4 xs (k+1)
   rw[I5,g04 B z.1 (by omega)]
   rfl
  ·rw[g]at b
   have C:0<=szR left ((xs.length+U01 F4 (xs.take (k+1)):Nat):Int):=by simpa using b
   refine aI rfl (aI (by first|exact trivial|exact aI rfl trivial|exact aI rfl (aI rfl trivial)|exact aI rfl (aI rfl (aI rfl trivial))|exact aI rfl (aI rfl (aI rfl (aI rfl trivial)))) (aI (by first|exact trivial|exact aI rfl trivial|exact aI rfl (aI rfl trivial)|exact aI rfl (aI rfl (aI rfl trivial))|exact aI rfl (aI rfl (aI rfl (aI rfl trivial)))) (aI ?_ ?_)))
   ·refine⟨k+1,by omega,C,?_,rfl⟩
    rw[←D,←g]
   ·show((xs.length:Int)-IntKind.i64.wrap ((k:Int)+1)).toNat<((xs.length:Int)-(k:Int)).toNat
    omega
 ·have m:k=xs.length:=by simp at f;omega
  subst m
  refine aI ?_ rfl
  rw[List.take_length]
  rfl
theorem U0n(h:Hp)(cs:List Value)(x:W9)(left:Int)(Q:D01.R h cs x)(k:0<=left/\left<=1048576):
  Tr Tryz.prog 26 #[.agg cs.toArray,.int .i64 left] h λv G=>v = .int .i64 (szR left (t9 x))/\G=h:=by
 obtain⟨T,U,s,C,y,b,t,D,z,c,u,E,A,e,g,i,w,F,B,j,V,rfl,rfl,h0,W,H,I,J,K,L,M,X⟩:=g9 Q
 refine O1 (args:=[.agg #[.int .i64 T,.int .i64 U,.slice s C y,.slice t D z,.slice u E A,.int .i64 g,.int .i64 i,.slice w F B,.int .i64 V],.int .i64 left]) (fn:=Tryz.f26) rfl ?_
 refine Tr.val (T0n h s C y b (left) H k) ?_
 refine aI (λf=>?_) (λf=>?_)
 ·refine aI ?_ rfl
  rw[t9,g04 (left:=left) (a:=((I5 b:Nat):Int)) (by simpa using f) k.1 (by simp only[];omega)]
  rfl
 have n:0<=szR left ((I5 b:Nat):Int):=by simpa using f
 have N:0<=szR left ((I5 b:Nat):Int)/\szR left ((I5 b:Nat):Int)<=1048576:=by
  have:=X06 n
  omega
 refine Tr.val (C0f h t D z c (szR left ((I5 b:Nat):Int)) I N) ?_
 refine aI (λf=>?_) (λf=>?_)
 ·refine aI ?_ rfl
  have d:szR (szR left ((I5 b:Nat):Int)) ((F4 c:Nat):Int)<0:=by simpa using f
  rw[ B05 n (by omega) (by omega)]at d
  rw[t9,g04 d k.1 (by simp only[];omega)]
  rfl
 have d:0<=szR (szR left ((I5 b:Nat):Int)) ((F4 c:Nat):Int):=by simpa using f
 have l:szR left ((I5 b+F4 c:Nat):Int)=szR (szR left ((I5 b:Nat):Int)) ((F4 c:Nat):Int):=by rw[ B05 n (by omega) (by omega)];congr 1
 have o:0<=szR left ((I5 b+F4 c:Nat):Int):=by rw[l];exact d
 clear d
 have O:0<=szR (szR left ((I5 b:Nat):Int)) ((F4 c:Nat):Int)/\szR (szR left ((I5 b:Nat):Int)) ((F4 c:Nat):Int)<=1048576:=by
  rw[←l]
  have:=X06 o
  omega
 refine Tr.val (C0f h u E A e (szR (szR left ((I5 b:Nat):Int)) ((F4 c:Nat):Int)) J O) ?_
 refine aI (λf=>?_) (λf=>?_)
 ·refine aI ?_ rfl
  have d:szR (szR (szR left ((I5 b:Nat):Int)) ((F4 c:Nat):Int)) ((F4 e:Nat):Int)<0:=by simpa using f
  rw[←l,B05 o (by omega) (by omega)]at d
  rw[t9,g04 d k.1 (by simp only[];omega)]
  rfl
 have d:0<=szR (szR (szR left ((I5 b:Nat):Int)) ((F4 c:Nat):Int)) ((F4 e:Nat):Int):=by simpa using f
 have m:szR left ((I5 b+F4 c+F4 e:Nat):Int)=szR (szR (szR left ((I5 b:Nat):Int)) ((F4 c:Nat):Int)) ((F4 e:Nat):Int):=by rw[←l,B05 o (by omega) (by omega)];congr 1
 have p:0<=szR left ((I5 b+F4 c+F4 e:Nat):Int):=by rw[m];exact d
 clear d
 have P:0<=szR (szR (szR left ((I5 b:Nat):Int)) ((F4 c:Nat):Int)) ((F4 e:Nat):Int)/\szR (szR (szR left ((I5 b:Nat):Int)) ((F4 c:Nat):Int)) ((F4 e:Nat):Int)<=1048576:=by
  rw[←m]
  have:=X06 p
  omega
 refine Tr.val (S0n h [.int .i64 g,.int .i64 i,.slice w F B] (g,i,j) (szR (szR (szR left ((I5 b:Nat):Int)) ((F4 c:Nat):Int)) ((F4 e:Nat):Int)) (l0 K L M) P) ?_
 refine aI (λf=>?_) (λf=>?_)
 ·refine aI ?_ rfl
  have d:szR (szR (szR (szR left ((I5 b:Nat):Int)) ((F4 c:Nat):Int)) ((F4 e:Nat):Int)) ((p04 (g,i,j):Nat):Int)<0:=by simpa using f
  rw[←m,B05 p (by omega) (by omega)]at d
  rw[t9,g04 d k.1 (by simp only[];omega)]
  rfl
 have d:0<=szR (szR (szR (szR left ((I5 b:Nat):Int)) ((F4 c:Nat):Int)) ((F4 e:Nat):Int)) ((p04 (g,i,j):Nat):Int):=by simpa using f
 have q:szR left ((I5 b+F4 c+F4 e+p04 (g,i,j):Nat):Int)=szR (szR (szR (szR left ((I5 b:Nat):Int)) ((F4 c:Nat):Int)) ((F4 e:Nat):Int)) ((p04 (g,i,j):Nat):Int):=by rw[←m,B05 p (by omega) (by omega)];congr 1
 have S:0<=szR left ((I5 b+F4 c+F4 e+p04 (g,i,j):Nat):Int):=by rw[q];exact d
 clear d
 have Y:0<=szR (szR (szR (szR left ((I5 b:Nat):Int)) ((F4 c:Nat):Int)) ((F4 e:Nat):Int)) ((p04 (g,i,j):Nat):Int)/\szR (szR (szR (szR left ((I5 b:Nat):Int)) ((F4 c:Nat):Int)) ((F4 e:Nat):Int)) ((p04 (g,i,j):Nat):Int)<=1048576:=by
  rw[←q]
  have:=X06 S
  omega
 exact aI (congrArg (Value.int .i64) (q.symm.trans (by rw[t9]))) rfl
theorem E0l(h:Hp)(a:Option Addr)(n c:Nat)(xs:K02)(left:Int)(y:G01.R h [.slice a n c] xs)(X:0<=left/\left<=1048576):
  Tr Tryz.prog 75 #[.slice a n c,.int .i64 left] h λv d=>v = .int .i64 (szR left (q03 xs))/\d=h:=by
 obtain⟨rfl,Y⟩:=Sl.len y
 have i:IntKind.i64.wrap (left-(xs.length:Int))=left-xs.length:=w64 (by omega) (by omega)
 refine O1 (args:=[.slice a xs.length c,.int .i64 left]) (fn:=Tryz.f75) rfl ?_
 refine aI (λe=>?_) (λe=>?_)
 ·refine aI ?_ rfl
  simp[i]at e
  rw[q03,O0h (by omega)]
  rfl
 simp[i]at e
 refine eX { vars:=[1,5],boxes:=[],owns:=[] } (eX (λvs _ d=>∃ k:Nat,k<=xs.length/\0<=szR left ((xs.length+U01 t9 (xs.take k):Nat):Int)/\vs = [.int .i64 (szR left ((xs.length+U01 t9 (xs.take k):Nat):Int)),.int .i64 k]/\d=h) (eX (λvs _=>match vs with | [_,.int _ j]=>((xs.length:Int)-j).toNat|_=>0) ?_))
 have h0:szR left ((xs.length+U01 t9 (xs.take 0):Nat):Int)=left-xs.length:=by rw[P0h (by simp[U01];omega)];simp[U01]
 refine aI ⟨0,by omega,by omega,by rw[h0];exact congrArg (λx=>[Value.int .i64 x,Value.int .i64 0]) i,rfl⟩ ?_
 rintro _ _ ai ⟨k,t,w,⟨⟩,rfl⟩
 obtain⟨aj,ak⟩:=X06 w
 refine aI (λf=>?_) (λf=>?_)
 ·have u:k<xs.length:=by simpa using f
  obtain⟨x,s⟩:=F01 u
  obtain⟨H,ah,M,ac⟩:=Sl.get y s (by decide)
  have ab:=P1 u Y
  obtain⟨l,m,D,ad,I,z,E,ae,J,A,F,af,K,B,o,p,G,ag,L,C,q,rfl,rfl,N,O,P,Q,S,T,U,V,W⟩:=g9 ac
  refine aI H (eX _ (aI M ?_))
  refine Tr.val (U0n _ [.int .i64 l,.int .i64 m,.slice D ad I,.slice E ae J,.slice F af K,.int .i64 o,.int .i64 p,.slice G ag L,.int .i64 q] (l,m,z,A,B,(o,p,C),q) _ (Q02 N O P Q S T U V W) ⟨by omega,by omega⟩) ?_
  have g:szR (szR left ((xs.length+U01 t9 (xs.take k):Nat):Int)) (t9 (l,m,z,A,B,(o,p,C),q):Nat)=szR left ((xs.length+U01 t9 (xs.take (k+1)):Nat):Int):=by
   rw[B05 w (by omega) (by omega),s0g s]
   congr 1
   omega
  refine aI (λb=>?_) (λb=>?_)
  ·refine aI ?_ rfl
   rw[g]at b
   have Z:szR left ((xs.length+U01 t9 (xs.take (k+1)):Nat):Int)<0:=by simpa using b
   have:=t0g t9 xs (k+1)
   rw[q03,g04 Z X.1 (by omega)]
   rfl
  ·rw[g]at b
   have aa:0<=szR left ((xs.length+U01 t9 (xs.take (k+1)):Nat):Int):=by simpa using b
   refine aI rfl (aI (by first|exact trivial|exact aI rfl trivial|exact aI rfl (aI rfl trivial)|exact aI rfl (aI rfl (aI rfl trivial))|exact aI rfl (aI rfl (aI rfl (aI rfl trivial)))) (aI (by first|exact trivial|exact aI rfl trivial|exact aI rfl (aI rfl trivial)|exact aI rfl (aI rfl (aI rfl trivial))|exact aI rfl (aI rfl (aI rfl (aI rfl trivial)))) (aI ?_ ?_)))
   ·refine⟨k+1,by omega,aa,?_,rfl⟩
    rw[←ab,←g]
   ·show((xs.length:Int)-IntKind.i64.wrap ((k:Int)+1)).toNat<((xs.length:Int)-(k:Int)).toNat
    omega
 ·have t:k=xs.length:=by simp at f;omega
  subst t
  refine aI ?_ rfl
  rw[List.take_length]
  rfl
theorem y0i(h:Hp)(cs:List Value)(x:R3)(left:Int)(k:Y5.R h cs x)(f:0<=left/\left<=1048576):
  Tr Tryz.prog 15 #[.agg cs.toArray,.int .i64 left] h λv i=>v = .int .i64 (szR left (x01 x))/\i=h:=by
 obtain⟨m,d,g,e,b,rfl,rfl,h0,j⟩:=t7 k
 refine O1 (args:=[.agg #[.int .i64 m,.slice d g e],.int .i64 left]) (fn:=Tryz.f15) rfl ?_
 refine Tr.val (E0l h d g e b (left) j f) ?_
 refine aI (λc=>?_) (λc=>?_)
 ·refine aI ?_ rfl
  rw[x01,g04 (left:=left) (a:=((q03 b:Nat):Int)) (by simpa using c) f.1 (by simp only[];omega)]
  rfl
 have l:0<=szR left ((q03 b:Nat):Int):=by simpa using c
 have n:0<=szR left ((q03 b:Nat):Int)/\szR left ((q03 b:Nat):Int)<=1048576:=by
  have:=X06 l
  omega
 exact aI rfl rfl
theorem R0p(h:Hp)(cs ds:List Value)(x y:J0)(l:Z0.R h cs x)(m:Z0.R h ds y):
  Tr Tryz.prog 225 #[.agg cs.toArray,.agg ds.toArray] h λv k=>v = .bool (decide (x=y))/\k=h:=by
 obtain⟨c,f,i,rfl,rfl,h0,s,u⟩:=I1 l
 obtain⟨d,g,j,rfl,rfl,q,t,w⟩:=I1 m
 refine O1 (args:=[.agg #[.int .i64 c,.int .i64 f,.int .i64 i],.agg #[.int .i64 d,.int .i64 g,.int .i64 j]]) (fn:=Tryz.f225) rfl ?_
 refine aI (λa=>?_) (λa=>?_)
 ·have b:c≠d:=by simpa using a
  exact aI (congrArg Value.bool (decide_eq_false λe=>by cases e;exact b rfl).symm) rfl
 have n:c=d:=by simpa using a
 subst n
 refine aI (λa=>?_) (λa=>?_)
 ·have b:f≠g:=by simpa using a
  exact aI (congrArg Value.bool (decide_eq_false λe=>by cases e;exact b rfl).symm) rfl
 have o:f=g:=by simpa using a
 subst o
 refine aI (λa=>?_) (λa=>?_)
 ·have b:i≠j:=by simpa using a
  exact aI (congrArg Value.bool (decide_eq_false λe=>by cases e;exact b rfl).symm) rfl
 have p:i=j:=by simpa using a
 subst p
 exact aI (congrArg Value.bool (decide_eq_true rfl).symm) rfl
theorem V0n(h:Hp)(a:Option Addr)(n c:Nat)(p:Option Addr)(G q:Nat)(xs b:M0)(E:F0.R h [.slice a n c] xs)(F:F0.R h [.slice p G q] b):
  Tr Tryz.prog 116 #[.slice a n c,.slice p G q] h λv u=>v = .bool (decide (xs=b))/\u=h:=by
 obtain⟨rfl,U⟩:=Sl.len E
 obtain⟨rfl,ac⟩:=Sl.len F
 refine O1 (args:=[.slice a xs.length c,.slice p b.length q]) (fn:=Tryz.f116) rfl ?_
 refine aI (λw=>?_) (λw=>?_)
 ·refine aI (congrArg Value.bool ?_) rfl
  have:xs.length≠b.length:=by simp at w;omega
  exact(decide_eq_false λe=>this (by rw[e])).symm
 have T:xs.length=b.length:=by simp at w;omega
 refine eX { vars:=[5],boxes:=[],owns:=[] } (eX (λvs _ u=>∃ k:Nat,k<=xs.length/\xs.take k=b.take k/\vs = [.int .i64 k]/\u=h) (eX (λvs _=>match vs with | [.int _ j]=>((xs.length:Int)-j).toNat|_=>0) ?_))
 refine aI ⟨0,by omega,by simp,rfl,rfl⟩ ?_
 rintro _ ab ⟨k,C,B,⟨⟩,rfl⟩
 refine aI (λz=>?_) (λz=>?_)
 ·have D:k<xs.length:=by simpa using z
  obtain⟨x,s⟩:=F01 D
  obtain⟨y,t⟩:=F01 (l:=b) (k:=k) (by omega)
  obtain⟨H,Z,J,X⟩:=Sl.get E s (by decide)
  obtain⟨I,aa,K,Y⟩:=Sl.get F t (by decide)
  have W:=P1 D U
  obtain⟨d,g,m,rfl,rfl,L,N,P⟩:=I1 X
  obtain⟨f,i,o,rfl,rfl,M,O,Q⟩:=I1 Y
  refine Or.inl (aI (aI (by kernel_rfl) (by kernel_rfl)) ?_)
  refine aI H (eX _ (aI J (aI I (eX _ (aI K ?_)))))
  refine eX (.bool _) (aI (R0p _ [.int .i64 d,.int .i64 g,.int .i64 m] [.int .i64 f,.int .i64 i,.int .i64 o] (d,g,m) (f,i,o) (E1 L N P) (E1 M O Q)) ?_)
  refine aI (λA=>?_) (λA=>?_)
  ·refine aI (congrArg Value.bool ?_) rfl
   have V:(d,g,m)≠(f,i,o):=A04 A
   exact(decide_eq_false λe=>V (oJ (s.symm.trans ((congrArg (λl:M0=>l[k]?) e).trans t)))).symm
  ·have S:(d,g,m)=(f,i,o):=o03 A
   refine aI rfl (aI (by first|exact trivial|exact aI rfl trivial|exact aI rfl (aI rfl trivial)|exact aI rfl (aI rfl (aI rfl trivial))|exact aI rfl (aI rfl (aI rfl (aI rfl trivial)))) (aI (by first|exact trivial|exact aI rfl trivial|exact aI rfl (aI rfl trivial)|exact aI rfl (aI rfl (aI rfl trivial))|exact aI rfl (aI rfl (aI rfl (aI rfl trivial)))) (aI ?_ ?_)))
   ·refine⟨k+1,by omega,by rw[O9 s,O9 t,B,S],?_,rfl⟩
    rw[←W]
   ·show((xs.length:Int)-IntKind.i64.wrap ((k:Int)+1)).toNat<((xs.length:Int)-(k:Int)).toNat
    omega
 ·have C:k=xs.length:=by simp at z;omega
  refine aI (congrArg Value.bool ?_) rfl
  refine(decide_eq_true ?_).symm
  subst C
  rwa [List.take_length,T,List.take_length]at B
theorem W0n(h:Hp)(cs ds:List Value)(x y:j0)(u:V0.R h cs x)(w:V0.R h ds y):
  Tr Tryz.prog 45 #[.agg cs.toArray,.agg ds.toArray] h λv q=>v = .bool (decide (x=y))/\q=h:=by
 obtain⟨c,f,k,o,m,i,rfl,rfl,h0,D,s⟩:=B0 u
 obtain⟨d,g,l,p,n,j,rfl,rfl,C,E,t⟩:=B0 w
 refine O1 (args:=[.agg #[.int .i64 c,.int .i64 f,.slice k o m],.agg #[.int .i64 d,.int .i64 g,.slice l p n]]) (fn:=Tryz.f45) rfl ?_
 refine aI (λa=>?_) (λa=>?_)
 ·have b:c≠d:=by simpa using a
  exact aI (congrArg Value.bool (decide_eq_false λe=>by cases e;exact b rfl).symm) rfl
 have z:c=d:=by simpa using a
 subst z
 refine aI (λa=>?_) (λa=>?_)
 ·have b:f≠g:=by simpa using a
  exact aI (congrArg Value.bool (decide_eq_false λe=>by cases e;exact b rfl).symm) rfl
 have A:f=g:=by simpa using a
 subst A
 refine Tr.val (V0n h k o m l p n i j s t) ?_
 refine aI (λa=>?_) (λa=>?_)
 ·have b:i≠j:=A04 a
  exact aI (congrArg Value.bool (decide_eq_false λe=>by cases e;exact b rfl).symm) rfl
 have B:i=j:=o03 a
 subst B
 exact aI (congrArg Value.bool (decide_eq_true rfl).symm) rfl
theorem D0f(h:Hp)(a:Option Addr)(n c:Nat)(d:Option Addr)(A f:Nat)(xs b:C0)(w:N0.R h [.slice a n c] xs)(z:N0.R h [.slice d A f] b):
  Tr Tryz.prog 22 #[.slice a n c,.slice d A f] h λv m=>v = .bool (decide (xs=b))/\m=h:=by
 obtain⟨rfl,H⟩:=Sl.len w
 obtain⟨rfl,P⟩:=Sl.len z
 refine O1 (args:=[.slice a xs.length c,.slice d b.length f]) (fn:=Tryz.f22) rfl ?_
 refine aI (λo=>?_) (λo=>?_)
 ·refine aI (congrArg Value.bool ?_) rfl
  have:xs.length≠b.length:=by simp at o;omega
  exact(decide_eq_false λe=>this (by rw[e])).symm
 have G:xs.length=b.length:=by simp at o;omega
 refine eX { vars:=[5],boxes:=[],owns:=[] } (eX (λvs _ m=>∃ k:Nat,k<=xs.length/\xs.take k=b.take k/\vs = [.int .i64 k]/\m=h) (eX (λvs _=>match vs with | [.int _ j]=>((xs.length:Int)-j).toNat|_=>0) ?_))
 refine aI ⟨0,by omega,by simp,rfl,rfl⟩ ?_
 rintro _ O ⟨k,t,s,⟨⟩,rfl⟩
 refine aI (λp=>?_) (λp=>?_)
 ·have u:k<xs.length:=by simpa using p
  obtain⟨x,g⟩:=F01 u
  obtain⟨y,i⟩:=F01 (l:=b) (k:=k) (by omega)
  obtain⟨B,M,D,K⟩:=Sl.get w g (by decide)
  obtain⟨C,N,E,L⟩:=Sl.get z i (by decide)
  have J:=P1 u H
  obtain⟨rfl,_⟩:=K
  obtain⟨rfl,_⟩:=L
  refine Or.inl (aI (aI (by kernel_rfl) (by kernel_rfl)) ?_)
  refine aI B (eX _ (aI D (aI C (eX _ (aI E ?_)))))
  refine aI (λq=>?_) (λq=>?_)
  ·refine aI (congrArg Value.bool ?_) rfl
   have I:x≠y:=by simpa using q
   exact(decide_eq_false λe=>I (oJ (g.symm.trans ((congrArg (λl:C0=>l[k]?) e).trans i)))).symm
  ·have F:x=y:=by simpa using q
   refine aI rfl (aI (by first|exact trivial|exact aI rfl trivial|exact aI rfl (aI rfl trivial)|exact aI rfl (aI rfl (aI rfl trivial))|exact aI rfl (aI rfl (aI rfl (aI rfl trivial)))) (aI (by first|exact trivial|exact aI rfl trivial|exact aI rfl (aI rfl trivial)|exact aI rfl (aI rfl (aI rfl trivial))|exact aI rfl (aI rfl (aI rfl (aI rfl trivial)))) (aI ?_ ?_)))
   ·refine⟨k+1,by omega,by rw[O9 g,O9 i,s,F],?_,rfl⟩
    rw[←J]
   ·show((xs.length:Int)-IntKind.i64.wrap ((k:Int)+1)).toNat<((xs.length:Int)-(k:Int)).toNat
    omega
 ·have t:k=xs.length:=by simp at p;omega
  refine aI (congrArg Value.bool ?_) rfl
  refine(decide_eq_true ?_).symm
  subst t
  rwa [List.take_length,G,List.take_length]at s
theorem X0n(h:Hp)(a:Option Addr)(n c:Nat)(d:Option Addr)(C f:Nat)(xs b:T1)(w:Q2.R h [.slice a n c] xs)(z:Q2.R h [.slice d C f] b):
  Tr Tryz.prog 38 #[.slice a n c,.slice d C f] h λv m=>v = .bool (decide (xs=b))/\m=h:=by
 obtain⟨rfl,J⟩:=Sl.len w
 obtain⟨rfl,U⟩:=Sl.len z
 refine O1 (args:=[.slice a xs.length c,.slice d b.length f]) (fn:=Tryz.f38) rfl ?_
 refine aI (λo=>?_) (λo=>?_)
 ·refine aI (congrArg Value.bool ?_) rfl
  have:xs.length≠b.length:=by simp at o;omega
  exact(decide_eq_false λe=>this (by rw[e])).symm
 have I:xs.length=b.length:=by simp at o;omega
 refine eX { vars:=[5],boxes:=[],owns:=[] } (eX (λvs _ m=>∃ k:Nat,k<=xs.length/\xs.take k=b.take k/\vs = [.int .i64 k]/\m=h) (eX (λvs _=>match vs with | [.int _ j]=>((xs.length:Int)-j).toNat|_=>0) ?_))
 refine aI ⟨0,by omega,by simp,rfl,rfl⟩ ?_
 rintro _ T ⟨k,t,s,⟨⟩,rfl⟩
 refine aI (λp=>?_) (λp=>?_)
 ·have u:k<xs.length:=by simpa using p
  obtain⟨x,g⟩:=F01 u
  obtain⟨y,i⟩:=F01 (l:=b) (k:=k) (by omega)
  obtain⟨D,Q,F,A⟩:=Sl.get w g (by decide)
  obtain⟨E,S,G,B⟩:=Sl.get z i (by decide)
  have L:=P1 u J
  obtain⟨M,V,O,rfl⟩:=Wp.slice_cell A
  obtain⟨N,W,P,rfl⟩:=Wp.slice_cell B
  refine Or.inl (aI (aI (by kernel_rfl) (by kernel_rfl)) ?_)
  refine aI D (eX _ (aI F (aI E (eX _ (aI G ?_)))))
  refine eX (.bool _) (aI (D0f _ _ _ _ _ _ _ x y A B) ?_)
  refine aI (λq=>?_) (λq=>?_)
  ·refine aI (congrArg Value.bool ?_) rfl
   have K:x≠y:=A04 q
   exact(decide_eq_false λe=>K (oJ (g.symm.trans ((congrArg (λl:T1=>l[k]?) e).trans i)))).symm
  ·have H:x=y:=o03 q
   refine aI rfl (aI (by first|exact trivial|exact aI rfl trivial|exact aI rfl (aI rfl trivial)|exact aI rfl (aI rfl (aI rfl trivial))|exact aI rfl (aI rfl (aI rfl (aI rfl trivial)))) (aI (by first|exact trivial|exact aI rfl trivial|exact aI rfl (aI rfl trivial)|exact aI rfl (aI rfl (aI rfl trivial))|exact aI rfl (aI rfl (aI rfl (aI rfl trivial)))) (aI ?_ ?_)))
   ·refine⟨k+1,by omega,by rw[O9 g,O9 i,s,H],?_,rfl⟩
    rw[←L]
   ·show((xs.length:Int)-IntKind.i64.wrap ((k:Int)+1)).toNat<((xs.length:Int)-(k:Int)).toNat
    omega
 ·have t:k=xs.length:=by simp at p;omega
  refine aI (congrArg Value.bool ?_) rfl
  refine(decide_eq_true ?_).symm
  subst t
  rwa [List.take_length,I,List.take_length]at s
theorem Y0n(h:Hp)(cs ds:List Value)(x y:W9)(am:D01.R h cs x)(an:D01.R h ds y):
  Tr Tryz.prog 30 #[.agg cs.toArray,.agg ds.toArray] h λv Z=>v = .bool (decide (x=y))/\Z=h:=by
 obtain⟨i,k,A,Q,I,m,C,T,K,o,E,V,M,q,c,f,G,X,O,t,w,rfl,rfl,h0,ay,aa,ac,ae,ag,ai,ak,aA⟩:=g9 am
 obtain⟨j,l,B,S,J,n,D,U,L,p,F,W,N,s,d,g,H,Y,P,u,z,rfl,rfl,ax,az,ab,ad,af,ah,aj,al,aB⟩:=g9 an
 refine O1 (args:=[.agg #[.int .i64 i,.int .i64 k,.slice A Q I,.slice C T K,.slice E V M,.int .i64 c,.int .i64 f,.slice G X O,.int .i64 w],.agg #[.int .i64 j,.int .i64 l,.slice B S J,.slice D U L,.slice F W N,.int .i64 d,.int .i64 g,.slice H Y P,.int .i64 z]]) (fn:=Tryz.f30) rfl ?_
 refine aI (λa=>?_) (λa=>?_)
 ·have b:i≠j:=by simpa using a
  exact aI (congrArg Value.bool (decide_eq_false λe=>by cases e;exact b rfl).symm) rfl
 have ao:i=j:=by simpa using a
 subst ao
 refine aI (λa=>?_) (λa=>?_)
 ·have b:k≠l:=by simpa using a
  exact aI (congrArg Value.bool (decide_eq_false λe=>by cases e;exact b rfl).symm) rfl
 have ap:k=l:=by simpa using a
 subst ap
 refine Tr.val (X0n h A Q I B S J m n aa ab) ?_
 refine aI (λa=>?_) (λa=>?_)
 ·have b:m≠n:=A04 a
  exact aI (congrArg Value.bool (decide_eq_false λe=>by cases e;exact b rfl).symm) rfl
 have aq:m=n:=o03 a
 subst aq
 refine Tr.val (D0f h C T K D U L o p ac ad) ?_
 refine aI (λa=>?_) (λa=>?_)
 ·have b:o≠p:=A04 a
  exact aI (congrArg Value.bool (decide_eq_false λe=>by cases e;exact b rfl).symm) rfl
 have ar:o=p:=o03 a
 subst ar
 refine Tr.val (D0f h E V M F W N q s ae af) ?_
 refine aI (λa=>?_) (λa=>?_)
 ·have b:q≠s:=A04 a
  exact aI (congrArg Value.bool (decide_eq_false λe=>by cases e;exact b rfl).symm) rfl
 have au:q=s:=o03 a
 subst au
 refine Tr.val (W0n h [.int .i64 c,.int .i64 f,.slice G X O] [.int .i64 d,.int .i64 g,.slice H Y P] (c,f,t) (d,g,u) (l0 ag ai ak) (l0 ah aj al)) ?_
 refine aI (λa=>?_) (λa=>?_)
 ·have b:(c,f,t)≠(d,g,u):=A04 a
  exact aI (congrArg Value.bool (decide_eq_false λe=>by cases e;exact b rfl).symm) rfl
 have av:(c,f,t)=(d,g,u):=o03 a
 cases av
 refine aI (λa=>?_) (λa=>?_)
 ·have b:w≠z:=by simpa using a
  exact aI (congrArg Value.bool (decide_eq_false λe=>by cases e;exact b rfl).symm) rfl
 have aw:w=z:=by simpa using a
 subst aw
 exact aI (congrArg Value.bool (decide_eq_true rfl).symm) rfl
theorem F0l(h:Hp)(a:Option Addr)(n c:Nat)(u:Option Addr)(T w:Nat)(xs b:K02)(Q:G01.R h [.slice a n c] xs)(S:G01.R h [.slice u T w] b):
  Tr Tryz.prog 79 #[.slice a n c,.slice u T w] h λv B=>v = .bool (decide (xs=b))/\B=h:=by
 obtain⟨rfl,aL⟩:=Sl.len Q
 obtain⟨rfl,a1⟩:=Sl.len S
 refine O1 (args:=[.slice a xs.length c,.slice u b.length w]) (fn:=Tryz.f79) rfl ?_
 refine aI (λC=>?_) (λC=>?_)
 ·refine aI (congrArg Value.bool ?_) rfl
  have:xs.length≠b.length:=by simp at C;omega
  exact(decide_eq_false λe=>this (by rw[e])).symm
 have aK:xs.length=b.length:=by simp at C;omega
 refine eX { vars:=[5],boxes:=[],owns:=[] } (eX (λvs _ B=>∃ k:Nat,k<=xs.length/\xs.take k=b.take k/\vs = [.int .i64 k]/\B=h) (eX (λvs _=>match vs with | [.int _ j]=>((xs.length:Int)-j).toNat|_=>0) ?_))
 refine aI ⟨0,by omega,by simp,rfl,rfl⟩ ?_
 rintro _ a0 ⟨k,O,N,⟨⟩,rfl⟩
 refine aI (λD=>?_) (λD=>?_)
 ·have P:k<xs.length:=by simpa using D
  obtain⟨x,z⟩:=F01 P
  obtain⟨y,A⟩:=F01 (l:=b) (k:=k) (by omega)
  obtain⟨ac,aY,am,aO⟩:=Sl.get Q z (by decide)
  obtain⟨ad,aZ,an,aP⟩:=Sl.get S A (by decide)
  have aN:=P1 P aL
  obtain⟨d,g,U,aQ,ae,F,W,aS,ag,H,Y,aU,ai,J,m,p,aa,aW,ak,L,s,rfl,rfl,ao,aq,au,aw,ay,aA,aC,aE,aG⟩:=g9 aO
  obtain⟨f,i,V,aR,af,G,X,aT,ah,I,Z,aV,aj,K,o,q,ab,aX,al,M,t,rfl,rfl,ap,ar,av,ax,az,aB,aD,aF,aH⟩:=g9 aP
  refine Or.inl (aI (aI (by kernel_rfl) (by kernel_rfl)) ?_)
  refine aI ac (eX _ (aI am (aI ad (eX _ (aI an ?_)))))
  refine eX (.bool _) (aI (Y0n _ [.int .i64 d,.int .i64 g,.slice U aQ ae,.slice W aS ag,.slice Y aU ai,.int .i64 m,.int .i64 p,.slice aa aW ak,.int .i64 s] [.int .i64 f,.int .i64 i,.slice V aR af,.slice X aT ah,.slice Z aV aj,.int .i64 o,.int .i64 q,.slice ab aX al,.int .i64 t] (d,g,F,H,J,(m,p,L),s) (f,i,G,I,K,(o,q,M),t) (Q02 ao aq au aw ay aA aC aE aG) (Q02 ap ar av ax az aB aD aF aH)) ?_)
  refine aI (λE=>?_) (λE=>?_)
  ·refine aI (congrArg Value.bool ?_) rfl
   have aM:(d,g,F,H,J,(m,p,L),s)≠(f,i,G,I,K,(o,q,M),t):=A04 E
   exact(decide_eq_false λe=>aM (oJ (z.symm.trans ((congrArg (λl:K02=>l[k]?) e).trans A)))).symm
  ·have aJ:(d,g,F,H,J,(m,p,L),s)=(f,i,G,I,K,(o,q,M),t):=o03 E
   refine aI rfl (aI (by first|exact trivial|exact aI rfl trivial|exact aI rfl (aI rfl trivial)|exact aI rfl (aI rfl (aI rfl trivial))|exact aI rfl (aI rfl (aI rfl (aI rfl trivial)))) (aI (by first|exact trivial|exact aI rfl trivial|exact aI rfl (aI rfl trivial)|exact aI rfl (aI rfl (aI rfl trivial))|exact aI rfl (aI rfl (aI rfl (aI rfl trivial)))) (aI ?_ ?_)))
   ·refine⟨k+1,by omega,by rw[O9 z,O9 A,N,aJ],?_,rfl⟩
    rw[←aN]
   ·show((xs.length:Int)-IntKind.i64.wrap ((k:Int)+1)).toNat<((xs.length:Int)-(k:Int)).toNat
    omega
 ·have O:k=xs.length:=by simp at D;omega
  refine aI (congrArg Value.bool ?_) rfl
  refine(decide_eq_true ?_).symm
  subst O
  rwa [List.take_length,aK,List.take_length]at N
theorem z0i(h:Hp)(cs ds:List Value)(x y:R3)(s:Y5.R h cs x)(t:Y5.R h ds y):
  Tr Tryz.prog 19 #[.agg cs.toArray,.agg ds.toArray] h λv o=>v = .bool (decide (x=y))/\o=h:=by
 obtain⟨c,i,m,k,f,rfl,rfl,h0,p⟩:=t7 s
 obtain⟨d,j,n,l,g,rfl,rfl,z,q⟩:=t7 t
 refine O1 (args:=[.agg #[.int .i64 c,.slice i m k],.agg #[.int .i64 d,.slice j n l]]) (fn:=Tryz.f19) rfl ?_
 refine aI (λa=>?_) (λa=>?_)
 ·have b:c≠d:=by simpa using a
  exact aI (congrArg Value.bool (decide_eq_false λe=>by cases e;exact b rfl).symm) rfl
 have u:c=d:=by simpa using a
 subst u
 refine Tr.val (F0l h i m k j n l f g p q) ?_
 refine aI (λa=>?_) (λa=>?_)
 ·have b:f≠g:=A04 a
  exact aI (congrArg Value.bool (decide_eq_false λe=>by cases e;exact b rfl).symm) rfl
 have w:f=g:=o03 a
 subst w
 exact aI (congrArg Value.bool (decide_eq_true rfl).symm) rfl
theorem S0p(h:Hp)(cs:List Value)(x:J0)(d:Z0.R h cs x)(i:L0q x<=1048576):
  Tr Tryz.prog 218 #[.agg cs.toArray] h λv a=>∃ cs',v = .agg cs'.toArray/\New Z0 h a cs' x:=by
 obtain⟨e,f,g,rfl,rfl,h0,b,c⟩:=I1 d
 refine O1 (args:=[.agg #[.int .i64 e,.int .i64 f,.int .i64 g]]) (fn:=Tryz.f218) rfl ?_
 exact eX _ (aI rfl (New.pair (New.int h0) (New.pair (New.int b) (New.int c))))
theorem Z0n(h:Hp)(a:Option Addr)(n c:Nat)(xs:M0)(s:F0.R h [.slice a n c] xs)(J:R05 xs<=1048576):
  Tr Tryz.prog 110 #[.slice a n c] h λv b=>New F0 h b [v] xs:=by
 obtain⟨rfl,K⟩:=Sl.len s
 have T:xs.length<=1048576:=by simp only[R05]at J;omega
 refine O1 (args:=[.slice a xs.length c]) (fn:=Tryz.f110) rfl ?_
 refine aI ?_ ?_
 ·show 0<=(xs.length:Int)/\(xs.length:Int)<=xs.length/\(xs.length:Int)*24<=140737488355328/\(xs.length:Int)<=9223372036854775807
  omega
 refine eX { vars:=[4],boxes:=[],owns:=[0],kept:=[0] } (eX (λvs os b=>∃(k:Nat) (L:List (List Value)) (Bs:List (List Nat)),k<=xs.length/\vs = [.int .i64 k]/\os = [C02 L xs.length [.int .i64 0,.int .i64 0,.int .i64 0]]/\L.length=k /\
  F3 (Z0.W b) L (xs.take k) Bs/\Sub h b/\T5 h Bs.flatten) (eX (λvs _=>match vs with | [.int _ j]=>((xs.length:Int)-j).toNat|_=>0) ?_))
 refine aI ⟨0,[],[],by omega,rfl,rfl,rfl,trivial,Sub.refl _,by simp[T5]⟩ ?_
 rintro _ _ H ⟨k,L,Bs,q,⟨⟩,⟨⟩,i,d,f,p⟩
 refine aI (λg=>?_) (λg=>?_)
 ·have e:k<xs.length:=by simpa using g
  obtain⟨x,l⟩:=F01 e
  obtain⟨C,O,D,N⟩:=Sl.get (Sl.mono f s) l (by decide)
  have M:=P1 e K
  obtain⟨t,w,z,rfl,rfl,E,F,G⟩:=I1 N
  refine aI C (eX _ (aI D ?_))
  refine Tr.mono (S0p H [.int .i64 t,.int .i64 w,.int .i64 z] (t,w,z) (E1 E F G) (by simp only[L0q];omega)) ?_
  rintro v S ⟨P,rfl,B,m,I,o⟩
  obtain⟨u,y,A,rfl,Q,_,_,_⟩:=I1 (Z0.toR m)
  refine aI ?_ ?_
  ·show 0<=(k:Int)/\(k:Int)<((C02 L xs.length [.int .i64 0,.int .i64 0,.int .i64 0]).length:Nat)
   rw[z04 (by omega)];omega
  refine eX [.int .i64 0,.int .i64 0,.int .i64 0] (aI (H08 i e) ?_)
  refine aI rfl (aI (by first|exact trivial|exact aI rfl trivial|exact aI rfl (aI rfl trivial)|exact aI rfl (aI rfl (aI rfl trivial))|exact aI rfl (aI rfl (aI rfl (aI rfl trivial)))) (aI (by first|exact trivial|exact aI rfl trivial|exact aI rfl (aI rfl trivial)|exact aI rfl (aI rfl (aI rfl trivial))|exact aI rfl (aI rfl (aI rfl (aI rfl trivial)))) (aI ?_ ?_)))
  ·refine⟨k+1,L ++ [[.int .i64 u,.int .i64 y,.int .i64 A]],Bs ++ [B],by omega,by rw[←M],?_,by simp[i],?_,f.trans o,?_⟩
   ·show [(C02 L xs.length [.int .i64 0,.int .i64 0,.int .i64 0]).set k [.int .i64 u,.int .i64 y,.int .i64 A]]=_
    rw[I08 i e]
   ·rw[O9 l]
    exact F3.snoc m (r0e d o)
   ·exact W06 d f p I
  ·show((xs.length:Int)-IntKind.i64.wrap ((k:Int)+1)).toNat<((xs.length:Int)-(k:Int)).toNat
   omega
 ·have q:k=xs.length:=by simp at g;omega
  intro v b hf
  rw[J08 (by omega)]at hf
  rw[q,List.take_length]at d
  exact Y0.fresh (r:=Z0) hf d f p
theorem a0o(h:Hp)(cs:List Value)(x:j0)(k:V0.R h cs x)(j:p04 x<=1048576):
  Tr Tryz.prog 43 #[.agg cs.toArray] h λv f=>∃ cs',v = .agg cs'.toArray/\New V0 h f cs' x:=by
 obtain⟨l,m,b,d,c,n,rfl,rfl,h0,g,i⟩:=B0 k
 simp only[p04]at j
 refine O1 (args:=[.agg #[.int .i64 l,.int .i64 m,.slice b d c]]) (fn:=Tryz.f43) rfl ?_
 refine Tr.mono (Z0n h b d c n (Sl.mono (Sub.refl _) i) (by omega)) ?_
 rintro t q a
 obtain⟨o,s,p,e⟩:=Wp.slice_cell a.r
 cases e
 exact eX _ (aI rfl (New.pair (New.int h0) (New.pair (New.int g) a)))
theorem E0f(h:Hp)(a:Option Addr)(n c:Nat)(xs:C0)(q:N0.R h [.slice a n c] xs)(A:F4 xs<=1048576):
  Tr Tryz.prog 36 #[.slice a n c] h λv b=>New N0 h b [v] xs:=by
 obtain⟨rfl,C⟩:=Sl.len q
 have G:xs.length<=1048576:=by simp only[F4]at A;omega
 refine O1 (args:=[.slice a xs.length c]) (fn:=Tryz.f36) rfl ?_
 refine aI ?_ ?_
 ·show 0<=(xs.length:Int)/\(xs.length:Int)<=xs.length/\(xs.length:Int)*8<=140737488355328/\(xs.length:Int)<=9223372036854775807
  omega
 refine eX { vars:=[4],boxes:=[],owns:=[0],kept:=[0] } (eX (λvs os b=>∃(k:Nat) (L:List (List Value)) (Bs:List (List Nat)),k<=xs.length/\vs = [.int .i64 k]/\os = [C02 L xs.length [.int .i64 0]]/\L.length=k /\
  F3 (Wp.int.W b) L (xs.take k) Bs/\Sub h b/\T5 h Bs.flatten) (eX (λvs _=>match vs with | [.int _ j]=>((xs.length:Int)-j).toNat|_=>0) ?_))
 refine aI ⟨0,[],[],by omega,rfl,rfl,rfl,trivial,Sub.refl _,by simp[T5]⟩ ?_
 rintro _ _ w ⟨k,L,Bs,p,⟨⟩,⟨⟩,i,d,f,o⟩
 refine aI (λg=>?_) (λg=>?_)
 ·have e:k<xs.length:=by simpa using g
  obtain⟨x,l⟩:=F01 e
  obtain⟨s,F,t,E⟩:=Sl.get (Sl.mono f q) l (by decide)
  have D:=P1 e C
  obtain⟨rfl,u⟩:=E
  refine aI s (eX _ (aI t ?_))
  obtain⟨B,y,z,m⟩:=New.int (h:=w) u
  refine aI ?_ ?_
  ·show 0<=(k:Int)/\(k:Int)<((C02 L xs.length [.int .i64 0]).length:Nat)
   rw[z04 (by omega)];omega
  refine eX [.int .i64 0] (aI (H08 i e) ?_)
  refine aI rfl (aI (by first|exact trivial|exact aI rfl trivial|exact aI rfl (aI rfl trivial)|exact aI rfl (aI rfl (aI rfl trivial))|exact aI rfl (aI rfl (aI rfl (aI rfl trivial)))) (aI (by first|exact trivial|exact aI rfl trivial|exact aI rfl (aI rfl trivial)|exact aI rfl (aI rfl (aI rfl trivial))|exact aI rfl (aI rfl (aI rfl (aI rfl trivial)))) (aI ?_ ?_)))
  ·refine⟨k+1,L ++ [[.int .i64 x]],Bs ++ [B],by omega,by rw[←D],?_,by simp[i],?_,f.trans m,?_⟩
   ·show [(C02 L xs.length [.int .i64 0]).set k [.int .i64 x]]=_
    rw[I08 i e]
   ·rw[O9 l]
    exact F3.snoc y (r0e d m)
   ·exact W06 d f o z
  ·show((xs.length:Int)-IntKind.i64.wrap ((k:Int)+1)).toNat<((xs.length:Int)-(k:Int)).toNat
   omega
 ·have p:k=xs.length:=by simp at g;omega
  intro v b hf
  rw[J08 (by omega)]at hf
  rw[p,List.take_length]at d
  exact Y0.fresh (r:=Wp.int) hf d f o
theorem b0o(h:Hp)(a:Option Addr)(n c:Nat)(xs:T1)(y:Q2.R h [.slice a n c] xs)(w:I5 xs<=1048576):
  Tr Tryz.prog 35 #[.slice a n c] h λv b=>New Q2 h b [v] xs:=by
 obtain⟨rfl,H⟩:=Sl.len y
 have O:xs.length<=1048576:=by simp only[I5]at w;omega
 refine O1 (args:=[.slice a xs.length c]) (fn:=Tryz.f35) rfl ?_
 refine aI ?_ ?_
 ·show 0<=(xs.length:Int)/\(xs.length:Int)<=xs.length/\(xs.length:Int)*24<=140737488355328/\(xs.length:Int)<=9223372036854775807
  omega
 refine eX { vars:=[4],boxes:=[],owns:=[0],kept:=[0] } (eX (λvs os b=>∃(k:Nat) (L:List (List Value)) (Bs:List (List Nat)),k<=xs.length/\vs = [.int .i64 k]/\os = [C02 L xs.length [.slice none 0 0]]/\L.length=k /\
  F3 (N0.W b) L (xs.take k) Bs/\Sub h b/\T5 h Bs.flatten) (eX (λvs _=>match vs with | [.int _ j]=>((xs.length:Int)-j).toNat|_=>0) ?_))
 refine aI ⟨0,[],[],by omega,rfl,rfl,rfl,trivial,Sub.refl _,by simp[T5]⟩ ?_
 rintro _ _ F ⟨k,L,Bs,u,⟨⟩,⟨⟩,l,d,f,t⟩
 refine aI (λi=>?_) (λi=>?_)
 ·have e:k<xs.length:=by simpa using i
  obtain⟨x,g⟩:=F01 e
  obtain⟨C,M,D,z⟩:=Sl.get (Sl.mono f y) g (by decide)
  have I:=P1 e H
  obtain⟨J,P,K,rfl⟩:=Wp.slice_cell z
  refine aI C (eX _ (aI D ?_))
  refine Tr.mono (E0f F _ _ _ x z (by have:=q0j (m:=F4) g;simp only[I5]at w;omega)) ?_
  rintro v N ⟨B,q,G,s⟩
  obtain⟨o,A,p,E⟩:=Wp.slice_cell (N0.toR q)
  cases E
  refine aI ?_ ?_
  ·show 0<=(k:Int)/\(k:Int)<((C02 L xs.length [.slice none 0 0]).length:Nat)
   rw[z04 (by omega)];omega
  refine eX [.slice none 0 0] (aI (H08 l e) ?_)
  refine aI rfl (aI (by first|exact trivial|exact aI rfl trivial|exact aI rfl (aI rfl trivial)|exact aI rfl (aI rfl (aI rfl trivial))|exact aI rfl (aI rfl (aI rfl (aI rfl trivial)))) (aI (by first|exact trivial|exact aI rfl trivial|exact aI rfl (aI rfl trivial)|exact aI rfl (aI rfl (aI rfl trivial))|exact aI rfl (aI rfl (aI rfl (aI rfl trivial)))) (aI ?_ ?_)))
  ·refine⟨k+1,L ++ [[.slice o A p]],Bs ++ [B],by omega,by rw[←I],?_,by simp[l],?_,f.trans s,?_⟩
   ·show [(C02 L xs.length [.slice none 0 0]).set k [.slice o A p]]=_
    rw[I08 l e]
   ·rw[O9 g]
    exact F3.snoc q (r0e d s)
   ·exact W06 d f t G
  ·show((xs.length:Int)-IntKind.i64.wrap ((k:Int)+1)).toNat<((xs.length:Int)-(k:Int)).toNat
   omega
 ·have u:k=xs.length:=by simp at i;omega
  intro v b hf
  rw[J08 (by omega)]at hf
  rw[u,List.take_length]at d
  exact Y0.fresh (r:=N0) hf d f t
theorem c0o(h:Hp)(cs:List Value)(x:W9)(J:D01.R h cs x)(I:t9 x<=1048576):
  Tr Tryz.prog 28 #[.agg cs.toArray] h λv z=>∃ cs',v = .agg cs'.toArray/\New D01 h z cs' x:=by
 obtain⟨N,O,g,p,l,P,i,q,m,Q,j,s,n,S,d,e,k,t,o,T,U,rfl,rfl,h0,A,B,C,D,E,F,G,H⟩:=g9 J
 simp only[t9]at I
 refine O1 (args:=[.agg #[.int .i64 N,.int .i64 O,.slice g p l,.slice i q m,.slice j s n,.int .i64 d,.int .i64 e,.slice k t o,.int .i64 U]]) (fn:=Tryz.f28) rfl ?_
 refine Tr.mono (b0o h g p l P (Sl.mono (Sub.refl _) B) (by omega)) ?_
 rintro ak K a
 obtain⟨V,ag,Z,u⟩:=Wp.slice_cell a.r
 cases u
 refine Tr.mono (E0f K i q m Q (Sl.mono a.sub C) (by omega)) ?_
 rintro al L b
 obtain⟨W,ah,aa,w⟩:=Wp.slice_cell b.r
 cases w
 refine Tr.mono (E0f L j s n S (Sl.mono (a.sub.trans b.sub) D) (by omega)) ?_
 rintro am M c
 obtain⟨X,ai,ab,y⟩:=Wp.slice_cell c.r
 cases y
 refine Tr.mono (a0o M [.int .i64 d,.int .i64 e,.slice k t o] (d,e,T) (V0.mono ((a.sub.trans b.sub).trans c.sub) (l0 E F G)) (by omega)) ?_
 rintro an af ⟨ad,rfl,f⟩
 obtain⟨ao,ap,Y,aj,ac,aq,rfl,ae,_,_,_⟩:=B0 f.r
 exact eX _ (aI rfl (New.pair (New.int h0) (New.pair (New.int A) (New.pair a (New.pair b (New.pair c (New.pair f (New.int H))))))))
theorem G0l(h:Hp)(a:Option Addr)(n c:Nat)(xs:K02)(F:G01.R h [.slice a n c] xs)(E:q03 xs<=1048576):
  Tr Tryz.prog 77 #[.slice a n c] h λv b=>New G01 h b [v] xs:=by
 obtain⟨rfl,au⟩:=Sl.len F
 have aK:xs.length<=1048576:=by simp only[q03]at E;omega
 refine O1 (args:=[.slice a xs.length c]) (fn:=Tryz.f77) rfl ?_
 refine aI ?_ ?_
 ·show 0<=(xs.length:Int)/\(xs.length:Int)<=xs.length/\(xs.length:Int)*136<=140737488355328/\(xs.length:Int)<=9223372036854775807
  omega
 refine eX { vars:=[4],boxes:=[],owns:=[0],kept:=[0] } (eX (λvs os b=>∃(k:Nat) (L:List (List Value)) (Bs:List (List Nat)),k<=xs.length/\vs = [.int .i64 k]/\os = [C02 L xs.length [.int .i64 0,.int .i64 0,.slice none 0 0,.slice none 0 0,.slice none 0 0,.int .i64 0,.int .i64 0,.slice none 0 0,.int .i64 0]]/\L.length=k /\
  F3 (D01.W b) L (xs.take k) Bs/\Sub h b/\T5 h Bs.flatten) (eX (λvs _=>match vs with | [.int _ j]=>((xs.length:Int)-j).toNat|_=>0) ?_))
 refine aI ⟨0,[],[],by omega,rfl,rfl,rfl,trivial,Sub.refl _,by simp[T5]⟩ ?_
 rintro _ _ aq ⟨k,L,Bs,D,⟨⟩,⟨⟩,l,d,f,C⟩
 refine aI (λi=>?_) (λi=>?_)
 ·have e:k<xs.length:=by simpa using i
  obtain⟨x,g⟩:=F01 e
  obtain⟨ab,aF,ag,aw⟩:=Sl.get (Sl.mono f F) g (by decide)
  have av:=P1 e au
  obtain⟨K,N,X,ax,ac,aB,Y,ay,ad,aC,Z,az,ae,aD,P,S,aa,aA,af,aE,U,rfl,rfl,ah,ai,aj,ak,al,am,an,ao,ap⟩:=g9 aw
  refine aI ab (eX _ (aI ag ?_))
  refine Tr.mono (c0o aq [.int .i64 K,.int .i64 N,.slice X ax ac,.slice Y ay ad,.slice Z az ae,.int .i64 P,.int .i64 S,.slice aa aA af,.int .i64 U] (K,N,aB,aC,aD,(P,S,aE),U) (Q02 ah ai aj ak al am an ao ap) (by first|(have:=q0j (m:=t9) g;simp only[q03]at E;omega)|(show t9 _<=_;simp only[t9];omega))) ?_
  rintro v aJ ⟨aG,rfl,B,z,ar,A⟩
  obtain⟨M,O,o,G,t,aL,p,H,u,aM,q,I,w,aN,Q,T,s,J,y,aO,V,rfl,aH,_,_,_,_,_,_,_,_,_⟩:=g9 (D01.toR z)
  refine aI ?_ ?_
  ·show 0<=(k:Int)/\(k:Int)<((C02 L xs.length [.int .i64 0,.int .i64 0,.slice none 0 0,.slice none 0 0,.slice none 0 0,.int .i64 0,.int .i64 0,.slice none 0 0,.int .i64 0]).length:Nat)
   rw[z04 (by omega)];omega
  refine eX [.int .i64 0,.int .i64 0,.slice none 0 0,.slice none 0 0,.slice none 0 0,.int .i64 0,.int .i64 0,.slice none 0 0,.int .i64 0] (aI (H08 l e) ?_)
  refine aI rfl (aI (by first|exact trivial|exact aI rfl trivial|exact aI rfl (aI rfl trivial)|exact aI rfl (aI rfl (aI rfl trivial))|exact aI rfl (aI rfl (aI rfl (aI rfl trivial)))) (aI (by first|exact trivial|exact aI rfl trivial|exact aI rfl (aI rfl trivial)|exact aI rfl (aI rfl (aI rfl trivial))|exact aI rfl (aI rfl (aI rfl (aI rfl trivial)))) (aI ?_ ?_)))
  ·refine⟨k+1,L ++ [[.int .i64 M,.int .i64 O,.slice o G t,.slice p H u,.slice q I w,.int .i64 Q,.int .i64 T,.slice s J y,.int .i64 V]],Bs ++ [B],by omega,by rw[←av],?_,by simp[l],?_,f.trans A,?_⟩
   ·show [(C02 L xs.length [.int .i64 0,.int .i64 0,.slice none 0 0,.slice none 0 0,.slice none 0 0,.int .i64 0,.int .i64 0,.slice none 0 0,.int .i64 0]).set k [.int .i64 M,.int .i64 O,.slice o G t,.slice p H u,.slice q I w,.int .i64 Q,.int .i64 T,.slice s J y,.int .i64 V]]=_
    rw[I08 l e]
   ·rw[O9 g]
    exact F3.snoc z (r0e d A)
   ·exact W06 d f C ar
  ·show((xs.length:Int)-IntKind.i64.wrap ((k:Int)+1)).toNat<((xs.length:Int)-(k:Int)).toNat
   omega
 ·have D:k=xs.length:=by simp at i;omega
  intro v b hf
  rw[J08 (by omega)]at hf
  rw[D,List.take_length]at d
  exact Y0.fresh (r:=D01) hf d f C
theorem g07(h:Hp)(cs:List Value)(x:R3)(j:Y5.R h cs x)(i:x01 x<=1048576):
  Tr Tryz.prog 17 #[.agg cs.toArray] h λv f=>∃ cs',v = .agg cs'.toArray/\New Y5 h f cs' x:=by
 obtain⟨k,b,d,c,l,rfl,rfl,h0,g⟩:=t7 j
 simp only[x01]at i
 refine O1 (args:=[.agg #[.int .i64 k,.slice b d c]]) (fn:=Tryz.f17) rfl ?_
 refine Tr.mono (G0l h b d c l (Sl.mono (Sub.refl _) g) (by omega)) ?_
 rintro q o a
 obtain⟨m,p,n,e⟩:=Wp.slice_cell a.r
 cases e
 exact eX _ (aI rfl (New.pair (New.int h0) a))
end Go.Proofs.YtkjhghloldgioaaGreat
