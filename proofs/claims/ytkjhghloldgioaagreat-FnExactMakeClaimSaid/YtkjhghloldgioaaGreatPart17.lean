/- Texts of the claim, joined: The data types of the laws, as lists and tuples and others. -/
import Derived.Test.YtkjhghloldgioaaGreatHE
import Derived.Test.YtkjhghloldgioaaGreatChecked
namespace Go.Proofs.YtkjhghloldgioaaGreat
open Go.H
set_option linter.unusedVariables false
set_option linter.unusedSimpArgs false
set_option maxRecDepth 10000
theorem J0q{x:Int}(a : -9223372036854775808<=x)(b:x<=9223372036854775807):I0 x:=⟨a,b⟩
abbrev O0:Type:=Int×Int×Int
abbrev R0:Wp O0:=Wp.pair Wp.int (Wp.pair Wp.int Wp.int)
instance U0s:DecidableEq O0:=(@instDecidableEqProd _ _ (inferInstance:DecidableEq Int) (@instDecidableEqProd _ _ (inferInstance:DecidableEq Int) (inferInstance:DecidableEq Int)))
def S6(x:O0):Nat:=1+1+1
def I03(x:O0)(k:Int):O0:=(k,(k+(1:Nat)),(k+(1+1:Nat)))
theorem M1{h:Hp}{cs:List Value}{x:O0}(f:R0.R h cs x):∃(a:Int) (b:Int) (c:Int),cs = [.int .i64 a,.int .i64 b,.int .i64 c]/\x=(a,b,c)/\I0 a/\I0 b/\I0 c:=by
 obtain⟨a,b,c⟩:=x
 obtain⟨_,_,rfl,⟨rfl,h0⟩,⟨_,_,rfl,⟨rfl,d⟩,⟨rfl,e⟩⟩⟩:=f
 exact⟨a,b,c,rfl,rfl,h0,d,e⟩
theorem E1{h:Hp}{c:Int}{a:Int}{b:Int}(h0:I0 c)(d:I0 a)(e:I0 b):R0.R h [.int .i64 c,.int .i64 a,.int .i64 b] (c,a,b) :=
 ⟨[.int .i64 c],[.int .i64 a,.int .i64 b],rfl,⟨rfl,h0⟩,⟨[.int .i64 a],[.int .i64 b],rfl,⟨rfl,d⟩,⟨rfl,e⟩⟩⟩
theorem i0c{h:Hp}{cs:List Value}{x:O0}{B:List Nat}(f:R0.W h cs x B):∃(a:Int) (b:Int) (c:Int),cs = [.int .i64 a,.int .i64 b,.int .i64 c]/\x=(a,b,c)/\B=([]++([] ++ []))/\I0 a/\I0 b/\I0 c:=by
 obtain⟨a,b,c⟩:=x
 obtain⟨_,_,_,_,rfl,rfl,⟨⟨rfl,h0⟩,rfl⟩,⟨_,_,_,_,rfl,rfl,⟨⟨rfl,d⟩,rfl⟩,⟨⟨rfl,e⟩,rfl⟩⟩⟩:=f
 exact⟨a,b,c,rfl,rfl,rfl,h0,d,e⟩
theorem i07{h:Hp}{c:Int}{a:Int}{b:Int}(h0:I0 c)(d:I0 a)(e:I0 b):R0.W h [.int .i64 c,.int .i64 a,.int .i64 b] (c,a,b) ([]++([] ++ [])) :=
 ⟨[.int .i64 c],[.int .i64 a,.int .i64 b],[],([] ++ []),rfl,rfl,⟨⟨rfl,h0⟩,rfl⟩,⟨[.int .i64 a],[.int .i64 b],[],[],rfl,rfl,⟨⟨rfl,d⟩,rfl⟩,⟨⟨rfl,e⟩,rfl⟩⟩⟩
abbrev N0:Type:=List O0
abbrev D0:Wp N0:=Wp.slice R0
instance Y0r:DecidableEq N0:=inferInstanceAs (DecidableEq (List O0))
def q0l(x:N0):Nat:=x.length
def g06(x:N0):Nat:=l6 S6 x
def j07(x:N0)(k:Int):N0:=mkL I03 S6 x k
abbrev l0:Type:=Int×Int×N0
abbrev Y0:Wp l0:=Wp.pair Wp.int (Wp.pair Wp.int D0)
instance o0p:DecidableEq l0:=(@instDecidableEqProd _ _ (inferInstance:DecidableEq Int) (@instDecidableEqProd _ _ (inferInstance:DecidableEq Int) Y0r))
def j0i(x:l0):Nat:=q0l x.2.2
def I7(x:l0):Nat:=g06 x.2.2
def J03(x:l0)(k:Int):l0:=(x.1,x.2.1,j07 x.2.2 k)
theorem B0{h:Hp}{cs:List Value}{x:l0}(j:Y0.R h cs x):∃(a:Int) (b:Int) (c:Option Addr) (e d:Nat) (f:N0),cs = [.int .i64 a,.int .i64 b,.slice c e d]/\x=(a,b,f)/\I0 a/\I0 b/\D0.R h [.slice c e d] f:=by
 obtain⟨a,b,f⟩:=x
 obtain⟨_,_,rfl,⟨rfl,h0⟩,⟨_,_,rfl,⟨rfl,i⟩,g⟩⟩:=j
 obtain⟨c,e,d,rfl⟩:=Wp.slice_cell g
 exact⟨a,b,c,e,d,f,rfl,rfl,h0,i,g⟩
theorem z0{h:Hp}{e:Int}{a:Int}{b:Option Addr}{d c:Nat}{f:N0}(h0:I0 e)(g:I0 a)(i:D0.R h [.slice b d c] f):Y0.R h [.int .i64 e,.int .i64 a,.slice b d c] (e,a,f) :=
 ⟨[.int .i64 e],[.int .i64 a,.slice b d c],rfl,⟨rfl,h0⟩,⟨[.int .i64 a],[.slice b d c],rfl,⟨rfl,g⟩,i⟩⟩
theorem r0l{h:Hp}{cs:List Value}{x:l0}{B:List Nat}(k:Y0.W h cs x B):∃(a:Int) (b:Int) (c:Option Addr) (e d:Nat) (f:N0) (g:List Nat),cs = [.int .i64 a,.int .i64 b,.slice c e d]/\x=(a,b,f)/\B=([]++([]++g))/\I0 a/\I0 b/\D0.W h [.slice c e d] f g:=by
 obtain⟨a,b,f⟩:=x
 obtain⟨_,_,_,_,rfl,rfl,⟨⟨rfl,h0⟩,rfl⟩,⟨_,_,_,_,rfl,rfl,⟨⟨rfl,j⟩,rfl⟩,i⟩⟩:=k
 obtain⟨c,e,d,rfl⟩:=Wp.slice_cell (D0.toR i)
 exact⟨a,b,c,e,d,f,_,rfl,rfl,rfl,h0,j,i⟩
theorem F0j{h:Hp}{f:Int}{a:Int}{c:Option Addr}{e d:Nat}{g:N0}{b:List Nat}(h0:I0 f)(i:I0 a)(j:D0.W h [.slice c e d] g b):Y0.W h [.int .i64 f,.int .i64 a,.slice c e d] (f,a,g) ([]++([]++b)) :=
 ⟨[.int .i64 f],[.int .i64 a,.slice c e d],[],([]++b),rfl,rfl,⟨⟨rfl,h0⟩,rfl⟩,⟨[.int .i64 a],[.slice c e d],[],b,rfl,rfl,⟨⟨rfl,i⟩,rfl⟩,j⟩⟩
abbrev Y5:Type:=Int×Int
abbrev C5:Wp Y5:=Wp.pair Wp.int Wp.int
instance V0s:DecidableEq Y5:=(@instDecidableEqProd _ _ (inferInstance:DecidableEq Int) (inferInstance:DecidableEq Int))
theorem K03{h:Hp}{cs:List Value}{x:Y5}(d:C5.R h cs x):∃(a:Int) (b:Int),cs = [.int .i64 a,.int .i64 b]/\x=(a,b)/\I0 a/\I0 b:=by
 obtain⟨a,b⟩:=x
 obtain⟨_,_,rfl,⟨rfl,h0⟩,⟨rfl,c⟩⟩:=d
 exact⟨a,b,rfl,rfl,h0,c⟩
theorem Q2{h:Hp}{a:Int}{b:Int}(h0:I0 a)(c:I0 b):C5.R h [.int .i64 a,.int .i64 b] (a,b) :=
 ⟨[.int .i64 a],[.int .i64 b],rfl,⟨rfl,h0⟩,⟨rfl,c⟩⟩
abbrev J0:Type:=List Int
abbrev M0:Wp J0:=Wp.slice Wp.int
instance m0r:DecidableEq J0:=inferInstanceAs (DecidableEq (List Int))
def U00(x:J0):Nat:=x.length
def Y3(x:J0):Nat:=l6 (λ_=>1) x
def H9(x:J0)(k:Int):J0:=mkL (λ_ k=>k) (λ_=>1) x k
abbrev Y1:Type:=List J0
abbrev Z1:Wp Y1:=Wp.slice M0
instance Z0r:DecidableEq Y1:=inferInstanceAs (DecidableEq (List J0))
def i02(x:Y1):Nat:=x.length+l6 U00 x
def A6(x:Y1):Nat:=l6 Y3 x
def k07(x:Y1)(k:Int):Y1:=mkL H9 Y3 x k
abbrev r00:Type:=Int×Int×Y1×J0×J0×l0×Int
abbrev s00:Wp r00:=Wp.pair Wp.int (Wp.pair Wp.int (Wp.pair Z1 (Wp.pair M0 (Wp.pair M0 (Wp.pair Y0 Wp.int)))))
instance O0s:DecidableEq r00:=(@instDecidableEqProd _ _ (inferInstance:DecidableEq Int) (@instDecidableEqProd _ _ (inferInstance:DecidableEq Int) (@instDecidableEqProd _ _ Z0r (@instDecidableEqProd _ _ m0r (@instDecidableEqProd _ _ m0r (@instDecidableEqProd _ _ o0p (inferInstance:DecidableEq Int)))))))
def d0a(x:r00):Nat:=i02 x.2.2.1+U00 x.2.2.2.1+U00 x.2.2.2.2.1+j0i x.2.2.2.2.2.1
def p00(x:r00):Nat:=A6 x.2.2.1+Y3 x.2.2.2.1+Y3 x.2.2.2.2.1+I7 x.2.2.2.2.2.1
def X0a(x:r00)(k:Int):r00:=(x.1,x.2.1,k07 x.2.2.1 k,H9 x.2.2.2.1 (k+(A6 x.2.2.1:Nat)),H9 x.2.2.2.2.1 (k+(A6 x.2.2.1+Y3 x.2.2.2.1:Nat)),J03 x.2.2.2.2.2.1 (k+(A6 x.2.2.1+Y3 x.2.2.2.1+Y3 x.2.2.2.2.1:Nat)),x.2.2.2.2.2.2)
theorem v03{h:Hp}{cs:List Value}{x:r00}(G:s00.R h cs x):∃(a:Int) (b:Int) (f:Option Addr) (o k:Nat) (t:Y1) (g:Option Addr) (p l:Nat) (u:J0) (i:Option Addr) (q m:Nat) (v:J0) (c:Int) (d:Int) (j:Option Addr) (s n:Nat) (w:N0) (e:Int),cs = [.int .i64 a,.int .i64 b,.slice f o k,.slice g p l,.slice i q m,.int .i64 c,.int .i64 d,.slice j s n,.int .i64 e]/\x=(a,b,t,u,v,(c,d,w),e)/\I0 a/\I0 b/\Z1.R h [.slice f o k] t/\M0.R h [.slice g p l] u/\M0.R h [.slice i q m] v/\I0 c/\I0 d/\D0.R h [.slice j s n] w/\I0 e:=by
 obtain⟨a,b,t,u,v,⟨c,d,w⟩,e⟩:=x
 obtain⟨_,_,rfl,⟨rfl,h0⟩,⟨_,_,rfl,⟨rfl,C⟩,⟨_,_,rfl,y,⟨_,_,rfl,z,⟨_,_,rfl,A,⟨_,_,rfl,⟨_,_,rfl,⟨rfl,D⟩,⟨_,_,rfl,⟨rfl,E⟩,B⟩⟩,⟨rfl,F⟩⟩⟩⟩⟩⟩⟩:=G
 obtain⟨f,o,k,rfl⟩:=Wp.slice_cell y
 obtain⟨g,p,l,rfl⟩:=Wp.slice_cell z
 obtain⟨i,q,m,rfl⟩:=Wp.slice_cell A
 obtain⟨j,s,n,rfl⟩:=Wp.slice_cell B
 exact⟨a,b,f,o,k,t,g,p,l,u,i,q,m,v,c,d,j,s,n,w,e,rfl,rfl,h0,C,y,z,A,D,E,B,F⟩
theorem f00{h:Hp}{s:Int}{q:Int}{n:Option Addr}{p o:Nat}{t:Y1}{k:Option Addr}{m l:Nat}{u:J0}{g:Option Addr}{j i:Nat}{v:J0}{e:Int}{a:Int}{b:Option Addr}{d c:Nat}{w:N0}{f:Int}(h0:I0 s)(x:I0 q)(y:Z1.R h [.slice n p o] t)(z:M0.R h [.slice k m l] u)(A:M0.R h [.slice g j i] v)(B:I0 e)(C:I0 a)(D:D0.R h [.slice b d c] w)(E:I0 f):s00.R h [.int .i64 s,.int .i64 q,.slice n p o,.slice k m l,.slice g j i,.int .i64 e,.int .i64 a,.slice b d c,.int .i64 f] (s,q,t,u,v,(e,a,w),f) :=
 ⟨[.int .i64 s],[.int .i64 q,.slice n p o,.slice k m l,.slice g j i,.int .i64 e,.int .i64 a,.slice b d c,.int .i64 f],rfl,⟨rfl,h0⟩,⟨[.int .i64 q],[.slice n p o,.slice k m l,.slice g j i,.int .i64 e,.int .i64 a,.slice b d c,.int .i64 f],rfl,⟨rfl,x⟩,⟨[.slice n p o],[.slice k m l,.slice g j i,.int .i64 e,.int .i64 a,.slice b d c,.int .i64 f],rfl,y,⟨[.slice k m l],[.slice g j i,.int .i64 e,.int .i64 a,.slice b d c,.int .i64 f],rfl,z,⟨[.slice g j i],[.int .i64 e,.int .i64 a,.slice b d c,.int .i64 f],rfl,A,⟨[.int .i64 e,.int .i64 a,.slice b d c],[.int .i64 f],rfl,⟨[.int .i64 e],[.int .i64 a,.slice b d c],rfl,⟨rfl,B⟩,⟨[.int .i64 a],[.slice b d c],rfl,⟨rfl,C⟩,D⟩⟩,⟨rfl,E⟩⟩⟩⟩⟩⟩⟩
theorem s0l{h:Hp}{cs:List Value}{x:r00}{B:List Nat}(L:s00.W h cs x B):∃(a:Int) (b:Int) (f:Option Addr) (o k:Nat) (t:Y1) (g:Option Addr) (p l:Nat) (u:J0) (i:Option Addr) (q m:Nat) (v:J0) (c:Int) (d:Int) (j:Option Addr) (s n:Nat) (w:N0) (e:Int) (y z A C:List Nat),cs = [.int .i64 a,.int .i64 b,.slice f o k,.slice g p l,.slice i q m,.int .i64 c,.int .i64 d,.slice j s n,.int .i64 e]/\x=(a,b,t,u,v,(c,d,w),e)/\B=([]++([]++(y++(z++(A++(([]++([]++C)) ++ []))))))/\I0 a/\I0 b/\Z1.W h [.slice f o k] t y/\M0.W h [.slice g p l] u z/\M0.W h [.slice i q m] v A/\I0 c/\I0 d/\D0.W h [.slice j s n] w C/\I0 e:=by
 obtain⟨a,b,t,u,v,⟨c,d,w⟩,e⟩:=x
 obtain⟨_,_,_,_,rfl,rfl,⟨⟨rfl,h0⟩,rfl⟩,⟨_,_,_,_,rfl,rfl,⟨⟨rfl,H⟩,rfl⟩,⟨_,_,_,_,rfl,rfl,D,⟨_,_,_,_,rfl,rfl,E,⟨_,_,_,_,rfl,rfl,F,⟨_,_,_,_,rfl,rfl,⟨_,_,_,_,rfl,rfl,⟨⟨rfl,I⟩,rfl⟩,⟨_,_,_,_,rfl,rfl,⟨⟨rfl,J⟩,rfl⟩,G⟩⟩,⟨⟨rfl,K⟩,rfl⟩⟩⟩⟩⟩⟩⟩:=L
 obtain⟨f,o,k,rfl⟩:=Wp.slice_cell (Z1.toR D)
 obtain⟨g,p,l,rfl⟩:=Wp.slice_cell (M0.toR E)
 obtain⟨i,q,m,rfl⟩:=Wp.slice_cell (M0.toR F)
 obtain⟨j,s,n,rfl⟩:=Wp.slice_cell (D0.toR G)
 exact⟨a,b,f,o,k,t,g,p,l,u,i,q,m,v,c,d,j,s,n,w,e,_,_,_,_,rfl,rfl,rfl,h0,H,D,E,F,I,J,G,K⟩
abbrev t0l:Type:=ByteArray×l0
instance P0s:DecidableEq t0l:=(@instDecidableEqProd _ _ (inferInstance:DecidableEq ByteArray) o0p)
abbrev U0d:Type:=List t0l
instance G0s:DecidableEq U0d:=inferInstanceAs (DecidableEq (List t0l))
abbrev l9:Type:=List Y5
abbrev k0i:Wp l9:=Wp.slice C5
instance Q0s:DecidableEq l9:=inferInstanceAs (DecidableEq (List Y5))
theorem K0q(x:O0):S6 x<=3:=by
 simp only[S6]
 omega
theorem L0q(x:N0):g06 x<=16*q0l x:=R0e (c:=S6) (λx=>by have:=K0q x;omega) x
theorem M0q(x:l0):I7 x<=16*j0i x:=by
 have:=L0q x.2.2
 simp only[I7,j0i]
 omega
theorem l0i(x:J0):Y3 x<=16*U00 x:=R0e (c:=(λ_=>1)) (λx=>by omega) x
theorem N0m(x:Y1):A6 x<=16*i02 x:=L0m (c:=Y3) (m:=U00) (λx=>by have:=l0i x;omega) x
theorem N0q(x:r00):p00 x<=16*d0a x:=by
 have:=N0m x.2.2.1
 have:=l0i x.2.2.2.1
 have:=l0i x.2.2.2.2.1
 have:=M0q x.2.2.2.2.2.1
 simp only[p00,d0a]
 omega
theorem l08(h:Hp):∃ cs,R0.R h cs (0,0,0):=⟨_,E1 (by decide) (by decide) (by decide)⟩
theorem k0q(h:Hp)(a:Option Addr)(n c:Nat)(xs:J0)(left:Int)(f:M0.R h [.slice a n c] xs)(g:0<=left/\left<=1048576):
  Tr Tryz.prog 83 #[.slice a n c,.int .i64 left] h λv e=>v = .int .i64 (szR left (U00 xs))/\e=h:=by
 obtain⟨rfl,i⟩:=Sl.len f
 have d:IntKind.i64.wrap (left-(xs.length:Int))=left-xs.length:=w64 (by omega) (by omega)
 refine J2 (args:=[.slice a xs.length c,.int .i64 left]) (fn:=Tryz.f83) rfl ?_
 refine aI (λb=>?_) (λb=>?_)
 ·refine aI ?_ rfl
  simp[d]at b
  rw[U00,l0p (by omega)]
  rfl
 ·refine aI ?_ rfl
  simp[d]at b
  rw[U00,m0p (by omega)]
  exact congrArg (Value.int .i64) d
theorem v0o(h:Hp)(a:Option Addr)(n c:Nat)(xs:Y1)(left:Int)(q:Z1.R h [.slice a n c] xs)(z:0<=left/\left<=1048576):
  Tr Tryz.prog 33 #[.slice a n c,.int .i64 left] h λv d=>v = .int .i64 (szR left (i02 xs))/\d=h:=by
 obtain⟨rfl,A⟩:=Sl.len q
 have i:IntKind.i64.wrap (left-(xs.length:Int))=left-xs.length:=w64 (by omega) (by omega)
 refine J2 (args:=[.slice a xs.length c,.int .i64 left]) (fn:=Tryz.f33) rfl ?_
 refine aI (λe=>?_) (λe=>?_)
 ·refine aI ?_ rfl
  simp[i]at e
  rw[i02,l0p (by omega)]
  rfl
 simp[i]at e
 refine eX { vars:=[1,5],boxes:=[],owns:=[] } (eX (λvs _ d=>∃ k:Nat,k<=xs.length/\0<=szR left ((xs.length+l6 U00 (xs.take k):Nat):Int)/\vs = [.int .i64 (szR left ((xs.length+l6 U00 (xs.take k):Nat):Int)),.int .i64 k]/\d=h) (eX (λvs _=>match vs with | [_,.int _ j]=>((xs.length:Int)-j).toNat|_=>0) ?_))
 have h0:szR left ((xs.length+l6 U00 (xs.take 0):Nat):Int)=left-xs.length:=by rw[m0p (by simp[l6];omega)];simp[l6]
 refine aI ⟨0,by omega,by omega,by rw[h0];exact congrArg (λx=>[Value.int .i64 x,Value.int .i64 0]) i,rfl⟩ ?_
 rintro _ _ G ⟨k,m,p,⟨⟩,rfl⟩
 obtain⟨H,I⟩:=j0p p
 refine aI (λf=>?_) (λf=>?_)
 ·have o:k<xs.length:=by simpa using f
  obtain⟨x,l⟩:=u01 o
  obtain⟨u,F,y,s⟩:=Sl.get q l (by decide)
  have D:=A2 o A
  obtain⟨t,E,w,rfl⟩:=Wp.slice_cell s
  refine aI u (eX _ (aI y ?_))
  refine Tr.val (k0q _ t E w x _ s ⟨by omega,by omega⟩) ?_
  have g:szR (szR left ((xs.length+l6 U00 (xs.take k):Nat):Int)) (U00 x:Nat)=szR left ((xs.length+l6 U00 (xs.take (k+1)):Nat):Int):=by
   rw[H0q p (by omega) (by omega),f04 l]
   congr 1
   omega
  refine aI (λb=>?_) (λb=>?_)
  ·refine aI ?_ rfl
   rw[g]at b
   have B:szR left ((xs.length+l6 U00 (xs.take (k+1)):Nat):Int)<0:=by simpa using b
   have:=g04 U00 xs (k+1)
   rw[i02,k0p B z.1 (by omega)]
   rfl
  ·rw[g]at b
   have C:0<=szR left ((xs.length+l6 U00 (xs.take (k+1)):Nat):Int):=by simpa using b
   refine aI rfl (aI (by first|exact trivial|exact aI rfl trivial|exact aI rfl (aI rfl trivial)|exact aI rfl (aI rfl (aI rfl trivial))|exact aI rfl (aI rfl (aI rfl (aI rfl trivial)))) (aI (by first|exact trivial|exact aI rfl trivial|exact aI rfl (aI rfl trivial)|exact aI rfl (aI rfl (aI rfl trivial))|exact aI rfl (aI rfl (aI rfl (aI rfl trivial)))) (aI ?_ ?_)))
   ·refine⟨k+1,by omega,C,?_,rfl⟩
    rw[←D,←g]
   ·show((xs.length:Int)-IntKind.i64.wrap ((k:Int)+1)).toNat<((xs.length:Int)-(k:Int)).toNat
    omega
 ·have m:k=xs.length:=by simp at f;omega
  subst m
  refine aI ?_ rfl
  rw[List.take_length]
  rfl
theorem l0q(h:Hp)(cs ds:List Value)(x y:O0)(l:R0.R h cs x)(m:R0.R h ds y):
  Tr Tryz.prog 225 #[.agg cs.toArray,.agg ds.toArray] h λv k=>v = .bool (decide (x=y))/\k=h:=by
 obtain⟨c,f,i,rfl,rfl,h0,s,u⟩:=M1 l
 obtain⟨d,g,j,rfl,rfl,q,t,w⟩:=M1 m
 refine J2 (args:=[.agg #[.int .i64 c,.int .i64 f,.int .i64 i],.agg #[.int .i64 d,.int .i64 g,.int .i64 j]]) (fn:=Tryz.f225) rfl ?_
 refine aI (λa=>?_) (λa=>?_)
 ·have b:c≠d:=by simpa using a
  exact aI (congrArg Value.bool (decide_eq_false λe=>by cases e;exact b rfl).symm) rfl
 have n:c=d:=by simpa using a
 subst n
 refine aI (λa=>?_) (λa=>?_)
 ·have b:f≠g:=by simpa using a
  exact aI (congrArg Value.bool (decide_eq_false λe=>by cases e;exact b rfl).symm) rfl
 have o:f=g:=by simpa using a
 subst o
 refine aI (λa=>?_) (λa=>?_)
 ·have b:i≠j:=by simpa using a
  exact aI (congrArg Value.bool (decide_eq_false λe=>by cases e;exact b rfl).symm) rfl
 have p:i=j:=by simpa using a
 subst p
 exact aI (congrArg Value.bool (decide_eq_true rfl).symm) rfl
theorem w0o(h:Hp)(a:Option Addr)(n c:Nat)(p:Option Addr)(G q:Nat)(xs b:N0)(E:D0.R h [.slice a n c] xs)(F:D0.R h [.slice p G q] b):
  Tr Tryz.prog 116 #[.slice a n c,.slice p G q] h λv u=>v = .bool (decide (xs=b))/\u=h:=by
 obtain⟨rfl,U⟩:=Sl.len E
 obtain⟨rfl,ac⟩:=Sl.len F
 refine J2 (args:=[.slice a xs.length c,.slice p b.length q]) (fn:=Tryz.f116) rfl ?_
 refine aI (λw=>?_) (λw=>?_)
 ·refine aI (congrArg Value.bool ?_) rfl
  have:xs.length≠b.length:=by simp at w;omega
  exact(decide_eq_false λe=>this (by rw[e])).symm
 have T:xs.length=b.length:=by simp at w;omega
 refine eX { vars:=[5],boxes:=[],owns:=[] } (eX (λvs _ u=>∃ k:Nat,k<=xs.length/\xs.take k=b.take k/\vs = [.int .i64 k]/\u=h) (eX (λvs _=>match vs with | [.int _ j]=>((xs.length:Int)-j).toNat|_=>0) ?_))
 refine aI ⟨0,by omega,by simp,rfl,rfl⟩ ?_
 rintro _ ab ⟨k,C,B,⟨⟩,rfl⟩
 refine aI (λz=>?_) (λz=>?_)
 ·have D:k<xs.length:=by simpa using z
  obtain⟨x,s⟩:=u01 D
  obtain⟨y,t⟩:=u01 (l:=b) (k:=k) (by omega)
  obtain⟨H,Z,J,X⟩:=Sl.get E s (by decide)
  obtain⟨I,aa,K,Y⟩:=Sl.get F t (by decide)
  have W:=A2 D U
  obtain⟨d,g,m,rfl,rfl,L,N,P⟩:=M1 X
  obtain⟨f,i,o,rfl,rfl,M,O,Q⟩:=M1 Y
  refine Or.inl (aI (aI (by kernel_rfl) (by kernel_rfl)) ?_)
  refine aI H (eX _ (aI J (aI I (eX _ (aI K ?_)))))
  refine eX (.bool _) (aI (l0q _ [.int .i64 d,.int .i64 g,.int .i64 m] [.int .i64 f,.int .i64 i,.int .i64 o] (d,g,m) (f,i,o) (E1 L N P) (E1 M O Q)) ?_)
  refine aI (λA=>?_) (λA=>?_)
  ·refine aI (congrArg Value.bool ?_) rfl
   have V:(d,g,m)≠(f,i,o):=g07 A
   exact(decide_eq_false λe=>V (oJ (s.symm.trans ((congrArg (λl:N0=>l[k]?) e).trans t)))).symm
  ·have S:(d,g,m)=(f,i,o):=m05 A
   refine aI rfl (aI (by first|exact trivial|exact aI rfl trivial|exact aI rfl (aI rfl trivial)|exact aI rfl (aI rfl (aI rfl trivial))|exact aI rfl (aI rfl (aI rfl (aI rfl trivial)))) (aI (by first|exact trivial|exact aI rfl trivial|exact aI rfl (aI rfl trivial)|exact aI rfl (aI rfl (aI rfl trivial))|exact aI rfl (aI rfl (aI rfl (aI rfl trivial)))) (aI ?_ ?_)))
   ·refine⟨k+1,by omega,by rw[N01 s,N01 t,B,S],?_,rfl⟩
    rw[←W]
   ·show((xs.length:Int)-IntKind.i64.wrap ((k:Int)+1)).toNat<((xs.length:Int)-(k:Int)).toNat
    omega
 ·have C:k=xs.length:=by simp at z;omega
  refine aI (congrArg Value.bool ?_) rfl
  refine(decide_eq_true ?_).symm
  subst C
  rwa [List.take_length,T,List.take_length]at B
theorem x0o(h:Hp)(cs ds:List Value)(x y:l0)(u:Y0.R h cs x)(w:Y0.R h ds y):
  Tr Tryz.prog 45 #[.agg cs.toArray,.agg ds.toArray] h λv q=>v = .bool (decide (x=y))/\q=h:=by
 obtain⟨c,f,k,o,m,i,rfl,rfl,h0,D,s⟩:=B0 u
 obtain⟨d,g,l,p,n,j,rfl,rfl,C,E,t⟩:=B0 w
 refine J2 (args:=[.agg #[.int .i64 c,.int .i64 f,.slice k o m],.agg #[.int .i64 d,.int .i64 g,.slice l p n]]) (fn:=Tryz.f45) rfl ?_
 refine aI (λa=>?_) (λa=>?_)
 ·have b:c≠d:=by simpa using a
  exact aI (congrArg Value.bool (decide_eq_false λe=>by cases e;exact b rfl).symm) rfl
 have z:c=d:=by simpa using a
 subst z
 refine aI (λa=>?_) (λa=>?_)
 ·have b:f≠g:=by simpa using a
  exact aI (congrArg Value.bool (decide_eq_false λe=>by cases e;exact b rfl).symm) rfl
 have A:f=g:=by simpa using a
 subst A
 refine Tr.val (w0o h k o m l p n i j s t) ?_
 refine aI (λa=>?_) (λa=>?_)
 ·have b:i≠j:=g07 a
  exact aI (congrArg Value.bool (decide_eq_false λe=>by cases e;exact b rfl).symm) rfl
 have B:i=j:=m05 a
 subst B
 exact aI (congrArg Value.bool (decide_eq_true rfl).symm) rfl
theorem E0b(h:Hp)(a:Option Addr)(n c:Nat)(d:Option Addr)(A f:Nat)(xs b:J0)(w:M0.R h [.slice a n c] xs)(z:M0.R h [.slice d A f] b):
  Tr Tryz.prog 22 #[.slice a n c,.slice d A f] h λv m=>v = .bool (decide (xs=b))/\m=h:=by
 obtain⟨rfl,H⟩:=Sl.len w
 obtain⟨rfl,P⟩:=Sl.len z
 refine J2 (args:=[.slice a xs.length c,.slice d b.length f]) (fn:=Tryz.f22) rfl ?_
 refine aI (λo=>?_) (λo=>?_)
 ·refine aI (congrArg Value.bool ?_) rfl
  have:xs.length≠b.length:=by simp at o;omega
  exact(decide_eq_false λe=>this (by rw[e])).symm
 have G:xs.length=b.length:=by simp at o;omega
 refine eX { vars:=[5],boxes:=[],owns:=[] } (eX (λvs _ m=>∃ k:Nat,k<=xs.length/\xs.take k=b.take k/\vs = [.int .i64 k]/\m=h) (eX (λvs _=>match vs with | [.int _ j]=>((xs.length:Int)-j).toNat|_=>0) ?_))
 refine aI ⟨0,by omega,by simp,rfl,rfl⟩ ?_
 rintro _ O ⟨k,t,s,⟨⟩,rfl⟩
 refine aI (λp=>?_) (λp=>?_)
 ·have u:k<xs.length:=by simpa using p
  obtain⟨x,g⟩:=u01 u
  obtain⟨y,i⟩:=u01 (l:=b) (k:=k) (by omega)
  obtain⟨B,M,D,K⟩:=Sl.get w g (by decide)
  obtain⟨C,N,E,L⟩:=Sl.get z i (by decide)
  have J:=A2 u H
  obtain⟨rfl,_⟩:=K
  obtain⟨rfl,_⟩:=L
  refine Or.inl (aI (aI (by kernel_rfl) (by kernel_rfl)) ?_)
  refine aI B (eX _ (aI D (aI C (eX _ (aI E ?_)))))
  refine aI (λq=>?_) (λq=>?_)
  ·refine aI (congrArg Value.bool ?_) rfl
   have I:x≠y:=by simpa using q
   exact(decide_eq_false λe=>I (oJ (g.symm.trans ((congrArg (λl:J0=>l[k]?) e).trans i)))).symm
  ·have F:x=y:=by simpa using q
   refine aI rfl (aI (by first|exact trivial|exact aI rfl trivial|exact aI rfl (aI rfl trivial)|exact aI rfl (aI rfl (aI rfl trivial))|exact aI rfl (aI rfl (aI rfl (aI rfl trivial)))) (aI (by first|exact trivial|exact aI rfl trivial|exact aI rfl (aI rfl trivial)|exact aI rfl (aI rfl (aI rfl trivial))|exact aI rfl (aI rfl (aI rfl (aI rfl trivial)))) (aI ?_ ?_)))
   ·refine⟨k+1,by omega,by rw[N01 g,N01 i,s,F],?_,rfl⟩
    rw[←J]
   ·show((xs.length:Int)-IntKind.i64.wrap ((k:Int)+1)).toNat<((xs.length:Int)-(k:Int)).toNat
    omega
 ·have t:k=xs.length:=by simp at p;omega
  refine aI (congrArg Value.bool ?_) rfl
  refine(decide_eq_true ?_).symm
  subst t
  rwa [List.take_length,G,List.take_length]at s
theorem E0h(h:Hp)(a:Option Addr)(n c:Nat)(d:Option Addr)(C f:Nat)(xs b:Y1)(w:Z1.R h [.slice a n c] xs)(z:Z1.R h [.slice d C f] b):
  Tr Tryz.prog 38 #[.slice a n c,.slice d C f] h λv m=>v = .bool (decide (xs=b))/\m=h:=by
 obtain⟨rfl,J⟩:=Sl.len w
 obtain⟨rfl,U⟩:=Sl.len z
 refine J2 (args:=[.slice a xs.length c,.slice d b.length f]) (fn:=Tryz.f38) rfl ?_
 refine aI (λo=>?_) (λo=>?_)
 ·refine aI (congrArg Value.bool ?_) rfl
  have:xs.length≠b.length:=by simp at o;omega
  exact(decide_eq_false λe=>this (by rw[e])).symm
 have I:xs.length=b.length:=by simp at o;omega
 refine eX { vars:=[5],boxes:=[],owns:=[] } (eX (λvs _ m=>∃ k:Nat,k<=xs.length/\xs.take k=b.take k/\vs = [.int .i64 k]/\m=h) (eX (λvs _=>match vs with | [.int _ j]=>((xs.length:Int)-j).toNat|_=>0) ?_))
 refine aI ⟨0,by omega,by simp,rfl,rfl⟩ ?_
 rintro _ T ⟨k,t,s,⟨⟩,rfl⟩
 refine aI (λp=>?_) (λp=>?_)
 ·have u:k<xs.length:=by simpa using p
  obtain⟨x,g⟩:=u01 u
  obtain⟨y,i⟩:=u01 (l:=b) (k:=k) (by omega)
  obtain⟨D,Q,F,A⟩:=Sl.get w g (by decide)
  obtain⟨E,S,G,B⟩:=Sl.get z i (by decide)
  have L:=A2 u J
  obtain⟨M,V,O,rfl⟩:=Wp.slice_cell A
  obtain⟨N,W,P,rfl⟩:=Wp.slice_cell B
  refine Or.inl (aI (aI (by kernel_rfl) (by kernel_rfl)) ?_)
  refine aI D (eX _ (aI F (aI E (eX _ (aI G ?_)))))
  refine eX (.bool _) (aI (E0b _ _ _ _ _ _ _ x y A B) ?_)
  refine aI (λq=>?_) (λq=>?_)
  ·refine aI (congrArg Value.bool ?_) rfl
   have K:x≠y:=g07 q
   exact(decide_eq_false λe=>K (oJ (g.symm.trans ((congrArg (λl:Y1=>l[k]?) e).trans i)))).symm
  ·have H:x=y:=m05 q
   refine aI rfl (aI (by first|exact trivial|exact aI rfl trivial|exact aI rfl (aI rfl trivial)|exact aI rfl (aI rfl (aI rfl trivial))|exact aI rfl (aI rfl (aI rfl (aI rfl trivial)))) (aI (by first|exact trivial|exact aI rfl trivial|exact aI rfl (aI rfl trivial)|exact aI rfl (aI rfl (aI rfl trivial))|exact aI rfl (aI rfl (aI rfl (aI rfl trivial)))) (aI ?_ ?_)))
   ·refine⟨k+1,by omega,by rw[N01 g,N01 i,s,H],?_,rfl⟩
    rw[←L]
   ·show((xs.length:Int)-IntKind.i64.wrap ((k:Int)+1)).toNat<((xs.length:Int)-(k:Int)).toNat
    omega
 ·have t:k=xs.length:=by simp at p;omega
  refine aI (congrArg Value.bool ?_) rfl
  refine(decide_eq_true ?_).symm
  subst t
  rwa [List.take_length,I,List.take_length]at s
theorem O0c(h:Hp)(cs ds:List Value)(x y:r00)(am:s00.R h cs x)(an:s00.R h ds y):
  Tr Tryz.prog 30 #[.agg cs.toArray,.agg ds.toArray] h λv Z=>v = .bool (decide (x=y))/\Z=h:=by
 obtain⟨i,k,A,Q,I,m,C,T,K,o,E,V,M,q,c,f,G,X,O,t,w,rfl,rfl,h0,ay,aa,ac,ae,ag,ai,ak,aA⟩:=v03 am
 obtain⟨j,l,B,S,J,n,D,U,L,p,F,W,N,s,d,g,H,Y,P,u,z,rfl,rfl,ax,az,ab,ad,af,ah,aj,al,aB⟩:=v03 an
 refine J2 (args:=[.agg #[.int .i64 i,.int .i64 k,.slice A Q I,.slice C T K,.slice E V M,.int .i64 c,.int .i64 f,.slice G X O,.int .i64 w],.agg #[.int .i64 j,.int .i64 l,.slice B S J,.slice D U L,.slice F W N,.int .i64 d,.int .i64 g,.slice H Y P,.int .i64 z]]) (fn:=Tryz.f30) rfl ?_
 refine aI (λa=>?_) (λa=>?_)
 ·have b:i≠j:=by simpa using a
  exact aI (congrArg Value.bool (decide_eq_false λe=>by cases e;exact b rfl).symm) rfl
 have ao:i=j:=by simpa using a
 subst ao
 refine aI (λa=>?_) (λa=>?_)
 ·have b:k≠l:=by simpa using a
  exact aI (congrArg Value.bool (decide_eq_false λe=>by cases e;exact b rfl).symm) rfl
 have ap:k=l:=by simpa using a
 subst ap
 refine Tr.val (E0h h A Q I B S J m n aa ab) ?_
 refine aI (λa=>?_) (λa=>?_)
 ·have b:m≠n:=g07 a
  exact aI (congrArg Value.bool (decide_eq_false λe=>by cases e;exact b rfl).symm) rfl
 have aq:m=n:=m05 a
 subst aq
 refine Tr.val (E0b h C T K D U L o p ac ad) ?_
 refine aI (λa=>?_) (λa=>?_)
 ·have b:o≠p:=g07 a
  exact aI (congrArg Value.bool (decide_eq_false λe=>by cases e;exact b rfl).symm) rfl
 have ar:o=p:=m05 a
 subst ar
 refine Tr.val (E0b h E V M F W N q s ae af) ?_
 refine aI (λa=>?_) (λa=>?_)
 ·have b:q≠s:=g07 a
  exact aI (congrArg Value.bool (decide_eq_false λe=>by cases e;exact b rfl).symm) rfl
 have au:q=s:=m05 a
 subst au
 refine Tr.val (x0o h [.int .i64 c,.int .i64 f,.slice G X O] [.int .i64 d,.int .i64 g,.slice H Y P] (c,f,t) (d,g,u) (z0 ag ai ak) (z0 ah aj al)) ?_
 refine aI (λa=>?_) (λa=>?_)
 ·have b:(c,f,t)≠(d,g,u):=g07 a
  exact aI (congrArg Value.bool (decide_eq_false λe=>by cases e;exact b rfl).symm) rfl
 have av:(c,f,t)=(d,g,u):=m05 a
 cases av
 refine aI (λa=>?_) (λa=>?_)
 ·have b:w≠z:=by simpa using a
  exact aI (congrArg Value.bool (decide_eq_false λe=>by cases e;exact b rfl).symm) rfl
 have aw:w=z:=by simpa using a
 subst aw
 exact aI (congrArg Value.bool (decide_eq_true rfl).symm) rfl
theorem P08(h:Hp)(a:Option Addr)(n c:Nat)(xs:J0)(q:M0.R h [.slice a n c] xs)(A:U00 xs<=1048576):
  Tr Tryz.prog 36 #[.slice a n c] h λv b=>New M0 h b [v] xs:=by
 obtain⟨rfl,C⟩:=Sl.len q
 have G:xs.length<=1048576:=by simp only[U00]at A;omega
 refine J2 (args:=[.slice a xs.length c]) (fn:=Tryz.f36) rfl ?_
 refine aI ?_ ?_
 ·show 0<=(xs.length:Int)/\(xs.length:Int)<=xs.length/\(xs.length:Int)*8<=140737488355328/\(xs.length:Int)<=9223372036854775807
  omega
 refine eX { vars:=[4],boxes:=[],owns:=[0],kept:=[0] } (eX (λvs os b=>∃(k:Nat) (L:List (List Value)) (Bs:List (List Nat)),k<=xs.length/\vs = [.int .i64 k]/\os = [l05 L xs.length [.int .i64 0]]/\L.length=k /\
  F3 (Wp.int.W b) L (xs.take k) Bs/\Sub h b/\o6 h Bs.flatten) (eX (λvs _=>match vs with | [.int _ j]=>((xs.length:Int)-j).toNat|_=>0) ?_))
 refine aI ⟨0,[],[],by omega,rfl,rfl,rfl,trivial,Sub.refl _,by simp[o6]⟩ ?_
 rintro _ _ w ⟨k,L,Bs,p,⟨⟩,⟨⟩,i,d,f,o⟩
 refine aI (λg=>?_) (λg=>?_)
 ·have e:k<xs.length:=by simpa using g
  obtain⟨x,l⟩:=u01 e
  obtain⟨s,F,t,E⟩:=Sl.get (Sl.mono f q) l (by decide)
  have D:=A2 e C
  obtain⟨rfl,u⟩:=E
  refine aI s (eX _ (aI t ?_))
  obtain⟨B,y,z,m⟩:=New.int (h:=w) u
  refine aI ?_ ?_
  ·show 0<=(k:Int)/\(k:Int)<((l05 L xs.length [.int .i64 0]).length:Nat)
   rw[W0a (by omega)];omega
  refine eX [.int .i64 0] (aI (L0g i e) ?_)
  refine aI rfl (aI (by first|exact trivial|exact aI rfl trivial|exact aI rfl (aI rfl trivial)|exact aI rfl (aI rfl (aI rfl trivial))|exact aI rfl (aI rfl (aI rfl (aI rfl trivial)))) (aI (by first|exact trivial|exact aI rfl trivial|exact aI rfl (aI rfl trivial)|exact aI rfl (aI rfl (aI rfl trivial))|exact aI rfl (aI rfl (aI rfl (aI rfl trivial)))) (aI ?_ ?_)))
  ·refine⟨k+1,L ++ [[.int .i64 x]],Bs ++ [B],by omega,by rw[←D],?_,by simp[i],?_,f.trans m,?_⟩
   ·show [(l05 L xs.length [.int .i64 0]).set k [.int .i64 x]]=_
    rw[M0g i e]
   ·rw[N01 l]
    exact F3.snoc y (K0e d m)
   ·exact f07 d f o z
  ·show((xs.length:Int)-IntKind.i64.wrap ((k:Int)+1)).toNat<((xs.length:Int)-(k:Int)).toNat
   omega
 ·have p:k=xs.length:=by simp at g;omega
  intro v b hf
  rw[N0g (by omega)]at hf
  rw[p,List.take_length]at d
  exact H1.fresh (r:=Wp.int) hf d f o
theorem m09(h:Hp)(a:Option Addr)(n c:Nat)(xs:Y1)(y:Z1.R h [.slice a n c] xs)(w:i02 xs<=1048576):
  Tr Tryz.prog 35 #[.slice a n c] h λv b=>New Z1 h b [v] xs:=by
 obtain⟨rfl,H⟩:=Sl.len y
 have O:xs.length<=1048576:=by simp only[i02]at w;omega
 refine J2 (args:=[.slice a xs.length c]) (fn:=Tryz.f35) rfl ?_
 refine aI ?_ ?_
 ·show 0<=(xs.length:Int)/\(xs.length:Int)<=xs.length/\(xs.length:Int)*24<=140737488355328/\(xs.length:Int)<=9223372036854775807
  omega
 refine eX { vars:=[4],boxes:=[],owns:=[0],kept:=[0] } (eX (λvs os b=>∃(k:Nat) (L:List (List Value)) (Bs:List (List Nat)),k<=xs.length/\vs = [.int .i64 k]/\os = [l05 L xs.length [.slice none 0 0]]/\L.length=k /\
  F3 (M0.W b) L (xs.take k) Bs/\Sub h b/\o6 h Bs.flatten) (eX (λvs _=>match vs with | [.int _ j]=>((xs.length:Int)-j).toNat|_=>0) ?_))
 refine aI ⟨0,[],[],by omega,rfl,rfl,rfl,trivial,Sub.refl _,by simp[o6]⟩ ?_
 rintro _ _ F ⟨k,L,Bs,u,⟨⟩,⟨⟩,l,d,f,t⟩
 refine aI (λi=>?_) (λi=>?_)
 ·have e:k<xs.length:=by simpa using i
  obtain⟨x,g⟩:=u01 e
  obtain⟨C,M,D,z⟩:=Sl.get (Sl.mono f y) g (by decide)
  have I:=A2 e H
  obtain⟨J,P,K,rfl⟩:=Wp.slice_cell z
  refine aI C (eX _ (aI D ?_))
  refine Tr.mono (P08 F _ _ _ x z (by have:=n0p (m:=U00) g;simp only[i02]at w;omega)) ?_
  rintro v N ⟨B,q,G,s⟩
  obtain⟨o,A,p,E⟩:=Wp.slice_cell (M0.toR q)
  cases E
  refine aI ?_ ?_
  ·show 0<=(k:Int)/\(k:Int)<((l05 L xs.length [.slice none 0 0]).length:Nat)
   rw[W0a (by omega)];omega
  refine eX [.slice none 0 0] (aI (L0g l e) ?_)
  refine aI rfl (aI (by first|exact trivial|exact aI rfl trivial|exact aI rfl (aI rfl trivial)|exact aI rfl (aI rfl (aI rfl trivial))|exact aI rfl (aI rfl (aI rfl (aI rfl trivial)))) (aI (by first|exact trivial|exact aI rfl trivial|exact aI rfl (aI rfl trivial)|exact aI rfl (aI rfl (aI rfl trivial))|exact aI rfl (aI rfl (aI rfl (aI rfl trivial)))) (aI ?_ ?_)))
  ·refine⟨k+1,L ++ [[.slice o A p]],Bs ++ [B],by omega,by rw[←I],?_,by simp[l],?_,f.trans s,?_⟩
   ·show [(l05 L xs.length [.slice none 0 0]).set k [.slice o A p]]=_
    rw[M0g l e]
   ·rw[N01 g]
    exact F3.snoc q (K0e d s)
   ·exact f07 d f t G
  ·show((xs.length:Int)-IntKind.i64.wrap ((k:Int)+1)).toNat<((xs.length:Int)-(k:Int)).toNat
   omega
 ·have u:k=xs.length:=by simp at i;omega
  intro v b hf
  rw[N0g (by omega)]at hf
  rw[u,List.take_length]at d
  exact H1.fresh (r:=M0) hf d f t
theorem O0k(h:Hp)(a:Option Addr)(n c:Nat)(xs:N0)(B:List Nat)(k:Int)(N:D0.W h [.slice a n c] xs B)(D:B.Nodup)(aZ:0<=k/\k+(g06 xs:Nat)<=4611686018427387904):
  Tr Tryz.prog 141 #[.slice a n c,.int .i64 k] h λv i=>v = .int .i64 (k+(g06 xs:Nat))/\D0.W i [.slice a n c] (j07 xs k) B/\∀ y,y ∉ B->i y=h y:=by
 obtain⟨rfl,ax⟩:=Sl.len (D0.toR N)
 refine J2 (args:=[.slice a xs.length c,.int .i64 k]) (fn:=Tryz.f141) rfl ?_
 refine eX { vars:=[1,5],boxes:=[],owns:=[] } (eX (λvs _ i=>∃(j:Nat) (b:Int),b=k+(l6 S6 (xs.take j):Nat)/\j<=xs.length/\vs = [.int .i64 b,.int .i64 j]/\D0.W i [.slice a xs.length c] (h04 I03 S6 xs k j) B/\∀ y,y ∉ B->i y=h y) (eX (λvs _=>match vs with | [_,.int _ j]=>((xs.length:Int)-j).toNat|_=>0) ?_))
 refine aI ⟨0,k,by simp[l6],by omega,rfl,by rw[g0c];exact N,λ_ _=>rfl⟩ ?_
 rintro _ _ C ⟨j,b,F,aY,⟨⟩,s,J⟩
 refine aI (λE=>?_) (λE=>?_)
 ·have q:j<xs.length:=by simpa using E
  obtain⟨x,A⟩:=u01 q
  have O:=O0e (mk:=I03) (c:=S6) (k:=k) A
  have ay:l6 S6 (xs.take (j+1))=l6 S6 (xs.take j)+S6 x:=f04 A
  have a3:=g04 S6 xs (j+1)
  have az:=A2 q ax
  have aw:0<=b/\b+(S6 x:Nat)<=4611686018427387904:=by
   have:(g06 xs:Int)=(l6 S6 xs:Nat):=rfl
   omega
  obtain⟨aF,p,g⟩:=x
  simp only[S6]at aw
  obtain⟨R,aM,aG,d,f,u,G,V,aP,w0,ak,aq,an,aV,a4,a0,bc,aA⟩:=Wp.at s D O (by decide)
  cases V
  obtain⟨bf,bi,bl,rfl,ab,rfl,aS,ag,ai⟩:=i0c w0
  cases ab
  refine aI R ?_
  refine B03.mk (Int.natCast_nonneg j) ak (aq 0 (by decide)) (by rw[Int.toNat_natCast];rfl) trivial ?_
  have L:D0.W (C.set d (.cells (u.setIfInBounds (f+(j*R0.sz+0)) (.int .i64 (b))) G (0,0))) [.slice (some ⟨d,f,none⟩) xs.length c] ((h04 I03 S6 xs k j).set j (b,p,g)) B:=aA 0 (.int .i64 (b)) (b,p,g) (by decide) λi hf=>i07 (J0q (by  omega) (by  omega)) ag ai
  have K:∀ y,y ∉ B->(C.set d (.cells (u.setIfInBounds (f+(j*R0.sz+0)) (.int .i64 (b))) G (0,0))) y=h y:=λy l=>(Hp.set_other _ _ λe=>l (by rw[e];exact an)).trans (J y l)
  generalize (C.set d (.cells (u.setIfInBounds (f+(j*R0.sz+0)) (.int .i64 (b))) G (0,0)))=kst0 at L K ⊢
  have m:IntKind.i64.wrap (b+1)=b+(1):=by rw[w64 (by  omega) (by  omega)]<;>omega
  have P:((h04 I03 S6 xs k j).set j (b,p,g))[j]?=some (b,p,g):=by rw[List.getElem?_set_self (by rw[b0d];exact q)]
  obtain⟨S,aN,aH,aK,ba,w,H,X,aQ,aD,al,ar,ao,aW,a5,a1,bd,aB⟩:=Wp.at L D P (by decide)
  cases X
  obtain⟨bg,bj,bm,rfl,ac,rfl,ae,aT,aj⟩:=i0c aD
  cases ac
  refine aI S ?_
  refine B03.mk (Int.natCast_nonneg j) al (ar 1 (by decide)) (by rw[Int.toNat_natCast];rfl) trivial ?_
  have M:D0.W (kst0.set d (.cells (w.setIfInBounds (f+(j*R0.sz+1)) (.int .i64 (IntKind.i64.wrap (b+1)))) H (0,0))) [.slice (some ⟨d,f,none⟩) xs.length c] ((h04 I03 S6 xs k j).set j (b,IntKind.i64.wrap (b+1),g)) B:=by have:=aB 1 (.int .i64 (IntKind.i64.wrap (b+1))) (b,IntKind.i64.wrap (b+1),g) (by decide) λi hf=>i07 ae (J0q (by rw[m];omega) (by rw[m];omega)) aj;rwa [List.set_set]at this
  have F2:∀ y,y ∉ B->(kst0.set d (.cells (w.setIfInBounds (f+(j*R0.sz+1)) (.int .i64 (IntKind.i64.wrap (b+1)))) H (0,0))) y=h y:=λy l=>(Hp.set_other _ _ λe=>l (by rw[e];exact ao)).trans (K y l)
  generalize (kst0.set d (.cells (w.setIfInBounds (f+(j*R0.sz+1)) (.int .i64 (IntKind.i64.wrap (b+1)))) H (0,0)))=kst1 at M F2 ⊢
  have o:IntKind.i64.wrap (IntKind.i64.wrap (b+1)+1)=b+(1+1):=by rw[w64 (by rw[m];omega) (by rw[m];omega)]<;>rw[m]<;>omega
  have Q:((h04 I03 S6 xs k j).set j (b,IntKind.i64.wrap (b+1),g))[j]?=some (b,IntKind.i64.wrap (b+1),g):=by rw[List.getElem?_set_self (by rw[b0d];exact q)]
  obtain⟨T,aO,aJ,aL,bb,z,I,Y,aR,aE,am,au,ap,aX,a6,a2,be,aC⟩:=Wp.at M D Q (by decide)
  cases Y
  obtain⟨bh,bk,bn,rfl,ad,rfl,af,ah,aU⟩:=i0c aE
  cases ad
  refine aI T ?_
  refine B03.mk (Int.natCast_nonneg j) am (au 2 (by decide)) (by rw[Int.toNat_natCast];rfl) trivial ?_
  have t:D0.W (kst1.set d (.cells (z.setIfInBounds (f+(j*R0.sz+2)) (.int .i64 (IntKind.i64.wrap (IntKind.i64.wrap (b+1)+1)))) I (0,0))) [.slice (some ⟨d,f,none⟩) xs.length c] ((h04 I03 S6 xs k j).set j (b,IntKind.i64.wrap (b+1),IntKind.i64.wrap (IntKind.i64.wrap (b+1)+1))) B:=by have:=aC 2 (.int .i64 (IntKind.i64.wrap (IntKind.i64.wrap (b+1)+1))) (b,IntKind.i64.wrap (b+1),IntKind.i64.wrap (IntKind.i64.wrap (b+1)+1)) (by decide) λi hf=>i07 af ah (J0q (by rw[o];omega) (by rw[o];omega));rwa [List.set_set]at this
  have F3:∀ y,y ∉ B->(kst1.set d (.cells (z.setIfInBounds (f+(j*R0.sz+2)) (.int .i64 (IntKind.i64.wrap (IntKind.i64.wrap (b+1)+1)))) I (0,0))) y=h y:=λy l=>(Hp.set_other _ _ λe=>l (by rw[e];exact ap)).trans (F2 y l)
  generalize (kst1.set d (.cells (z.setIfInBounds (f+(j*R0.sz+2)) (.int .i64 (IntKind.i64.wrap (IntKind.i64.wrap (b+1)+1)))) I (0,0)))=kst2 at t F3 ⊢
  have Z:IntKind.i64.wrap (IntKind.i64.wrap (IntKind.i64.wrap (b+1)+1)+1)=b+(1+1+1):=by rw[w64 (by rw[o];omega) (by rw[o];omega)]<;>rw[o]<;>omega
  have aa:(b,IntKind.i64.wrap (b+1),IntKind.i64.wrap (IntKind.i64.wrap (b+1)+1))=I03 (aF,p,g) b:=by
   simp only[I03,S6]
   exact(congr (congrArg Prod.mk rfl) (congr (congrArg Prod.mk (by rw[m]<;>first|rfl|omega|(simp;omega))) (by rw[o]<;>first|rfl|omega|(simp;omega))))
  have U:(h04 I03 S6 xs k j).set j (b,IntKind.i64.wrap (b+1),IntKind.i64.wrap (IntKind.i64.wrap (b+1)+1))=h04 I03 S6 xs k (j+1):=by rw[aa];rw[F];exact P0e A
  rw[U]at t
  refine aI rfl (aI (by first|exact trivial|exact aI rfl trivial|exact aI rfl (aI rfl trivial)|exact aI rfl (aI rfl (aI rfl trivial))|exact aI rfl (aI rfl (aI rfl (aI rfl trivial)))) (aI (by first|exact trivial|exact aI rfl trivial|exact aI rfl (aI rfl trivial)|exact aI rfl (aI rfl (aI rfl trivial))|exact aI rfl (aI rfl (aI rfl (aI rfl trivial)))) (aI ?_ ?_)))
  ·refine⟨j+1,IntKind.i64.wrap (IntKind.i64.wrap (IntKind.i64.wrap (b+1)+1)+1),?_,by omega,by rw[←az],t,F3⟩
   rw[Z];rw[ay];simp only[S6];omega
  ·show((xs.length:Int)-IntKind.i64.wrap ((j:Int)+1)).toNat<((xs.length:Int)-(j:Int)).toNat
   omega
 ·have av:j=xs.length:=by simp at E;omega
  subst av
  rw[List.take_length]at F
  rw[N0e]at s
  exact aI (congrArg (Value.int .i64) F) (aI s J)
theorem P0k(h:Hp)(cs:List Value)(x:l0)(B:List Nat)(k:Int)(w:Y0.W h cs x B)(j:B.Nodup)(t:0<=k/\k+(I7 x:Nat)<=4611686018427387904):
  Tr Tryz.prog 54 #[.agg cs.toArray,.int .i64 k] h λv i=>v = .int .i64 (k+(I7 x:Nat))/\Y0.W i cs (J03 x k) B/\∀ y,y ∉ B->i y=h y:=by
 obtain⟨b,a,d,f,e,c,C,rfl,rfl,rfl,h0,p,q⟩:=r0l w
 simp only[I7]at t
 refine J2 (args:=[.agg #[.int .i64 b,.int .i64 a,.slice d f e],.int .i64 k]) (fn:=Tryz.f54) rfl ?_
 have u:B.Nodup:=by first|exact j|(have:=j;simp only[List.nil_append,List.append_nil,List.nodup_append]at this;grind)
 refine Tr.mono (O0k _ d f e c B (k) q u ⟨by omega,by omega⟩) ?_
 rintro D s ⟨rfl,A,o⟩
 have m:(k+(g06 c:Nat):Int)=k+(I7 (b,a,c):Nat):=by simp only[I7]<;>omega
 have g:Y0.W s [.int .i64 b,.int .i64 a,.slice d f e] (b,a,j07 c (k)) (B):=⟨[.int .i64 b],[.int .i64 a,.slice d f e],[],([]++B),rfl,rfl,⟨⟨rfl,h0⟩,rfl⟩,⟨[.int .i64 a],[.slice d f e],[],B,rfl,rfl,⟨⟨rfl,p⟩,rfl⟩,A⟩⟩
 have n:(b,a,j07 c (k))=J03 (b,a,c) k:=by
  unfold J03
  exact(congr (congrArg Prod.mk rfl) (congr (congrArg Prod.mk rfl) rfl))
 rw[n]at g
 exact aI (congrArg (Value.int .i64) m) (aI g (λy z=>o y (λl=>z (by first|exact l|(simp only[List.nil_append,List.append_nil,List.mem_append,List.not_mem_nil,false_or,or_false]at l ⊢;grind)))))
theorem t07(h:Hp)(a:Option Addr)(n c:Nat)(xs:J0)(B:List Nat)(k:Int)(A:M0.W h [.slice a n c] xs B)(I:B.Nodup)(Y:0<=k/\k+(Y3 xs:Nat)<=4611686018427387904):
  Tr Tryz.prog 24 #[.slice a n c,.int .i64 k] h λv d=>v = .int .i64 (k+(Y3 xs:Nat))/\M0.W d [.slice a n c] (H9 xs k) B/\∀ y,y ∉ B->d y=h y:=by
 obtain⟨rfl,N⟩:=Sl.len (M0.toR A)
 refine J2 (args:=[.slice a xs.length c,.int .i64 k]) (fn:=Tryz.f24) rfl ?_
 refine eX { vars:=[1,5],boxes:=[],owns:=[] } (eX (λvs _ d=>∃(j:Nat) (b:Int),b=k+(l6 (λ_=>1) (xs.take j):Nat)/\j<=xs.length/\vs = [.int .i64 b,.int .i64 j]/\M0.W d [.slice a xs.length c] (h04 (λ_ k=>k) (λ_=>1) xs k j) B/\∀ y,y ∉ B->d y=h y) (eX (λvs _=>match vs with | [_,.int _ j]=>((xs.length:Int)-j).toNat|_=>0) ?_))
 refine aI ⟨0,k,by simp[l6],by omega,rfl,by rw[g0c];exact A,λ_ _=>rfl⟩ ?_
 rintro _ _ p ⟨j,b,s,X,⟨⟩,i,u⟩
 refine aI (λq=>?_) (λq=>?_)
 ·have z:j<xs.length:=by simpa using q
  obtain⟨x,o⟩:=u01 z
  have D:=O0e (mk:=(λ_ k=>k)) (c:=(λ_=>1)) (k:=k) o
  have O:l6 (λ_=>1) (xs.take (j+1))=l6 (λ_=>1) (xs.take j)+1:=f04 o
  have ab:=g04 (λ_=>1) xs (j+1)
  have P:=A2 z N
  have Z:0<=b/\b+(1:Nat)<=4611686018427387904:=by
   have:(Y3 xs:Int)=(l6 (λ_=>1) xs:Nat):=rfl
   omega
  obtain⟨E,S,R,f,g,m,t,G,T,w0,J,L,K,V,ac,aa,ad,Q⟩:=Wp.at i I D (by decide)
  cases G
  obtain⟨⟨rfl,_⟩,rfl⟩:=w0
  refine aI E ?_
  refine B03.mk (Int.natCast_nonneg j) J (L 0 (by decide)) (by rw[Int.toNat_natCast];rfl) trivial ?_
  have l:M0.W (p.set f (.cells (m.setIfInBounds (g+(j*Wp.int.sz+0)) (.int .i64 (b))) t (0,0))) [.slice (some ⟨f,g,none⟩) xs.length c] ((h04 (λ_ k=>k) (λ_=>1) xs k j).set j (b)) B:=Q 0 (.int .i64 (b)) (b) (by decide) λd hf=>⟨⟨rfl,J0q (by omega) (by omega)⟩,rfl⟩
  have w:∀ y,y ∉ B->(p.set f (.cells (m.setIfInBounds (g+(j*Wp.int.sz+0)) (.int .i64 (b))) t (0,0))) y=h y:=λy C=>(Hp.set_other _ _ λe=>C (by rw[e];exact K)).trans (u y C)
  generalize (p.set f (.cells (m.setIfInBounds (g+(j*Wp.int.sz+0)) (.int .i64 (b))) t (0,0)))=kst0 at l w ⊢
  have H:IntKind.i64.wrap (b+1)=b+(1):=by rw[w64 (by  omega) (by  omega)]<;>omega
  have U:b=(λ_ k=>k) x b:=rfl
  have F:(h04 (λ_ k=>k) (λ_=>1) xs k j).set j (b)=h04 (λ_ k=>k) (λ_=>1) xs k (j+1):=by rw[s];exact P0e o
  rw[F]at l
  refine aI rfl (aI (by first|exact trivial|exact aI rfl trivial|exact aI rfl (aI rfl trivial)|exact aI rfl (aI rfl (aI rfl trivial))|exact aI rfl (aI rfl (aI rfl (aI rfl trivial)))) (aI (by first|exact trivial|exact aI rfl trivial|exact aI rfl (aI rfl trivial)|exact aI rfl (aI rfl (aI rfl trivial))|exact aI rfl (aI rfl (aI rfl (aI rfl trivial)))) (aI ?_ ?_)))
  ·refine⟨j+1,IntKind.i64.wrap (b+1),?_,by omega,by rw[←P],l,w⟩
   rw[H];rw[O];omega
  ·show((xs.length:Int)-IntKind.i64.wrap ((j:Int)+1)).toNat<((xs.length:Int)-(j:Int)).toNat
   omega
 ·have M:j=xs.length:=by simp at q;omega
  subst M
  rw[List.take_length]at s
  rw[N0e]at i
  exact aI (congrArg (Value.int .i64) s) (aI i u)
theorem r0d(h:Hp)(a:Option Addr)(n c:Nat)(xs:Y1)(B:List Nat)(k:Int)(s:Z1.W h [.slice a n c] xs B)(K:B.Nodup)(ag:0<=k/\k+(A6 xs:Nat)<=4611686018427387904):
  Tr Tryz.prog 39 #[.slice a n c,.int .i64 k] h λv d=>v = .int .i64 (k+(A6 xs:Nat))/\Z1.W d [.slice a n c] (k07 xs k) B/\∀ y,y ∉ B->d y=h y:=by
 obtain⟨rfl,M⟩:=Sl.len (Z1.toR s)
 refine J2 (args:=[.slice a xs.length c,.int .i64 k]) (fn:=Tryz.f39) rfl ?_
 refine eX { vars:=[1,5],boxes:=[],owns:=[] } (eX (λvs _ d=>∃(j:Nat) (b:Int),b=k+(l6 Y3 (xs.take j):Nat)/\j<=xs.length/\vs = [.int .i64 b,.int .i64 j]/\Z1.W d [.slice a xs.length c] (h04 H9 Y3 xs k j) B/\∀ y,y ∉ B->d y=h y) (eX (λvs _=>match vs with | [_,.int _ j]=>((xs.length:Int)-j).toNat|_=>0) ?_))
 refine aI ⟨0,k,by simp[l6],by omega,rfl,by rw[g0c];exact s,λ_ _=>rfl⟩ ?_
 rintro _ _ aa ⟨j,b,l,af,⟨⟩,e,m⟩
 refine aI (λi=>?_) (λi=>?_)
 ·have q:j<xs.length:=by simpa using i
  obtain⟨x,f⟩:=u01 q
  have z:=O0e (mk:=H9) (c:=Y3) (k:=k) f
  have O:l6 Y3 (xs.take (j+1))=l6 Y3 (xs.take j)+Y3 x:=f04 f
  have ai:=g04 Y3 xs (j+1)
  have Q:=A2 q M
  have ah:0<=b/\b+(Y3 x:Nat)<=4611686018427387904:=by
   have:(A6 xs:Int)=(l6 Y3 xs:Nat):=rfl
   omega
  obtain⟨C,X,u,D,T,Y,ak,H,F,w0,ab,ae,ac,ad,P,N,U,aj⟩:=Wp.at e K z (by decide)
  cases H
  obtain⟨A,S,E,J⟩:=Wp.slice_cell (M0.toR w0)
  cases J
  refine aI C (eX _ (aI F ?_))
  refine Tr.mono (t07 _ A S E (x) u (b) w0 N ⟨by omega,by omega⟩) ?_
  rintro al g ⟨rfl,V,p⟩
  have o:Z1.W g [.slice (some ⟨D,T,none⟩) xs.length c] ((h04 H9 Y3 xs k j).set j (H9 x (b))) B:=U g (H9 x (b)) (p) V
  have w:∀ y,y ∉ B->g y=h y:=λy t=>(p y λR=>t (P y (by simp[R]))).trans (m y t)
  have I:(b+(Y3 x:Nat):Int)=b+((Y3 x:Nat)):=by omega
  have Z:(H9 x (b))=H9 x b:=rfl
  have G:(h04 H9 Y3 xs k j).set j (H9 x (b))=h04 H9 Y3 xs k (j+1):=by rw[l];exact P0e f
  rw[G]at o
  refine aI rfl (aI (by first|exact trivial|exact aI rfl trivial|exact aI rfl (aI rfl trivial)|exact aI rfl (aI rfl (aI rfl trivial))|exact aI rfl (aI rfl (aI rfl (aI rfl trivial)))) (aI (by first|exact trivial|exact aI rfl trivial|exact aI rfl (aI rfl trivial)|exact aI rfl (aI rfl (aI rfl trivial))|exact aI rfl (aI rfl (aI rfl (aI rfl trivial)))) (aI ?_ ?_)))
  ·refine⟨j+1,b+(Y3 x:Nat),?_,by omega,by rw[←Q],o,w⟩
   rw[I];rw[O];omega
  ·show((xs.length:Int)-IntKind.i64.wrap ((j:Int)+1)).toNat<((xs.length:Int)-(j:Int)).toNat
   omega
 ·have L:j=xs.length:=by simp at i;omega
  subst L
  rw[List.take_length]at l
  rw[N0e]at e
  exact aI (congrArg (Value.int .i64) l) (aI e m)
theorem Q0k(h:Hp)(cs:List Value)(x:r00)(B:List Nat)(k:Int)(ag:s00.W h cs x B)(c:B.Nodup)(ab:0<=k/\k+(p00 x:Nat)<=4611686018427387904):
  Tr Tryz.prog 31 #[.agg cs.toArray,.int .i64 k] h λv O=>v = .int .i64 (k+(p00 x:Nat))/\s00.W O cs (X0a x k) B/\∀ y,y ∉ B->O y=h y:=by
 obtain⟨D,u,G,I,H,f,z,C,A,g,q,t,s,j,d,e,m,o,n,E,i,F,w,p,l,rfl,rfl,rfl,h0,R,S,T,U,V,X,Y,aa⟩:=s0l ag
 simp only[p00,I7]at ab
 refine J2 (args:=[.agg #[.int .i64 D,.int .i64 u,.slice G I H,.slice z C A,.slice q t s,.int .i64 d,.int .i64 e,.slice m o n,.int .i64 i],.int .i64 k]) (fn:=Tryz.f31) rfl ?_
 have ac:F.Nodup:=by first|exact c|(have:=c;simp only[List.nil_append,List.append_nil,List.nodup_append]at this;grind)
 refine Tr.mono (r0d _ G I H f F (k) S ac ⟨by omega,by omega⟩) ?_
 rintro ao al ⟨rfl,ah,J⟩
 have ad:w.Nodup:=by first|exact c|(have:=c;simp only[List.nil_append,List.append_nil,List.nodup_append]at this;grind)
 refine Tr.mono (t07 _ z C A g w (k+(A6 f:Nat)) (M0.frame T λy b=>J y λa=>by have:=c;simp only[List.nil_append,List.append_nil,List.nodup_append,List.mem_append,List.not_mem_nil,false_or,or_false]at this a;grind) ad ⟨by omega,by omega⟩) ?_
 rintro ap am ⟨rfl,ai,K⟩
 have ae:p.Nodup:=by first|exact c|(have:=c;simp only[List.nil_append,List.append_nil,List.nodup_append]at this;grind)
 refine Tr.mono (t07 _ q t s j p (k+(A6 f:Nat)+(Y3 g:Nat)) (M0.frame (M0.frame U λy b=>J y λa=>by have:=c;simp only[List.nil_append,List.append_nil,List.nodup_append,List.mem_append,List.not_mem_nil,false_or,or_false]at this a;grind) λy b=>K y λa=>by have:=c;simp only[List.nil_append,List.append_nil,List.nodup_append,List.mem_append,List.not_mem_nil,false_or,or_false]at this a;grind) ae ⟨by omega,by omega⟩) ?_
 rintro aq an ⟨rfl,aj,L⟩
 have af:(([]++([]++l))).Nodup:=by first|exact c|(have:=c;simp only[List.nil_append,List.append_nil,List.nodup_append]at this ⊢;grind)
 refine Tr.mono (P0k _ [.int .i64 d,.int .i64 e,.slice m o n] (d,e,E) (([]++([]++l))) (k+(A6 f:Nat)+(Y3 g:Nat)+(Y3 j:Nat)) (F0j V X (D0.frame (D0.frame (D0.frame Y λy b=>J y λa=>by have:=c;simp only[List.nil_append,List.append_nil,List.nodup_append,List.mem_append,List.not_mem_nil,false_or,or_false]at this a;grind) λy b=>K y λa=>by have:=c;simp only[List.nil_append,List.append_nil,List.nodup_append,List.mem_append,List.not_mem_nil,false_or,or_false]at this a;grind) λy b=>L y λa=>by have:=c;simp only[List.nil_append,List.append_nil,List.nodup_append,List.mem_append,List.not_mem_nil,false_or,or_false]at this a;grind)) af ⟨by omega,by simp only[I7];omega⟩) ?_
 rintro ar Z ⟨rfl,ak,M⟩
 have P:(k+(A6 f:Nat)+(Y3 g:Nat)+(Y3 j:Nat)+(I7 (d,e,E):Nat):Int)=k+(p00 (D,u,f,g,j,(d,e,E),i):Nat):=by simp only[p00,I7]<;>omega
 have N:s00.W Z [.int .i64 D,.int .i64 u,.slice G I H,.slice z C A,.slice q t s,.int .i64 d,.int .i64 e,.slice m o n,.int .i64 i] (D,u,k07 f (k),H9 g (k+(A6 f:Nat)),H9 j (k+(A6 f:Nat)+(Y3 g:Nat)),J03 (d,e,E) (k+(A6 f:Nat)+(Y3 g:Nat)+(Y3 j:Nat)),i) (([]++([]++(F++(w++(p++(([]++([]++l)) ++ []))))))):=⟨[.int .i64 D],[.int .i64 u,.slice G I H,.slice z C A,.slice q t s,.int .i64 d,.int .i64 e,.slice m o n,.int .i64 i],[],([]++(F++(w++(p++(([]++([]++l)) ++ []))))),rfl,rfl,⟨⟨rfl,h0⟩,rfl⟩,⟨[.int .i64 u],[.slice G I H,.slice z C A,.slice q t s,.int .i64 d,.int .i64 e,.slice m o n,.int .i64 i],[],(F++(w++(p++(([]++([]++l)) ++ [])))),rfl,rfl,⟨⟨rfl,R⟩,rfl⟩,⟨[.slice G I H],[.slice z C A,.slice q t s,.int .i64 d,.int .i64 e,.slice m o n,.int .i64 i],F,(w++(p++(([]++([]++l)) ++ []))),rfl,rfl,(Z1.frame (Z1.frame (Z1.frame ah λy b=>K y λa=>by have:=c;simp only[List.nil_append,List.append_nil,List.nodup_append,List.mem_append,List.not_mem_nil,false_or,or_false]at this a b;grind) λy b=>L y λa=>by have:=c;simp only[List.nil_append,List.append_nil,List.nodup_append,List.mem_append,List.not_mem_nil,false_or,or_false]at this a b;grind) λy b=>M y λa=>by have:=c;simp only[List.nil_append,List.append_nil,List.nodup_append,List.mem_append,List.not_mem_nil,false_or,or_false]at this a b;grind),⟨[.slice z C A],[.slice q t s,.int .i64 d,.int .i64 e,.slice m o n,.int .i64 i],w,(p++(([]++([]++l)) ++ [])),rfl,rfl,(M0.frame (M0.frame ai λy b=>L y λa=>by have:=c;simp only[List.nil_append,List.append_nil,List.nodup_append,List.mem_append,List.not_mem_nil,false_or,or_false]at this a b;grind) λy b=>M y λa=>by have:=c;simp only[List.nil_append,List.append_nil,List.nodup_append,List.mem_append,List.not_mem_nil,false_or,or_false]at this a b;grind),⟨[.slice q t s],[.int .i64 d,.int .i64 e,.slice m o n,.int .i64 i],p,(([]++([]++l)) ++ []),rfl,rfl,(M0.frame aj λy b=>M y λa=>by have:=c;simp only[List.nil_append,List.append_nil,List.nodup_append,List.mem_append,List.not_mem_nil,false_or,or_false]at this a b;grind),⟨[.int .i64 d,.int .i64 e,.slice m o n],[.int .i64 i],([]++([]++l)),[],rfl,rfl,ak,⟨⟨rfl,aa⟩,rfl⟩⟩⟩⟩⟩⟩⟩
 have Q:(D,u,k07 f (k),H9 g (k+(A6 f:Nat)),H9 j (k+(A6 f:Nat)+(Y3 g:Nat)),J03 (d,e,E) (k+(A6 f:Nat)+(Y3 g:Nat)+(Y3 j:Nat)),i)=X0a (D,u,f,g,j,(d,e,E),i) k:=by
  unfold X0a
  exact(congr (congrArg Prod.mk rfl) (congr (congrArg Prod.mk rfl) (congr (congrArg Prod.mk rfl) (congr (congrArg Prod.mk (congrArg (H9 g) (by simp only[p00,I7]<;>omega))) (congr (congrArg Prod.mk (congrArg (H9 j) (by simp only[p00,I7]<;>omega))) (congr (congrArg Prod.mk (congrArg (J03 (d,e,E)) (by simp only[p00,I7]<;>omega))) rfl))))))
 rw[Q]at N
 exact aI (congrArg (Value.int .i64) P) (aI N (λy b=>(M y (λa=>b (by first|exact a|(simp only[List.nil_append,List.append_nil,List.mem_append,List.not_mem_nil,false_or,or_false]at a ⊢;grind)))).trans ((L y (λa=>b (by first|exact a|(simp only[List.nil_append,List.append_nil,List.mem_append,List.not_mem_nil,false_or,or_false]at a ⊢;grind)))).trans ((K y (λa=>b (by first|exact a|(simp only[List.nil_append,List.append_nil,List.mem_append,List.not_mem_nil,false_or,or_false]at a ⊢;grind)))).trans (J y (λa=>b (by first|exact a|(simp only[List.nil_append,List.append_nil,List.mem_append,List.not_mem_nil,false_or,or_false]at a ⊢;grind))))))))
theorem R0k(h:Hp)(a:Option Addr)(n c:Nat)(xs:N0)(k:Int)(u:D0.R h [.slice a n c] (j07 xs k))(L:0<=k/\k+(g06 xs:Nat)<=4611686018427387904):
  Tr Tryz.prog 156 #[.slice a n c,.int .i64 k] h λv l=>v = .int .i64 (k+(g06 xs:Nat))/\l=h:=by
 obtain⟨p,B⟩:=Sl.len u
 rw[show(j07 xs k).length=xs.length from g02 _ _ _ _]at p
 subst p
 refine J2 (args:=[.slice a xs.length c,.int .i64 k]) (fn:=Tryz.f156) rfl ?_
 refine eX { vars:=[1,5],boxes:=[],owns:=[] } (eX (λvs _ l=>∃(j:Nat) (b:Int),b=k+(l6 S6 (xs.take j):Nat)/\j<=xs.length/\vs = [.int .i64 b,.int .i64 j]/\l=h) (eX (λvs _=>match vs with | [_,.int _ j]=>((xs.length:Int)-j).toNat|_=>0) ?_))
 refine aI ⟨0,k,by simp[l6],by omega,rfl,rfl⟩ ?_
 rintro _ _ J ⟨j,b,o,K,⟨⟩,rfl⟩
 refine aI (λm=>?_) (λm=>?_)
 ·have t:j<xs.length:=by simpa using m
  obtain⟨x,s⟩:=u01 t
  have C:l6 S6 (xs.take (j+1))=l6 S6 (xs.take j)+S6 x:=f04 s
  have M:=g04 S6 xs (j+1)
  have D:=A2 t B
  have A:0<=b/\b+(S6 x:Nat)<=4611686018427387904:=by
   have:(g06 xs:Int)=(l6 S6 xs:Nat):=rfl
   omega
  have y:(j07 xs k)[j]?=some (I03 x b):=by rw[o];exact T0d s
  obtain⟨g,F,i,E⟩:=Sl.get u y (by decide)
  obtain⟨N,P,S⟩:=x
  simp only[S6]at A
  obtain⟨O,Q,T,rfl,q,G,H,I⟩:=M1 E
  simp only[I03,S6,Prod.mk.injEq]at q
  obtain⟨rfl,rfl,rfl⟩:=q
  refine aI g (eX _ (aI i ?_))
  refine aI (λd=>?_) (λd=>?_)
  ·exact((bne_iff_ne.1 d) (by first|rfl|omega|(simp;omega))).elim
  clear d
  have e:IntKind.i64.wrap (b+1)=b+(1):=by rw[w64 (by  omega) (by  omega)]<;>omega
  refine aI g (eX _ (aI i ?_))
  refine aI (λd=>?_) (λd=>?_)
  ·exact((bne_iff_ne.1 d) (by rw[e];first|rfl|omega|(simp;omega))).elim
  clear d
  have f:IntKind.i64.wrap (IntKind.i64.wrap (b+1)+1)=b+(1+1):=by rw[w64 (by rw[e];  omega) (by rw[e];  omega)]<;>rw[e]<;>omega
  refine aI g (eX _ (aI i ?_))
  refine aI (λd=>?_) (λd=>?_)
  ·exact((bne_iff_ne.1 d) (by rw[f];first|rfl|omega|(simp;omega))).elim
  clear d
  have w:IntKind.i64.wrap (IntKind.i64.wrap (IntKind.i64.wrap (b+1)+1)+1)=b+(1+1+1):=by rw[w64 (by rw[f];  omega) (by rw[f];  omega)]<;>rw[f]<;>omega
  refine aI rfl (aI (by first|exact trivial|exact aI rfl trivial|exact aI rfl (aI rfl trivial)|exact aI rfl (aI rfl (aI rfl trivial))|exact aI rfl (aI rfl (aI rfl (aI rfl trivial)))) (aI (by first|exact trivial|exact aI rfl trivial|exact aI rfl (aI rfl trivial)|exact aI rfl (aI rfl (aI rfl trivial))|exact aI rfl (aI rfl (aI rfl (aI rfl trivial)))) (aI ?_ ?_)))
  ·refine⟨j+1,IntKind.i64.wrap (IntKind.i64.wrap (IntKind.i64.wrap (b+1)+1)+1),?_,by omega,by rw[←D],rfl⟩
   rw[w];rw[C];simp only[S6];omega
  ·show((xs.length:Int)-IntKind.i64.wrap ((j:Int)+1)).toNat<((xs.length:Int)-(j:Int)).toNat
   omega
 ·have z:j=xs.length:=by simp at m;omega
  subst z
  rw[List.take_length]at o
  exact aI (congrArg (Value.int .i64) o) rfl
theorem S0k(h:Hp)(cs:List Value)(x:l0)(k:Int)(m:Y0.R h cs (J03 x k))(l:0<=k/\k+(I7 x:Nat)<=4611686018427387904):
  Tr Tryz.prog 101 #[.agg cs.toArray,.int .i64 k] h λv j=>v = .int .i64 (k+(I7 x:Nat))/\j=h:=by
 obtain⟨n,o,g⟩:=x
 obtain⟨s,t,b,f,c,u,rfl,d,p,q,i⟩:=B0 m
 simp only[J03,I7,Prod.mk.injEq]at d
 obtain⟨rfl,rfl,rfl⟩:=d
 simp only[I7]at l
 refine J2 (args:=[.agg #[.int .i64 n,.int .i64 o,.slice b f c],.int .i64 k]) (fn:=Tryz.f101) rfl ?_
 refine Tr.val (R0k _ b f c g (k) (by have e:=i;first|exact e|(rwa [show k+(((0:Nat):Int))=k from by omega]at e)) ⟨by omega,by omega⟩) ?_
 refine aI (λa=>?_) (λa=>?_)
 ·have:(k+(g06 g:Nat):Int)<0:=by simpa only[decide_eq_true_eq] using a
  exact absurd this (by omega)
 clear a
 exact aI (congrArg (Value.int .i64) (by simp only[I7]<;>omega)) rfl
theorem s0a(h:Hp)(a:Option Addr)(n c:Nat)(xs:J0)(k:Int)(o:M0.R h [.slice a n c] (H9 xs k))(E:0<=k/\k+(Y3 xs:Nat)<=4611686018427387904):
  Tr Tryz.prog 25 #[.slice a n c,.int .i64 k] h λv d=>v = .int .i64 (k+(Y3 xs:Nat))/\d=h:=by
 obtain⟨i,w⟩:=Sl.len o
 rw[show(H9 xs k).length=xs.length from g02 _ _ _ _]at i
 subst i
 refine J2 (args:=[.slice a xs.length c,.int .i64 k]) (fn:=Tryz.f25) rfl ?_
 refine eX { vars:=[1,5],boxes:=[],owns:=[] } (eX (λvs _ d=>∃(j:Nat) (b:Int),b=k+(l6 (λ_=>1) (xs.take j):Nat)/\j<=xs.length/\vs = [.int .i64 b,.int .i64 j]/\d=h) (eX (λvs _=>match vs with | [_,.int _ j]=>((xs.length:Int)-j).toNat|_=>0) ?_))
 refine aI ⟨0,k,by simp[l6],by omega,rfl,rfl⟩ ?_
 rintro _ _ C ⟨j,b,g,D,⟨⟩,rfl⟩
 refine aI (λf=>?_) (λf=>?_)
 ·have m:j<xs.length:=by simpa using f
  obtain⟨x,l⟩:=u01 m
  have y:l6 (λ_=>1) (xs.take (j+1))=l6 (λ_=>1) (xs.take j)+1:=f04 l
  have G:=g04 (λ_=>1) xs (j+1)
  have z:=A2 m w
  have F:0<=b/\b+(1:Nat)<=4611686018427387904:=by
   have:(Y3 xs:Int)=(l6 (λ_=>1) xs:Nat):=rfl
   omega
  have t:(H9 xs k)[j]?=some ((λ_ k=>k) x b):=by rw[g];exact T0d l
  obtain⟨p,B,q,A⟩:=Sl.get o t (by decide)
  obtain⟨rfl,_⟩:=A
  refine aI p (eX _ (aI q ?_))
  refine aI (λe=>?_) (λe=>?_)
  ·exact((bne_iff_ne.1 e) (by first|rfl|omega|(simp;omega))).elim
  clear e
  have s:IntKind.i64.wrap (b+1)=b+(1):=by rw[w64 (by  omega) (by  omega)]<;>omega
  refine aI rfl (aI (by first|exact trivial|exact aI rfl trivial|exact aI rfl (aI rfl trivial)|exact aI rfl (aI rfl (aI rfl trivial))|exact aI rfl (aI rfl (aI rfl (aI rfl trivial)))) (aI (by first|exact trivial|exact aI rfl trivial|exact aI rfl (aI rfl trivial)|exact aI rfl (aI rfl (aI rfl trivial))|exact aI rfl (aI rfl (aI rfl (aI rfl trivial)))) (aI ?_ ?_)))
  ·refine⟨j+1,IntKind.i64.wrap (b+1),?_,by omega,by rw[←z],rfl⟩
   rw[s];rw[y];omega
  ·show((xs.length:Int)-IntKind.i64.wrap ((j:Int)+1)).toNat<((xs.length:Int)-(j:Int)).toNat
   omega
 ·have u:j=xs.length:=by simp at f;omega
  subst u
  rw[List.take_length]at g
  exact aI (congrArg (Value.int .i64) g) rfl
theorem T0k(h:Hp)(a:Option Addr)(n c:Nat)(xs:Y1)(k:Int)(q:Z1.R h [.slice a n c] (k07 xs k))(I:0<=k/\k+(A6 xs:Nat)<=4611686018427387904):
  Tr Tryz.prog 67 #[.slice a n c,.int .i64 k] h λv d=>v = .int .i64 (k+(A6 xs:Nat))/\d=h:=by
 obtain⟨m,D⟩:=Sl.len q
 rw[show(k07 xs k).length=xs.length from g02 _ _ _ _]at m
 subst m
 refine J2 (args:=[.slice a xs.length c,.int .i64 k]) (fn:=Tryz.f67) rfl ?_
 refine eX { vars:=[1,5],boxes:=[],owns:=[] } (eX (λvs _ d=>∃(j:Nat) (b:Int),b=k+(l6 Y3 (xs.take j):Nat)/\j<=xs.length/\vs = [.int .i64 b,.int .i64 j]/\d=h) (eX (λvs _=>match vs with | [_,.int _ j]=>((xs.length:Int)-j).toNat|_=>0) ?_))
 refine aI ⟨0,k,by simp[l6],by omega,rfl,rfl⟩ ?_
 rintro _ _ B ⟨j,b,g,H,⟨⟩,rfl⟩
 refine aI (λf=>?_) (λf=>?_)
 ·have p:j<xs.length:=by simpa using f
  obtain⟨x,o⟩:=u01 p
  have E:l6 Y3 (xs.take (j+1))=l6 Y3 (xs.take j)+Y3 x:=f04 o
  have K:=g04 Y3 xs (j+1)
  have F:=A2 p D
  have J:0<=b/\b+(Y3 x:Nat)<=4611686018427387904:=by
   have:(A6 xs:Int)=(l6 Y3 xs:Nat):=rfl
   omega
  have A:(k07 xs k)[j]?=some (H9 x b):=by rw[g];exact T0d o
  obtain⟨u,G,w,s⟩:=Sl.get q A (by decide)
  obtain⟨i,t,l,eq⟩:=Wp.slice_cell s
  cases eq
  refine aI u (eX _ (aI w ?_))
  have z:M0.R B [.slice i t l] (H9 x (b)):=s
  refine Tr.val (s0a _ i t l x (b) z ⟨by omega,by omega⟩) ?_
  refine aI (λe=>?_) (λe=>?_)
  ·have:(b+(Y3 x:Nat):Int)<0:=by simpa only[decide_eq_true_eq] using e
   exact absurd this (by omega)
  clear e
  have y:(b+(Y3 x:Nat):Int)=b+((Y3 x:Nat)):=by omega
  refine aI rfl (aI (by first|exact trivial|exact aI rfl trivial|exact aI rfl (aI rfl trivial)|exact aI rfl (aI rfl (aI rfl trivial))|exact aI rfl (aI rfl (aI rfl (aI rfl trivial)))) (aI (by first|exact trivial|exact aI rfl trivial|exact aI rfl (aI rfl trivial)|exact aI rfl (aI rfl (aI rfl trivial))|exact aI rfl (aI rfl (aI rfl (aI rfl trivial)))) (aI ?_ ?_)))
  ·refine⟨j+1,b+(Y3 x:Nat),?_,by omega,by rw[←F],rfl⟩
   rw[y];rw[E];omega
  ·show((xs.length:Int)-IntKind.i64.wrap ((j:Int)+1)).toNat<((xs.length:Int)-(j:Int)).toNat
   omega
 ·have C:j=xs.length:=by simp at f;omega
  subst C
  rw[List.take_length]at g
  exact aI (congrArg (Value.int .i64) g) rfl
theorem s0d(h:Hp)(cs:List Value)(x:r00)(k:Int)(I:s00.R h cs (X0a x k))(H:0<=k/\k+(p00 x:Nat)<=4611686018427387904):
  Tr Tryz.prog 40 #[.agg cs.toArray,.int .i64 k] h λv G=>v = .int .i64 (k+(p00 x:Nat))/\G=h:=by
 obtain⟨J,K,b,d,e,⟨f,g,i⟩,L⟩:=x
 obtain⟨P,Q,j,u,o,S,l,w,p,T,m,y,q,U,V,W,n,z,s,X,Y,rfl,t,M,N,A,B,C,D,E,F,O⟩:=v03 I
 simp only[X0a,p00,J03,I7,Prod.mk.injEq]at t
 obtain⟨rfl,rfl,rfl,rfl,rfl,⟨rfl,rfl,rfl⟩,rfl⟩:=t
 simp only[p00,I7]at H
 refine J2 (args:=[.agg #[.int .i64 J,.int .i64 K,.slice j u o,.slice l w p,.slice m y q,.int .i64 f,.int .i64 g,.slice n z s,.int .i64 L],.int .i64 k]) (fn:=Tryz.f40) rfl ?_
 refine Tr.val (T0k _ j u o b (k) (by have c:=A;first|exact c|(rwa [show k+(((0:Nat):Int))=k from by omega]at c)) ⟨by omega,by omega⟩) ?_
 refine aI (λa=>?_) (λa=>?_)
 ·have:(k+(A6 b:Nat):Int)<0:=by simpa only[decide_eq_true_eq] using a
  exact absurd this (by omega)
 clear a
 refine Tr.val (s0a _ l w p d (k+(A6 b:Nat)) (by have c:=B;first|exact c|(rwa [show k+(((A6 b:Nat):Int))=k+(A6 b:Nat) from by omega]at c)) ⟨by omega,by omega⟩) ?_
 refine aI (λa=>?_) (λa=>?_)
 ·have:(k+(A6 b:Nat)+(Y3 d:Nat):Int)<0:=by simpa only[decide_eq_true_eq] using a
  exact absurd this (by omega)
 clear a
 refine Tr.val (s0a _ m y q e (k+(A6 b:Nat)+(Y3 d:Nat)) (by have c:=C;first|exact c|(rwa [show k+(((A6 b+Y3 d:Nat):Int))=k+(A6 b:Nat)+(Y3 d:Nat) from by omega]at c)) ⟨by omega,by omega⟩) ?_
 refine aI (λa=>?_) (λa=>?_)
 ·have:(k+(A6 b:Nat)+(Y3 d:Nat)+(Y3 e:Nat):Int)<0:=by simpa only[decide_eq_true_eq] using a
  exact absurd this (by omega)
 clear a
 refine Tr.val (S0k _ [.int .i64 f,.int .i64 g,.slice n z s] (f,g,i) (k+(A6 b:Nat)+(Y3 d:Nat)+(Y3 e:Nat)) (show Y0.R h _ (J03 (f,g,i) (k+(A6 b:Nat)+(Y3 d:Nat)+(Y3 e:Nat))) from z0 D E (by have c:=F;first|exact c|(rwa [show k+(((A6 b+Y3 d+Y3 e:Nat):Int))=k+(A6 b:Nat)+(Y3 d:Nat)+(Y3 e:Nat) from by omega]at c))) ⟨by omega,by simp only[I7];omega⟩) ?_
 refine aI (λa=>?_) (λa=>?_)
 ·have:(k+(A6 b:Nat)+(Y3 d:Nat)+(Y3 e:Nat)+(I7 (f,g,i):Nat):Int)<0:=by simpa only[decide_eq_true_eq] using a
  exact absurd this (by omega)
 clear a
 exact aI (congrArg (Value.int .i64) (by simp only[p00,I7]<;>omega)) rfl
end Go.Proofs.YtkjhghloldgioaaGreat
