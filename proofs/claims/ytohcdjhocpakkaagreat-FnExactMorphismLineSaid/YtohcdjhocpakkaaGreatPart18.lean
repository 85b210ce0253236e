/- Texts of the claim, joined: The data types of the laws, as lists and tuples and others. -/
import Derived.Test.YtohcdjhocpakkaaGreatHE
import Derived.Test.YtohcdjhocpakkaaGreatChecked
namespace Go.Proofs.YtohcdjhocpakkaaGreat
open Go.H
set_option linter.unusedVariables false
set_option linter.unusedSimpArgs false
set_option maxRecDepth 10000
abbrev J0:Type:=Int×Int×Int
abbrev E2:Wp J0:=Wp.pair Wp.int (Wp.pair Wp.int Wp.int)
instance J0t:DecidableEq J0:=(@instDecidableEqProd _ _ (inferInstance:DecidableEq Int) (@instDecidableEqProd _ _ (inferInstance:DecidableEq Int) (inferInstance:DecidableEq Int)))
theorem M2{h:Hp}{cs:List Value}{x:J0}(g:E2.R h cs x):∃(a:Int) (b:Int) (c:Int),cs = [.int .i64 a,.int .i64 b,.int .i64 c]/\x=(a,b,c)/\K0 a/\K0 b/\K0 c:=by
 obtain⟨a,b,c⟩:=x
 obtain⟨_,_,rfl,⟨rfl,h0⟩,⟨_,_,rfl,⟨rfl,d⟩,⟨rfl,f⟩⟩⟩:=g
 exact⟨a,b,c,rfl,rfl,h0,d,f⟩
theorem Y1{h:Hp}{c:Int}{a:Int}{b:Int}(h0:K0 c)(d:K0 a)(f:K0 b):E2.R h [.int .i64 c,.int .i64 a,.int .i64 b] (c,a,b) :=
 ⟨[.int .i64 c],[.int .i64 a,.int .i64 b],rfl,⟨rfl,h0⟩,⟨[.int .i64 a],[.int .i64 b],rfl,⟨rfl,d⟩,⟨rfl,f⟩⟩⟩
theorem d0l{h:Hp}{c:Int}{a:Int}{b:Int}(h0:K0 c)(d:K0 a)(f:K0 b):E2.W h [.int .i64 c,.int .i64 a,.int .i64 b] (c,a,b) ([]++([] ++ [])) :=
 ⟨[.int .i64 c],[.int .i64 a,.int .i64 b],[],([] ++ []),rfl,rfl,⟨⟨rfl,h0⟩,rfl⟩,⟨[.int .i64 a],[.int .i64 b],[],[],rfl,rfl,⟨⟨rfl,d⟩,rfl⟩,⟨⟨rfl,f⟩,rfl⟩⟩⟩
abbrev E1:Type:=List J0
abbrev G1:Wp E1:=Wp.slice E2
instance t0s:DecidableEq E1:=inferInstanceAs (DecidableEq (List J0))
abbrev j0:Type:=Int×Int×E1
abbrev U1:Wp j0:=Wp.pair Wp.int (Wp.pair Wp.int G1)
instance E0t:DecidableEq j0:=(@instDecidableEqProd _ _ (inferInstance:DecidableEq Int) (@instDecidableEqProd _ _ (inferInstance:DecidableEq Int) t0s))
theorem M0{h:Hp}{cs:List Value}{x:j0}(k:U1.R h cs x):∃(a:Int) (b:Int) (c:Option Addr) (f d:Nat) (g:E1),cs = [.int .i64 a,.int .i64 b,.slice c f d]/\x=(a,b,g)/\K0 a/\K0 b/\G1.R h [.slice c f d] g:=by
 obtain⟨a,b,g⟩:=x
 obtain⟨_,_,rfl,⟨rfl,h0⟩,⟨_,_,rfl,⟨rfl,j⟩,i⟩⟩:=k
 obtain⟨c,f,d,rfl⟩:=Wp.slice_cell i
 exact⟨a,b,c,f,d,g,rfl,rfl,h0,j,i⟩
theorem H0{h:Hp}{f:Int}{a:Int}{b:Option Addr}{d c:Nat}{g:E1}(h0:K0 f)(i:K0 a)(j:G1.R h [.slice b d c] g):U1.R h [.int .i64 f,.int .i64 a,.slice b d c] (f,a,g) :=
 ⟨[.int .i64 f],[.int .i64 a,.slice b d c],rfl,⟨rfl,h0⟩,⟨[.int .i64 a],[.slice b d c],rfl,⟨rfl,i⟩,j⟩⟩
abbrev K4:Type:=Int×Int
abbrev j5:Wp K4:=Wp.pair Wp.int Wp.int
instance K0t:DecidableEq K4:=(@instDecidableEqProd _ _ (inferInstance:DecidableEq Int) (inferInstance:DecidableEq Int))
theorem a03{h:Hp}{cs:List Value}{x:K4}(d:j5.R h cs x):∃(a:Int) (b:Int),cs = [.int .i64 a,.int .i64 b]/\x=(a,b)/\K0 a/\K0 b:=by
 obtain⟨a,b⟩:=x
 obtain⟨_,_,rfl,⟨rfl,h0⟩,⟨rfl,c⟩⟩:=d
 exact⟨a,b,rfl,rfl,h0,c⟩
theorem P2{h:Hp}{a:Int}{b:Int}(h0:K0 a)(c:K0 b):j5.R h [.int .i64 a,.int .i64 b] (a,b) :=
 ⟨[.int .i64 a],[.int .i64 b],rfl,⟨rfl,h0⟩,⟨rfl,c⟩⟩
abbrev D0:Type:=List Int
abbrev C0:Wp D0:=Wp.slice Wp.int
instance L0t:DecidableEq D0:=inferInstanceAs (DecidableEq (List Int))
def b03(x:D0):Nat:=x.length
abbrev N0:Type:=List D0
abbrev Y0:Wp N0:=Wp.slice C0
instance u0s:DecidableEq N0:=inferInstanceAs (DecidableEq (List D0))
def U04(x:N0):Nat:=x.length+V03 b03 x
abbrev H1:Type:=Int×N0
abbrev D3:Wp H1:=Wp.pair Wp.int Y0
instance T0s:DecidableEq H1:=(@instDecidableEqProd _ _ (inferInstance:DecidableEq Int) u0s)
def v01(x:H1):Nat:=U04 x.2
theorem V2{h:Hp}{cs:List Value}{x:H1}(i:D3.R h cs x):∃(a:Int) (b:Option Addr) (d c:Nat) (f:N0),cs = [.int .i64 a,.slice b d c]/\x=(a,f)/\K0 a/\Y0.R h [.slice b d c] f:=by
 obtain⟨a,f⟩:=x
 obtain⟨_,_,rfl,⟨rfl,h0⟩,g⟩:=i
 obtain⟨b,d,c,rfl⟩:=Wp.slice_cell g
 exact⟨a,b,d,c,f,rfl,rfl,h0,g⟩
theorem U0{h:Hp}{a:Int}{b:Option Addr}{d c:Nat}{f:N0}(h0:K0 a)(g:Y0.R h [.slice b d c] f):D3.R h [.int .i64 a,.slice b d c] (a,f) :=
 ⟨[.int .i64 a],[.slice b d c],rfl,⟨rfl,h0⟩,g⟩
abbrev Q7:Type:=Int×Int×Int×Int
abbrev n00:Wp Q7:=Wp.pair Wp.int (Wp.pair Wp.int (Wp.pair Wp.int Wp.int))
instance M0t:DecidableEq Q7:=(@instDecidableEqProd _ _ (inferInstance:DecidableEq Int) (@instDecidableEqProd _ _ (inferInstance:DecidableEq Int) (@instDecidableEqProd _ _ (inferInstance:DecidableEq Int) (inferInstance:DecidableEq Int))))
theorem e06{h:Hp}{cs:List Value}{x:Q7}(j:n00.R h cs x):∃(a:Int) (b:Int) (c:Int) (d:Int),cs = [.int .i64 a,.int .i64 b,.int .i64 c,.int .i64 d]/\x=(a,b,c,d)/\K0 a/\K0 b/\K0 c/\K0 d:=by
 obtain⟨a,b,c,d⟩:=x
 obtain⟨_,_,rfl,⟨rfl,h0⟩,⟨_,_,rfl,⟨rfl,f⟩,⟨_,_,rfl,⟨rfl,g⟩,⟨rfl,i⟩⟩⟩⟩:=j
 exact⟨a,b,c,d,rfl,rfl,h0,f,g,i⟩
theorem i7{h:Hp}{d:Int}{c:Int}{a:Int}{b:Int}(h0:K0 d)(f:K0 c)(g:K0 a)(i:K0 b):n00.R h [.int .i64 d,.int .i64 c,.int .i64 a,.int .i64 b] (d,c,a,b) :=
 ⟨[.int .i64 d],[.int .i64 c,.int .i64 a,.int .i64 b],rfl,⟨rfl,h0⟩,⟨[.int .i64 c],[.int .i64 a,.int .i64 b],rfl,⟨rfl,f⟩,⟨[.int .i64 a],[.int .i64 b],rfl,⟨rfl,g⟩,⟨rfl,i⟩⟩⟩⟩
abbrev J8:Type:=List K4
abbrev N0h:Wp J8:=Wp.slice j5
instance F0t:DecidableEq J8:=inferInstanceAs (DecidableEq (List K4))
abbrev b00:Type:=List Q7
abbrev w09:Wp b00:=Wp.slice n00
instance G0t:DecidableEq b00:=inferInstanceAs (DecidableEq (List Q7))
theorem e0l(h:Hp):∃ cs,E2.R h cs (0,0,0):=⟨_,Y1 (by decide) (by decide) (by decide)⟩
theorem D0q(h:Hp)(a:Option Addr)(n c:Nat)(xs:D0)(left:Int)(g:C0.R h [.slice a n c] xs)(i:0<=left/\left<=1048576):
  Tr Tryz.prog 24 #[.slice a n c,.int .i64 left] h λv f=>v = .int .i64 (szR left (b03 xs))/\f=h:=by
 obtain⟨rfl,j⟩:=Sl.len g
 have d:IntKind.i64.wrap (left-(xs.length:Int))=left-xs.length:=w64 (by omega) (by omega)
 refine G2 (args:=[.slice a xs.length c,.int .i64 left]) (fn:=Tryz.f24) rfl ?_
 refine aI (λb=>?_) (λb=>?_)
 ·refine aI ?_ rfl
  simp[d]at b
  rw[b03,d0p (by omega)]
  rfl
 ·refine aI ?_ rfl
  simp[d]at b
  rw[b03,e0p (by omega)]
  exact congrArg (Value.int .i64) d
theorem n0o(h:Hp)(a:Option Addr)(n c:Nat)(xs:N0)(left:Int)(s:Y0.R h [.slice a n c] xs)(A:0<=left/\left<=1048576):
  Tr Tryz.prog 9 #[.slice a n c,.int .i64 left] h λv d=>v = .int .i64 (szR left (U04 xs))/\d=h:=by
 obtain⟨rfl,C⟩:=Sl.len s
 have l:IntKind.i64.wrap (left-(xs.length:Int))=left-xs.length:=w64 (by omega) (by omega)
 refine G2 (args:=[.slice a xs.length c,.int .i64 left]) (fn:=Tryz.f9) rfl ?_
 refine aI (λf=>?_) (λf=>?_)
 ·refine aI ?_ rfl
  simp[l]at f
  rw[U04,d0p (by omega)]
  rfl
 simp[l]at f
 refine eX { vars:=[1,5],boxes:=[],owns:=[] } (eX (λvs _ d=>∃ k:Nat,k<=xs.length/\0<=szR left ((xs.length+V03 b03 (xs.take k):Nat):Int)/\vs = [.int .i64 (szR left ((xs.length+V03 b03 (xs.take k):Nat):Int)),.int .i64 k]/\d=h) (eX (λvs _=>match vs with | [_,.int _ j]=>((xs.length:Int)-j).toNat|_=>0) ?_))
 have h0:szR left ((xs.length+V03 b03 (xs.take 0):Nat):Int)=left-xs.length:=by rw[e0p (by simp[V03];omega)];simp[V03]
 refine aI ⟨0,by omega,by omega,by rw[h0];exact congrArg (λx=>[Value.int .i64 x,Value.int .i64 0]) l,rfl⟩ ?_
 rintro _ _ I ⟨k,o,q,⟨⟩,rfl⟩
 obtain⟨J,K⟩:=c0l q
 refine aI (λg=>?_) (λg=>?_)
 ·have p:k<xs.length:=by simpa using g
  obtain⟨x,m⟩:=N06 p
  obtain⟨w,H,z,t⟩:=Sl.get s m (by decide)
  have F:=C2 p C
  obtain⟨u,G,y,rfl⟩:=Wp.slice_cell t
  refine aI w (eX _ (aI z ?_))
  refine Tr.val (D0q _ u G y x _ t ⟨by omega,by omega⟩) ?_
  have i:szR (szR left ((xs.length+V03 b03 (xs.take k):Nat):Int)) (b03 x:Nat)=szR left ((xs.length+V03 b03 (xs.take (k+1)):Nat):Int):=by
   rw[c0r q (by omega) (by omega),G0n m]
   congr 1
   omega
  refine aI (λb=>?_) (λb=>?_)
  ·refine aI ?_ rfl
   rw[i]at b
   have D:szR left ((xs.length+V03 b03 (xs.take (k+1)):Nat):Int)<0:=by simpa using b
   have:=H0n b03 xs (k+1)
   rw[U04,p0j D A.1 (by omega)]
   rfl
  ·rw[i]at b
   have E:0<=szR left ((xs.length+V03 b03 (xs.take (k+1)):Nat):Int):=by simpa using b
   refine aI rfl (aI (by first|exact trivial|exact aI rfl trivial|exact aI rfl (aI rfl trivial)|exact aI rfl (aI rfl (aI rfl trivial))|exact aI rfl (aI rfl (aI rfl (aI rfl trivial)))) (aI (by first|exact trivial|exact aI rfl trivial|exact aI rfl (aI rfl trivial)|exact aI rfl (aI rfl (aI rfl trivial))|exact aI rfl (aI rfl (aI rfl (aI rfl trivial)))) (aI ?_ ?_)))
   ·refine⟨k+1,by omega,E,?_,rfl⟩
    rw[←F,←i]
   ·show((xs.length:Int)-IntKind.i64.wrap ((k:Int)+1)).toNat<((xs.length:Int)-(k:Int)).toNat
    omega
 ·have o:k=xs.length:=by simp at g;omega
  subst o
  refine aI ?_ rfl
  rw[List.take_length]
  rfl
theorem v0i(h:Hp)(cs:List Value)(x:H1)(left:Int)(l:D3.R h cs x)(g:0<=left/\left<=1048576):
  Tr Tryz.prog 4 #[.agg cs.toArray,.int .i64 left] h λv j=>v = .int .i64 (szR left (v01 x))/\j=h:=by
 obtain⟨n,d,i,f,b,rfl,rfl,h0,k⟩:=V2 l
 refine G2 (args:=[.agg #[.int .i64 n,.slice d i f],.int .i64 left]) (fn:=Tryz.f4) rfl ?_
 refine Tr.val (n0o h d i f b (left) k g) ?_
 refine aI (λc=>?_) (λc=>?_)
 ·refine aI ?_ rfl
  rw[v01,p0j (left:=left) (a:=((U04 b:Nat):Int)) (by simpa using c) g.1 (by simp only[];omega)]
  rfl
 have m:0<=szR left ((U04 b:Nat):Int):=by simpa using c
 have o:0<=szR left ((U04 b:Nat):Int)/\szR left ((U04 b:Nat):Int)<=1048576:=by
  have:=c0l m
  omega
 exact aI rfl rfl
theorem E0q(h:Hp)(a:Option Addr)(n c:Nat)(d:Option Addr)(z f:Nat)(xs b:D0)(w:C0.R h [.slice a n c] xs)(y:C0.R h [.slice d z f] b):
  Tr Tryz.prog 49 #[.slice a n c,.slice d z f] h λv m=>v = .bool (decide (xs=b))/\m=h:=by
 obtain⟨rfl,I⟩:=Sl.len w
 obtain⟨rfl,Q⟩:=Sl.len y
 refine G2 (args:=[.slice a xs.length c,.slice d b.length f]) (fn:=Tryz.f49) rfl ?_
 refine aI (λo=>?_) (λo=>?_)
 ·refine aI (congrArg Value.bool ?_) rfl
  have:xs.length≠b.length:=by simp at o;omega
  exact(decide_eq_false λe=>this (by rw[e])).symm
 have H:xs.length=b.length:=by simp at o;omega
 refine eX { vars:=[5],boxes:=[],owns:=[] } (eX (λvs _ m=>∃ k:Nat,k<=xs.length/\xs.take k=b.take k/\vs = [.int .i64 k]/\m=h) (eX (λvs _=>match vs with | [.int _ j]=>((xs.length:Int)-j).toNat|_=>0) ?_))
 refine aI ⟨0,by omega,by simp,rfl,rfl⟩ ?_
 rintro _ P ⟨k,t,s,⟨⟩,rfl⟩
 refine aI (λp=>?_) (λp=>?_)
 ·have u:k<xs.length:=by simpa using p
  obtain⟨x,g⟩:=N06 u
  obtain⟨A,i⟩:=N06 (l:=b) (k:=k) (by omega)
  obtain⟨C,N,E,L⟩:=Sl.get w g (by decide)
  obtain⟨D,O,F,M⟩:=Sl.get y i (by decide)
  have K:=C2 u I
  obtain⟨rfl,_⟩:=L
  obtain⟨rfl,_⟩:=M
  refine Or.inl (aI (aI (by kernel_rfl) (by kernel_rfl)) ?_)
  refine aI C (eX _ (aI E (aI D (eX _ (aI F ?_)))))
  refine aI (λq=>?_) (λq=>?_)
  ·refine aI (congrArg Value.bool ?_) rfl
   have J:x≠A:=by simpa using q
   exact(decide_eq_false λe=>J (oJ (g.symm.trans ((congrArg (λl:D0=>l[k]?) e).trans i)))).symm
  ·have G:x=A:=by simpa using q
   refine aI rfl (aI (by first|exact trivial|exact aI rfl trivial|exact aI rfl (aI rfl trivial)|exact aI rfl (aI rfl (aI rfl trivial))|exact aI rfl (aI rfl (aI rfl (aI rfl trivial)))) (aI (by first|exact trivial|exact aI rfl trivial|exact aI rfl (aI rfl trivial)|exact aI rfl (aI rfl (aI rfl trivial))|exact aI rfl (aI rfl (aI rfl (aI rfl trivial)))) (aI ?_ ?_)))
   ·refine⟨k+1,by omega,by rw[u03 g,u03 i,s,G],?_,rfl⟩
    rw[←K]
   ·show((xs.length:Int)-IntKind.i64.wrap ((k:Int)+1)).toNat<((xs.length:Int)-(k:Int)).toNat
    omega
 ·have t:k=xs.length:=by simp at p;omega
  refine aI (congrArg Value.bool ?_) rfl
  refine(decide_eq_true ?_).symm
  subst t
  rwa [List.take_length,H,List.take_length]at s
theorem o0o(h:Hp)(a:Option Addr)(n c:Nat)(d:Option Addr)(D f:Nat)(xs b:N0)(y:Y0.R h [.slice a n c] xs)(z:Y0.R h [.slice d D f] b):
  Tr Tryz.prog 23 #[.slice a n c,.slice d D f] h λv m=>v = .bool (decide (xs=b))/\m=h:=by
 obtain⟨rfl,K⟩:=Sl.len y
 obtain⟨rfl,V⟩:=Sl.len z
 refine G2 (args:=[.slice a xs.length c,.slice d b.length f]) (fn:=Tryz.f23) rfl ?_
 refine aI (λo=>?_) (λo=>?_)
 ·refine aI (congrArg Value.bool ?_) rfl
  have:xs.length≠b.length:=by simp at o;omega
  exact(decide_eq_false λe=>this (by rw[e])).symm
 have J:xs.length=b.length:=by simp at o;omega
 refine eX { vars:=[5],boxes:=[],owns:=[] } (eX (λvs _ m=>∃ k:Nat,k<=xs.length/\xs.take k=b.take k/\vs = [.int .i64 k]/\m=h) (eX (λvs _=>match vs with | [.int _ j]=>((xs.length:Int)-j).toNat|_=>0) ?_))
 refine aI ⟨0,by omega,by simp,rfl,rfl⟩ ?_
 rintro _ U ⟨k,u,t,⟨⟩,rfl⟩
 refine aI (λp=>?_) (λp=>?_)
 ·have w:k<xs.length:=by simpa using p
  obtain⟨x,g⟩:=N06 w
  obtain⟨s,i⟩:=N06 (l:=b) (k:=k) (by omega)
  obtain⟨E,S,G,A⟩:=Sl.get y g (by decide)
  obtain⟨F,T,H,C⟩:=Sl.get z i (by decide)
  have M:=C2 w K
  obtain⟨N,W,P,rfl⟩:=Wp.slice_cell A
  obtain⟨O,X,Q,rfl⟩:=Wp.slice_cell C
  refine Or.inl (aI (aI (by kernel_rfl) (by kernel_rfl)) ?_)
  refine aI E (eX _ (aI G (aI F (eX _ (aI H ?_)))))
  refine eX (.bool _) (aI (E0q _ _ _ _ _ _ _ x s A C) ?_)
  refine aI (λq=>?_) (λq=>?_)
  ·refine aI (congrArg Value.bool ?_) rfl
   have L:x≠s:=m0m q
   exact(decide_eq_false λe=>L (oJ (g.symm.trans ((congrArg (λl:N0=>l[k]?) e).trans i)))).symm
  ·have I:x=s:=q0j q
   refine aI rfl (aI (by first|exact trivial|exact aI rfl trivial|exact aI rfl (aI rfl trivial)|exact aI rfl (aI rfl (aI rfl trivial))|exact aI rfl (aI rfl (aI rfl (aI rfl trivial)))) (aI (by first|exact trivial|exact aI rfl trivial|exact aI rfl (aI rfl trivial)|exact aI rfl (aI rfl (aI rfl trivial))|exact aI rfl (aI rfl (aI rfl (aI rfl trivial)))) (aI ?_ ?_)))
   ·refine⟨k+1,by omega,by rw[u03 g,u03 i,t,I],?_,rfl⟩
    rw[←M]
   ·show((xs.length:Int)-IntKind.i64.wrap ((k:Int)+1)).toNat<((xs.length:Int)-(k:Int)).toNat
    omega
 ·have u:k=xs.length:=by simp at p;omega
  refine aI (congrArg Value.bool ?_) rfl
  refine(decide_eq_true ?_).symm
  subst u
  rwa [List.take_length,J,List.take_length]at t
theorem w0i(h:Hp)(cs ds:List Value)(x o:H1)(t:D3.R h cs x)(u:D3.R h ds o):
  Tr Tryz.prog 8 #[.agg cs.toArray,.agg ds.toArray] h λv p=>v = .bool (decide (x=o))/\p=h:=by
 obtain⟨c,i,m,k,f,rfl,rfl,h0,q⟩:=V2 t
 obtain⟨d,j,n,l,g,rfl,rfl,z,s⟩:=V2 u
 refine G2 (args:=[.agg #[.int .i64 c,.slice i m k],.agg #[.int .i64 d,.slice j n l]]) (fn:=Tryz.f8) rfl ?_
 refine aI (λa=>?_) (λa=>?_)
 ·have b:c≠d:=by simpa using a
  exact aI (congrArg Value.bool (decide_eq_false λe=>by cases e;exact b rfl).symm) rfl
 have w:c=d:=by simpa using a
 subst w
 refine Tr.val (o0o h i m k j n l f g q s) ?_
 refine aI (λa=>?_) (λa=>?_)
 ·have b:f≠g:=m0m a
  exact aI (congrArg Value.bool (decide_eq_false λe=>by cases e;exact b rfl).symm) rfl
 have y:f=g:=q0j a
 subst y
 exact aI (congrArg Value.bool (decide_eq_true rfl).symm) rfl
theorem F0q(h:Hp)(a:Option Addr)(n c:Nat)(xs:D0)(s:C0.R h [.slice a n c] xs)(A:b03 xs<=1048576):
  Tr Tryz.prog 36 #[.slice a n c] h λv b=>New C0 h b [v] xs:=by
 obtain⟨rfl,C⟩:=Sl.len s
 have G:xs.length<=1048576:=by simp only[b03]at A;omega
 refine G2 (args:=[.slice a xs.length c]) (fn:=Tryz.f36) rfl ?_
 refine aI ?_ ?_
 ·show 0<=(xs.length:Int)/\(xs.length:Int)<=xs.length/\(xs.length:Int)*8<=140737488355328/\(xs.length:Int)<=9223372036854775807
  omega
 refine eX { vars:=[4],boxes:=[],owns:=[0],kept:=[0] } (eX (λvs os b=>∃(k:Nat) (L:List (List Value)) (Bs:List (List Nat)),k<=xs.length/\vs = [.int .i64 k]/\os = [S04 L xs.length [.int .i64 0]]/\L.length=k /\
  F3 (Wp.int.W b) L (xs.take k) Bs/\Sub h b/\c6 h Bs.flatten) (eX (λvs _=>match vs with | [.int _ j]=>((xs.length:Int)-j).toNat|_=>0) ?_))
 refine aI ⟨0,[],[],by omega,rfl,rfl,rfl,trivial,Sub.refl _,by simp[c6]⟩ ?_
 rintro _ _ w ⟨k,L,Bs,q,⟨⟩,⟨⟩,l,d,g,p⟩
 refine aI (λi=>?_) (λi=>?_)
 ·have f:k<xs.length:=by simpa using i
  obtain⟨x,m⟩:=N06 f
  obtain⟨t,F,u,E⟩:=Sl.get (Sl.mono g s) m (by decide)
  have D:=C2 f C
  obtain⟨rfl,g1⟩:=E
  refine aI t (eX _ (aI u ?_))
  obtain⟨B,y,z,o⟩:=New.int (h:=w) g1
  refine aI ?_ ?_
  ·show 0<=(k:Int)/\(k:Int)<((S04 L xs.length [.int .i64 0]).length:Nat)
   rw[x0a (by omega)];omega
  refine eX [.int .i64 0] (aI (l0g l f) ?_)
  refine aI rfl (aI (by first|exact trivial|exact aI rfl trivial|exact aI rfl (aI rfl trivial)|exact aI rfl (aI rfl (aI rfl trivial))|exact aI rfl (aI rfl (aI rfl (aI rfl trivial)))) (aI (by first|exact trivial|exact aI rfl trivial|exact aI rfl (aI rfl trivial)|exact aI rfl (aI rfl (aI rfl trivial))|exact aI rfl (aI rfl (aI rfl (aI rfl trivial)))) (aI ?_ ?_)))
  ·refine⟨k+1,L ++ [[.int .i64 x]],Bs ++ [B],by omega,by rw[←D],?_,by simp[l],?_,g.trans o,?_⟩
   ·show [(S04 L xs.length [.int .i64 0]).set k [.int .i64 x]]=_
    rw[m0g l f]
   ·rw[u03 m]
    exact F3.snoc y (f0e d o)
   ·exact M06 d g p z
  ·show((xs.length:Int)-IntKind.i64.wrap ((k:Int)+1)).toNat<((xs.length:Int)-(k:Int)).toNat
   omega
 ·have q:k=xs.length:=by simp at i;omega
  intro v b hf
  rw[n0g (by omega)]at hf
  rw[q,List.take_length]at d
  exact V0.fresh (r:=Wp.int) hf d g p
theorem p0o(h:Hp)(a:Option Addr)(n c:Nat)(xs:N0)(z:Y0.R h [.slice a n c] xs)(y:U04 xs<=1048576):
  Tr Tryz.prog 16 #[.slice a n c] h λv b=>New Y0 h b [v] xs:=by
 obtain⟨rfl,I⟩:=Sl.len z
 have P:xs.length<=1048576:=by simp only[U04]at y;omega
 refine G2 (args:=[.slice a xs.length c]) (fn:=Tryz.f16) rfl ?_
 refine aI ?_ ?_
 ·show 0<=(xs.length:Int)/\(xs.length:Int)<=xs.length/\(xs.length:Int)*24<=140737488355328/\(xs.length:Int)<=9223372036854775807
  omega
 refine eX { vars:=[4],boxes:=[],owns:=[0],kept:=[0] } (eX (λvs os b=>∃(k:Nat) (L:List (List Value)) (Bs:List (List Nat)),k<=xs.length/\vs = [.int .i64 k]/\os = [S04 L xs.length [.slice none 0 0]]/\L.length=k /\
  F3 (C0.W b) L (xs.take k) Bs/\Sub h b/\c6 h Bs.flatten) (eX (λvs _=>match vs with | [.int _ j]=>((xs.length:Int)-j).toNat|_=>0) ?_))
 refine aI ⟨0,[],[],by omega,rfl,rfl,rfl,trivial,Sub.refl _,by simp[c6]⟩ ?_
 rintro _ _ G ⟨k,L,Bs,w,⟨⟩,⟨⟩,o,d,g,u⟩
 refine aI (λl=>?_) (λl=>?_)
 ·have f:k<xs.length:=by simpa using l
  obtain⟨x,i⟩:=N06 f
  obtain⟨D,N,E,A⟩:=Sl.get (Sl.mono g z) i (by decide)
  have J:=C2 f I
  obtain⟨K,Q,M,rfl⟩:=Wp.slice_cell A
  refine aI D (eX _ (aI E ?_))
  refine Tr.mono (F0q G _ _ _ x A (by have:=f0p (m:=b03) i;simp only[U04]at y;omega)) ?_
  rintro v O ⟨B,s,H,t⟩
  obtain⟨p,C,q,F⟩:=Wp.slice_cell (C0.toR s)
  cases F
  refine aI ?_ ?_
  ·show 0<=(k:Int)/\(k:Int)<((S04 L xs.length [.slice none 0 0]).length:Nat)
   rw[x0a (by omega)];omega
  refine eX [.slice none 0 0] (aI (l0g o f) ?_)
  refine aI rfl (aI (by first|exact trivial|exact aI rfl trivial|exact aI rfl (aI rfl trivial)|exact aI rfl (aI rfl (aI rfl trivial))|exact aI rfl (aI rfl (aI rfl (aI rfl trivial)))) (aI (by first|exact trivial|exact aI rfl trivial|exact aI rfl (aI rfl trivial)|exact aI rfl (aI rfl (aI rfl trivial))|exact aI rfl (aI rfl (aI rfl (aI rfl trivial)))) (aI ?_ ?_)))
  ·refine⟨k+1,L ++ [[.slice p C q]],Bs ++ [B],by omega,by rw[←J],?_,by simp[o],?_,g.trans t,?_⟩
   ·show [(S04 L xs.length [.slice none 0 0]).set k [.slice p C q]]=_
    rw[m0g o f]
   ·rw[u03 i]
    exact F3.snoc s (f0e d t)
   ·exact M06 d g u H
  ·show((xs.length:Int)-IntKind.i64.wrap ((k:Int)+1)).toNat<((xs.length:Int)-(k:Int)).toNat
   omega
 ·have w:k=xs.length:=by simp at l;omega
  intro v b hf
  rw[n0g (by omega)]at hf
  rw[w,List.take_length]at d
  exact V0.fresh (r:=C0) hf d g u
theorem Y06(h:Hp)(cs:List Value)(x:H1)(k:D3.R h cs x)(j:v01 x<=1048576):
  Tr Tryz.prog 6 #[.agg cs.toArray] h λv g=>∃ cs',v = .agg cs'.toArray/\New D3 h g cs' x:=by
 obtain⟨l,b,d,c,m,rfl,rfl,h0,i⟩:=V2 k
 simp only[v01]at j
 refine G2 (args:=[.agg #[.int .i64 l,.slice b d c]]) (fn:=Tryz.f6) rfl ?_
 refine Tr.mono (p0o h b d c m (Sl.mono (Sub.refl _) i) (by omega)) ?_
 rintro s p a
 obtain⟨n,q,o,f⟩:=Wp.slice_cell a.r
 cases f
 exact eX _ (aI rfl (New.pair (New.int h0) a))
end Go.Proofs.YtohcdjhocpakkaaGreat
