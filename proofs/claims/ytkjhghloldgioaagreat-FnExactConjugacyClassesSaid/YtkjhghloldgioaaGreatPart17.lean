/- Texts of the claim, joined: The data types of the laws, as lists and tuples and others. -/
import Derived.Test.YtkjhghloldgioaaGreatHE
import Derived.Test.YtkjhghloldgioaaGreatChecked
namespace Go.Proofs.YtkjhghloldgioaaGreat
open Go.H
set_option linter.unusedVariables false
set_option linter.unusedSimpArgs false
set_option maxRecDepth 10000
theorem N0i{x:Int}(h1 : -9223372036854775808<=x)(h2:x<=9223372036854775807):P0 x:=⟨h1,h2⟩
abbrev I0:Type:=Int×Int×Int
abbrev K1:Wp I0:=Wp.pair Wp.int (Wp.pair Wp.int Wp.int)
instance v0n:DecidableEq I0:=(@instDecidableEqProd _ _ (inferInstance:DecidableEq Int) (@instDecidableEqProd _ _ (inferInstance:DecidableEq Int) (inferInstance:DecidableEq Int)))
def a0m(x:I0):Nat:=0
def N7(x:I0):Nat:=1+1+1
def O01(x:I0)(k:Int):I0:=(k,(k+(1:Nat)),(k+(1+1:Nat)))
theorem H1{h:Hp}{cs:List Value}{x:I0}(hx:K1.R h cs x):∃(x0:Int) (x1:Int) (x2:Int),cs = [.int .i64 x0,.int .i64 x1,.int .i64 x2]/\x=(x0,x1,x2)/\P0 x0/\P0 x1/\P0 x2:=by
 obtain⟨x0,x1,x2⟩:=x
 obtain⟨_,_,rfl,⟨rfl,h0⟩,⟨_,_,rfl,⟨rfl,h1⟩,⟨rfl,h2⟩⟩⟩:=hx
 exact⟨x0,x1,x2,rfl,rfl,h0,h1,h2⟩
theorem Q1{h:Hp}{x0:Int}{x1:Int}{x2:Int}(h0:P0 x0)(h1:P0 x1)(h2:P0 x2):K1.R h [.int .i64 x0,.int .i64 x1,.int .i64 x2] (x0,x1,x2) :=
 ⟨[.int .i64 x0],[.int .i64 x1,.int .i64 x2],rfl,⟨rfl,h0⟩,⟨[.int .i64 x1],[.int .i64 x2],rfl,⟨rfl,h1⟩,⟨rfl,h2⟩⟩⟩
theorem t08{h:Hp}{cs:List Value}{x:I0}{B:List Nat}(hx:K1.W h cs x B):∃(x0:Int) (x1:Int) (x2:Int),cs = [.int .i64 x0,.int .i64 x1,.int .i64 x2]/\x=(x0,x1,x2)/\B=([]++([] ++ []))/\P0 x0/\P0 x1/\P0 x2:=by
 obtain⟨x0,x1,x2⟩:=x
 obtain⟨_,_,_,_,rfl,rfl,⟨⟨rfl,h0⟩,rfl⟩,⟨_,_,_,_,rfl,rfl,⟨⟨rfl,h1⟩,rfl⟩,⟨⟨rfl,h2⟩,rfl⟩⟩⟩:=hx
 exact⟨x0,x1,x2,rfl,rfl,rfl,h0,h1,h2⟩
theorem j04{h:Hp}{x0:Int}{x1:Int}{x2:Int}(h0:P0 x0)(h1:P0 x1)(h2:P0 x2):K1.W h [.int .i64 x0,.int .i64 x1,.int .i64 x2] (x0,x1,x2) ([]++([] ++ [])) :=
 ⟨[.int .i64 x0],[.int .i64 x1,.int .i64 x2],[],([] ++ []),rfl,rfl,⟨⟨rfl,h0⟩,rfl⟩,⟨[.int .i64 x1],[.int .i64 x2],[],[],rfl,rfl,⟨⟨rfl,h1⟩,rfl⟩,⟨⟨rfl,h2⟩,rfl⟩⟩⟩
abbrev O0:Type:=List I0
abbrev M0:Wp O0:=Wp.slice K1
instance C0m:DecidableEq O0:=inferInstanceAs (DecidableEq (List I0))
def P01(x:O0):Nat:=x.length
def h05(x:O0):Nat:=N3 N7 x
def k04(x:O0)(k:Int):O0:=mkL O01 N7 x k
abbrev j0:Type:=Int×Int×O0
abbrev Y0:Wp j0:=Wp.pair Wp.int (Wp.pair Wp.int M0)
instance D0m:DecidableEq j0:=(@instDecidableEqProd _ _ (inferInstance:DecidableEq Int) (@instDecidableEqProd _ _ (inferInstance:DecidableEq Int) C0m))
def t8(x:j0):Nat:=P01 x.2.2
def j6(x:j0):Nat:=1+1+h05 x.2.2
def v00(x:j0)(k:Int):j0:=(k,(k+(1:Nat)),k04 x.2.2 (k+(1+1:Nat)))
theorem D0{h:Hp}{cs:List Value}{x:j0}(hx:Y0.R h cs x):∃(x0:Int) (x1:Int) (a2:Option Addr) (n2 c2:Nat) (x2:O0),cs = [.int .i64 x0,.int .i64 x1,.slice a2 n2 c2]/\x=(x0,x1,x2)/\P0 x0/\P0 x1/\M0.R h [.slice a2 n2 c2] x2:=by
 obtain⟨x0,x1,x2⟩:=x
 obtain⟨_,_,rfl,⟨rfl,h0⟩,⟨_,_,rfl,⟨rfl,h1⟩,h2⟩⟩:=hx
 obtain⟨a2,n2,c2,rfl⟩:=Wp.slice_cell h2
 exact⟨x0,x1,a2,n2,c2,x2,rfl,rfl,h0,h1,h2⟩
theorem l0{h:Hp}{x0:Int}{x1:Int}{a2:Option Addr}{n2 c2:Nat}{x2:O0}(h0:P0 x0)(h1:P0 x1)(h2:M0.R h [.slice a2 n2 c2] x2):Y0.R h [.int .i64 x0,.int .i64 x1,.slice a2 n2 c2] (x0,x1,x2) :=
 ⟨[.int .i64 x0],[.int .i64 x1,.slice a2 n2 c2],rfl,⟨rfl,h0⟩,⟨[.int .i64 x1],[.slice a2 n2 c2],rfl,⟨rfl,h1⟩,h2⟩⟩
theorem z06{h:Hp}{cs:List Value}{x:j0}{B:List Nat}(hx:Y0.W h cs x B):∃(x0:Int) (x1:Int) (a2:Option Addr) (n2 c2:Nat) (x2:O0) (B2:List Nat),cs = [.int .i64 x0,.int .i64 x1,.slice a2 n2 c2]/\x=(x0,x1,x2)/\B=([]++([]++B2))/\P0 x0/\P0 x1/\M0.W h [.slice a2 n2 c2] x2 B2:=by
 obtain⟨x0,x1,x2⟩:=x
 obtain⟨_,_,_,_,rfl,rfl,⟨⟨rfl,h0⟩,rfl⟩,⟨_,_,_,_,rfl,rfl,⟨⟨rfl,h1⟩,rfl⟩,h2⟩⟩:=hx
 obtain⟨a2,n2,c2,rfl⟩:=Wp.slice_cell (M0.toR h2)
 exact⟨x0,x1,a2,n2,c2,x2,_,rfl,rfl,rfl,h0,h1,h2⟩
theorem i05{h:Hp}{x0:Int}{x1:Int}{a2:Option Addr}{n2 c2:Nat}{x2:O0}{B2:List Nat}(h0:P0 x0)(h1:P0 x1)(h2:M0.W h [.slice a2 n2 c2] x2 B2):Y0.W h [.int .i64 x0,.int .i64 x1,.slice a2 n2 c2] (x0,x1,x2) ([]++([]++B2)) :=
 ⟨[.int .i64 x0],[.int .i64 x1,.slice a2 n2 c2],[],([]++B2),rfl,rfl,⟨⟨rfl,h0⟩,rfl⟩,⟨[.int .i64 x1],[.slice a2 n2 c2],[],B2,rfl,rfl,⟨⟨rfl,h1⟩,rfl⟩,h2⟩⟩
abbrev Q4:Type:=Int×Int
abbrev B4:Wp Q4:=Wp.pair Wp.int Wp.int
instance w0n:DecidableEq Q4:=(@instDecidableEqProd _ _ (inferInstance:DecidableEq Int) (inferInstance:DecidableEq Int))
theorem T00{h:Hp}{cs:List Value}{x:Q4}(hx:B4.R h cs x):∃(x0:Int) (x1:Int),cs = [.int .i64 x0,.int .i64 x1]/\x=(x0,x1)/\P0 x0/\P0 x1:=by
 obtain⟨x0,x1⟩:=x
 obtain⟨_,_,rfl,⟨rfl,h0⟩,⟨rfl,h1⟩⟩:=hx
 exact⟨x0,x1,rfl,rfl,h0,h1⟩
theorem U1{h:Hp}{x0:Int}{x1:Int}(h0:P0 x0)(h1:P0 x1):B4.R h [.int .i64 x0,.int .i64 x1] (x0,x1) :=
 ⟨[.int .i64 x0],[.int .i64 x1],rfl,⟨rfl,h0⟩,⟨rfl,h1⟩⟩
abbrev B0:Type:=List Int
abbrev N0:Wp B0:=Wp.slice Wp.int
instance x0n:DecidableEq B0:=inferInstanceAs (DecidableEq (List Int))
def Z6(x:B0):Nat:=N3 (λ_=>1) x
def P9(x:B0)(k:Int):B0:=mkL (λ_ k=>k) (λ_=>1) x k
abbrev Q6:Type:=List B0
abbrev l8:Wp Q6:=Wp.slice N0
instance q0n:DecidableEq Q6:=inferInstanceAs (DecidableEq (List B0))
def l03(x:Q6):Nat:=N3 Z6 x
def N09(x:Q6)(k:Int):Q6:=mkL P9 Z6 x k
abbrev z0g:Type:=ByteArray×j0
instance r0n:DecidableEq z0g:=(@instDecidableEqProd _ _ (inferInstance:DecidableEq ByteArray) D0m)
abbrev O09:Type:=List z0g
instance h0n:DecidableEq O09:=inferInstanceAs (DecidableEq (List z0g))
abbrev B5:Type:=List j0
abbrev C5:Wp B5:=Wp.slice Y0
instance i0n:DecidableEq B5:=inferInstanceAs (DecidableEq (List j0))
def C9(x:B5):Nat:=x.length+N3 t8 x
def P09(x:B5):Nat:=N3 j6 x
def e0k(x:B5)(k:Int):B5:=mkL v00 j6 x k
abbrev l7:Type:=List Q4
abbrev J0d:Wp l7:=Wp.slice B4
instance s0n:DecidableEq l7:=inferInstanceAs (DecidableEq (List Q4))
theorem D0l(x:I0):N7 x<=3:=by
 simp only[N7]
 omega
theorem E0l(x:O0):h05 x<=16*P01 x:=Y0e (c:=N7) (λx=>by have:=D0l x;omega) x
theorem f0k(x:j0):j6 x<=2+16*t8 x:=by
 have:=E0l x.2.2
 simp only[j6,t8]
 omega
theorem g0k(x:B5):P09 x<=16*C9 x:=F0h (c:=j6) (m:=t8) (λx=>by have:=f0k x;omega) x
theorem A0g(h:Hp):∃ cs,K1.R h cs (0,0,0):=⟨_,Q1 (by decide) (by decide) (by decide)⟩
theorem j0j(h:Hp)(a:Option Addr)(n c:Nat)(xs:O0)(left:Int)(hx:M0.R h [.slice a n c] xs)(hl:0<=left/\left<=1048576):
  Tr Tryz.prog 102 #[.slice a n c,.int .i64 left] h λv h'=>v = .int .i64 (szR left (P01 xs))/\h'=h:=by
 obtain⟨rfl,hn⟩:=Sl.len hx
 have hw:IntKind.i64.wrap (left-(xs.length:Int))=left-xs.length:=w64 (by omega) (by omega)
 refine G3 (args:=[.slice a xs.length c,.int .i64 left]) (fn:=Tryz.f102) rfl ?_
 refine aI (λhc=>?_) (λhc=>?_)
 ·refine aI ?_ rfl
  simp[hw]at hc
  rw[P01,Z0j (by omega)]
  rfl
 ·refine aI ?_ rfl
  simp[hw]at hc
  rw[P01,a0k (by omega)]
  exact congrArg (Value.int .i64) hw
theorem k0j(h:Hp)(cs:List Value)(x:j0)(left:Int)(hx:Y0.R h cs x)(hl:0<=left/\left<=1048576):
  Tr Tryz.prog 41 #[.agg cs.toArray,.int .i64 left] h λv h'=>v = .int .i64 (szR left (t8 x))/\h'=h:=by
 obtain⟨x0,x1,a2,n2,c2,x2,rfl,rfl,h0,h1,h2⟩:=D0 hx
 refine G3 (args:=[.agg #[.int .i64 x0,.int .i64 x1,.slice a2 n2 c2],.int .i64 left]) (fn:=Tryz.f41) rfl ?_
 refine Tr.val (j0j h a2 n2 c2 x2 (left) h2 hl) ?_
 refine aI (λhc=>?_) (λhc=>?_)
 ·refine aI ?_ rfl
  rw[t8,W0e (left:=left) (a:=((P01 x2:Nat):Int)) (by simpa using hc) hl.1 (by simp only[];omega)]
  rfl
 have q0:0<=szR left ((P01 x2:Nat):Int):=by simpa using hc
 have aB:0<=szR left ((P01 x2:Nat):Int)/\szR left ((P01 x2:Nat):Int)<=1048576:=by
  have:=y0g q0
  omega
 exact aI rfl rfl
theorem a0h(h:Hp)(a:Option Addr)(n c:Nat)(xs:B5)(left:Int)(hx:C5.R h [.slice a n c] xs)(hl:0<=left/\left<=1048576):
  Tr Tryz.prog 63 #[.slice a n c,.int .i64 left] h λv h'=>v = .int .i64 (szR left (C9 xs))/\h'=h:=by
 obtain⟨rfl,hn⟩:=Sl.len hx
 have hw:IntKind.i64.wrap (left-(xs.length:Int))=left-xs.length:=w64 (by omega) (by omega)
 refine G3 (args:=[.slice a xs.length c,.int .i64 left]) (fn:=Tryz.f63) rfl ?_
 refine aI (λhc=>?_) (λhc=>?_)
 ·refine aI ?_ rfl
  simp[hw]at hc
  rw[C9,Z0j (by omega)]
  rfl
 simp[hw]at hc
 refine eX { vars:=[1,5],boxes:=[],owns:=[] } (eX (λvs _ h'=>∃ k:Nat,k<=xs.length/\0<=szR left ((xs.length+N3 t8 (xs.take k):Nat):Int)/\vs = [.int .i64 (szR left ((xs.length+N3 t8 (xs.take k):Nat):Int)),.int .i64 k]/\h'=h) (eX (λvs _=>match vs with | [_,.int _ j]=>((xs.length:Int)-j).toNat|_=>0) ?_))
 have h0:szR left ((xs.length+N3 t8 (xs.take 0):Nat):Int)=left-xs.length:=by rw[a0k (by simp[N3];omega)];simp[N3]
 refine aI ⟨0,by omega,by omega,by rw[h0];exact congrArg (λx=>[Value.int .i64 x,Value.int .i64 0]) hw,rfl⟩ ?_
 rintro _ _ h1 ⟨k,hk,hpos,⟨⟩,rfl⟩
 obtain⟨q1,q2⟩:=y0g hpos
 refine aI (λaF=>?_) (λaF=>?_)
 ·have hlt:k<xs.length:=by simpa using aF
  obtain⟨x,hgx⟩:=G8 hlt
  obtain⟨b1,aK,e1,i1⟩:=Sl.get hx hgx (by decide)
  have aJ:=J2 hlt hn
  obtain⟨x0,x1,a2,n2,c2,x2,rfl,rfl,g0,g1,g2⟩:=D0 i1
  refine aI b1 (eX _ (aI e1 ?_))
  refine Tr.val (k0j _ [.int .i64 x0,.int .i64 x1,.slice a2 n2 c2] (x0,x1,x2) _ (l0 g0 g1 g2) ⟨by omega,by omega⟩) ?_
  have hstep:szR (szR left ((xs.length+N3 t8 (xs.take k):Nat):Int)) (t8 (x0,x1,x2):Nat)=szR left ((xs.length+N3 t8 (xs.take (k+1)):Nat):Int):=by
   rw[A0l hpos (by omega) (by omega),q01 hgx]
   congr 1
   omega
  refine aI (λaB=>?_) (λaB=>?_)
  ·refine aI ?_ rfl
   rw[hstep]at aB
   have aC:szR left ((xs.length+N3 t8 (xs.take (k+1)):Nat):Int)<0:=by simpa using aB
   have:=r01 t8 xs (k+1)
   rw[C9,W0e aC hl.1 (by omega)]
   rfl
  ·rw[hstep]at aB
   have aD:0<=szR left ((xs.length+N3 t8 (xs.take (k+1)):Nat):Int):=by simpa using aB
   refine aI rfl (aI (by first|exact trivial|exact aI rfl trivial|exact aI rfl (aI rfl trivial)|exact aI rfl (aI rfl (aI rfl trivial))|exact aI rfl (aI rfl (aI rfl (aI rfl trivial)))) (aI (by first|exact trivial|exact aI rfl trivial|exact aI rfl (aI rfl trivial)|exact aI rfl (aI rfl (aI rfl trivial))|exact aI rfl (aI rfl (aI rfl (aI rfl trivial)))) (aI ?_ ?_)))
   ·refine⟨k+1,by omega,aD,?_,rfl⟩
    rw[←aJ,←hstep]
   ·show((xs.length:Int)-IntKind.i64.wrap ((k:Int)+1)).toNat<((xs.length:Int)-(k:Int)).toNat
    omega
 ·have hk:k=xs.length:=by simp at aF;omega
  subst hk
  refine aI ?_ rfl
  rw[List.take_length]
  rfl
theorem b0l(h:Hp)(cs ds:List Value)(x y:I0)(hx:K1.R h cs x)(hy:K1.R h ds y):
  Tr Tryz.prog 225 #[.agg cs.toArray,.agg ds.toArray] h λv h'=>v = .bool (decide (x=y))/\h'=h:=by
 obtain⟨x0,x1,x2,rfl,rfl,h0,h1,h2⟩:=H1 hx
 obtain⟨x0y,x1y,x2y,rfl,rfl,h0y,h1y,h2y⟩:=H1 hy
 refine G3 (args:=[.agg #[.int .i64 x0,.int .i64 x1,.int .i64 x2],.agg #[.int .i64 x0y,.int .i64 x1y,.int .i64 x2y]]) (fn:=Tryz.f225) rfl ?_
 refine aI (λhc=>?_) (λhc=>?_)
 ·have ne:x0≠x0y:=by simpa using hc
  exact aI (congrArg Value.bool (decide_eq_false λe=>by cases e;exact ne rfl).symm) rfl
 have q0:x0=x0y:=by simpa using hc
 subst q0
 refine aI (λhc=>?_) (λhc=>?_)
 ·have ne:x1≠x1y:=by simpa using hc
  exact aI (congrArg Value.bool (decide_eq_false λe=>by cases e;exact ne rfl).symm) rfl
 have q1:x1=x1y:=by simpa using hc
 subst q1
 refine aI (λhc=>?_) (λhc=>?_)
 ·have ne:x2≠x2y:=by simpa using hc
  exact aI (congrArg Value.bool (decide_eq_false λe=>by cases e;exact ne rfl).symm) rfl
 have q2:x2=x2y:=by simpa using hc
 subst q2
 exact aI (congrArg Value.bool (decide_eq_true rfl).symm) rfl
theorem l0j(h:Hp)(a:Option Addr)(n c:Nat)(a':Option Addr)(n' c':Nat)(xs ys:O0)(hx:M0.R h [.slice a n c] xs)(hy:M0.R h [.slice a' n' c'] ys):
  Tr Tryz.prog 116 #[.slice a n c,.slice a' n' c'] h λv h'=>v = .bool (decide (xs=ys))/\h'=h:=by
 obtain⟨rfl,hn⟩:=Sl.len hx
 obtain⟨rfl,hn'⟩:=Sl.len hy
 refine G3 (args:=[.slice a xs.length c,.slice a' ys.length c']) (fn:=Tryz.f116) rfl ?_
 refine aI (λhc=>?_) (λhc=>?_)
 ·refine aI (congrArg Value.bool ?_) rfl
  have:xs.length≠ys.length:=by simp at hc;omega
  exact(decide_eq_false λe=>this (by rw[e])).symm
 have hlen:xs.length=ys.length:=by simp at hc;omega
 refine eX { vars:=[5],boxes:=[],owns:=[] } (eX (λvs _ h'=>∃ k:Nat,k<=xs.length/\xs.take k=ys.take k/\vs = [.int .i64 k]/\h'=h) (eX (λvs _=>match vs with | [.int _ j]=>((xs.length:Int)-j).toNat|_=>0) ?_))
 refine aI ⟨0,by omega,by simp,rfl,rfl⟩ ?_
 rintro _ h1 ⟨k,hk,hall,⟨⟩,rfl⟩
 refine aI (λaB=>?_) (λaB=>?_)
 ·have hlt:k<xs.length:=by simpa using aB
  obtain⟨x,gx⟩:=G8 hlt
  obtain⟨y,gy⟩:=G8 (l:=ys) (k:=k) (by omega)
  obtain⟨b1,aD,e1,i1⟩:=Sl.get hx gx (by decide)
  obtain⟨b2,aF,e2,i2⟩:=Sl.get hy gy (by decide)
  have hw:=J2 hlt hn
  obtain⟨x0,x1,x2,rfl,rfl,g0,g1,g2⟩:=H1 i1
  obtain⟨x0y,x1y,x2y,rfl,rfl,g0y,g1y,g2y⟩:=H1 i2
  refine Or.inl (aI (aI (by kernel_rfl) (by kernel_rfl)) ?_)
  refine aI b1 (eX _ (aI e1 (aI b2 (eX _ (aI e2 ?_)))))
  refine eX (.bool _) (aI (b0l _ [.int .i64 x0,.int .i64 x1,.int .i64 x2] [.int .i64 x0y,.int .i64 x1y,.int .i64 x2y] (x0,x1,x2) (x0y,x1y,x2y) (Q1 g0 g1 g2) (Q1 g0y g1y g2y)) ?_)
  refine aI (λaC=>?_) (λaC=>?_)
  ·refine aI (congrArg Value.bool ?_) rfl
   have hne:(x0,x1,x2)≠(x0y,x1y,x2y):=K09 aC
   exact(decide_eq_false λe=>hne (oJ (gx.symm.trans ((congrArg (λl:O0=>l[k]?) e).trans gy)))).symm
  ·have heq:(x0,x1,x2)=(x0y,x1y,x2y):=p07 aC
   refine aI rfl (aI (by first|exact trivial|exact aI rfl trivial|exact aI rfl (aI rfl trivial)|exact aI rfl (aI rfl (aI rfl trivial))|exact aI rfl (aI rfl (aI rfl (aI rfl trivial)))) (aI (by first|exact trivial|exact aI rfl trivial|exact aI rfl (aI rfl trivial)|exact aI rfl (aI rfl (aI rfl trivial))|exact aI rfl (aI rfl (aI rfl (aI rfl trivial)))) (aI ?_ ?_)))
   ·refine⟨k+1,by omega,by rw[A8 gx,A8 gy,hall,heq],?_,rfl⟩
    rw[←hw]
   ·show((xs.length:Int)-IntKind.i64.wrap ((k:Int)+1)).toNat<((xs.length:Int)-(k:Int)).toNat
    omega
 ·have hk:k=xs.length:=by simp at aB;omega
  refine aI (congrArg Value.bool ?_) rfl
  refine(decide_eq_true ?_).symm
  subst hk
  rwa [List.take_length,hlen,List.take_length]at hall
theorem m0j(h:Hp)(cs ds:List Value)(x y:j0)(hx:Y0.R h cs x)(hy:Y0.R h ds y):
  Tr Tryz.prog 45 #[.agg cs.toArray,.agg ds.toArray] h λv h'=>v = .bool (decide (x=y))/\h'=h:=by
 obtain⟨x0,x1,a2,n2,c2,x2,rfl,rfl,h0,h1,h2⟩:=D0 hx
 obtain⟨x0y,x1y,a2y,n2y,c2y,x2y,rfl,rfl,h0y,h1y,h2y⟩:=D0 hy
 refine G3 (args:=[.agg #[.int .i64 x0,.int .i64 x1,.slice a2 n2 c2],.agg #[.int .i64 x0y,.int .i64 x1y,.slice a2y n2y c2y]]) (fn:=Tryz.f45) rfl ?_
 refine aI (λhc=>?_) (λhc=>?_)
 ·have ne:x0≠x0y:=by simpa using hc
  exact aI (congrArg Value.bool (decide_eq_false λe=>by cases e;exact ne rfl).symm) rfl
 have q0:x0=x0y:=by simpa using hc
 subst q0
 refine aI (λhc=>?_) (λhc=>?_)
 ·have ne:x1≠x1y:=by simpa using hc
  exact aI (congrArg Value.bool (decide_eq_false λe=>by cases e;exact ne rfl).symm) rfl
 have q1:x1=x1y:=by simpa using hc
 subst q1
 refine Tr.val (l0j h a2 n2 c2 a2y n2y c2y x2 x2y h2 h2y) ?_
 refine aI (λhc=>?_) (λhc=>?_)
 ·have ne:x2≠x2y:=K09 hc
  exact aI (congrArg Value.bool (decide_eq_false λe=>by cases e;exact ne rfl).symm) rfl
 have q2:x2=x2y:=p07 hc
 subst q2
 exact aI (congrArg Value.bool (decide_eq_true rfl).symm) rfl
theorem c0l(h:Hp)(a:Option Addr)(n c:Nat)(a':Option Addr)(n' c':Nat)(xs ys:B0)(hx:N0.R h [.slice a n c] xs)(hy:N0.R h [.slice a' n' c'] ys):
  Tr Tryz.prog 22 #[.slice a n c,.slice a' n' c'] h λv h'=>v = .bool (decide (xs=ys))/\h'=h:=by
 obtain⟨rfl,hn⟩:=Sl.len hx
 obtain⟨rfl,hn'⟩:=Sl.len hy
 refine G3 (args:=[.slice a xs.length c,.slice a' ys.length c']) (fn:=Tryz.f22) rfl ?_
 refine aI (λhc=>?_) (λhc=>?_)
 ·refine aI (congrArg Value.bool ?_) rfl
  have:xs.length≠ys.length:=by simp at hc;omega
  exact(decide_eq_false λe=>this (by rw[e])).symm
 have hlen:xs.length=ys.length:=by simp at hc;omega
 refine eX { vars:=[5],boxes:=[],owns:=[] } (eX (λvs _ h'=>∃ k:Nat,k<=xs.length/\xs.take k=ys.take k/\vs = [.int .i64 k]/\h'=h) (eX (λvs _=>match vs with | [.int _ j]=>((xs.length:Int)-j).toNat|_=>0) ?_))
 refine aI ⟨0,by omega,by simp,rfl,rfl⟩ ?_
 rintro _ h1 ⟨k,hk,hall,⟨⟩,rfl⟩
 refine aI (λaB=>?_) (λaB=>?_)
 ·have hlt:k<xs.length:=by simpa using aB
  obtain⟨x,gx⟩:=G8 hlt
  obtain⟨y,gy⟩:=G8 (l:=ys) (k:=k) (by omega)
  obtain⟨b1,aD,e1,i1⟩:=Sl.get hx gx (by decide)
  obtain⟨b2,aF,e2,i2⟩:=Sl.get hy gy (by decide)
  have hw:=J2 hlt hn
  obtain⟨rfl,_⟩:=i1
  obtain⟨rfl,_⟩:=i2
  refine Or.inl (aI (aI (by kernel_rfl) (by kernel_rfl)) ?_)
  refine aI b1 (eX _ (aI e1 (aI b2 (eX _ (aI e2 ?_)))))
  refine aI (λaC=>?_) (λaC=>?_)
  ·refine aI (congrArg Value.bool ?_) rfl
   have hne:x≠y:=by simpa using aC
   exact(decide_eq_false λe=>hne (oJ (gx.symm.trans ((congrArg (λl:B0=>l[k]?) e).trans gy)))).symm
  ·have heq:x=y:=by simpa using aC
   refine aI rfl (aI (by first|exact trivial|exact aI rfl trivial|exact aI rfl (aI rfl trivial)|exact aI rfl (aI rfl (aI rfl trivial))|exact aI rfl (aI rfl (aI rfl (aI rfl trivial)))) (aI (by first|exact trivial|exact aI rfl trivial|exact aI rfl (aI rfl trivial)|exact aI rfl (aI rfl (aI rfl trivial))|exact aI rfl (aI rfl (aI rfl (aI rfl trivial)))) (aI ?_ ?_)))
   ·refine⟨k+1,by omega,by rw[A8 gx,A8 gy,hall,heq],?_,rfl⟩
    rw[←hw]
   ·show((xs.length:Int)-IntKind.i64.wrap ((k:Int)+1)).toNat<((xs.length:Int)-(k:Int)).toNat
    omega
 ·have hk:k=xs.length:=by simp at aB;omega
  refine aI (congrArg Value.bool ?_) rfl
  refine(decide_eq_true ?_).symm
  subst hk
  rwa [List.take_length,hlen,List.take_length]at hall
theorem Y08(h:Hp)(a:Option Addr)(n c:Nat)(a':Option Addr)(n' c':Nat)(xs ys:Q6)(hx:l8.R h [.slice a n c] xs)(hy:l8.R h [.slice a' n' c'] ys):
  Tr Tryz.prog 38 #[.slice a n c,.slice a' n' c'] h λv h'=>v = .bool (decide (xs=ys))/\h'=h:=by
 obtain⟨rfl,hn⟩:=Sl.len hx
 obtain⟨rfl,hn'⟩:=Sl.len hy
 refine G3 (args:=[.slice a xs.length c,.slice a' ys.length c']) (fn:=Tryz.f38) rfl ?_
 refine aI (λhc=>?_) (λhc=>?_)
 ·refine aI (congrArg Value.bool ?_) rfl
  have:xs.length≠ys.length:=by simp at hc;omega
  exact(decide_eq_false λe=>this (by rw[e])).symm
 have hlen:xs.length=ys.length:=by simp at hc;omega
 refine eX { vars:=[5],boxes:=[],owns:=[] } (eX (λvs _ h'=>∃ k:Nat,k<=xs.length/\xs.take k=ys.take k/\vs = [.int .i64 k]/\h'=h) (eX (λvs _=>match vs with | [.int _ j]=>((xs.length:Int)-j).toNat|_=>0) ?_))
 refine aI ⟨0,by omega,by simp,rfl,rfl⟩ ?_
 rintro _ h1 ⟨k,hk,hall,⟨⟩,rfl⟩
 refine aI (λaB=>?_) (λaB=>?_)
 ·have hlt:k<xs.length:=by simpa using aB
  obtain⟨x,gx⟩:=G8 hlt
  obtain⟨y,gy⟩:=G8 (l:=ys) (k:=k) (by omega)
  obtain⟨b1,aD,e1,i1⟩:=Sl.get hx gx (by decide)
  obtain⟨b2,aF,e2,i2⟩:=Sl.get hy gy (by decide)
  have hw:=J2 hlt hn
  obtain⟨a1,n1,c1,rfl⟩:=Wp.slice_cell i1
  obtain⟨a2,n2,c2,rfl⟩:=Wp.slice_cell i2
  refine Or.inl (aI (aI (by kernel_rfl) (by kernel_rfl)) ?_)
  refine aI b1 (eX _ (aI e1 (aI b2 (eX _ (aI e2 ?_)))))
  refine eX (.bool _) (aI (c0l _ _ _ _ _ _ _ x y i1 i2) ?_)
  refine aI (λaC=>?_) (λaC=>?_)
  ·refine aI (congrArg Value.bool ?_) rfl
   have hne:x≠y:=K09 aC
   exact(decide_eq_false λe=>hne (oJ (gx.symm.trans ((congrArg (λl:Q6=>l[k]?) e).trans gy)))).symm
  ·have heq:x=y:=p07 aC
   refine aI rfl (aI (by first|exact trivial|exact aI rfl trivial|exact aI rfl (aI rfl trivial)|exact aI rfl (aI rfl (aI rfl trivial))|exact aI rfl (aI rfl (aI rfl (aI rfl trivial)))) (aI (by first|exact trivial|exact aI rfl trivial|exact aI rfl (aI rfl trivial)|exact aI rfl (aI rfl (aI rfl trivial))|exact aI rfl (aI rfl (aI rfl (aI rfl trivial)))) (aI ?_ ?_)))
   ·refine⟨k+1,by omega,by rw[A8 gx,A8 gy,hall,heq],?_,rfl⟩
    rw[←hw]
   ·show((xs.length:Int)-IntKind.i64.wrap ((k:Int)+1)).toNat<((xs.length:Int)-(k:Int)).toNat
    omega
 ·have hk:k=xs.length:=by simp at aB;omega
  refine aI (congrArg Value.bool ?_) rfl
  refine(decide_eq_true ?_).symm
  subst hk
  rwa [List.take_length,hlen,List.take_length]at hall
theorem b0h(h:Hp)(a:Option Addr)(n c:Nat)(a':Option Addr)(n' c':Nat)(xs ys:B5)(hx:C5.R h [.slice a n c] xs)(hy:C5.R h [.slice a' n' c'] ys):
  Tr Tryz.prog 60 #[.slice a n c,.slice a' n' c'] h λv h'=>v = .bool (decide (xs=ys))/\h'=h:=by
 obtain⟨rfl,hn⟩:=Sl.len hx
 obtain⟨rfl,hn'⟩:=Sl.len hy
 refine G3 (args:=[.slice a xs.length c,.slice a' ys.length c']) (fn:=Tryz.f60) rfl ?_
 refine aI (λhc=>?_) (λhc=>?_)
 ·refine aI (congrArg Value.bool ?_) rfl
  have:xs.length≠ys.length:=by simp at hc;omega
  exact(decide_eq_false λe=>this (by rw[e])).symm
 have hlen:xs.length=ys.length:=by simp at hc;omega
 refine eX { vars:=[5],boxes:=[],owns:=[] } (eX (λvs _ h'=>∃ k:Nat,k<=xs.length/\xs.take k=ys.take k/\vs = [.int .i64 k]/\h'=h) (eX (λvs _=>match vs with | [.int _ j]=>((xs.length:Int)-j).toNat|_=>0) ?_))
 refine aI ⟨0,by omega,by simp,rfl,rfl⟩ ?_
 rintro _ h1 ⟨k,hk,hall,⟨⟩,rfl⟩
 refine aI (λaB=>?_) (λaB=>?_)
 ·have hlt:k<xs.length:=by simpa using aB
  obtain⟨x,gx⟩:=G8 hlt
  obtain⟨y,gy⟩:=G8 (l:=ys) (k:=k) (by omega)
  obtain⟨b1,aD,e1,i1⟩:=Sl.get hx gx (by decide)
  obtain⟨b2,aF,e2,i2⟩:=Sl.get hy gy (by decide)
  have hw:=J2 hlt hn
  obtain⟨x0,x1,a2,n2,c2,x2,rfl,rfl,g0,g1,g2⟩:=D0 i1
  obtain⟨x0y,x1y,a2y,n2y,c2y,x2y,rfl,rfl,g0y,g1y,g2y⟩:=D0 i2
  refine Or.inl (aI (aI (by kernel_rfl) (by kernel_rfl)) ?_)
  refine aI b1 (eX _ (aI e1 (aI b2 (eX _ (aI e2 ?_)))))
  refine eX (.bool _) (aI (m0j _ [.int .i64 x0,.int .i64 x1,.slice a2 n2 c2] [.int .i64 x0y,.int .i64 x1y,.slice a2y n2y c2y] (x0,x1,x2) (x0y,x1y,x2y) (l0 g0 g1 g2) (l0 g0y g1y g2y)) ?_)
  refine aI (λaC=>?_) (λaC=>?_)
  ·refine aI (congrArg Value.bool ?_) rfl
   have hne:(x0,x1,x2)≠(x0y,x1y,x2y):=K09 aC
   exact(decide_eq_false λe=>hne (oJ (gx.symm.trans ((congrArg (λl:B5=>l[k]?) e).trans gy)))).symm
  ·have heq:(x0,x1,x2)=(x0y,x1y,x2y):=p07 aC
   refine aI rfl (aI (by first|exact trivial|exact aI rfl trivial|exact aI rfl (aI rfl trivial)|exact aI rfl (aI rfl (aI rfl trivial))|exact aI rfl (aI rfl (aI rfl (aI rfl trivial)))) (aI (by first|exact trivial|exact aI rfl trivial|exact aI rfl (aI rfl trivial)|exact aI rfl (aI rfl (aI rfl trivial))|exact aI rfl (aI rfl (aI rfl (aI rfl trivial)))) (aI ?_ ?_)))
   ·refine⟨k+1,by omega,by rw[A8 gx,A8 gy,hall,heq],?_,rfl⟩
    rw[←hw]
   ·show((xs.length:Int)-IntKind.i64.wrap ((k:Int)+1)).toNat<((xs.length:Int)-(k:Int)).toNat
    omega
 ·have hk:k=xs.length:=by simp at aB;omega
  refine aI (congrArg Value.bool ?_) rfl
  refine(decide_eq_true ?_).symm
  subst hk
  rwa [List.take_length,hlen,List.take_length]at hall
theorem d0l(h:Hp)(cs:List Value)(x:I0)(hx:K1.R h cs x)(hl:a0m x<=1048576):
  Tr Tryz.prog 218 #[.agg cs.toArray] h λv h'=>∃ cs',v = .agg cs'.toArray/\New K1 h h' cs' x:=by
 obtain⟨x0,x1,x2,rfl,rfl,h0,h1,h2⟩:=H1 hx
 refine G3 (args:=[.agg #[.int .i64 x0,.int .i64 x1,.int .i64 x2]]) (fn:=Tryz.f218) rfl ?_
 exact eX _ (aI rfl (New.pair (New.int h0) (New.pair (New.int h1) (New.int h2))))
theorem n0j(h:Hp)(a:Option Addr)(n c:Nat)(xs:O0)(hx:M0.R h [.slice a n c] xs)(hl:P01 xs<=1048576):
  Tr Tryz.prog 110 #[.slice a n c] h λv h'=>New M0 h h' [v] xs:=by
 obtain⟨rfl,hn⟩:=Sl.len hx
 have aJ:xs.length<=1048576:=by simp only[P01]at hl;omega
 refine G3 (args:=[.slice a xs.length c]) (fn:=Tryz.f110) rfl ?_
 refine aI ?_ ?_
 ·show 0<=(xs.length:Int)/\(xs.length:Int)<=xs.length/\(xs.length:Int)*24<=140737488355328/\(xs.length:Int)<=9223372036854775807
  omega
 refine eX { vars:=[4],boxes:=[],owns:=[0],kept:=[0] } (eX (λvs os h'=>∃(k:Nat) (L:List (List Value)) (Bs:List (List Nat)),k<=xs.length/\vs = [.int .i64 k]/\os = [B02 L xs.length [.int .i64 0,.int .i64 0,.int .i64 0]]/\L.length=k /\
  F3 (K1.W h') L (xs.take k) Bs/\Sub h h'/\M4 h Bs.flatten) (eX (λvs _=>match vs with | [.int _ j]=>((xs.length:Int)-j).toNat|_=>0) ?_))
 refine aI ⟨0,[],[],by omega,rfl,rfl,rfl,trivial,Sub.refl _,by simp[M4]⟩ ?_
 rintro _ _ h1 ⟨k,L,Bs,hk,⟨⟩,⟨⟩,hlk,hW,hsub,hfr⟩
 refine aI (λaB=>?_) (λaB=>?_)
 ·have hlt:k<xs.length:=by simpa using aB
  obtain⟨x,gx⟩:=G8 hlt
  obtain⟨b1,aK,e1,i1⟩:=Sl.get (Sl.mono hsub hx) gx (by decide)
  have hw:=J2 hlt hn
  obtain⟨x0,x1,x2,rfl,rfl,g0,g1,g2⟩:=H1 i1
  refine aI b1 (eX _ (aI e1 ?_))
  refine Tr.mono (d0l h1 [.int .i64 x0,.int .i64 x1,.int .i64 x2] (x0,x1,x2) (Q1 g0 g1 g2) (by simp only[a0m];omega)) ?_
  rintro v h2 ⟨aL,rfl,B,aC,aF,aD⟩
  obtain⟨x0z,x1z,x2z,rfl,ez,_,_,_⟩:=H1 (K1.toR aC)
  refine aI ?_ ?_
  ·show 0<=(k:Int)/\(k:Int)<((B02 L xs.length [.int .i64 0,.int .i64 0,.int .i64 0]).length:Nat)
   rw[o07 (by omega)];omega
  refine eX [.int .i64 0,.int .i64 0,.int .i64 0] (aI (r0c hlk hlt) ?_)
  refine aI rfl (aI (by first|exact trivial|exact aI rfl trivial|exact aI rfl (aI rfl trivial)|exact aI rfl (aI rfl (aI rfl trivial))|exact aI rfl (aI rfl (aI rfl (aI rfl trivial)))) (aI (by first|exact trivial|exact aI rfl trivial|exact aI rfl (aI rfl trivial)|exact aI rfl (aI rfl (aI rfl trivial))|exact aI rfl (aI rfl (aI rfl (aI rfl trivial)))) (aI ?_ ?_)))
  ·refine⟨k+1,L ++ [[.int .i64 x0z,.int .i64 x1z,.int .i64 x2z]],Bs ++ [B],by omega,by rw[←hw],?_,by simp[hlk],?_,hsub.trans aD,?_⟩
   ·show [(B02 L xs.length [.int .i64 0,.int .i64 0,.int .i64 0]).set k [.int .i64 x0z,.int .i64 x1z,.int .i64 x2z]]=_
    rw[s0c hlk hlt]
   ·rw[A8 gx]
    exact F3.snoc aC (x04 hW aD)
   ·exact C02 hW hsub hfr aF
  ·show((xs.length:Int)-IntKind.i64.wrap ((k:Int)+1)).toNat<((xs.length:Int)-(k:Int)).toNat
   omega
 ·have hk:k=xs.length:=by simp at aB;omega
  intro v h' hf
  rw[t0c (by omega)]at hf
  rw[hk,List.take_length]at hW
  exact Q0.fresh (r:=K1) hf hW hsub hfr
theorem o0j(h:Hp)(cs:List Value)(x:j0)(hx:Y0.R h cs x)(hl:t8 x<=1048576):
  Tr Tryz.prog 43 #[.agg cs.toArray] h λv h'=>∃ cs',v = .agg cs'.toArray/\New Y0 h h' cs' x:=by
 obtain⟨x0,x1,a2,n2,c2,x2,rfl,rfl,h0,h1,h2⟩:=D0 hx
 simp only[t8]at hl
 refine G3 (args:=[.agg #[.int .i64 x0,.int .i64 x1,.slice a2 n2 c2]]) (fn:=Tryz.f43) rfl ?_
 refine Tr.mono (n0j h a2 n2 c2 x2 (Sl.mono (Sub.refl _) h2) (by omega)) ?_
 rintro v2 k2 N2
 obtain⟨a2z,n2z,c2z,aB⟩:=Wp.slice_cell N2.r
 cases aB
 exact eX _ (aI rfl (New.pair (New.int h0) (New.pair (New.int h1) N2)))
theorem u04(h:Hp)(a:Option Addr)(n c:Nat)(xs:B5)(hx:C5.R h [.slice a n c] xs)(hl:C9 xs<=1048576):
  Tr Tryz.prog 65 #[.slice a n c] h λv h'=>New C5 h h' [v] xs:=by
 obtain⟨rfl,hn⟩:=Sl.len hx
 have aJ:xs.length<=1048576:=by simp only[C9]at hl;omega
 refine G3 (args:=[.slice a xs.length c]) (fn:=Tryz.f65) rfl ?_
 refine aI ?_ ?_
 ·show 0<=(xs.length:Int)/\(xs.length:Int)<=xs.length/\(xs.length:Int)*40<=140737488355328/\(xs.length:Int)<=9223372036854775807
  omega
 refine eX { vars:=[4],boxes:=[],owns:=[0],kept:=[0] } (eX (λvs os h'=>∃(k:Nat) (L:List (List Value)) (Bs:List (List Nat)),k<=xs.length/\vs = [.int .i64 k]/\os = [B02 L xs.length [.int .i64 0,.int .i64 0,.slice none 0 0]]/\L.length=k /\
  F3 (Y0.W h') L (xs.take k) Bs/\Sub h h'/\M4 h Bs.flatten) (eX (λvs _=>match vs with | [.int _ j]=>((xs.length:Int)-j).toNat|_=>0) ?_))
 refine aI ⟨0,[],[],by omega,rfl,rfl,rfl,trivial,Sub.refl _,by simp[M4]⟩ ?_
 rintro _ _ h1 ⟨k,L,Bs,hk,⟨⟩,⟨⟩,hlk,hW,hsub,hfr⟩
 refine aI (λaB=>?_) (λaB=>?_)
 ·have hlt:k<xs.length:=by simpa using aB
  obtain⟨x,gx⟩:=G8 hlt
  obtain⟨b1,aK,e1,i1⟩:=Sl.get (Sl.mono hsub hx) gx (by decide)
  have hw:=J2 hlt hn
  obtain⟨x0,x1,a2,n2,c2,x2,rfl,rfl,g0,g1,g2⟩:=D0 i1
  refine aI b1 (eX _ (aI e1 ?_))
  refine Tr.mono (o0j h1 [.int .i64 x0,.int .i64 x1,.slice a2 n2 c2] (x0,x1,x2) (l0 g0 g1 g2) (by first|(have:=b0k (m:=t8) gx;simp only[C9]at hl;omega)|(show t8 _<=_;simp only[t8];omega))) ?_
  rintro v h2 ⟨aL,rfl,B,aC,aF,aD⟩
  obtain⟨x0z,x1z,a2z,n2z,c2z,x2z,rfl,ez,_,_,_⟩:=D0 (Y0.toR aC)
  refine aI ?_ ?_
  ·show 0<=(k:Int)/\(k:Int)<((B02 L xs.length [.int .i64 0,.int .i64 0,.slice none 0 0]).length:Nat)
   rw[o07 (by omega)];omega
  refine eX [.int .i64 0,.int .i64 0,.slice none 0 0] (aI (r0c hlk hlt) ?_)
  refine aI rfl (aI (by first|exact trivial|exact aI rfl trivial|exact aI rfl (aI rfl trivial)|exact aI rfl (aI rfl (aI rfl trivial))|exact aI rfl (aI rfl (aI rfl (aI rfl trivial)))) (aI (by first|exact trivial|exact aI rfl trivial|exact aI rfl (aI rfl trivial)|exact aI rfl (aI rfl (aI rfl trivial))|exact aI rfl (aI rfl (aI rfl (aI rfl trivial)))) (aI ?_ ?_)))
  ·refine⟨k+1,L ++ [[.int .i64 x0z,.int .i64 x1z,.slice a2z n2z c2z]],Bs ++ [B],by omega,by rw[←hw],?_,by simp[hlk],?_,hsub.trans aD,?_⟩
   ·show [(B02 L xs.length [.int .i64 0,.int .i64 0,.slice none 0 0]).set k [.int .i64 x0z,.int .i64 x1z,.slice a2z n2z c2z]]=_
    rw[s0c hlk hlt]
   ·rw[A8 gx]
    exact F3.snoc aC (x04 hW aD)
   ·exact C02 hW hsub hfr aF
  ·show((xs.length:Int)-IntKind.i64.wrap ((k:Int)+1)).toNat<((xs.length:Int)-(k:Int)).toNat
   omega
 ·have hk:k=xs.length:=by simp at aB;omega
  intro v h' hf
  rw[t0c (by omega)]at hf
  rw[hk,List.take_length]at hW
  exact Q0.fresh (r:=Y0) hf hW hsub hfr
theorem Y0f(h:Hp)(a:Option Addr)(n c:Nat)(xs:O0)(B:List Nat)(k:Int)(hx:M0.W h [.slice a n c] xs B)(hB:B.Nodup)(hk:0<=k/\k+(h05 xs:Nat)<=4611686018427387904):
  Tr Tryz.prog 141 #[.slice a n c,.int .i64 k] h λv h'=>v = .int .i64 (k+(h05 xs:Nat))/\M0.W h' [.slice a n c] (k04 xs k) B/\∀ y,y ∉ B->h' y=h y:=by
 obtain⟨rfl,hn⟩:=Sl.len (M0.toR hx)
 refine G3 (args:=[.slice a xs.length c,.int .i64 k]) (fn:=Tryz.f141) rfl ?_
 refine eX { vars:=[1,5],boxes:=[],owns:=[] } (eX (λvs _ h'=>∃(j:Nat) (kk:Int),kk=k+(N3 N7 (xs.take j):Nat)/\j<=xs.length/\vs = [.int .i64 kk,.int .i64 j]/\M0.W h' [.slice a xs.length c] (O9 O01 N7 xs k j) B/\∀ y,y ∉ B->h' y=h y) (eX (λvs _=>match vs with | [_,.int _ j]=>((xs.length:Int)-j).toNat|_=>0) ?_))
 refine aI ⟨0,k,by simp[N3],by omega,rfl,by rw[K05];exact hx,λ_ _=>rfl⟩ ?_
 rintro _ _ h1 ⟨j,kk,hkk,hj,⟨⟩,W0,F0⟩
 refine aI (λaO=>?_) (λaO=>?_)
 ·have hlt:j<xs.length:=by simpa using aO
  obtain⟨x,gx⟩:=G8 hlt
  have G0:=r07 (mk:=O01) (c:=N7) (k:=k) gx
  have bC:N3 N7 (xs.take (j+1))=N3 N7 (xs.take j)+N7 x:=q01 gx
  have cC:=r01 N7 xs (j+1)
  have hw:=J2 hlt hn
  have hkx:0<=kk/\kk+(N7 x:Nat)<=4611686018427387904:=by
   have:(h05 xs:Int)=(N3 N7 xs:Nat):=rfl
   omega
  obtain⟨x0,x1,x2⟩:=x
  simp only[N7]at hkx
  obtain⟨b0,cD,Bi0,aB,aC,aD,aP,bD,e0,w0,bE,aQ,aR,bF,aZ,bG,bH,bI⟩:=Wp.at W0 hB G0 (by decide)
  cases bD
  obtain⟨x0q0,x1q0,x2q0,rfl,bJ,rfl,g0q0,g1q0,g2q0⟩:=t08 w0
  cases bJ
  refine aI b0 ?_
  refine F9.mk (Int.natCast_nonneg j) bE (aQ 0 (by decide)) (by rw[Int.toNat_natCast];rfl) trivial ?_
  have W1:M0.W (h1.set aB (.cells (aD.setIfInBounds (aC+(j*K1.sz+0)) (.int .i64 (kk))) aP (0,0))) [.slice (some ⟨aB,aC,none⟩) xs.length c] ((O9 O01 N7 xs k j).set j (kk,x1,x2)) B:=bI 0 (.int .i64 (kk)) (kk,x1,x2) (by decide) λh' hf=>j04 (N0i (by  omega) (by  omega)) g1q0 g2q0
  have F1:∀ y,y ∉ B->(h1.set aB (.cells (aD.setIfInBounds (aC+(j*K1.sz+0)) (.int .i64 (kk))) aP (0,0))) y=h y:=λy hy=>(Hp.set_other _ _ λe=>hy (by rw[e];exact aR)).trans (F0 y hy)
  generalize (h1.set aB (.cells (aD.setIfInBounds (aC+(j*K1.sz+0)) (.int .i64 (kk))) aP (0,0)))=aF at W1 F1 ⊢
  have aM:IntKind.i64.wrap (kk+1)=kk+(1):=by rw[w64 (by  omega) (by  omega)]<;>omega
  have G1:((O9 O01 N7 xs k j).set j (kk,x1,x2))[j]?=some (kk,x1,x2):=by rw[List.getElem?_set_self (by rw[a03];exact hlt)]
  obtain⟨b1,cE,Bi1,cI,cJ,aJ,aS,bK,e1,w1,bL,aT,aU,bM,bA,bN,bO,bP⟩:=Wp.at W1 hB G1 (by decide)
  cases bK
  obtain⟨x0q1,x1q1,x2q1,rfl,bQ,rfl,g0q1,g1q1,g2q1⟩:=t08 w1
  cases bQ
  refine aI b1 ?_
  refine F9.mk (Int.natCast_nonneg j) bL (aT 1 (by decide)) (by rw[Int.toNat_natCast];rfl) trivial ?_
  have W2:M0.W (aF.set aB (.cells (aJ.setIfInBounds (aC+(j*K1.sz+1)) (.int .i64 (IntKind.i64.wrap (kk+1)))) aS (0,0))) [.slice (some ⟨aB,aC,none⟩) xs.length c] ((O9 O01 N7 xs k j).set j (kk,IntKind.i64.wrap (kk+1),x2)) B:=by have:=bP 1 (.int .i64 (IntKind.i64.wrap (kk+1))) (kk,IntKind.i64.wrap (kk+1),x2) (by decide) λh' hf=>j04 g0q1 (N0i (by rw[aM];omega) (by rw[aM];omega)) g2q1;rwa [List.set_set]at this
  have F2:∀ y,y ∉ B->(aF.set aB (.cells (aJ.setIfInBounds (aC+(j*K1.sz+1)) (.int .i64 (IntKind.i64.wrap (kk+1)))) aS (0,0))) y=h y:=λy hy=>(Hp.set_other _ _ λe=>hy (by rw[e];exact aU)).trans (F1 y hy)
  generalize (aF.set aB (.cells (aJ.setIfInBounds (aC+(j*K1.sz+1)) (.int .i64 (IntKind.i64.wrap (kk+1)))) aS (0,0)))=aK at W2 F2 ⊢
  have aN:IntKind.i64.wrap (IntKind.i64.wrap (kk+1)+1)=kk+(1+1):=by rw[w64 (by rw[aM];omega) (by rw[aM];omega)]<;>rw[aM]<;>omega
  have G2:((O9 O01 N7 xs k j).set j (kk,IntKind.i64.wrap (kk+1),x2))[j]?=some (kk,IntKind.i64.wrap (kk+1),x2):=by rw[List.getElem?_set_self (by rw[a03];exact hlt)]
  obtain⟨b2,cK,Bi2,cL,cM,aL,aV,bR,e2,w2,bS,aX,aY,bT,bB,bU,bV,bW⟩:=Wp.at W2 hB G2 (by decide)
  cases bR
  obtain⟨x0q2,x1q2,x2q2,rfl,bX,rfl,g0q2,g1q2,g2q2⟩:=t08 w2
  cases bX
  refine aI b2 ?_
  refine F9.mk (Int.natCast_nonneg j) bS (aX 2 (by decide)) (by rw[Int.toNat_natCast];rfl) trivial ?_
  have W3:M0.W (aK.set aB (.cells (aL.setIfInBounds (aC+(j*K1.sz+2)) (.int .i64 (IntKind.i64.wrap (IntKind.i64.wrap (kk+1)+1)))) aV (0,0))) [.slice (some ⟨aB,aC,none⟩) xs.length c] ((O9 O01 N7 xs k j).set j (kk,IntKind.i64.wrap (kk+1),IntKind.i64.wrap (IntKind.i64.wrap (kk+1)+1))) B:=by have:=bW 2 (.int .i64 (IntKind.i64.wrap (IntKind.i64.wrap (kk+1)+1))) (kk,IntKind.i64.wrap (kk+1),IntKind.i64.wrap (IntKind.i64.wrap (kk+1)+1)) (by decide) λh' hf=>j04 g0q2 g1q2 (N0i (by rw[aN];omega) (by rw[aN];omega));rwa [List.set_set]at this
  have F3:∀ y,y ∉ B->(aK.set aB (.cells (aL.setIfInBounds (aC+(j*K1.sz+2)) (.int .i64 (IntKind.i64.wrap (IntKind.i64.wrap (kk+1)+1)))) aV (0,0))) y=h y:=λy hy=>(Hp.set_other _ _ λe=>hy (by rw[e];exact aY)).trans (F2 y hy)
  generalize (aK.set aB (.cells (aL.setIfInBounds (aC+(j*K1.sz+2)) (.int .i64 (IntKind.i64.wrap (IntKind.i64.wrap (kk+1)+1)))) aV (0,0)))=bY at W3 F3 ⊢
  have bZ:IntKind.i64.wrap (IntKind.i64.wrap (IntKind.i64.wrap (kk+1)+1)+1)=kk+(1+1+1):=by rw[w64 (by rw[aN];omega) (by rw[aN];omega)]<;>rw[aN]<;>omega
  have em:(kk,IntKind.i64.wrap (kk+1),IntKind.i64.wrap (IntKind.i64.wrap (kk+1)+1))=O01 (x0,x1,x2) kk:=by
   simp only[O01,N7]
   exact(congr (congrArg Prod.mk rfl) (congr (congrArg Prod.mk (by rw[aM]<;>first|rfl|omega|(simp;omega))) (by rw[aN]<;>first|rfl|omega|(simp;omega))))
  have eL:(O9 O01 N7 xs k j).set j (kk,IntKind.i64.wrap (kk+1),IntKind.i64.wrap (IntKind.i64.wrap (kk+1)+1))=O9 O01 N7 xs k (j+1):=by rw[em];rw[hkk];exact s07 gx
  rw[eL]at W3
  refine aI rfl (aI (by first|exact trivial|exact aI rfl trivial|exact aI rfl (aI rfl trivial)|exact aI rfl (aI rfl (aI rfl trivial))|exact aI rfl (aI rfl (aI rfl (aI rfl trivial)))) (aI (by first|exact trivial|exact aI rfl trivial|exact aI rfl (aI rfl trivial)|exact aI rfl (aI rfl (aI rfl trivial))|exact aI rfl (aI rfl (aI rfl (aI rfl trivial)))) (aI ?_ ?_)))
  ·refine⟨j+1,IntKind.i64.wrap (IntKind.i64.wrap (IntKind.i64.wrap (kk+1)+1)+1),?_,by omega,by rw[←hw],W3,F3⟩
   rw[bZ];rw[bC];simp only[N7];omega
  ·show((xs.length:Int)-IntKind.i64.wrap ((j:Int)+1)).toNat<((xs.length:Int)-(j:Int)).toNat
   omega
 ·have hj':j=xs.length:=by simp at aO;omega
  subst hj'
  rw[List.take_length]at hkk
  rw[q07]at W0
  exact aI (congrArg (Value.int .i64) hkk) (aI W0 F0)
theorem c0h(h:Hp)(a:Option Addr)(n c:Nat)(xs:B0)(B:List Nat)(k:Int)(hx:N0.W h [.slice a n c] xs B)(hB:B.Nodup)(hk:0<=k/\k+(Z6 xs:Nat)<=4611686018427387904):
  Tr Tryz.prog 24 #[.slice a n c,.int .i64 k] h λv h'=>v = .int .i64 (k+(Z6 xs:Nat))/\N0.W h' [.slice a n c] (P9 xs k) B/\∀ y,y ∉ B->h' y=h y:=by
 obtain⟨rfl,hn⟩:=Sl.len (N0.toR hx)
 refine G3 (args:=[.slice a xs.length c,.int .i64 k]) (fn:=Tryz.f24) rfl ?_
 refine eX { vars:=[1,5],boxes:=[],owns:=[] } (eX (λvs _ h'=>∃(j:Nat) (kk:Int),kk=k+(N3 (λ_=>1) (xs.take j):Nat)/\j<=xs.length/\vs = [.int .i64 kk,.int .i64 j]/\N0.W h' [.slice a xs.length c] (O9 (λ_ k=>k) (λ_=>1) xs k j) B/\∀ y,y ∉ B->h' y=h y) (eX (λvs _=>match vs with | [_,.int _ j]=>((xs.length:Int)-j).toNat|_=>0) ?_))
 refine aI ⟨0,k,by simp[N3],by omega,rfl,by rw[K05];exact hx,λ_ _=>rfl⟩ ?_
 rintro _ _ h1 ⟨j,kk,hkk,hj,⟨⟩,W0,F0⟩
 refine aI (λaF=>?_) (λaF=>?_)
 ·have hlt:j<xs.length:=by simpa using aF
  obtain⟨x,gx⟩:=G8 hlt
  have G0:=r07 (mk:=(λ_ k=>k)) (c:=(λ_=>1)) (k:=k) gx
  have aN:N3 (λ_=>1) (xs.take (j+1))=N3 (λ_=>1) (xs.take j)+1:=q01 gx
  have aX:=r01 (λ_=>1) xs (j+1)
  have hw:=J2 hlt hn
  have hkx:0<=kk/\kk+(1:Nat)<=4611686018427387904:=by
   have:(Z6 xs:Int)=(N3 (λ_=>1) xs:Nat):=rfl
   omega
  obtain⟨b0,aY,Bi0,aC,aD,aB,aJ,aO,e0,w0,aP,aK,aL,aQ,aM,aR,aS,aT⟩:=Wp.at W0 hB G0 (by decide)
  cases aO
  obtain⟨⟨rfl,_⟩,rfl⟩:=w0
  refine aI b0 ?_
  refine F9.mk (Int.natCast_nonneg j) aP (aK 0 (by decide)) (by rw[Int.toNat_natCast];rfl) trivial ?_
  have W1:N0.W (h1.set aC (.cells (aB.setIfInBounds (aD+(j*Wp.int.sz+0)) (.int .i64 (kk))) aJ (0,0))) [.slice (some ⟨aC,aD,none⟩) xs.length c] ((O9 (λ_ k=>k) (λ_=>1) xs k j).set j (kk)) B:=aT 0 (.int .i64 (kk)) (kk) (by decide) λh' hf=>⟨⟨rfl,N0i (by omega) (by omega)⟩,rfl⟩
  have F1:∀ y,y ∉ B->(h1.set aC (.cells (aB.setIfInBounds (aD+(j*Wp.int.sz+0)) (.int .i64 (kk))) aJ (0,0))) y=h y:=λy hy=>(Hp.set_other _ _ λe=>hy (by rw[e];exact aL)).trans (F0 y hy)
  generalize (h1.set aC (.cells (aB.setIfInBounds (aD+(j*Wp.int.sz+0)) (.int .i64 (kk))) aJ (0,0)))=aU at W1 F1 ⊢
  have aV:IntKind.i64.wrap (kk+1)=kk+(1):=by rw[w64 (by  omega) (by  omega)]<;>omega
  have em:kk=(λ_ k=>k) x kk:=rfl
  have eL:(O9 (λ_ k=>k) (λ_=>1) xs k j).set j (kk)=O9 (λ_ k=>k) (λ_=>1) xs k (j+1):=by rw[hkk];exact s07 gx
  rw[eL]at W1
  refine aI rfl (aI (by first|exact trivial|exact aI rfl trivial|exact aI rfl (aI rfl trivial)|exact aI rfl (aI rfl (aI rfl trivial))|exact aI rfl (aI rfl (aI rfl (aI rfl trivial)))) (aI (by first|exact trivial|exact aI rfl trivial|exact aI rfl (aI rfl trivial)|exact aI rfl (aI rfl (aI rfl trivial))|exact aI rfl (aI rfl (aI rfl (aI rfl trivial)))) (aI ?_ ?_)))
  ·refine⟨j+1,IntKind.i64.wrap (kk+1),?_,by omega,by rw[←hw],W1,F1⟩
   rw[aV];rw[aN];omega
  ·show((xs.length:Int)-IntKind.i64.wrap ((j:Int)+1)).toNat<((xs.length:Int)-(j:Int)).toNat
   omega
 ·have hj':j=xs.length:=by simp at aF;omega
  subst hj'
  rw[List.take_length]at hkk
  rw[q07]at W0
  exact aI (congrArg (Value.int .i64) hkk) (aI W0 F0)
theorem Z0f(h:Hp)(a:Option Addr)(n c:Nat)(xs:Q6)(B:List Nat)(k:Int)(hx:l8.W h [.slice a n c] xs B)(hB:B.Nodup)(hk:0<=k/\k+(l03 xs:Nat)<=4611686018427387904):
  Tr Tryz.prog 39 #[.slice a n c,.int .i64 k] h λv h'=>v = .int .i64 (k+(l03 xs:Nat))/\l8.W h' [.slice a n c] (N09 xs k) B/\∀ y,y ∉ B->h' y=h y:=by
 obtain⟨rfl,hn⟩:=Sl.len (l8.toR hx)
 refine G3 (args:=[.slice a xs.length c,.int .i64 k]) (fn:=Tryz.f39) rfl ?_
 refine eX { vars:=[1,5],boxes:=[],owns:=[] } (eX (λvs _ h'=>∃(j:Nat) (kk:Int),kk=k+(N3 Z6 (xs.take j):Nat)/\j<=xs.length/\vs = [.int .i64 kk,.int .i64 j]/\l8.W h' [.slice a xs.length c] (O9 P9 Z6 xs k j) B/\∀ y,y ∉ B->h' y=h y) (eX (λvs _=>match vs with | [_,.int _ j]=>((xs.length:Int)-j).toNat|_=>0) ?_))
 refine aI ⟨0,k,by simp[N3],by omega,rfl,by rw[K05];exact hx,λ_ _=>rfl⟩ ?_
 rintro _ _ h1 ⟨j,kk,hkk,hj,⟨⟩,W0,F0⟩
 refine aI (λaC=>?_) (λaC=>?_)
 ·have hlt:j<xs.length:=by simpa using aC
  obtain⟨x,gx⟩:=G8 hlt
  have G0:=r07 (mk:=P9) (c:=Z6) (k:=k) gx
  have aK:N3 Z6 (xs.take (j+1))=N3 Z6 (xs.take j)+Z6 x:=q01 gx
  have bA:=r01 Z6 xs (j+1)
  have hw:=J2 hlt hn
  have hkx:0<=kk/\kk+(Z6 x:Nat)<=4611686018427387904:=by
   have:(l03 xs:Int)=(N3 Z6 xs:Nat):=rfl
   omega
  obtain⟨b0,bB,Bi0,aL,aM,aN,bC,aO,e0,w0,bD,aP,aQ,aR,aB,aD,aF,bE⟩:=Wp.at W0 hB G0 (by decide)
  cases aO
  obtain⟨aS,aT,aU,aV⟩:=Wp.slice_cell (N0.toR w0)
  cases aV
  refine aI b0 (eX _ (aI e0 ?_))
  refine Tr.mono (c0h _ aS aT aU (x) Bi0 (kk) w0 aD ⟨by omega,by omega⟩) ?_
  rintro v0 h0m ⟨rfl,aX,aJ⟩
  have W1:l8.W h0m [.slice (some ⟨aL,aM,none⟩) xs.length c] ((O9 P9 Z6 xs k j).set j (P9 x (kk))) B:=aF h0m (P9 x (kk)) (aJ) aX
  have F1:∀ y,y ∉ B->h0m y=h y:=λy hy=>(aJ y λaY=>hy (aB y (by simp[aY]))).trans (F0 y hy)
  have aZ:(kk+(Z6 x:Nat):Int)=kk+((Z6 x:Nat)):=by omega
  have em:(P9 x (kk))=P9 x kk:=rfl
  have eL:(O9 P9 Z6 xs k j).set j (P9 x (kk))=O9 P9 Z6 xs k (j+1):=by rw[hkk];exact s07 gx
  rw[eL]at W1
  refine aI rfl (aI (by first|exact trivial|exact aI rfl trivial|exact aI rfl (aI rfl trivial)|exact aI rfl (aI rfl (aI rfl trivial))|exact aI rfl (aI rfl (aI rfl (aI rfl trivial)))) (aI (by first|exact trivial|exact aI rfl trivial|exact aI rfl (aI rfl trivial)|exact aI rfl (aI rfl (aI rfl trivial))|exact aI rfl (aI rfl (aI rfl (aI rfl trivial)))) (aI ?_ ?_)))
  ·refine⟨j+1,kk+(Z6 x:Nat),?_,by omega,by rw[←hw],W1,F1⟩
   rw[aZ];rw[aK];omega
  ·show((xs.length:Int)-IntKind.i64.wrap ((j:Int)+1)).toNat<((xs.length:Int)-(j:Int)).toNat
   omega
 ·have hj':j=xs.length:=by simp at aC;omega
  subst hj'
  rw[List.take_length]at hkk
  rw[q07]at W0
  exact aI (congrArg (Value.int .i64) hkk) (aI W0 F0)
theorem g0e(h:Hp)(a:Option Addr)(n c:Nat)(xs:B5)(B:List Nat)(k:Int)(hx:C5.W h [.slice a n c] xs B)(hB:B.Nodup)(hk:0<=k/\k+(P09 xs:Nat)<=4611686018427387904):
  Tr Tryz.prog 61 #[.slice a n c,.int .i64 k] h λv h'=>v = .int .i64 (k+(P09 xs:Nat))/\C5.W h' [.slice a n c] (e0k xs k) B/\∀ y,y ∉ B->h' y=h y:=by
 obtain⟨rfl,hn⟩:=Sl.len (C5.toR hx)
 refine G3 (args:=[.slice a xs.length c,.int .i64 k]) (fn:=Tryz.f61) rfl ?_
 refine eX { vars:=[1,5],boxes:=[],owns:=[] } (eX (λvs _ h'=>∃(j:Nat) (kk:Int),kk=k+(N3 j6 (xs.take j):Nat)/\j<=xs.length/\vs = [.int .i64 kk,.int .i64 j]/\C5.W h' [.slice a xs.length c] (O9 v00 j6 xs k j) B/\∀ y,y ∉ B->h' y=h y) (eX (λvs _=>match vs with | [_,.int _ j]=>((xs.length:Int)-j).toNat|_=>0) ?_))
 refine aI ⟨0,k,by simp[N3],by omega,rfl,by rw[K05];exact hx,λ_ _=>rfl⟩ ?_
 rintro _ _ h1 ⟨j,kk,hkk,hj,⟨⟩,W0,F0⟩
 refine aI (λaO=>?_) (λaO=>?_)
 ·have hlt:j<xs.length:=by simpa using aO
  obtain⟨x,gx⟩:=G8 hlt
  have G0:=r07 (mk:=v00) (c:=j6) (k:=k) gx
  have bB:N3 j6 (xs.take (j+1))=N3 j6 (xs.take j)+j6 x:=q01 gx
  have cC:=r01 j6 xs (j+1)
  have hw:=J2 hlt hn
  have hkx:0<=kk/\kk+(j6 x:Nat)<=4611686018427387904:=by
   have:(P09 xs:Int)=(N3 j6 xs:Nat):=rfl
   omega
  obtain⟨x0,x1,x2⟩:=x
  simp only[j6]at hkx
  obtain⟨b0,cD,Bi0,aB,aC,aD,aP,bC,e0,w0,bD,aQ,aR,bE,aY,bF,bG,bH⟩:=Wp.at W0 hB G0 (by decide)
  cases bC
  obtain⟨x0q0,x1q0,a2q0,n2q0,c2q0,x2q0,B2q0,rfl,bI,rfl,g0q0,g1q0,g2q0⟩:=z06 w0
  cases bI
  refine aI b0 ?_
  refine F9.mk (Int.natCast_nonneg j) bD (aQ 0 (by decide)) (by rw[Int.toNat_natCast];rfl) trivial ?_
  have W1:C5.W (h1.set aB (.cells (aD.setIfInBounds (aC+(j*Y0.sz+0)) (.int .i64 (kk))) aP (0,0))) [.slice (some ⟨aB,aC,none⟩) xs.length c] ((O9 v00 j6 xs k j).set j (kk,x1,x2)) B:=bH 0 (.int .i64 (kk)) (kk,x1,x2) (by decide) λh' hf=>i05 (N0i (by  omega) (by  omega)) g1q0 (M0.frame g2q0 λy hy=>hf y (by simp[hy]))
  have F1:∀ y,y ∉ B->(h1.set aB (.cells (aD.setIfInBounds (aC+(j*Y0.sz+0)) (.int .i64 (kk))) aP (0,0))) y=h y:=λy hy=>(Hp.set_other _ _ λe=>hy (by rw[e];exact aR)).trans (F0 y hy)
  generalize (h1.set aB (.cells (aD.setIfInBounds (aC+(j*Y0.sz+0)) (.int .i64 (kk))) aP (0,0)))=aF at W1 F1 ⊢
  have aK:IntKind.i64.wrap (kk+1)=kk+(1):=by rw[w64 (by  omega) (by  omega)]<;>omega
  have G1:((O9 v00 j6 xs k j).set j (kk,x1,x2))[j]?=some (kk,x1,x2):=by rw[List.getElem?_set_self (by rw[a03];exact hlt)]
  obtain⟨b1,cE,Bi1,cI,cJ,aJ,aS,bJ,e1,w1,bK,aT,aU,bL,aZ,bM,bN,bO⟩:=Wp.at W1 hB G1 (by decide)
  cases bJ
  obtain⟨x0q1,x1q1,a2q1,n2q1,c2q1,x2q1,B2q1,rfl,bP,rfl,g0q1,g1q1,g2q1⟩:=z06 w1
  cases bP
  refine aI b1 ?_
  refine F9.mk (Int.natCast_nonneg j) bK (aT 1 (by decide)) (by rw[Int.toNat_natCast];rfl) trivial ?_
  have W2:C5.W (aF.set aB (.cells (aJ.setIfInBounds (aC+(j*Y0.sz+1)) (.int .i64 (IntKind.i64.wrap (kk+1)))) aS (0,0))) [.slice (some ⟨aB,aC,none⟩) xs.length c] ((O9 v00 j6 xs k j).set j (kk,IntKind.i64.wrap (kk+1),x2)) B:=by have:=bO 1 (.int .i64 (IntKind.i64.wrap (kk+1))) (kk,IntKind.i64.wrap (kk+1),x2) (by decide) λh' hf=>i05 g0q1 (N0i (by rw[aK];omega) (by rw[aK];omega)) (M0.frame g2q1 λy hy=>hf y (by simp[hy]));rwa [List.set_set]at this
  have F2:∀ y,y ∉ B->(aF.set aB (.cells (aJ.setIfInBounds (aC+(j*Y0.sz+1)) (.int .i64 (IntKind.i64.wrap (kk+1)))) aS (0,0))) y=h y:=λy hy=>(Hp.set_other _ _ λe=>hy (by rw[e];exact aU)).trans (F1 y hy)
  generalize (aF.set aB (.cells (aJ.setIfInBounds (aC+(j*Y0.sz+1)) (.int .i64 (IntKind.i64.wrap (kk+1)))) aS (0,0)))=bQ at W2 F2 ⊢
  have aN:IntKind.i64.wrap (IntKind.i64.wrap (kk+1)+1)=kk+(1+1):=by rw[w64 (by rw[aK];omega) (by rw[aK];omega)]<;>rw[aK]<;>omega
  have G2:((O9 v00 j6 xs k j).set j (kk,IntKind.i64.wrap (kk+1),x2))[j]?=some (kk,IntKind.i64.wrap (kk+1),x2):=by rw[List.getElem?_set_self (by rw[a03];exact hlt)]
  obtain⟨b2,cK,Bi2,cL,cM,bR,cN,bS,e2,w2,cO,bT,bU,bV,aL,aM,aV,cP⟩:=Wp.at W2 hB G2 (by decide)
  cases bS
  obtain⟨x0q2,x1q2,a2q2,n2q2,c2q2,x2q2,B2q2,rfl,bW,rfl,g0q2,g1q2,g2q2⟩:=z06 w2
  cases bW
  refine aI b2 (eX _ (aI e2 ?_))
  have bX:Bi2.Nodup:=by first|exact aM|(have:=aM;simp only[List.nil_append,List.append_nil,List.nodup_append]at this;grind)
  refine Tr.mono (Y0f _ a2q2 n2q2 c2q2 (x2) Bi2 (IntKind.i64.wrap (IntKind.i64.wrap (kk+1)+1)) g2q2 bX ⟨by rw[aN];omega,by rw[aN];omega⟩) ?_
  rintro v2 h2m ⟨rfl,bY,bA⟩
  have W3:C5.W h2m [.slice (some ⟨aB,aC,none⟩) xs.length c] ((O9 v00 j6 xs k j).set j (kk,IntKind.i64.wrap (kk+1),(k04 x2 (IntKind.i64.wrap (IntKind.i64.wrap (kk+1)+1))))) B:=by have:=aV h2m (kk,IntKind.i64.wrap (kk+1),(k04 x2 (IntKind.i64.wrap (IntKind.i64.wrap (kk+1)+1)))) (λy hy=>bA y λaX=>hy (by simp[aX])) (i05 g0q2 g1q2 bY);rwa [List.set_set]at this
  have F3:∀ y,y ∉ B->h2m y=h y:=λy hy=>(bA y λaX=>hy (aL y (by simp[aX]))).trans (F2 y hy)
  have bZ:(IntKind.i64.wrap (IntKind.i64.wrap (kk+1)+1)+(h05 x2:Nat):Int)=kk+(1+1+(h05 x2:Nat)):=by rw[aN];omega
  have em:(kk,IntKind.i64.wrap (kk+1),(k04 x2 (IntKind.i64.wrap (IntKind.i64.wrap (kk+1)+1))))=v00 (x0,x1,x2) kk:=by
   simp only[v00,j6]
   exact(congr (congrArg Prod.mk rfl) (congr (congrArg Prod.mk (by rw[aK]<;>first|rfl|omega|(simp;omega))) (congrArg (k04 x2) (by rw[aN]<;>first|rfl|omega|(simp;omega)))))
  have eL:(O9 v00 j6 xs k j).set j (kk,IntKind.i64.wrap (kk+1),(k04 x2 (IntKind.i64.wrap (IntKind.i64.wrap (kk+1)+1))))=O9 v00 j6 xs k (j+1):=by rw[em];rw[hkk];exact s07 gx
  rw[eL]at W3
  refine aI rfl (aI (by first|exact trivial|exact aI rfl trivial|exact aI rfl (aI rfl trivial)|exact aI rfl (aI rfl (aI rfl trivial))|exact aI rfl (aI rfl (aI rfl (aI rfl trivial)))) (aI (by first|exact trivial|exact aI rfl trivial|exact aI rfl (aI rfl trivial)|exact aI rfl (aI rfl (aI rfl trivial))|exact aI rfl (aI rfl (aI rfl (aI rfl trivial)))) (aI ?_ ?_)))
  ·refine⟨j+1,IntKind.i64.wrap (IntKind.i64.wrap (kk+1)+1)+(h05 x2:Nat),?_,by omega,by rw[←hw],W3,F3⟩
   rw[bZ];rw[bB];simp only[j6];omega
  ·show((xs.length:Int)-IntKind.i64.wrap ((j:Int)+1)).toNat<((xs.length:Int)-(j:Int)).toNat
   omega
 ·have hj':j=xs.length:=by simp at aO;omega
  subst hj'
  rw[List.take_length]at hkk
  rw[q07]at W0
  exact aI (congrArg (Value.int .i64) hkk) (aI W0 F0)
theorem d0h(h:Hp)(a:Option Addr)(n c:Nat)(xs:B0)(k:Int)(hx:N0.R h [.slice a n c] (P9 xs k))(hk:0<=k/\k+(Z6 xs:Nat)<=4611686018427387904):
  Tr Tryz.prog 25 #[.slice a n c,.int .i64 k] h λv h'=>v = .int .i64 (k+(Z6 xs:Nat))/\h'=h:=by
 obtain⟨en,hn⟩:=Sl.len hx
 rw[show(P9 xs k).length=xs.length from N9 _ _ _ _]at en
 subst en
 refine G3 (args:=[.slice a xs.length c,.int .i64 k]) (fn:=Tryz.f25) rfl ?_
 refine eX { vars:=[1,5],boxes:=[],owns:=[] } (eX (λvs _ h'=>∃(j:Nat) (kk:Int),kk=k+(N3 (λ_=>1) (xs.take j):Nat)/\j<=xs.length/\vs = [.int .i64 kk,.int .i64 j]/\h'=h) (eX (λvs _=>match vs with | [_,.int _ j]=>((xs.length:Int)-j).toNat|_=>0) ?_))
 refine aI ⟨0,k,by simp[N3],by omega,rfl,rfl⟩ ?_
 rintro _ _ h1 ⟨j,kk,hkk,hj,⟨⟩,rfl⟩
 refine aI (λaB=>?_) (λaB=>?_)
 ·have hlt:j<xs.length:=by simpa using aB
  obtain⟨x,gx⟩:=G8 hlt
  have aC:N3 (λ_=>1) (xs.take (j+1))=N3 (λ_=>1) (xs.take j)+1:=q01 gx
  have aF:=r01 (λ_=>1) xs (j+1)
  have hw:=J2 hlt hn
  have hkx:0<=kk/\kk+(1:Nat)<=4611686018427387904:=by
   have:(Z6 xs:Int)=(N3 (λ_=>1) xs:Nat):=rfl
   omega
  have gm:(P9 xs k)[j]?=some ((λ_ k=>k) x kk):=by rw[hkk];exact H0d gx
  obtain⟨b1,aJ,e1,i1⟩:=Sl.get hx gm (by decide)
  obtain⟨rfl,_⟩:=i1
  refine aI b1 (eX _ (aI e1 ?_))
  refine aI (λhc=>?_) (λhc=>?_)
  ·exact((bne_iff_ne.1 hc) (by first|rfl|omega|(simp;omega))).elim
  clear hc
  have aD:IntKind.i64.wrap (kk+1)=kk+(1):=by rw[w64 (by  omega) (by  omega)]<;>omega
  refine aI rfl (aI (by first|exact trivial|exact aI rfl trivial|exact aI rfl (aI rfl trivial)|exact aI rfl (aI rfl (aI rfl trivial))|exact aI rfl (aI rfl (aI rfl (aI rfl trivial)))) (aI (by first|exact trivial|exact aI rfl trivial|exact aI rfl (aI rfl trivial)|exact aI rfl (aI rfl (aI rfl trivial))|exact aI rfl (aI rfl (aI rfl (aI rfl trivial)))) (aI ?_ ?_)))
  ·refine⟨j+1,IntKind.i64.wrap (kk+1),?_,by omega,by rw[←hw],rfl⟩
   rw[aD];rw[aC];omega
  ·show((xs.length:Int)-IntKind.i64.wrap ((j:Int)+1)).toNat<((xs.length:Int)-(j:Int)).toNat
   omega
 ·have hj':j=xs.length:=by simp at aB;omega
  subst hj'
  rw[List.take_length]at hkk
  exact aI (congrArg (Value.int .i64) hkk) rfl
theorem t09(h:Hp)(a:Option Addr)(n c:Nat)(xs:Q6)(k:Int)(hx:l8.R h [.slice a n c] (N09 xs k))(hk:0<=k/\k+(l03 xs:Nat)<=4611686018427387904):
  Tr Tryz.prog 67 #[.slice a n c,.int .i64 k] h λv h'=>v = .int .i64 (k+(l03 xs:Nat))/\h'=h:=by
 obtain⟨en,hn⟩:=Sl.len hx
 rw[show(N09 xs k).length=xs.length from N9 _ _ _ _]at en
 subst en
 refine G3 (args:=[.slice a xs.length c,.int .i64 k]) (fn:=Tryz.f67) rfl ?_
 refine eX { vars:=[1,5],boxes:=[],owns:=[] } (eX (λvs _ h'=>∃(j:Nat) (kk:Int),kk=k+(N3 Z6 (xs.take j):Nat)/\j<=xs.length/\vs = [.int .i64 kk,.int .i64 j]/\h'=h) (eX (λvs _=>match vs with | [_,.int _ j]=>((xs.length:Int)-j).toNat|_=>0) ?_))
 refine aI ⟨0,k,by simp[N3],by omega,rfl,rfl⟩ ?_
 rintro _ _ h1 ⟨j,kk,hkk,hj,⟨⟩,rfl⟩
 refine aI (λaB=>?_) (λaB=>?_)
 ·have hlt:j<xs.length:=by simpa using aB
  obtain⟨x,gx⟩:=G8 hlt
  have aC:N3 Z6 (xs.take (j+1))=N3 Z6 (xs.take j)+Z6 x:=q01 gx
  have aJ:=r01 Z6 xs (j+1)
  have hw:=J2 hlt hn
  have hkx:0<=kk/\kk+(Z6 x:Nat)<=4611686018427387904:=by
   have:(l03 xs:Int)=(N3 Z6 xs:Nat):=rfl
   omega
  have gm:(N09 xs k)[j]?=some (P9 x kk):=by rw[hkk];exact H0d gx
  obtain⟨b1,aK,e1,i1⟩:=Sl.get hx gm (by decide)
  obtain⟨aq,nq,cq,eq⟩:=Wp.slice_cell i1
  cases eq
  refine aI b1 (eX _ (aI e1 ?_))
  have aD:N0.R h1 [.slice aq nq cq] (P9 x (kk)):=i1
  refine Tr.val (d0h _ aq nq cq x (kk) aD ⟨by omega,by omega⟩) ?_
  refine aI (λhc=>?_) (λhc=>?_)
  ·have:(kk+(Z6 x:Nat):Int)<0:=by simpa only[decide_eq_true_eq] using hc
   exact absurd this (by omega)
  clear hc
  have aF:(kk+(Z6 x:Nat):Int)=kk+((Z6 x:Nat)):=by omega
  refine aI rfl (aI (by first|exact trivial|exact aI rfl trivial|exact aI rfl (aI rfl trivial)|exact aI rfl (aI rfl (aI rfl trivial))|exact aI rfl (aI rfl (aI rfl (aI rfl trivial)))) (aI (by first|exact trivial|exact aI rfl trivial|exact aI rfl (aI rfl trivial)|exact aI rfl (aI rfl (aI rfl trivial))|exact aI rfl (aI rfl (aI rfl (aI rfl trivial)))) (aI ?_ ?_)))
  ·refine⟨j+1,kk+(Z6 x:Nat),?_,by omega,by rw[←hw],rfl⟩
   rw[aF];rw[aC];omega
  ·show((xs.length:Int)-IntKind.i64.wrap ((j:Int)+1)).toNat<((xs.length:Int)-(j:Int)).toNat
   omega
 ·have hj':j=xs.length:=by simp at aB;omega
  subst hj'
  rw[List.take_length]at hkk
  exact aI (congrArg (Value.int .i64) hkk) rfl
end Go.Proofs.YtkjhghloldgioaaGreat
