/- Texts of the claim, joined: The data types of the laws, as lists and tuples and others. -/
import Derived.Test.YtkjhghloldgioaaGreatHE
import Derived.Test.YtkjhghloldgioaaGreatChecked
namespace Go.Proofs.YtkjhghloldgioaaGreat
open Go.H
set_option linter.unusedVariables false
set_option linter.unusedSimpArgs false
set_option maxRecDepth 10000
theorem z0b{x:Int}(h1 : -9223372036854775808<=x)(h2:x<=9223372036854775807):J0 x:=⟨h1,h2⟩
abbrev U3:Type:=Int×Int×Int
abbrev Q0:Wp U3:=Wp.pair Wp.int (Wp.pair Wp.int Wp.int)
instance C0d:DecidableEq U3:=(@instDecidableEqProd _ _ (inferInstance:DecidableEq Int) (@instDecidableEqProd _ _ (inferInstance:DecidableEq Int) (inferInstance:DecidableEq Int)))
def O3(x:U3):Nat:=1+1+1
def l8(x:U3)(k:Int):U3:=(k,(k+(1:Nat)),(k+(1+1:Nat)))
theorem S0{h:Hp}{cs:List Value}{x:U3}(hx:Q0.R h cs x):∃(x0:Int) (x1:Int) (x2:Int),cs = [.int .i64 x0,.int .i64 x1,.int .i64 x2]/\x=(x0,x1,x2)/\J0 x0/\J0 x1/\J0 x2:=by
 obtain⟨x0,x1,x2⟩:=x
 obtain⟨_,_,rfl,⟨rfl,h0⟩,⟨_,_,rfl,⟨rfl,h1⟩,⟨rfl,h2⟩⟩⟩:=hx
 exact⟨x0,x1,x2,rfl,rfl,h0,h1,h2⟩
theorem U0{h:Hp}{x0:Int}{x1:Int}{x2:Int}(h0:J0 x0)(h1:J0 x1)(h2:J0 x2):Q0.R h [.int .i64 x0,.int .i64 x1,.int .i64 x2] (x0,x1,x2) :=
 ⟨[.int .i64 x0],[.int .i64 x1,.int .i64 x2],rfl,⟨rfl,h0⟩,⟨[.int .i64 x1],[.int .i64 x2],rfl,⟨rfl,h1⟩,⟨rfl,h2⟩⟩⟩
theorem H04{h:Hp}{cs:List Value}{x:U3}{B:List Nat}(hx:Q0.W h cs x B):∃(x0:Int) (x1:Int) (x2:Int),cs = [.int .i64 x0,.int .i64 x1,.int .i64 x2]/\x=(x0,x1,x2)/\B=([]++([] ++ []))/\J0 x0/\J0 x1/\J0 x2:=by
 obtain⟨x0,x1,x2⟩:=x
 obtain⟨_,_,_,_,rfl,rfl,⟨⟨rfl,h0⟩,rfl⟩,⟨_,_,_,_,rfl,rfl,⟨⟨rfl,h1⟩,rfl⟩,⟨⟨rfl,h2⟩,rfl⟩⟩⟩:=hx
 exact⟨x0,x1,x2,rfl,rfl,rfl,h0,h1,h2⟩
theorem v01{h:Hp}{x0:Int}{x1:Int}{x2:Int}(h0:J0 x0)(h1:J0 x1)(h2:J0 x2):Q0.W h [.int .i64 x0,.int .i64 x1,.int .i64 x2] (x0,x1,x2) ([]++([] ++ [])) :=
 ⟨[.int .i64 x0],[.int .i64 x1,.int .i64 x2],[],([] ++ []),rfl,rfl,⟨⟨rfl,h0⟩,rfl⟩,⟨[.int .i64 x1],[.int .i64 x2],[],[],rfl,rfl,⟨⟨rfl,h1⟩,rfl⟩,⟨⟨rfl,h2⟩,rfl⟩⟩⟩
abbrev H0:Type:=List U3
abbrev M0:Wp H0:=Wp.slice Q0
instance L0c:DecidableEq H0:=inferInstanceAs (DecidableEq (List U3))
def n8(x:H0):Nat:=O5 O3 x
def R7(x:H0)(k:Int):H0:=mkL l8 O3 x k
abbrev l0:Type:=Int×Int×H0
abbrev I0:Wp l0:=Wp.pair Wp.int (Wp.pair Wp.int M0)
instance y0d:DecidableEq l0:=(@instDecidableEqProd _ _ (inferInstance:DecidableEq Int) (@instDecidableEqProd _ _ (inferInstance:DecidableEq Int) L0c))
def E2(x:l0):Nat:=1+1+n8 x.2.2
def S6(x:l0)(k:Int):l0:=(k,(k+(1:Nat)),R7 x.2.2 (k+(1+1:Nat)))
theorem B0{h:Hp}{cs:List Value}{x:l0}(hx:I0.R h cs x):∃(x0:Int) (x1:Int) (a2:Option Addr) (n2 c2:Nat) (x2:H0),cs = [.int .i64 x0,.int .i64 x1,.slice a2 n2 c2]/\x=(x0,x1,x2)/\J0 x0/\J0 x1/\M0.R h [.slice a2 n2 c2] x2:=by
 obtain⟨x0,x1,x2⟩:=x
 obtain⟨_,_,rfl,⟨rfl,h0⟩,⟨_,_,rfl,⟨rfl,h1⟩,h2⟩⟩:=hx
 obtain⟨a2,n2,c2,rfl⟩:=Wp.slice_cell h2
 exact⟨x0,x1,a2,n2,c2,x2,rfl,rfl,h0,h1,h2⟩
theorem f0{h:Hp}{x0:Int}{x1:Int}{a2:Option Addr}{n2 c2:Nat}{x2:H0}(h0:J0 x0)(h1:J0 x1)(h2:M0.R h [.slice a2 n2 c2] x2):I0.R h [.int .i64 x0,.int .i64 x1,.slice a2 n2 c2] (x0,x1,x2) :=
 ⟨[.int .i64 x0],[.int .i64 x1,.slice a2 n2 c2],rfl,⟨rfl,h0⟩,⟨[.int .i64 x1],[.slice a2 n2 c2],rfl,⟨rfl,h1⟩,h2⟩⟩
theorem q03{h:Hp}{cs:List Value}{x:l0}{B:List Nat}(hx:I0.W h cs x B):∃(x0:Int) (x1:Int) (a2:Option Addr) (n2 c2:Nat) (x2:H0) (B2:List Nat),cs = [.int .i64 x0,.int .i64 x1,.slice a2 n2 c2]/\x=(x0,x1,x2)/\B=([]++([]++B2))/\J0 x0/\J0 x1/\M0.W h [.slice a2 n2 c2] x2 B2:=by
 obtain⟨x0,x1,x2⟩:=x
 obtain⟨_,_,_,_,rfl,rfl,⟨⟨rfl,h0⟩,rfl⟩,⟨_,_,_,_,rfl,rfl,⟨⟨rfl,h1⟩,rfl⟩,h2⟩⟩:=hx
 obtain⟨a2,n2,c2,rfl⟩:=Wp.slice_cell (M0.toR h2)
 exact⟨x0,x1,a2,n2,c2,x2,_,rfl,rfl,rfl,h0,h1,h2⟩
theorem k02{h:Hp}{x0:Int}{x1:Int}{a2:Option Addr}{n2 c2:Nat}{x2:H0}{B2:List Nat}(h0:J0 x0)(h1:J0 x1)(h2:M0.W h [.slice a2 n2 c2] x2 B2):I0.W h [.int .i64 x0,.int .i64 x1,.slice a2 n2 c2] (x0,x1,x2) ([]++([]++B2)) :=
 ⟨[.int .i64 x0],[.int .i64 x1,.slice a2 n2 c2],[],([]++B2),rfl,rfl,⟨⟨rfl,h0⟩,rfl⟩,⟨[.int .i64 x1],[.slice a2 n2 c2],[],B2,rfl,rfl,⟨⟨rfl,h1⟩,rfl⟩,h2⟩⟩
abbrev w5:Type:=Int×Int
abbrev U1:Wp w5:=Wp.pair Wp.int Wp.int
instance D0d:DecidableEq w5:=(@instDecidableEqProd _ _ (inferInstance:DecidableEq Int) (inferInstance:DecidableEq Int))
theorem o8{h:Hp}{cs:List Value}{x:w5}(hx:U1.R h cs x):∃(x0:Int) (x1:Int),cs = [.int .i64 x0,.int .i64 x1]/\x=(x0,x1)/\J0 x0/\J0 x1:=by
 obtain⟨x0,x1⟩:=x
 obtain⟨_,_,rfl,⟨rfl,h0⟩,⟨rfl,h1⟩⟩:=hx
 exact⟨x0,x1,rfl,rfl,h0,h1⟩
theorem D1{h:Hp}{x0:Int}{x1:Int}(h0:J0 x0)(h1:J0 x1):U1.R h [.int .i64 x0,.int .i64 x1] (x0,x1) :=
 ⟨[.int .i64 x0],[.int .i64 x1],rfl,⟨rfl,h0⟩,⟨rfl,h1⟩⟩
abbrev C0:Type:=List Int
abbrev j1:Wp C0:=Wp.slice Wp.int
instance E0d:DecidableEq C0:=inferInstanceAs (DecidableEq (List Int))
abbrev M1:Type:=List C0
abbrev D5:Wp M1:=Wp.slice j1
instance z0d:DecidableEq M1:=inferInstanceAs (DecidableEq (List C0))
abbrev T1:Type:=List l0
abbrev f4:Wp T1:=Wp.slice I0
instance s0d:DecidableEq T1:=inferInstanceAs (DecidableEq (List l0))
def p8(x:T1):Nat:=O5 E2 x
def b04(x:T1)(k:Int):T1:=mkL S6 E2 x k
abbrev p5:Type:=List w5
abbrev K07:Wp p5:=Wp.slice U1
instance A0d:DecidableEq p5:=inferInstanceAs (DecidableEq (List w5))
theorem t09(h:Hp):∃ cs,Q0.R h cs (0,0,0):=⟨_,U0 (by decide) (by decide) (by decide)⟩
theorem H0b(h:Hp)(cs ds:List Value)(x y:U3)(hx:Q0.R h cs x)(hy:Q0.R h ds y):
  Tr Tryz.prog 225 #[.agg cs.toArray,.agg ds.toArray] h λv h'=>v = .bool (decide (x=y))/\h'=h:=by
 obtain⟨x0,x1,x2,rfl,rfl,h0,h1,h2⟩:=S0 hx
 obtain⟨x0y,x1y,x2y,rfl,rfl,h0y,h1y,h2y⟩:=S0 hy
 refine D2 (args:=[.agg #[.int .i64 x0,.int .i64 x1,.int .i64 x2],.agg #[.int .i64 x0y,.int .i64 x1y,.int .i64 x2y]]) (fn:=Tryz.f225) rfl ?_
 refine aI (λhc=>?_) (λhc=>?_)
 ·have ne:x0≠x0y:=by simpa using hc
  exact aI (congrArg Value.bool (decide_eq_false λe=>by cases e;exact ne rfl).symm) rfl
 have q0:x0=x0y:=by simpa using hc
 subst q0
 refine aI (λhc=>?_) (λhc=>?_)
 ·have ne:x1≠x1y:=by simpa using hc
  exact aI (congrArg Value.bool (decide_eq_false λe=>by cases e;exact ne rfl).symm) rfl
 have q1:x1=x1y:=by simpa using hc
 subst q1
 refine aI (λhc=>?_) (λhc=>?_)
 ·have ne:x2≠x2y:=by simpa using hc
  exact aI (congrArg Value.bool (decide_eq_false λe=>by cases e;exact ne rfl).symm) rfl
 have q2:x2=x2y:=by simpa using hc
 subst q2
 exact aI (congrArg Value.bool (decide_eq_true rfl).symm) rfl
theorem H0a(h:Hp)(a:Option Addr)(n c:Nat)(a':Option Addr)(n' c':Nat)(xs ys:H0)(hx:M0.R h [.slice a n c] xs)(hy:M0.R h [.slice a' n' c'] ys):
  Tr Tryz.prog 116 #[.slice a n c,.slice a' n' c'] h λv h'=>v = .bool (decide (xs=ys))/\h'=h:=by
 obtain⟨rfl,hn⟩:=Sl.len hx
 obtain⟨rfl,hn'⟩:=Sl.len hy
 refine D2 (args:=[.slice a xs.length c,.slice a' ys.length c']) (fn:=Tryz.f116) rfl ?_
 refine aI (λhc=>?_) (λhc=>?_)
 ·refine aI (congrArg Value.bool ?_) rfl
  have:xs.length≠ys.length:=by simp at hc;omega
  exact(decide_eq_false λe=>this (by rw[e])).symm
 have hlen:xs.length=ys.length:=by simp at hc;omega
 refine eX { vars:=[5],boxes:=[],owns:=[] } (eX (λvs _ h'=>∃ k:Nat,k<=xs.length/\xs.take k=ys.take k/\vs = [.int .i64 k]/\h'=h) (eX (λvs _=>match vs with | [.int _ j]=>((xs.length:Int)-j).toNat|_=>0) ?_))
 refine aI ⟨0,by omega,by simp,rfl,rfl⟩ ?_
 rintro _ h1 ⟨k,hk,hall,⟨⟩,rfl⟩
 refine aI (λaA=>?_) (λaA=>?_)
 ·have hlt:k<xs.length:=by simpa using aA
  obtain⟨x,gx⟩:=w00 hlt
  obtain⟨y,gy⟩:=w00 (l:=ys) (k:=k) (by omega)
  obtain⟨b1,aC,e1,i1⟩:=Sl.get hx gx (by decide)
  obtain⟨b2,aD,e2,i2⟩:=Sl.get hy gy (by decide)
  have hw:=E8 hlt hn
  obtain⟨x0,x1,x2,rfl,rfl,g0,g1,g2⟩:=S0 i1
  obtain⟨x0y,x1y,x2y,rfl,rfl,g0y,g1y,g2y⟩:=S0 i2
  refine Or.inl (aI (aI (by kernel_rfl) (by kernel_rfl)) ?_)
  refine aI b1 (eX _ (aI e1 (aI b2 (eX _ (aI e2 ?_)))))
  refine eX (.bool _) (aI (H0b _ [.int .i64 x0,.int .i64 x1,.int .i64 x2] [.int .i64 x0y,.int .i64 x1y,.int .i64 x2y] (x0,x1,x2) (x0y,x1y,x2y) (U0 g0 g1 g2) (U0 g0y g1y g2y)) ?_)
  refine aI (λaB=>?_) (λaB=>?_)
  ·refine aI (congrArg Value.bool ?_) rfl
   have hne:(x0,x1,x2)≠(x0y,x1y,x2y):=H07 aB
   exact(decide_eq_false λe=>hne (oJ (gx.symm.trans ((congrArg (λl:H0=>l[k]?) e).trans gy)))).symm
  ·have heq:(x0,x1,x2)=(x0y,x1y,x2y):=h06 aB
   refine aI rfl (aI (by first|exact trivial|exact aI rfl trivial|exact aI rfl (aI rfl trivial)|exact aI rfl (aI rfl (aI rfl trivial))|exact aI rfl (aI rfl (aI rfl (aI rfl trivial)))) (aI (by first|exact trivial|exact aI rfl trivial|exact aI rfl (aI rfl trivial)|exact aI rfl (aI rfl (aI rfl trivial))|exact aI rfl (aI rfl (aI rfl (aI rfl trivial)))) (aI ?_ ?_)))
   ·refine⟨k+1,by omega,by rw[J9 gx,J9 gy,hall,heq],?_,rfl⟩
    rw[←hw]
   ·show((xs.length:Int)-IntKind.i64.wrap ((k:Int)+1)).toNat<((xs.length:Int)-(k:Int)).toNat
    omega
 ·have hk:k=xs.length:=by simp at aA;omega
  refine aI (congrArg Value.bool ?_) rfl
  refine(decide_eq_true ?_).symm
  subst hk
  rwa [List.take_length,hlen,List.take_length]at hall
theorem I0a(h:Hp)(cs ds:List Value)(x y:l0)(hx:I0.R h cs x)(hy:I0.R h ds y):
  Tr Tryz.prog 45 #[.agg cs.toArray,.agg ds.toArray] h λv h'=>v = .bool (decide (x=y))/\h'=h:=by
 obtain⟨x0,x1,a2,n2,c2,x2,rfl,rfl,h0,h1,h2⟩:=B0 hx
 obtain⟨x0y,x1y,a2y,n2y,c2y,x2y,rfl,rfl,h0y,h1y,h2y⟩:=B0 hy
 refine D2 (args:=[.agg #[.int .i64 x0,.int .i64 x1,.slice a2 n2 c2],.agg #[.int .i64 x0y,.int .i64 x1y,.slice a2y n2y c2y]]) (fn:=Tryz.f45) rfl ?_
 refine aI (λhc=>?_) (λhc=>?_)
 ·have ne:x0≠x0y:=by simpa using hc
  exact aI (congrArg Value.bool (decide_eq_false λe=>by cases e;exact ne rfl).symm) rfl
 have q0:x0=x0y:=by simpa using hc
 subst q0
 refine aI (λhc=>?_) (λhc=>?_)
 ·have ne:x1≠x1y:=by simpa using hc
  exact aI (congrArg Value.bool (decide_eq_false λe=>by cases e;exact ne rfl).symm) rfl
 have q1:x1=x1y:=by simpa using hc
 subst q1
 refine Tr.val (H0a h a2 n2 c2 a2y n2y c2y x2 x2y h2 h2y) ?_
 refine aI (λhc=>?_) (λhc=>?_)
 ·have ne:x2≠x2y:=H07 hc
  exact aI (congrArg Value.bool (decide_eq_false λe=>by cases e;exact ne rfl).symm) rfl
 have q2:x2=x2y:=h06 hc
 subst q2
 exact aI (congrArg Value.bool (decide_eq_true rfl).symm) rfl
theorem r06(h:Hp)(a:Option Addr)(n c:Nat)(a':Option Addr)(n' c':Nat)(xs ys:T1)(hx:f4.R h [.slice a n c] xs)(hy:f4.R h [.slice a' n' c'] ys):
  Tr Tryz.prog 60 #[.slice a n c,.slice a' n' c'] h λv h'=>v = .bool (decide (xs=ys))/\h'=h:=by
 obtain⟨rfl,hn⟩:=Sl.len hx
 obtain⟨rfl,hn'⟩:=Sl.len hy
 refine D2 (args:=[.slice a xs.length c,.slice a' ys.length c']) (fn:=Tryz.f60) rfl ?_
 refine aI (λhc=>?_) (λhc=>?_)
 ·refine aI (congrArg Value.bool ?_) rfl
  have:xs.length≠ys.length:=by simp at hc;omega
  exact(decide_eq_false λe=>this (by rw[e])).symm
 have hlen:xs.length=ys.length:=by simp at hc;omega
 refine eX { vars:=[5],boxes:=[],owns:=[] } (eX (λvs _ h'=>∃ k:Nat,k<=xs.length/\xs.take k=ys.take k/\vs = [.int .i64 k]/\h'=h) (eX (λvs _=>match vs with | [.int _ j]=>((xs.length:Int)-j).toNat|_=>0) ?_))
 refine aI ⟨0,by omega,by simp,rfl,rfl⟩ ?_
 rintro _ h1 ⟨k,hk,hall,⟨⟩,rfl⟩
 refine aI (λaA=>?_) (λaA=>?_)
 ·have hlt:k<xs.length:=by simpa using aA
  obtain⟨x,gx⟩:=w00 hlt
  obtain⟨y,gy⟩:=w00 (l:=ys) (k:=k) (by omega)
  obtain⟨b1,aC,e1,i1⟩:=Sl.get hx gx (by decide)
  obtain⟨b2,aD,e2,i2⟩:=Sl.get hy gy (by decide)
  have hw:=E8 hlt hn
  obtain⟨x0,x1,a2,n2,c2,x2,rfl,rfl,g0,g1,g2⟩:=B0 i1
  obtain⟨x0y,x1y,a2y,n2y,c2y,x2y,rfl,rfl,g0y,g1y,g2y⟩:=B0 i2
  refine Or.inl (aI (aI (by kernel_rfl) (by kernel_rfl)) ?_)
  refine aI b1 (eX _ (aI e1 (aI b2 (eX _ (aI e2 ?_)))))
  refine eX (.bool _) (aI (I0a _ [.int .i64 x0,.int .i64 x1,.slice a2 n2 c2] [.int .i64 x0y,.int .i64 x1y,.slice a2y n2y c2y] (x0,x1,x2) (x0y,x1y,x2y) (f0 g0 g1 g2) (f0 g0y g1y g2y)) ?_)
  refine aI (λaB=>?_) (λaB=>?_)
  ·refine aI (congrArg Value.bool ?_) rfl
   have hne:(x0,x1,x2)≠(x0y,x1y,x2y):=H07 aB
   exact(decide_eq_false λe=>hne (oJ (gx.symm.trans ((congrArg (λl:T1=>l[k]?) e).trans gy)))).symm
  ·have heq:(x0,x1,x2)=(x0y,x1y,x2y):=h06 aB
   refine aI rfl (aI (by first|exact trivial|exact aI rfl trivial|exact aI rfl (aI rfl trivial)|exact aI rfl (aI rfl (aI rfl trivial))|exact aI rfl (aI rfl (aI rfl (aI rfl trivial)))) (aI (by first|exact trivial|exact aI rfl trivial|exact aI rfl (aI rfl trivial)|exact aI rfl (aI rfl (aI rfl trivial))|exact aI rfl (aI rfl (aI rfl (aI rfl trivial)))) (aI ?_ ?_)))
   ·refine⟨k+1,by omega,by rw[J9 gx,J9 gy,hall,heq],?_,rfl⟩
    rw[←hw]
   ·show((xs.length:Int)-IntKind.i64.wrap ((k:Int)+1)).toNat<((xs.length:Int)-(k:Int)).toNat
    omega
 ·have hk:k=xs.length:=by simp at aA;omega
  refine aI (congrArg Value.bool ?_) rfl
  refine(decide_eq_true ?_).symm
  subst hk
  rwa [List.take_length,hlen,List.take_length]at hall
theorem U08(h:Hp)(a:Option Addr)(n c:Nat)(xs:H0)(B:List Nat)(k:Int)(hx:M0.W h [.slice a n c] xs B)(hB:B.Nodup)(hk:0<=k/\k+(n8 xs:Nat)<=4611686018427387904):
  Tr Tryz.prog 141 #[.slice a n c,.int .i64 k] h λv h'=>v = .int .i64 (k+(n8 xs:Nat))/\M0.W h' [.slice a n c] (R7 xs k) B/\∀ y,y ∉ B->h' y=h y:=by
 obtain⟨rfl,hn⟩:=Sl.len (M0.toR hx)
 refine D2 (args:=[.slice a xs.length c,.int .i64 k]) (fn:=Tryz.f141) rfl ?_
 refine eX { vars:=[1,5],boxes:=[],owns:=[] } (eX (λvs _ h'=>∃(j:Nat) (kk:Int),kk=k+(O5 O3 (xs.take j):Nat)/\j<=xs.length/\vs = [.int .i64 kk,.int .i64 j]/\M0.W h' [.slice a xs.length c] (J8 l8 O3 xs k j) B/\∀ y,y ∉ B->h' y=h y) (eX (λvs _=>match vs with | [_,.int _ j]=>((xs.length:Int)-j).toNat|_=>0) ?_))
 refine aI ⟨0,k,by simp[O5],by omega,rfl,by rw[Z06];exact hx,λ_ _=>rfl⟩ ?_
 rintro _ _ h1 ⟨j,kk,hkk,hj,⟨⟩,W0,F0⟩
 refine aI (λaN=>?_) (λaN=>?_)
 ·have hlt:j<xs.length:=by simpa using aN
  obtain⟨x,gx⟩:=w00 hlt
  have G0:=I08 (mk:=l8) (c:=O3) (k:=k) gx
  have bB:O5 O3 (xs.take (j+1))=O5 O3 (xs.take j)+O3 x:=H02 gx
  have bZ:=I02 O3 xs (j+1)
  have hw:=E8 hlt hn
  have hkx:0<=kk/\kk+(O3 x:Nat)<=4611686018427387904:=by
   have:(n8 xs:Int)=(O5 O3 xs:Nat):=rfl
   omega
  obtain⟨x0,x1,x2⟩:=x
  simp only[O3]at hkx
  obtain⟨b0,cA,Bi0,aA,aB,aC,aO,bC,e0,w0,bD,aP,aQ,bE,aY,bF,bG,bH⟩:=Wp.at W0 hB G0 (by decide)
  cases bC
  obtain⟨x0q0,x1q0,x2q0,rfl,bI,rfl,g0q0,g1q0,g2q0⟩:=H04 w0
  cases bI
  refine aI b0 ?_
  refine J7.mk (Int.natCast_nonneg j) bD (aP 0 (by decide)) (by rw[Int.toNat_natCast];rfl) trivial ?_
  have W1:M0.W (h1.set aA (.cells (aC.setIfInBounds (aB+(j*Q0.sz+0)) (.int .i64 (kk))) aO (0,0))) [.slice (some ⟨aA,aB,none⟩) xs.length c] ((J8 l8 O3 xs k j).set j (kk,x1,x2)) B:=bH 0 (.int .i64 (kk)) (kk,x1,x2) (by decide) λh' hf=>v01 (z0b (by  omega) (by  omega)) g1q0 g2q0
  have F1:∀ y,y ∉ B->(h1.set aA (.cells (aC.setIfInBounds (aB+(j*Q0.sz+0)) (.int .i64 (kk))) aO (0,0))) y=h y:=λy hy=>(Hp.set_other _ _ λe=>hy (by rw[e];exact aQ)).trans (F0 y hy)
  generalize (h1.set aA (.cells (aC.setIfInBounds (aB+(j*Q0.sz+0)) (.int .i64 (kk))) aO (0,0)))=aD at W1 F1 ⊢
  have aL:IntKind.i64.wrap (kk+1)=kk+(1):=by rw[w64 (by  omega) (by  omega)]<;>omega
  have G1:((J8 l8 O3 xs k j).set j (kk,x1,x2))[j]?=some (kk,x1,x2):=by rw[List.getElem?_set_self (by rw[x00];exact hlt)]
  obtain⟨b1,cC,Bi1,cD,cE,aF,aR,bJ,e1,w1,bK,aS,aT,bL,aZ,bM,bN,bO⟩:=Wp.at W1 hB G1 (by decide)
  cases bJ
  obtain⟨x0q1,x1q1,x2q1,rfl,bP,rfl,g0q1,g1q1,g2q1⟩:=H04 w1
  cases bP
  refine aI b1 ?_
  refine J7.mk (Int.natCast_nonneg j) bK (aS 1 (by decide)) (by rw[Int.toNat_natCast];rfl) trivial ?_
  have W2:M0.W (aD.set aA (.cells (aF.setIfInBounds (aB+(j*Q0.sz+1)) (.int .i64 (IntKind.i64.wrap (kk+1)))) aR (0,0))) [.slice (some ⟨aA,aB,none⟩) xs.length c] ((J8 l8 O3 xs k j).set j (kk,IntKind.i64.wrap (kk+1),x2)) B:=by have:=bO 1 (.int .i64 (IntKind.i64.wrap (kk+1))) (kk,IntKind.i64.wrap (kk+1),x2) (by decide) λh' hf=>v01 g0q1 (z0b (by rw[aL];omega) (by rw[aL];omega)) g2q1;rwa [List.set_set]at this
  have F2:∀ y,y ∉ B->(aD.set aA (.cells (aF.setIfInBounds (aB+(j*Q0.sz+1)) (.int .i64 (IntKind.i64.wrap (kk+1)))) aR (0,0))) y=h y:=λy hy=>(Hp.set_other _ _ λe=>hy (by rw[e];exact aT)).trans (F1 y hy)
  generalize (aD.set aA (.cells (aF.setIfInBounds (aB+(j*Q0.sz+1)) (.int .i64 (IntKind.i64.wrap (kk+1)))) aR (0,0)))=aJ at W2 F2 ⊢
  have aM:IntKind.i64.wrap (IntKind.i64.wrap (kk+1)+1)=kk+(1+1):=by rw[w64 (by rw[aL];omega) (by rw[aL];omega)]<;>rw[aL]<;>omega
  have G2:((J8 l8 O3 xs k j).set j (kk,IntKind.i64.wrap (kk+1),x2))[j]?=some (kk,IntKind.i64.wrap (kk+1),x2):=by rw[List.getElem?_set_self (by rw[x00];exact hlt)]
  obtain⟨b2,cF,Bi2,cI,cJ,aK,aU,bQ,e2,w2,bR,aV,aX,bS,bA,bT,bU,bV⟩:=Wp.at W2 hB G2 (by decide)
  cases bQ
  obtain⟨x0q2,x1q2,x2q2,rfl,bW,rfl,g0q2,g1q2,g2q2⟩:=H04 w2
  cases bW
  refine aI b2 ?_
  refine J7.mk (Int.natCast_nonneg j) bR (aV 2 (by decide)) (by rw[Int.toNat_natCast];rfl) trivial ?_
  have W3:M0.W (aJ.set aA (.cells (aK.setIfInBounds (aB+(j*Q0.sz+2)) (.int .i64 (IntKind.i64.wrap (IntKind.i64.wrap (kk+1)+1)))) aU (0,0))) [.slice (some ⟨aA,aB,none⟩) xs.length c] ((J8 l8 O3 xs k j).set j (kk,IntKind.i64.wrap (kk+1),IntKind.i64.wrap (IntKind.i64.wrap (kk+1)+1))) B:=by have:=bV 2 (.int .i64 (IntKind.i64.wrap (IntKind.i64.wrap (kk+1)+1))) (kk,IntKind.i64.wrap (kk+1),IntKind.i64.wrap (IntKind.i64.wrap (kk+1)+1)) (by decide) λh' hf=>v01 g0q2 g1q2 (z0b (by rw[aM];omega) (by rw[aM];omega));rwa [List.set_set]at this
  have F3:∀ y,y ∉ B->(aJ.set aA (.cells (aK.setIfInBounds (aB+(j*Q0.sz+2)) (.int .i64 (IntKind.i64.wrap (IntKind.i64.wrap (kk+1)+1)))) aU (0,0))) y=h y:=λy hy=>(Hp.set_other _ _ λe=>hy (by rw[e];exact aX)).trans (F2 y hy)
  generalize (aJ.set aA (.cells (aK.setIfInBounds (aB+(j*Q0.sz+2)) (.int .i64 (IntKind.i64.wrap (IntKind.i64.wrap (kk+1)+1)))) aU (0,0)))=bX at W3 F3 ⊢
  have bY:IntKind.i64.wrap (IntKind.i64.wrap (IntKind.i64.wrap (kk+1)+1)+1)=kk+(1+1+1):=by rw[w64 (by rw[aM];omega) (by rw[aM];omega)]<;>rw[aM]<;>omega
  have em:(kk,IntKind.i64.wrap (kk+1),IntKind.i64.wrap (IntKind.i64.wrap (kk+1)+1))=l8 (x0,x1,x2) kk:=by
   simp only[l8,O3]
   exact(congr (congrArg Prod.mk rfl) (congr (congrArg Prod.mk (by rw[aL]<;>first|rfl|omega|(simp;omega))) (by rw[aM]<;>first|rfl|omega|(simp;omega))))
  have eL:(J8 l8 O3 xs k j).set j (kk,IntKind.i64.wrap (kk+1),IntKind.i64.wrap (IntKind.i64.wrap (kk+1)+1))=J8 l8 O3 xs k (j+1):=by rw[em];rw[hkk];exact J08 gx
  rw[eL]at W3
  refine aI rfl (aI (by first|exact trivial|exact aI rfl trivial|exact aI rfl (aI rfl trivial)|exact aI rfl (aI rfl (aI rfl trivial))|exact aI rfl (aI rfl (aI rfl (aI rfl trivial)))) (aI (by first|exact trivial|exact aI rfl trivial|exact aI rfl (aI rfl trivial)|exact aI rfl (aI rfl (aI rfl trivial))|exact aI rfl (aI rfl (aI rfl (aI rfl trivial)))) (aI ?_ ?_)))
  ·refine⟨j+1,IntKind.i64.wrap (IntKind.i64.wrap (IntKind.i64.wrap (kk+1)+1)+1),?_,by omega,by rw[←hw],W3,F3⟩
   rw[bY];rw[bB];simp only[O3];omega
  ·show((xs.length:Int)-IntKind.i64.wrap ((j:Int)+1)).toNat<((xs.length:Int)-(j:Int)).toNat
   omega
 ·have hj':j=xs.length:=by simp at aN;omega
  subst hj'
  rw[List.take_length]at hkk
  rw[H08]at W0
  exact aI (congrArg (Value.int .i64) hkk) (aI W0 F0)
theorem O07(h:Hp)(a:Option Addr)(n c:Nat)(xs:T1)(B:List Nat)(k:Int)(hx:f4.W h [.slice a n c] xs B)(hB:B.Nodup)(hk:0<=k/\k+(p8 xs:Nat)<=4611686018427387904):
  Tr Tryz.prog 61 #[.slice a n c,.int .i64 k] h λv h'=>v = .int .i64 (k+(p8 xs:Nat))/\f4.W h' [.slice a n c] (b04 xs k) B/\∀ y,y ∉ B->h' y=h y:=by
 obtain⟨rfl,hn⟩:=Sl.len (f4.toR hx)
 refine D2 (args:=[.slice a xs.length c,.int .i64 k]) (fn:=Tryz.f61) rfl ?_
 refine eX { vars:=[1,5],boxes:=[],owns:=[] } (eX (λvs _ h'=>∃(j:Nat) (kk:Int),kk=k+(O5 E2 (xs.take j):Nat)/\j<=xs.length/\vs = [.int .i64 kk,.int .i64 j]/\f4.W h' [.slice a xs.length c] (J8 S6 E2 xs k j) B/\∀ y,y ∉ B->h' y=h y) (eX (λvs _=>match vs with | [_,.int _ j]=>((xs.length:Int)-j).toNat|_=>0) ?_))
 refine aI ⟨0,k,by simp[O5],by omega,rfl,by rw[Z06];exact hx,λ_ _=>rfl⟩ ?_
 rintro _ _ h1 ⟨j,kk,hkk,hj,⟨⟩,W0,F0⟩
 refine aI (λaN=>?_) (λaN=>?_)
 ·have hlt:j<xs.length:=by simpa using aN
  obtain⟨x,gx⟩:=w00 hlt
  have G0:=I08 (mk:=S6) (c:=E2) (k:=k) gx
  have bA:O5 E2 (xs.take (j+1))=O5 E2 (xs.take j)+E2 x:=H02 gx
  have bZ:=I02 E2 xs (j+1)
  have hw:=E8 hlt hn
  have hkx:0<=kk/\kk+(E2 x:Nat)<=4611686018427387904:=by
   have:(p8 xs:Int)=(O5 E2 xs:Nat):=rfl
   omega
  obtain⟨x0,x1,x2⟩:=x
  simp only[E2]at hkx
  obtain⟨b0,cA,Bi0,aA,aB,aC,aO,bB,e0,w0,bC,aP,aQ,bD,aX,bE,bF,bG⟩:=Wp.at W0 hB G0 (by decide)
  cases bB
  obtain⟨x0q0,x1q0,a2q0,n2q0,c2q0,x2q0,B2q0,rfl,bH,rfl,g0q0,g1q0,g2q0⟩:=q03 w0
  cases bH
  refine aI b0 ?_
  refine J7.mk (Int.natCast_nonneg j) bC (aP 0 (by decide)) (by rw[Int.toNat_natCast];rfl) trivial ?_
  have W1:f4.W (h1.set aA (.cells (aC.setIfInBounds (aB+(j*I0.sz+0)) (.int .i64 (kk))) aO (0,0))) [.slice (some ⟨aA,aB,none⟩) xs.length c] ((J8 S6 E2 xs k j).set j (kk,x1,x2)) B:=bG 0 (.int .i64 (kk)) (kk,x1,x2) (by decide) λh' hf=>k02 (z0b (by  omega) (by  omega)) g1q0 (M0.frame g2q0 λy hy=>hf y (by simp[hy]))
  have F1:∀ y,y ∉ B->(h1.set aA (.cells (aC.setIfInBounds (aB+(j*I0.sz+0)) (.int .i64 (kk))) aO (0,0))) y=h y:=λy hy=>(Hp.set_other _ _ λe=>hy (by rw[e];exact aQ)).trans (F0 y hy)
  generalize (h1.set aA (.cells (aC.setIfInBounds (aB+(j*I0.sz+0)) (.int .i64 (kk))) aO (0,0)))=aD at W1 F1 ⊢
  have aJ:IntKind.i64.wrap (kk+1)=kk+(1):=by rw[w64 (by  omega) (by  omega)]<;>omega
  have G1:((J8 S6 E2 xs k j).set j (kk,x1,x2))[j]?=some (kk,x1,x2):=by rw[List.getElem?_set_self (by rw[x00];exact hlt)]
  obtain⟨b1,cC,Bi1,cD,cE,aF,aR,bI,e1,w1,bJ,aS,aT,bK,aY,bL,bM,bN⟩:=Wp.at W1 hB G1 (by decide)
  cases bI
  obtain⟨x0q1,x1q1,a2q1,n2q1,c2q1,x2q1,B2q1,rfl,bO,rfl,g0q1,g1q1,g2q1⟩:=q03 w1
  cases bO
  refine aI b1 ?_
  refine J7.mk (Int.natCast_nonneg j) bJ (aS 1 (by decide)) (by rw[Int.toNat_natCast];rfl) trivial ?_
  have W2:f4.W (aD.set aA (.cells (aF.setIfInBounds (aB+(j*I0.sz+1)) (.int .i64 (IntKind.i64.wrap (kk+1)))) aR (0,0))) [.slice (some ⟨aA,aB,none⟩) xs.length c] ((J8 S6 E2 xs k j).set j (kk,IntKind.i64.wrap (kk+1),x2)) B:=by have:=bN 1 (.int .i64 (IntKind.i64.wrap (kk+1))) (kk,IntKind.i64.wrap (kk+1),x2) (by decide) λh' hf=>k02 g0q1 (z0b (by rw[aJ];omega) (by rw[aJ];omega)) (M0.frame g2q1 λy hy=>hf y (by simp[hy]));rwa [List.set_set]at this
  have F2:∀ y,y ∉ B->(aD.set aA (.cells (aF.setIfInBounds (aB+(j*I0.sz+1)) (.int .i64 (IntKind.i64.wrap (kk+1)))) aR (0,0))) y=h y:=λy hy=>(Hp.set_other _ _ λe=>hy (by rw[e];exact aT)).trans (F1 y hy)
  generalize (aD.set aA (.cells (aF.setIfInBounds (aB+(j*I0.sz+1)) (.int .i64 (IntKind.i64.wrap (kk+1)))) aR (0,0)))=bP at W2 F2 ⊢
  have aM:IntKind.i64.wrap (IntKind.i64.wrap (kk+1)+1)=kk+(1+1):=by rw[w64 (by rw[aJ];omega) (by rw[aJ];omega)]<;>rw[aJ]<;>omega
  have G2:((J8 S6 E2 xs k j).set j (kk,IntKind.i64.wrap (kk+1),x2))[j]?=some (kk,IntKind.i64.wrap (kk+1),x2):=by rw[List.getElem?_set_self (by rw[x00];exact hlt)]
  obtain⟨b2,cF,Bi2,cI,cJ,bQ,cK,bR,e2,w2,cL,bS,bT,bU,aK,aL,aU,cM⟩:=Wp.at W2 hB G2 (by decide)
  cases bR
  obtain⟨x0q2,x1q2,a2q2,n2q2,c2q2,x2q2,B2q2,rfl,bV,rfl,g0q2,g1q2,g2q2⟩:=q03 w2
  cases bV
  refine aI b2 (eX _ (aI e2 ?_))
  have bW:Bi2.Nodup:=by first|exact aL|(have:=aL;simp only[List.nil_append,List.append_nil,List.nodup_append]at this;grind)
  refine Tr.mono (U08 _ a2q2 n2q2 c2q2 (x2) Bi2 (IntKind.i64.wrap (IntKind.i64.wrap (kk+1)+1)) g2q2 bW ⟨by rw[aM];omega,by rw[aM];omega⟩) ?_
  rintro v2 h2m ⟨rfl,bX,aZ⟩
  have W3:f4.W h2m [.slice (some ⟨aA,aB,none⟩) xs.length c] ((J8 S6 E2 xs k j).set j (kk,IntKind.i64.wrap (kk+1),(R7 x2 (IntKind.i64.wrap (IntKind.i64.wrap (kk+1)+1))))) B:=by have:=aU h2m (kk,IntKind.i64.wrap (kk+1),(R7 x2 (IntKind.i64.wrap (IntKind.i64.wrap (kk+1)+1)))) (λy hy=>aZ y λaV=>hy (by simp[aV])) (k02 g0q2 g1q2 bX);rwa [List.set_set]at this
  have F3:∀ y,y ∉ B->h2m y=h y:=λy hy=>(aZ y λaV=>hy (aK y (by simp[aV]))).trans (F2 y hy)
  have bY:(IntKind.i64.wrap (IntKind.i64.wrap (kk+1)+1)+(n8 x2:Nat):Int)=kk+(1+1+(n8 x2:Nat)):=by rw[aM];omega
  have em:(kk,IntKind.i64.wrap (kk+1),(R7 x2 (IntKind.i64.wrap (IntKind.i64.wrap (kk+1)+1))))=S6 (x0,x1,x2) kk:=by
   simp only[S6,E2]
   exact(congr (congrArg Prod.mk rfl) (congr (congrArg Prod.mk (by rw[aJ]<;>first|rfl|omega|(simp;omega))) (congrArg (R7 x2) (by rw[aM]<;>first|rfl|omega|(simp;omega)))))
  have eL:(J8 S6 E2 xs k j).set j (kk,IntKind.i64.wrap (kk+1),(R7 x2 (IntKind.i64.wrap (IntKind.i64.wrap (kk+1)+1))))=J8 S6 E2 xs k (j+1):=by rw[em];rw[hkk];exact J08 gx
  rw[eL]at W3
  refine aI rfl (aI (by first|exact trivial|exact aI rfl trivial|exact aI rfl (aI rfl trivial)|exact aI rfl (aI rfl (aI rfl trivial))|exact aI rfl (aI rfl (aI rfl (aI rfl trivial)))) (aI (by first|exact trivial|exact aI rfl trivial|exact aI rfl (aI rfl trivial)|exact aI rfl (aI rfl (aI rfl trivial))|exact aI rfl (aI rfl (aI rfl (aI rfl trivial)))) (aI ?_ ?_)))
  ·refine⟨j+1,IntKind.i64.wrap (IntKind.i64.wrap (kk+1)+1)+(n8 x2:Nat),?_,by omega,by rw[←hw],W3,F3⟩
   rw[bY];rw[bA];simp only[E2];omega
  ·show((xs.length:Int)-IntKind.i64.wrap ((j:Int)+1)).toNat<((xs.length:Int)-(j:Int)).toNat
   omega
 ·have hj':j=xs.length:=by simp at aN;omega
  subst hj'
  rw[List.take_length]at hkk
  rw[H08]at W0
  exact aI (congrArg (Value.int .i64) hkk) (aI W0 F0)
theorem V08(h:Hp)(a:Option Addr)(n c:Nat)(xs:H0)(k:Int)(hx:M0.R h [.slice a n c] (R7 xs k))(hk:0<=k/\k+(n8 xs:Nat)<=4611686018427387904):
  Tr Tryz.prog 156 #[.slice a n c,.int .i64 k] h λv h'=>v = .int .i64 (k+(n8 xs:Nat))/\h'=h:=by
 obtain⟨en,hn⟩:=Sl.len hx
 rw[show(R7 xs k).length=xs.length from a7 _ _ _ _]at en
 subst en
 refine D2 (args:=[.slice a xs.length c,.int .i64 k]) (fn:=Tryz.f156) rfl ?_
 refine eX { vars:=[1,5],boxes:=[],owns:=[] } (eX (λvs _ h'=>∃(j:Nat) (kk:Int),kk=k+(O5 O3 (xs.take j):Nat)/\j<=xs.length/\vs = [.int .i64 kk,.int .i64 j]/\h'=h) (eX (λvs _=>match vs with | [_,.int _ j]=>((xs.length:Int)-j).toNat|_=>0) ?_))
 refine aI ⟨0,k,by simp[O5],by omega,rfl,rfl⟩ ?_
 rintro _ _ h1 ⟨j,kk,hkk,hj,⟨⟩,rfl⟩
 refine aI (λaC=>?_) (λaC=>?_)
 ·have hlt:j<xs.length:=by simpa using aC
  obtain⟨x,gx⟩:=w00 hlt
  have aD:O5 O3 (xs.take (j+1))=O5 O3 (xs.take j)+O3 x:=H02 gx
  have aJ:=I02 O3 xs (j+1)
  have hw:=E8 hlt hn
  have hkx:0<=kk/\kk+(O3 x:Nat)<=4611686018427387904:=by
   have:(n8 xs:Int)=(O5 O3 xs:Nat):=rfl
   omega
  have gm:(R7 xs k)[j]?=some (l8 x kk):=by rw[hkk];exact I07 gx
  obtain⟨b1,aK,e1,i1⟩:=Sl.get hx gm (by decide)
  obtain⟨x0,x1,x2⟩:=x
  simp only[O3]at hkx
  obtain⟨x0q,x1q,x2q,rfl,ex,g0,g1,g2⟩:=S0 i1
  simp only[l8,O3,Prod.mk.injEq]at ex
  obtain⟨rfl,rfl,rfl⟩:=ex
  refine aI b1 (eX _ (aI e1 ?_))
  refine aI (λhc=>?_) (λhc=>?_)
  ·exact((bne_iff_ne.1 hc) (by first|rfl|omega|(simp;omega))).elim
  clear hc
  have aA:IntKind.i64.wrap (kk+1)=kk+(1):=by rw[w64 (by  omega) (by  omega)]<;>omega
  refine aI b1 (eX _ (aI e1 ?_))
  refine aI (λhc=>?_) (λhc=>?_)
  ·exact((bne_iff_ne.1 hc) (by rw[aA];first|rfl|omega|(simp;omega))).elim
  clear hc
  have aB:IntKind.i64.wrap (IntKind.i64.wrap (kk+1)+1)=kk+(1+1):=by rw[w64 (by rw[aA];  omega) (by rw[aA];  omega)]<;>rw[aA]<;>omega
  refine aI b1 (eX _ (aI e1 ?_))
  refine aI (λhc=>?_) (λhc=>?_)
  ·exact((bne_iff_ne.1 hc) (by rw[aB];first|rfl|omega|(simp;omega))).elim
  clear hc
  have aF:IntKind.i64.wrap (IntKind.i64.wrap (IntKind.i64.wrap (kk+1)+1)+1)=kk+(1+1+1):=by rw[w64 (by rw[aB];  omega) (by rw[aB];  omega)]<;>rw[aB]<;>omega
  refine aI rfl (aI (by first|exact trivial|exact aI rfl trivial|exact aI rfl (aI rfl trivial)|exact aI rfl (aI rfl (aI rfl trivial))|exact aI rfl (aI rfl (aI rfl (aI rfl trivial)))) (aI (by first|exact trivial|exact aI rfl trivial|exact aI rfl (aI rfl trivial)|exact aI rfl (aI rfl (aI rfl trivial))|exact aI rfl (aI rfl (aI rfl (aI rfl trivial)))) (aI ?_ ?_)))
  ·refine⟨j+1,IntKind.i64.wrap (IntKind.i64.wrap (IntKind.i64.wrap (kk+1)+1)+1),?_,by omega,by rw[←hw],rfl⟩
   rw[aF];rw[aD];simp only[O3];omega
  ·show((xs.length:Int)-IntKind.i64.wrap ((j:Int)+1)).toNat<((xs.length:Int)-(j:Int)).toNat
   omega
 ·have hj':j=xs.length:=by simp at aC;omega
  subst hj'
  rw[List.take_length]at hkk
  exact aI (congrArg (Value.int .i64) hkk) rfl
theorem g04(h:Hp)(a:Option Addr)(n c:Nat)(xs:T1)(k:Int)(hx:f4.R h [.slice a n c] (b04 xs k))(hk:0<=k/\k+(p8 xs:Nat)<=4611686018427387904):
  Tr Tryz.prog 62 #[.slice a n c,.int .i64 k] h λv h'=>v = .int .i64 (k+(p8 xs:Nat))/\h'=h:=by
 obtain⟨en,hn⟩:=Sl.len hx
 rw[show(b04 xs k).length=xs.length from a7 _ _ _ _]at en
 subst en
 refine D2 (args:=[.slice a xs.length c,.int .i64 k]) (fn:=Tryz.f62) rfl ?_
 refine eX { vars:=[1,5],boxes:=[],owns:=[] } (eX (λvs _ h'=>∃(j:Nat) (kk:Int),kk=k+(O5 E2 (xs.take j):Nat)/\j<=xs.length/\vs = [.int .i64 kk,.int .i64 j]/\h'=h) (eX (λvs _=>match vs with | [_,.int _ j]=>((xs.length:Int)-j).toNat|_=>0) ?_))
 refine aI ⟨0,k,by simp[O5],by omega,rfl,rfl⟩ ?_
 rintro _ _ h1 ⟨j,kk,hkk,hj,⟨⟩,rfl⟩
 refine aI (λaC=>?_) (λaC=>?_)
 ·have hlt:j<xs.length:=by simpa using aC
  obtain⟨x,gx⟩:=w00 hlt
  have aD:O5 E2 (xs.take (j+1))=O5 E2 (xs.take j)+E2 x:=H02 gx
  have aK:=I02 E2 xs (j+1)
  have hw:=E8 hlt hn
  have hkx:0<=kk/\kk+(E2 x:Nat)<=4611686018427387904:=by
   have:(p8 xs:Int)=(O5 E2 xs:Nat):=rfl
   omega
  have gm:(b04 xs k)[j]?=some (S6 x kk):=by rw[hkk];exact I07 gx
  obtain⟨b1,aL,e1,i1⟩:=Sl.get hx gm (by decide)
  obtain⟨x0,x1,x2⟩:=x
  simp only[E2]at hkx
  obtain⟨x0q,x1q,a2q,n2q,c2q,x2q,rfl,ex,g0,g1,g2⟩:=B0 i1
  simp only[S6,E2,Prod.mk.injEq]at ex
  obtain⟨rfl,rfl,rfl⟩:=ex
  refine aI b1 (eX _ (aI e1 ?_))
  refine aI (λhc=>?_) (λhc=>?_)
  ·exact((bne_iff_ne.1 hc) (by first|rfl|omega|(simp;omega))).elim
  clear hc
  have aB:IntKind.i64.wrap (kk+1)=kk+(1):=by rw[w64 (by  omega) (by  omega)]<;>omega
  refine aI b1 (eX _ (aI e1 ?_))
  refine aI (λhc=>?_) (λhc=>?_)
  ·exact((bne_iff_ne.1 hc) (by rw[aB];first|rfl|omega|(simp;omega))).elim
  clear hc
  have aA:IntKind.i64.wrap (IntKind.i64.wrap (kk+1)+1)=kk+(1+1):=by rw[w64 (by rw[aB];  omega) (by rw[aB];  omega)]<;>rw[aB]<;>omega
  refine aI b1 (eX _ (aI e1 ?_))
  have aF:M0.R h1 [.slice a2q n2q c2q] (R7 x2 (IntKind.i64.wrap (IntKind.i64.wrap (kk+1)+1))):=n0d (P:=λz=>M0.R h1 [.slice a2q n2q c2q] (R7 x2 z)) g2 (by rw[aA];first|rfl|omega|(simp;omega))
  refine Tr.val (V08 _ a2q n2q c2q x2 (IntKind.i64.wrap (IntKind.i64.wrap (kk+1)+1)) aF ⟨by rw[aA];omega,by rw[aA];omega⟩) ?_
  refine aI (λhc=>?_) (λhc=>?_)
  ·have:(IntKind.i64.wrap (IntKind.i64.wrap (kk+1)+1)+(n8 x2:Nat):Int)<0:=by simpa only[decide_eq_true_eq] using hc
   exact absurd this (by rw[aA];omega)
  clear hc
  have aJ:(IntKind.i64.wrap (IntKind.i64.wrap (kk+1)+1)+(n8 x2:Nat):Int)=kk+(1+1+(n8 x2:Nat)):=by rw[aA];omega
  refine aI rfl (aI (by first|exact trivial|exact aI rfl trivial|exact aI rfl (aI rfl trivial)|exact aI rfl (aI rfl (aI rfl trivial))|exact aI rfl (aI rfl (aI rfl (aI rfl trivial)))) (aI (by first|exact trivial|exact aI rfl trivial|exact aI rfl (aI rfl trivial)|exact aI rfl (aI rfl (aI rfl trivial))|exact aI rfl (aI rfl (aI rfl (aI rfl trivial)))) (aI ?_ ?_)))
  ·refine⟨j+1,IntKind.i64.wrap (IntKind.i64.wrap (kk+1)+1)+(n8 x2:Nat),?_,by omega,by rw[←hw],rfl⟩
   rw[aJ];rw[aD];simp only[E2];omega
  ·show((xs.length:Int)-IntKind.i64.wrap ((j:Int)+1)).toNat<((xs.length:Int)-(j:Int)).toNat
   omega
 ·have hj':j=xs.length:=by simp at aC;omega
  subst hj'
  rw[List.take_length]at hkk
  exact aI (congrArg (Value.int .i64) hkk) rfl
end Go.Proofs.YtkjhghloldgioaaGreat
