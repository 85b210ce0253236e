/- Texts of the claim, joined: The data types of the laws, as lists and tuples and others. -/
import Derived.Test.YtkjhghloldgioaaGreatHE
import Derived.Test.YtkjhghloldgioaaGreatChecked
namespace Go.Proofs.YtkjhghloldgioaaGreat
open Go.H
set_option linter.unusedVariables false
set_option linter.unusedSimpArgs false
set_option maxRecDepth 10000
def k08:Nat->Nat->List UInt8->List UInt8
 |0,_,acc=>acc
 |f+1,n,acc=>if n=0 then acc else k08 f (n / 10) (UInt8.ofNat (48+n % 10)::acc)
theorem L0d:∀(f n:Nat) (acc:List UInt8),(k08 f n acc).length<=f+acc.length
 |0,n,acc=>by simp[k08]
 |f+1,n,acc=>by
  simp only[k08]
  split
  ·omega
  ·have:=L0d f (n / 10) (UInt8.ofNat (48+n % 10)::acc)
   simp only[List.length_cons]at this
   omega
abbrev M0:Type:=Int×Int×Int
abbrev E1:Wp M0:=Wp.pair Wp.int (Wp.pair Wp.int Wp.int)
instance A0s:DecidableEq M0:=(@instDecidableEqProd _ _ (inferInstance:DecidableEq Int) (@instDecidableEqProd _ _ (inferInstance:DecidableEq Int) (inferInstance:DecidableEq Int)))
def U0q(x:M0):Nat:=0
theorem N1{h:Hp}{cs:List Value}{x:M0}(hx:E1.R h cs x):∃(x0:Int) (x1:Int) (x2:Int),cs = [.int .i64 x0,.int .i64 x1,.int .i64 x2]/\x=(x0,x1,x2)/\P0 x0/\P0 x1/\P0 x2:=by
 obtain⟨x0,x1,x2⟩:=x
 obtain⟨_,_,rfl,⟨rfl,h0⟩,⟨_,_,rfl,⟨rfl,h1⟩,⟨rfl,h2⟩⟩⟩:=hx
 exact⟨x0,x1,x2,rfl,rfl,h0,h1,h2⟩
theorem L1{h:Hp}{x0:Int}{x1:Int}{x2:Int}(h0:P0 x0)(h1:P0 x1)(h2:P0 x2):E1.R h [.int .i64 x0,.int .i64 x1,.int .i64 x2] (x0,x1,x2) :=
 ⟨[.int .i64 x0],[.int .i64 x1,.int .i64 x2],rfl,⟨rfl,h0⟩,⟨[.int .i64 x1],[.int .i64 x2],rfl,⟨rfl,h1⟩,⟨rfl,h2⟩⟩⟩
theorem w0k{h:Hp}{x0:Int}{x1:Int}{x2:Int}(h0:P0 x0)(h1:P0 x1)(h2:P0 x2):E1.W h [.int .i64 x0,.int .i64 x1,.int .i64 x2] (x0,x1,x2) ([]++([] ++ [])) :=
 ⟨[.int .i64 x0],[.int .i64 x1,.int .i64 x2],[],([] ++ []),rfl,rfl,⟨⟨rfl,h0⟩,rfl⟩,⟨[.int .i64 x1],[.int .i64 x2],[],[],rfl,rfl,⟨⟨rfl,h1⟩,rfl⟩,⟨⟨rfl,h2⟩,rfl⟩⟩⟩
abbrev K0:Type:=List M0
abbrev O0:Wp K0:=Wp.slice E1
instance F0r:DecidableEq K0:=inferInstanceAs (DecidableEq (List M0))
def C04(x:K0):Nat:=x.length
abbrev j0:Type:=Int×Int×K0
abbrev Z0:Wp j0:=Wp.pair Wp.int (Wp.pair Wp.int O0)
instance G0r:DecidableEq j0:=(@instDecidableEqProd _ _ (inferInstance:DecidableEq Int) (@instDecidableEqProd _ _ (inferInstance:DecidableEq Int) F0r))
def p05(x:j0):Nat:=C04 x.2.2
theorem H0{h:Hp}{cs:List Value}{x:j0}(hx:Z0.R h cs x):∃(x0:Int) (x1:Int) (a2:Option Addr) (n2 c2:Nat) (x2:K0),cs = [.int .i64 x0,.int .i64 x1,.slice a2 n2 c2]/\x=(x0,x1,x2)/\P0 x0/\P0 x1/\O0.R h [.slice a2 n2 c2] x2:=by
 obtain⟨x0,x1,x2⟩:=x
 obtain⟨_,_,rfl,⟨rfl,h0⟩,⟨_,_,rfl,⟨rfl,h1⟩,h2⟩⟩:=hx
 obtain⟨a2,n2,c2,rfl⟩:=Wp.slice_cell h2
 exact⟨x0,x1,a2,n2,c2,x2,rfl,rfl,h0,h1,h2⟩
theorem B0{h:Hp}{x0:Int}{x1:Int}{a2:Option Addr}{n2 c2:Nat}{x2:K0}(h0:P0 x0)(h1:P0 x1)(h2:O0.R h [.slice a2 n2 c2] x2):Z0.R h [.int .i64 x0,.int .i64 x1,.slice a2 n2 c2] (x0,x1,x2) :=
 ⟨[.int .i64 x0],[.int .i64 x1,.slice a2 n2 c2],rfl,⟨rfl,h0⟩,⟨[.int .i64 x1],[.slice a2 n2 c2],rfl,⟨rfl,h1⟩,h2⟩⟩
abbrev N4:Type:=Int×Int
abbrev d4:Wp N4:=Wp.pair Wp.int Wp.int
instance B0s:DecidableEq N4:=(@instDecidableEqProd _ _ (inferInstance:DecidableEq Int) (inferInstance:DecidableEq Int))
theorem A00{h:Hp}{cs:List Value}{x:N4}(hx:d4.R h cs x):∃(x0:Int) (x1:Int),cs = [.int .i64 x0,.int .i64 x1]/\x=(x0,x1)/\P0 x0/\P0 x1:=by
 obtain⟨x0,x1⟩:=x
 obtain⟨_,_,rfl,⟨rfl,h0⟩,⟨rfl,h1⟩⟩:=hx
 exact⟨x0,x1,rfl,rfl,h0,h1⟩
theorem A2{h:Hp}{x0:Int}{x1:Int}(h0:P0 x0)(h1:P0 x1):d4.R h [.int .i64 x0,.int .i64 x1] (x0,x1) :=
 ⟨[.int .i64 x0],[.int .i64 x1],rfl,⟨rfl,h0⟩,⟨rfl,h1⟩⟩
abbrev F0:Type:=List Int
abbrev W0:Wp F0:=Wp.slice Wp.int
instance C0s:DecidableEq F0:=inferInstanceAs (DecidableEq (List Int))
abbrev E2:Type:=List F0
abbrev l9:Wp E2:=Wp.slice W0
instance v0s:DecidableEq E2:=inferInstanceAs (DecidableEq (List F0))
abbrev x0k:Type:=ByteArray×j0
instance w0s:DecidableEq x0k:=(@instDecidableEqProd _ _ (inferInstance:DecidableEq ByteArray) G0r)
abbrev N0c:Type:=List x0k
instance n0s:DecidableEq N0c:=inferInstanceAs (DecidableEq (List x0k))
abbrev K8:Type:=List N4
abbrev m0h:Wp K8:=Wp.slice d4
instance x0s:DecidableEq K8:=inferInstanceAs (DecidableEq (List N4))
theorem i0b(h:Hp):∃ cs,E1.R h cs (0,0,0):=⟨_,L1 (by decide) (by decide) (by decide)⟩
theorem C0o(h:Hp):∃ cs,d4.R h cs (0,0):=⟨_,A2 (by decide) (by decide)⟩
theorem H0n(h:Hp)(a:Option Addr)(n c:Nat)(xs:K0)(left:Int)(hx:O0.R h [.slice a n c] xs)(hl:0<=left/\left<=1048576):
  Tr Tryz.prog 102 #[.slice a n c,.int .i64 left] h λv h'=>v = .int .i64 (szR left (C04 xs))/\h'=h:=by
 obtain⟨rfl,hn⟩:=Sl.len hx
 have hw:IntKind.i64.wrap (left-(xs.length:Int))=left-xs.length:=w64 (by omega) (by omega)
 refine O2 (args:=[.slice a xs.length c,.int .i64 left]) (fn:=Tryz.f102) rfl ?_
 refine aI (λhc=>?_) (λhc=>?_)
 ·refine aI ?_ rfl
  simp[hw]at hc
  rw[C04,D0r (by omega)]
  rfl
 ·refine aI ?_ rfl
  simp[hw]at hc
  rw[C04,E0r (by omega)]
  exact congrArg (Value.int .i64) hw
theorem I0n(h:Hp)(cs:List Value)(x:j0)(left:Int)(hx:Z0.R h cs x)(hl:0<=left/\left<=1048576):
  Tr Tryz.prog 41 #[.agg cs.toArray,.int .i64 left] h λv h'=>v = .int .i64 (szR left (p05 x))/\h'=h:=by
 obtain⟨x0,x1,a2,n2,c2,x2,rfl,rfl,h0,h1,h2⟩:=H0 hx
 refine O2 (args:=[.agg #[.int .i64 x0,.int .i64 x1,.slice a2 n2 c2],.int .i64 left]) (fn:=Tryz.f41) rfl ?_
 refine Tr.val (H0n h a2 n2 c2 x2 (left) h2 hl) ?_
 refine aI (λhc=>?_) (λhc=>?_)
 ·refine aI ?_ rfl
  rw[p05,z0o (left:=left) (a:=((C04 x2:Nat):Int)) (by simpa using hc) hl.1 (by simp only[];omega)]
  rfl
 have q0:0<=szR left ((C04 x2:Nat):Int):=by simpa using hc
 have aA:0<=szR left ((C04 x2:Nat):Int)/\szR left ((C04 x2:Nat):Int)<=1048576:=by
  have:=y0o q0
  omega
 exact aI rfl rfl
theorem V0p(h:Hp)(cs ds:List Value)(x y:M0)(hx:E1.R h cs x)(hy:E1.R h ds y):
  Tr Tryz.prog 225 #[.agg cs.toArray,.agg ds.toArray] h λv h'=>v = .bool (decide (x=y))/\h'=h:=by
 obtain⟨x0,x1,x2,rfl,rfl,h0,h1,h2⟩:=N1 hx
 obtain⟨x0y,x1y,x2y,rfl,rfl,h0y,h1y,h2y⟩:=N1 hy
 refine O2 (args:=[.agg #[.int .i64 x0,.int .i64 x1,.int .i64 x2],.agg #[.int .i64 x0y,.int .i64 x1y,.int .i64 x2y]]) (fn:=Tryz.f225) rfl ?_
 refine aI (λhc=>?_) (λhc=>?_)
 ·have ne:x0≠x0y:=by simpa using hc
  exact aI (congrArg Value.bool (decide_eq_false λe=>by cases e;exact ne rfl).symm) rfl
 have q0:x0=x0y:=by simpa using hc
 subst q0
 refine aI (λhc=>?_) (λhc=>?_)
 ·have ne:x1≠x1y:=by simpa using hc
  exact aI (congrArg Value.bool (decide_eq_false λe=>by cases e;exact ne rfl).symm) rfl
 have q1:x1=x1y:=by simpa using hc
 subst q1
 refine aI (λhc=>?_) (λhc=>?_)
 ·have ne:x2≠x2y:=by simpa using hc
  exact aI (congrArg Value.bool (decide_eq_false λe=>by cases e;exact ne rfl).symm) rfl
 have q2:x2=x2y:=by simpa using hc
 subst q2
 exact aI (congrArg Value.bool (decide_eq_true rfl).symm) rfl
theorem J0n(h:Hp)(a:Option Addr)(n c:Nat)(a':Option Addr)(n' c':Nat)(xs ys:K0)(hx:O0.R h [.slice a n c] xs)(hy:O0.R h [.slice a' n' c'] ys):
  Tr Tryz.prog 116 #[.slice a n c,.slice a' n' c'] h λv h'=>v = .bool (decide (xs=ys))/\h'=h:=by
 obtain⟨rfl,hn⟩:=Sl.len hx
 obtain⟨rfl,hn'⟩:=Sl.len hy
 refine O2 (args:=[.slice a xs.length c,.slice a' ys.length c']) (fn:=Tryz.f116) rfl ?_
 refine aI (λhc=>?_) (λhc=>?_)
 ·refine aI (congrArg Value.bool ?_) rfl
  have:xs.length≠ys.length:=by simp at hc;omega
  exact(decide_eq_false λe=>this (by rw[e])).symm
 have hlen:xs.length=ys.length:=by simp at hc;omega
 refine eX { vars:=[5],boxes:=[],owns:=[] } (eX (λvs _ h'=>∃ k:Nat,k<=xs.length/\xs.take k=ys.take k/\vs = [.int .i64 k]/\h'=h) (eX (λvs _=>match vs with | [.int _ j]=>((xs.length:Int)-j).toNat|_=>0) ?_))
 refine aI ⟨0,by omega,by simp,rfl,rfl⟩ ?_
 rintro _ h1 ⟨k,hk,hall,⟨⟩,rfl⟩
 refine aI (λaA=>?_) (λaA=>?_)
 ·have hlt:k<xs.length:=by simpa using aA
  obtain⟨x,gx⟩:=k0h hlt
  obtain⟨y,gy⟩:=k0h (l:=ys) (k:=k) (by omega)
  obtain⟨b1,aC,e1,i1⟩:=Sl.get hx gx (by decide)
  obtain⟨b2,aD,e2,i2⟩:=Sl.get hy gy (by decide)
  have hw:=Z1 hlt hn
  obtain⟨x0,x1,x2,rfl,rfl,g0,g1,g2⟩:=N1 i1
  obtain⟨x0y,x1y,x2y,rfl,rfl,g0y,g1y,g2y⟩:=N1 i2
  refine Or.inl (aI (aI (by kernel_rfl) (by kernel_rfl)) ?_)
  refine aI b1 (eX _ (aI e1 (aI b2 (eX _ (aI e2 ?_)))))
  refine eX (.bool _) (aI (V0p _ [.int .i64 x0,.int .i64 x1,.int .i64 x2] [.int .i64 x0y,.int .i64 x1y,.int .i64 x2y] (x0,x1,x2) (x0y,x1y,x2y) (L1 g0 g1 g2) (L1 g0y g1y g2y)) ?_)
  refine aI (λaB=>?_) (λaB=>?_)
  ·refine aI (congrArg Value.bool ?_) rfl
   have hne:(x0,x1,x2)≠(x0y,x1y,x2y):=E0l aB
   exact(decide_eq_false λe=>hne (oJ (gx.symm.trans ((congrArg (λl:K0=>l[k]?) e).trans gy)))).symm
  ·have heq:(x0,x1,x2)=(x0y,x1y,x2y):=M0i aB
   refine aI rfl (aI (by first|exact trivial|exact aI rfl trivial|exact aI rfl (aI rfl trivial)|exact aI rfl (aI rfl (aI rfl trivial))|exact aI rfl (aI rfl (aI rfl (aI rfl trivial)))) (aI (by first|exact trivial|exact aI rfl trivial|exact aI rfl (aI rfl trivial)|exact aI rfl (aI rfl (aI rfl trivial))|exact aI rfl (aI rfl (aI rfl (aI rfl trivial)))) (aI ?_ ?_)))
   ·refine⟨k+1,by omega,by rw[d0b gx,d0b gy,hall,heq],?_,rfl⟩
    rw[←hw]
   ·show((xs.length:Int)-IntKind.i64.wrap ((k:Int)+1)).toNat<((xs.length:Int)-(k:Int)).toNat
    omega
 ·have hk:k=xs.length:=by simp at aA;omega
  refine aI (congrArg Value.bool ?_) rfl
  refine(decide_eq_true ?_).symm
  subst hk
  rwa [List.take_length,hlen,List.take_length]at hall
theorem K0n(h:Hp)(cs ds:List Value)(x y:j0)(hx:Z0.R h cs x)(hy:Z0.R h ds y):
  Tr Tryz.prog 45 #[.agg cs.toArray,.agg ds.toArray] h λv h'=>v = .bool (decide (x=y))/\h'=h:=by
 obtain⟨x0,x1,a2,n2,c2,x2,rfl,rfl,h0,h1,h2⟩:=H0 hx
 obtain⟨x0y,x1y,a2y,n2y,c2y,x2y,rfl,rfl,h0y,h1y,h2y⟩:=H0 hy
 refine O2 (args:=[.agg #[.int .i64 x0,.int .i64 x1,.slice a2 n2 c2],.agg #[.int .i64 x0y,.int .i64 x1y,.slice a2y n2y c2y]]) (fn:=Tryz.f45) rfl ?_
 refine aI (λhc=>?_) (λhc=>?_)
 ·have ne:x0≠x0y:=by simpa using hc
  exact aI (congrArg Value.bool (decide_eq_false λe=>by cases e;exact ne rfl).symm) rfl
 have q0:x0=x0y:=by simpa using hc
 subst q0
 refine aI (λhc=>?_) (λhc=>?_)
 ·have ne:x1≠x1y:=by simpa using hc
  exact aI (congrArg Value.bool (decide_eq_false λe=>by cases e;exact ne rfl).symm) rfl
 have q1:x1=x1y:=by simpa using hc
 subst q1
 refine Tr.val (J0n h a2 n2 c2 a2y n2y c2y x2 x2y h2 h2y) ?_
 refine aI (λhc=>?_) (λhc=>?_)
 ·have ne:x2≠x2y:=E0l hc
  exact aI (congrArg Value.bool (decide_eq_false λe=>by cases e;exact ne rfl).symm) rfl
 have q2:x2=x2y:=M0i hc
 subst q2
 exact aI (congrArg Value.bool (decide_eq_true rfl).symm) rfl
theorem W0p(h:Hp)(cs:List Value)(x:M0)(hx:E1.R h cs x)(hl:U0q x<=1048576):
  Tr Tryz.prog 218 #[.agg cs.toArray] h λv h'=>∃ cs',v = .agg cs'.toArray/\New E1 h h' cs' x:=by
 obtain⟨x0,x1,x2,rfl,rfl,h0,h1,h2⟩:=N1 hx
 refine O2 (args:=[.agg #[.int .i64 x0,.int .i64 x1,.int .i64 x2]]) (fn:=Tryz.f218) rfl ?_
 exact eX _ (aI rfl (New.pair (New.int h0) (New.pair (New.int h1) (New.int h2))))
theorem L0n(h:Hp)(a:Option Addr)(n c:Nat)(xs:K0)(hx:O0.R h [.slice a n c] xs)(hl:C04 xs<=1048576):
  Tr Tryz.prog 110 #[.slice a n c] h λv h'=>New O0 h h' [v] xs:=by
 obtain⟨rfl,hn⟩:=Sl.len hx
 have aF:xs.length<=1048576:=by simp only[C04]at hl;omega
 refine O2 (args:=[.slice a xs.length c]) (fn:=Tryz.f110) rfl ?_
 refine aI ?_ ?_
 ·show 0<=(xs.length:Int)/\(xs.length:Int)<=xs.length/\(xs.length:Int)*24<=140737488355328/\(xs.length:Int)<=9223372036854775807
  omega
 refine eX { vars:=[4],boxes:=[],owns:=[0],kept:=[0] } (eX (λvs os h'=>∃(k:Nat) (L:List (List Value)) (Bs:List (List Nat)),k<=xs.length/\vs = [.int .i64 k]/\os = [F06 L xs.length [.int .i64 0,.int .i64 0,.int .i64 0]]/\L.length=k /\
  F3 (E1.W h') L (xs.take k) Bs/\Sub h h'/\K6 h Bs.flatten) (eX (λvs _=>match vs with | [.int _ j]=>((xs.length:Int)-j).toNat|_=>0) ?_))
 refine aI ⟨0,[],[],by omega,rfl,rfl,rfl,trivial,Sub.refl _,by simp[K6]⟩ ?_
 rintro _ _ h1 ⟨k,L,Bs,hk,⟨⟩,⟨⟩,hlk,hW,hsub,hfr⟩
 refine aI (λaA=>?_) (λaA=>?_)
 ·have hlt:k<xs.length:=by simpa using aA
  obtain⟨x,gx⟩:=k0h hlt
  obtain⟨b1,aG,e1,i1⟩:=Sl.get (Sl.mono hsub hx) gx (by decide)
  have hw:=Z1 hlt hn
  obtain⟨x0,x1,x2,rfl,rfl,g0,g1,g2⟩:=N1 i1
  refine aI b1 (eX _ (aI e1 ?_))
  refine Tr.mono (W0p h1 [.int .i64 x0,.int .i64 x1,.int .i64 x2] (x0,x1,x2) (L1 g0 g1 g2) (by simp only[U0q];omega)) ?_
  rintro v h2 ⟨aH,rfl,B,aB,aD,aC⟩
  obtain⟨x0z,x1z,x2z,rfl,ez,_,_,_⟩:=N1 (E1.toR aB)
  refine aI ?_ ?_
  ·show 0<=(k:Int)/\(k:Int)<((F06 L xs.length [.int .i64 0,.int .i64 0,.int .i64 0]).length:Nat)
   rw[j0h (by omega)];omega
  refine eX [.int .i64 0,.int .i64 0,.int .i64 0] (aI (Z0m hlk hlt) ?_)
  refine aI rfl (aI (by first|exact trivial|exact aI rfl trivial|exact aI rfl (aI rfl trivial)|exact aI rfl (aI rfl (aI rfl trivial))|exact aI rfl (aI rfl (aI rfl (aI rfl trivial)))) (aI (by first|exact trivial|exact aI rfl trivial|exact aI rfl (aI rfl trivial)|exact aI rfl (aI rfl (aI rfl trivial))|exact aI rfl (aI rfl (aI rfl (aI rfl trivial)))) (aI ?_ ?_)))
  ·refine⟨k+1,L ++ [[.int .i64 x0z,.int .i64 x1z,.int .i64 x2z]],Bs ++ [B],by omega,by rw[←hw],?_,by simp[hlk],?_,hsub.trans aC,?_⟩
   ·show [(F06 L xs.length [.int .i64 0,.int .i64 0,.int .i64 0]).set k [.int .i64 x0z,.int .i64 x1z,.int .i64 x2z]]=_
    rw[a0n hlk hlt]
   ·rw[d0b gx]
    exact F3.snoc aB (J0d hW aC)
   ·exact s0k hW hsub hfr aD
  ·show((xs.length:Int)-IntKind.i64.wrap ((k:Int)+1)).toNat<((xs.length:Int)-(k:Int)).toNat
   omega
 ·have hk:k=xs.length:=by simp at aA;omega
  intro v h' hf
  rw[b0n (by omega)]at hf
  rw[hk,List.take_length]at hW
  exact U0.fresh (r:=E1) hf hW hsub hfr
theorem Q0b(h:Hp)(cs:List Value)(x:j0)(hx:Z0.R h cs x)(hl:p05 x<=1048576):
  Tr Tryz.prog 43 #[.agg cs.toArray] h λv h'=>∃ cs',v = .agg cs'.toArray/\New Z0 h h' cs' x:=by
 obtain⟨x0,x1,a2,n2,c2,x2,rfl,rfl,h0,h1,h2⟩:=H0 hx
 simp only[p05]at hl
 refine O2 (args:=[.agg #[.int .i64 x0,.int .i64 x1,.slice a2 n2 c2]]) (fn:=Tryz.f43) rfl ?_
 refine Tr.mono (L0n h a2 n2 c2 x2 (Sl.mono (Sub.refl _) h2) (by omega)) ?_
 rintro v2 k2 N2
 obtain⟨a2z,n2z,c2z,aA⟩:=Wp.slice_cell N2.r
 cases aA
 exact eX _ (aI rfl (New.pair (New.int h0) (New.pair (New.int h1) N2)))
end Go.Proofs.YtkjhghloldgioaaGreat
