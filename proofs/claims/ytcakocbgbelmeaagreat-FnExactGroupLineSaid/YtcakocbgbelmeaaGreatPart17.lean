/- Texts of the claim, joined: The data types of the laws, as lists and tuples and others. -/
import Derived.Test.YtcakocbgbelmeaaGreatHE
import Derived.Test.YtcakocbgbelmeaaGreatChecked
namespace Go.Proofs.YtcakocbgbelmeaaGreat
open Go.H
set_option linter.unusedVariables false
set_option linter.unusedSimpArgs false
set_option maxRecDepth 10000
def z08:Nat→Nat→List UInt8→List UInt8
 |0,_,acc=>acc
 |f+1,n,acc=>if n=0 then acc else z08 f (n / 10) (UInt8.ofNat (48+n % 10)::acc)
theorem J0e:∀(f n:Nat) (acc:List UInt8),(z08 f n acc).length≤f+acc.length
 |0,n,acc=>by simp[z08]
 |f+1,n,acc=>by
  simp only[z08]
  split
  ·omega
  ·have:=J0e f (n / 10) (UInt8.ofNat (48+n % 10)::acc)
   simp only[List.length_cons]at this
   omega
abbrev K0:Type:=Int×Int×Int
abbrev C1:Wp K0:=Wp.pair Wp.int (Wp.pair Wp.int Wp.int)
instance W0r:DecidableEq K0:=(@instDecidableEqProd _ _ (inferInstance:DecidableEq Int) (@instDecidableEqProd _ _ (inferInstance:DecidableEq Int) (inferInstance:DecidableEq Int)))
theorem M1 {h:Hp} {cs:List Value} {x:K0} (hx:C1.R h cs x):∃(x0:Int) (x1:Int) (x2:Int),cs = [.int .i64 x0,.int .i64 x1,.int .i64 x2]∧x=(x0,x1,x2)∧H0 x0∧H0 x1∧H0 x2:=by
 obtain⟨x0,x1,x2⟩:=x
 obtain⟨_,_,rfl,⟨rfl,h0⟩,⟨_,_,rfl,⟨rfl,h1⟩,⟨rfl,h2⟩⟩⟩:=hx
 exact⟨x0,x1,x2,rfl,rfl,h0,h1,h2⟩
theorem G1 {h:Hp} {x0:Int} {x1:Int} {x2:Int} (h0:H0 x0) (h1:H0 x1) (h2:H0 x2):C1.R h [.int .i64 x0,.int .i64 x1,.int .i64 x2] (x0,x1,x2) :=
 ⟨[.int .i64 x0],[.int .i64 x1,.int .i64 x2],rfl,⟨rfl,h0⟩,⟨[.int .i64 x1],[.int .i64 x2],rfl,⟨rfl,h1⟩,⟨rfl,h2⟩⟩⟩
theorem V0k {h:Hp} {x0:Int} {x1:Int} {x2:Int} (h0:H0 x0) (h1:H0 x1) (h2:H0 x2):C1.W h [.int .i64 x0,.int .i64 x1,.int .i64 x2] (x0,x1,x2) ([]++([] ++ [])) :=
 ⟨[.int .i64 x0],[.int .i64 x1,.int .i64 x2],[],([] ++ []),rfl,rfl,⟨⟨rfl,h0⟩,rfl⟩,⟨[.int .i64 x1],[.int .i64 x2],[],[],rfl,rfl,⟨⟨rfl,h1⟩,rfl⟩,⟨⟨rfl,h2⟩,rfl⟩⟩⟩
abbrev T0:Type:=List K0
abbrev S0:Wp T0:=Wp.slice C1
instance f0r:DecidableEq T0:=inferInstanceAs (DecidableEq (List K0))
abbrev l0:Type:=Int×Int×T0
abbrev K1:Wp l0:=Wp.pair Wp.int (Wp.pair Wp.int S0)
instance Q0r:DecidableEq l0:=(@instDecidableEqProd _ _ (inferInstance:DecidableEq Int) (@instDecidableEqProd _ _ (inferInstance:DecidableEq Int) f0r))
theorem F0 {h:Hp} {cs:List Value} {x:l0} (hx:K1.R h cs x):∃(x0:Int) (x1:Int) (a2:Option Addr) (n2 c2:Nat) (x2:T0),cs = [.int .i64 x0,.int .i64 x1,.slice a2 n2 c2]∧x=(x0,x1,x2)∧H0 x0∧H0 x1∧S0.R h [.slice a2 n2 c2] x2:=by
 obtain⟨x0,x1,x2⟩:=x
 obtain⟨_,_,rfl,⟨rfl,h0⟩,⟨_,_,rfl,⟨rfl,h1⟩,h2⟩⟩:=hx
 obtain⟨a2,n2,c2,rfl⟩:=Wp.slice_cell h2
 exact⟨x0,x1,a2,n2,c2,x2,rfl,rfl,h0,h1,h2⟩
theorem z0 {h:Hp} {x0:Int} {x1:Int} {a2:Option Addr} {n2 c2:Nat} {x2:T0} (h0:H0 x0) (h1:H0 x1) (h2:S0.R h [.slice a2 n2 c2] x2):K1.R h [.int .i64 x0,.int .i64 x1,.slice a2 n2 c2] (x0,x1,x2) :=
 ⟨[.int .i64 x0],[.int .i64 x1,.slice a2 n2 c2],rfl,⟨rfl,h0⟩,⟨[.int .i64 x1],[.slice a2 n2 c2],rfl,⟨rfl,h1⟩,h2⟩⟩
abbrev Y4:Type:=Int×Int
abbrev W4:Wp Y4:=Wp.pair Wp.int Wp.int
instance X0r:DecidableEq Y4:=(@instDecidableEqProd _ _ (inferInstance:DecidableEq Int) (inferInstance:DecidableEq Int))
theorem E02 {h:Hp} {cs:List Value} {x:Y4} (hx:W4.R h cs x):∃(x0:Int) (x1:Int),cs = [.int .i64 x0,.int .i64 x1]∧x=(x0,x1)∧H0 x0∧H0 x1:=by
 obtain⟨x0,x1⟩:=x
 obtain⟨_,_,rfl,⟨rfl,h0⟩,⟨rfl,h1⟩⟩:=hx
 exact⟨x0,x1,rfl,rfl,h0,h1⟩
theorem M2 {h:Hp} {x0:Int} {x1:Int} (h0:H0 x0) (h1:H0 x1):W4.R h [.int .i64 x0,.int .i64 x1] (x0,x1) :=
 ⟨[.int .i64 x0],[.int .i64 x1],rfl,⟨rfl,h0⟩,⟨rfl,h1⟩⟩
abbrev D0:Type:=List Int
abbrev J0:Wp D0:=Wp.slice Wp.int
instance Y0r:DecidableEq D0:=inferInstanceAs (DecidableEq (List Int))
def R02 (x:D0):Nat:=x.length
abbrev J1:Type:=List D0
abbrev T1:Wp J1:=Wp.slice J0
instance g0r:DecidableEq J1:=inferInstanceAs (DecidableEq (List D0))
def e03 (x:J1):Nat:=x.length+Z03 R02 x
abbrev B0:Type:=Int×J1
abbrev E1:Wp B0:=Wp.pair Wp.int T1
instance x0p:DecidableEq B0:=(@instDecidableEqProd _ _ (inferInstance:DecidableEq Int) g0r)
def J8 (x:B0):Nat:=e03 x.2
theorem D1 {h:Hp} {cs:List Value} {x:B0} (hx:E1.R h cs x):∃(x0:Int) (a1:Option Addr) (n1 c1:Nat) (x1:J1),cs = [.int .i64 x0,.slice a1 n1 c1]∧x=(x0,x1)∧H0 x0∧T1.R h [.slice a1 n1 c1] x1:=by
 obtain⟨x0,x1⟩:=x
 obtain⟨_,_,rfl,⟨rfl,h0⟩,h1⟩:=hx
 obtain⟨a1,n1,c1,rfl⟩:=Wp.slice_cell h1
 exact⟨x0,a1,n1,c1,x1,rfl,rfl,h0,h1⟩
theorem O0 {h:Hp} {x0:Int} {a1:Option Addr} {n1 c1:Nat} {x1:J1} (h0:H0 x0) (h1:T1.R h [.slice a1 n1 c1] x1):E1.R h [.int .i64 x0,.slice a1 n1 c1] (x0,x1) :=
 ⟨[.int .i64 x0],[.slice a1 n1 c1],rfl,⟨rfl,h0⟩,h1⟩
abbrev P8:Type:=List Y4
abbrev P0h:Wp P8:=Wp.slice W4
instance R0r:DecidableEq P8:=inferInstanceAs (DecidableEq (List Y4))
theorem W0k (h:Hp):∃ cs,C1.R h cs (0,0,0):=⟨_,G1 (by decide) (by decide) (by decide)⟩
theorem u0p (h:Hp) (a:Option Addr) (n c:Nat) (xs:D0) (left:Int) (hx:J0.R h [.slice a n c] xs) (hl:0≤left∧left≤1048576) :
  Tr Tryz.prog 56 #[.slice a n c,.int .i64 left] h fun v h'=>v = .int .i64 (szR left (R02 xs))∧h'=h:=by
 obtain⟨rfl,hn⟩:=Sl.len hx
 have hw:IntKind.i64.wrap (left-(xs.length:Int))=left-xs.length:=w64 (by omega) (by omega)
 refine C2 (args:=[.slice a xs.length c,.int .i64 left]) (fn:=Tryz.f56) rfl ?_
 refine aI (fun hc=>?_) (fun hc=>?_)
 ·refine aI ?_ rfl
  simp[hw]at hc
  rw[R02,y0o (by omega)]
  rfl
 ·refine aI ?_ rfl
  simp[hw]at hc
  rw[R02,z0o (by omega)]
  exact congrArg (Value.int .i64) hw
theorem H0n (h:Hp) (a:Option Addr) (n c:Nat) (xs:J1) (left:Int) (hx:T1.R h [.slice a n c] xs) (hl:0≤left∧left≤1048576) :
  Tr Tryz.prog 24 #[.slice a n c,.int .i64 left] h fun v h'=>v = .int .i64 (szR left (e03 xs))∧h'=h:=by
 obtain⟨rfl,hn⟩:=Sl.len hx
 have hw:IntKind.i64.wrap (left-(xs.length:Int))=left-xs.length:=w64 (by omega) (by omega)
 refine C2 (args:=[.slice a xs.length c,.int .i64 left]) (fn:=Tryz.f24) rfl ?_
 refine aI (fun hc=>?_) (fun hc=>?_)
 ·refine aI ?_ rfl
  simp[hw]at hc
  rw[e03,y0o (by omega)]
  rfl
 simp[hw]at hc
 refine eX { vars:=[1,5],boxes:=[],owns:=[] } (eX (fun vs _ h'=>∃ k:Nat,k≤xs.length∧0≤szR left ((xs.length+Z03 R02 (xs.take k):Nat):Int)∧vs = [.int .i64 (szR left ((xs.length+Z03 R02 (xs.take k):Nat):Int)),.int .i64 k]∧h'=h) (eX (fun vs _=>match vs with | [_,.int _ j]=>((xs.length:Int)-j).toNat|_=>0) ?_))
 have h0:szR left ((xs.length+Z03 R02 (xs.take 0):Nat):Int)=left-xs.length:=by rw[z0o (by simp[Z03];omega)];simp[Z03]
 refine aI ⟨0,by omega,by omega,by rw[h0];exact congrArg (fun x=>[Value.int .i64 x,Value.int .i64 0]) hw,rfl⟩ ?_
 rintro _ _ h1 ⟨k,hk,hpos,⟨⟩,rfl⟩
 obtain⟨q1,q2⟩:=U0k hpos
 refine aI (fun hc2=>?_) (fun hc2=>?_)
 ·have hlt:k<xs.length:=by simpa using hc2
  obtain⟨x,hgx⟩:=y06 hlt
  obtain⟨b1,cs1,e1,i1⟩:=Sl.get hx hgx (by decide)
  have hw2:=L1 hlt hn
  obtain⟨a1,n1,c1,rfl⟩:=Wp.slice_cell i1
  refine aI b1 (eX _ (aI e1 ?_))
  refine Tr.val (u0p _ a1 n1 c1 x _ i1 ⟨by omega,by omega⟩) ?_
  have hstep:szR (szR left ((xs.length+Z03 R02 (xs.take k):Nat):Int)) (R02 x:Nat)=szR left ((xs.length+Z03 R02 (xs.take (k+1)):Nat):Int):=by
   rw[T0p hpos (by omega) (by omega),p0n hgx]
   congr 1
   omega
  refine aI (fun hc3=>?_) (fun hc3=>?_)
  ·refine aI ?_ rfl
   rw[hstep]at hc3
   have hneg2:szR left ((xs.length+Z03 R02 (xs.take (k+1)):Nat):Int)<0:=by simpa using hc3
   have:=q0n R02 xs (k+1)
   rw[e03,k0j hneg2 hl.1 (by omega)]
   rfl
  ·rw[hstep]at hc3
   have hpos2:0≤szR left ((xs.length+Z03 R02 (xs.take (k+1)):Nat):Int):=by simpa using hc3
   refine aI rfl (aI (by first|exact trivial|exact aI rfl trivial|exact aI rfl (aI rfl trivial)|exact aI rfl (aI rfl (aI rfl trivial))|exact aI rfl (aI rfl (aI rfl (aI rfl trivial)))) (aI (by first|exact trivial|exact aI rfl trivial|exact aI rfl (aI rfl trivial)|exact aI rfl (aI rfl (aI rfl trivial))|exact aI rfl (aI rfl (aI rfl (aI rfl trivial)))) (aI ?_ ?_)))
   ·refine⟨k+1,by omega,hpos2,?_,rfl⟩
    rw[←hw2,←hstep]
   ·show((xs.length:Int)-IntKind.i64.wrap ((k:Int)+1)).toNat<((xs.length:Int)-(k:Int)).toNat
    omega
 ·have hk:k=xs.length:=by simp at hc2;omega
  subst hk
  refine aI ?_ rfl
  rw[List.take_length]
  rfl
theorem L0c (h:Hp) (cs:List Value) (x:B0) (left:Int) (hx:E1.R h cs x) (hl:0≤left∧left≤1048576) :
  Tr Tryz.prog 9 #[.agg cs.toArray,.int .i64 left] h fun v h'=>v = .int .i64 (szR left (J8 x))∧h'=h:=by
 obtain⟨x0,a1,n1,c1,x1,rfl,rfl,h0,h1⟩:=D1 hx
 refine C2 (args:=[.agg #[.int .i64 x0,.slice a1 n1 c1],.int .i64 left]) (fn:=Tryz.f9) rfl ?_
 refine Tr.val (H0n h a1 n1 c1 x1 (left) h1 hl) ?_
 refine aI (fun hc=>?_) (fun hc=>?_)
 ·refine aI ?_ rfl
  rw[J8,k0j (left:=left) (a:=((e03 x1:Nat):Int)) (by simpa using hc) hl.1 (by simp only[];omega)]
  rfl
 have q0:0≤szR left ((e03 x1:Nat):Int):=by simpa using hc
 have hl0:0≤szR left ((e03 x1:Nat):Int)∧szR left ((e03 x1:Nat):Int)≤1048576:=by
  have:=U0k q0
  omega
 exact aI rfl rfl
theorem v0p (h:Hp) (a:Option Addr) (n c:Nat) (a':Option Addr) (n' c':Nat) (xs ys:D0) (hx:J0.R h [.slice a n c] xs) (hy:J0.R h [.slice a' n' c'] ys) :
  Tr Tryz.prog 30 #[.slice a n c,.slice a' n' c'] h fun v h'=>v = .bool (decide (xs=ys))∧h'=h:=by
 obtain⟨rfl,hn⟩:=Sl.len hx
 obtain⟨rfl,hn'⟩:=Sl.len hy
 refine C2 (args:=[.slice a xs.length c,.slice a' ys.length c']) (fn:=Tryz.f30) rfl ?_
 refine aI (fun hc=>?_) (fun hc=>?_)
 ·refine aI (congrArg Value.bool ?_) rfl
  have:xs.length≠ys.length:=by simp at hc;omega
  exact(decide_eq_false fun e=>this (by rw[e])).symm
 have hlen:xs.length=ys.length:=by simp at hc;omega
 refine eX { vars:=[5],boxes:=[],owns:=[] } (eX (fun vs _ h'=>∃ k:Nat,k≤xs.length∧xs.take k=ys.take k∧vs = [.int .i64 k]∧h'=h) (eX (fun vs _=>match vs with | [.int _ j]=>((xs.length:Int)-j).toNat|_=>0) ?_))
 refine aI ⟨0,by omega,by simp,rfl,rfl⟩ ?_
 rintro _ h1 ⟨k,hk,hall,⟨⟩,rfl⟩
 refine aI (fun hc2=>?_) (fun hc2=>?_)
 ·have hlt:k<xs.length:=by simpa using hc2
  obtain⟨x,gx⟩:=y06 hlt
  obtain⟨y,gy⟩:=y06 (l:=ys) (k:=k) (by omega)
  obtain⟨b1,cs1,e1,i1⟩:=Sl.get hx gx (by decide)
  obtain⟨b2,cs2,e2,i2⟩:=Sl.get hy gy (by decide)
  have hw:=L1 hlt hn
  obtain⟨rfl,_⟩:=i1
  obtain⟨rfl,_⟩:=i2
  refine Or.inl (aI (aI (by kernel_rfl) (by kernel_rfl)) ?_)
  refine aI b1 (eX _ (aI e1 (aI b2 (eX _ (aI e2 ?_)))))
  refine aI (fun hc3=>?_) (fun hc3=>?_)
  ·refine aI (congrArg Value.bool ?_) rfl
   have hne:x≠y:=by simpa using hc3
   exact(decide_eq_false fun e=>hne (oJ (gx.symm.trans ((congrArg (fun l:D0=>l[k]?) e).trans gy)))).symm
  ·have heq:x=y:=by simpa using hc3
   refine aI rfl (aI (by first|exact trivial|exact aI rfl trivial|exact aI rfl (aI rfl trivial)|exact aI rfl (aI rfl (aI rfl trivial))|exact aI rfl (aI rfl (aI rfl (aI rfl trivial)))) (aI (by first|exact trivial|exact aI rfl trivial|exact aI rfl (aI rfl trivial)|exact aI rfl (aI rfl (aI rfl trivial))|exact aI rfl (aI rfl (aI rfl (aI rfl trivial)))) (aI ?_ ?_)))
   ·refine⟨k+1,by omega,by rw[c03 gx,c03 gy,hall,heq],?_,rfl⟩
    rw[←hw]
   ·show((xs.length:Int)-IntKind.i64.wrap ((k:Int)+1)).toNat<((xs.length:Int)-(k:Int)).toNat
    omega
 ·have hk:k=xs.length:=by simp at hc2;omega
  refine aI (congrArg Value.bool ?_) rfl
  refine(decide_eq_true ?_).symm
  subst hk
  rwa [List.take_length,hlen,List.take_length]at hall
theorem I0n (h:Hp) (a:Option Addr) (n c:Nat) (a':Option Addr) (n' c':Nat) (xs ys:J1) (hx:T1.R h [.slice a n c] xs) (hy:T1.R h [.slice a' n' c'] ys) :
  Tr Tryz.prog 29 #[.slice a n c,.slice a' n' c'] h fun v h'=>v = .bool (decide (xs=ys))∧h'=h:=by
 obtain⟨rfl,hn⟩:=Sl.len hx
 obtain⟨rfl,hn'⟩:=Sl.len hy
 refine C2 (args:=[.slice a xs.length c,.slice a' ys.length c']) (fn:=Tryz.f29) rfl ?_
 refine aI (fun hc=>?_) (fun hc=>?_)
 ·refine aI (congrArg Value.bool ?_) rfl
  have:xs.length≠ys.length:=by simp at hc;omega
  exact(decide_eq_false fun e=>this (by rw[e])).symm
 have hlen:xs.length=ys.length:=by simp at hc;omega
 refine eX { vars:=[5],boxes:=[],owns:=[] } (eX (fun vs _ h'=>∃ k:Nat,k≤xs.length∧xs.take k=ys.take k∧vs = [.int .i64 k]∧h'=h) (eX (fun vs _=>match vs with | [.int _ j]=>((xs.length:Int)-j).toNat|_=>0) ?_))
 refine aI ⟨0,by omega,by simp,rfl,rfl⟩ ?_
 rintro _ h1 ⟨k,hk,hall,⟨⟩,rfl⟩
 refine aI (fun hc2=>?_) (fun hc2=>?_)
 ·have hlt:k<xs.length:=by simpa using hc2
  obtain⟨x,gx⟩:=y06 hlt
  obtain⟨y,gy⟩:=y06 (l:=ys) (k:=k) (by omega)
  obtain⟨b1,cs1,e1,i1⟩:=Sl.get hx gx (by decide)
  obtain⟨b2,cs2,e2,i2⟩:=Sl.get hy gy (by decide)
  have hw:=L1 hlt hn
  obtain⟨a1,n1,c1,rfl⟩:=Wp.slice_cell i1
  obtain⟨a2,n2,c2,rfl⟩:=Wp.slice_cell i2
  refine Or.inl (aI (aI (by kernel_rfl) (by kernel_rfl)) ?_)
  refine aI b1 (eX _ (aI e1 (aI b2 (eX _ (aI e2 ?_)))))
  refine eX (.bool _) (aI (v0p _ _ _ _ _ _ _ x y i1 i2) ?_)
  refine aI (fun hc3=>?_) (fun hc3=>?_)
  ·refine aI (congrArg Value.bool ?_) rfl
   have hne:x≠y:=b0m hc3
   exact(decide_eq_false fun e=>hne (oJ (gx.symm.trans ((congrArg (fun l:J1=>l[k]?) e).trans gy)))).symm
  ·have heq:x=y:=l0j hc3
   refine aI rfl (aI (by first|exact trivial|exact aI rfl trivial|exact aI rfl (aI rfl trivial)|exact aI rfl (aI rfl (aI rfl trivial))|exact aI rfl (aI rfl (aI rfl (aI rfl trivial)))) (aI (by first|exact trivial|exact aI rfl trivial|exact aI rfl (aI rfl trivial)|exact aI rfl (aI rfl (aI rfl trivial))|exact aI rfl (aI rfl (aI rfl (aI rfl trivial)))) (aI ?_ ?_)))
   ·refine⟨k+1,by omega,by rw[c03 gx,c03 gy,hall,heq],?_,rfl⟩
    rw[←hw]
   ·show((xs.length:Int)-IntKind.i64.wrap ((k:Int)+1)).toNat<((xs.length:Int)-(k:Int)).toNat
    omega
 ·have hk:k=xs.length:=by simp at hc2;omega
  refine aI (congrArg Value.bool ?_) rfl
  refine(decide_eq_true ?_).symm
  subst hk
  rwa [List.take_length,hlen,List.take_length]at hall
theorem M0c (h:Hp) (cs ds:List Value) (x y:B0) (hx:E1.R h cs x) (hy:E1.R h ds y) :
  Tr Tryz.prog 13 #[.agg cs.toArray,.agg ds.toArray] h fun v h'=>v = .bool (decide (x=y))∧h'=h:=by
 obtain⟨x0,a1,n1,c1,x1,rfl,rfl,h0,h1⟩:=D1 hx
 obtain⟨x0y,a1y,n1y,c1y,x1y,rfl,rfl,h0y,h1y⟩:=D1 hy
 refine C2 (args:=[.agg #[.int .i64 x0,.slice a1 n1 c1],.agg #[.int .i64 x0y,.slice a1y n1y c1y]]) (fn:=Tryz.f13) rfl ?_
 refine aI (fun hc=>?_) (fun hc=>?_)
 ·have ne:x0≠x0y:=by simpa using hc
  exact aI (congrArg Value.bool (decide_eq_false fun e=>by cases e;exact ne rfl).symm) rfl
 have q0:x0=x0y:=by simpa using hc
 subst q0
 refine Tr.val (I0n h a1 n1 c1 a1y n1y c1y x1 x1y h1 h1y) ?_
 refine aI (fun hc=>?_) (fun hc=>?_)
 ·have ne:x1≠x1y:=b0m hc
  exact aI (congrArg Value.bool (decide_eq_false fun e=>by cases e;exact ne rfl).symm) rfl
 have q1:x1=x1y:=l0j hc
 subst q1
 exact aI (congrArg Value.bool (decide_eq_true rfl).symm) rfl
theorem w0p (h:Hp) (a:Option Addr) (n c:Nat) (xs:D0) (hx:J0.R h [.slice a n c] xs) (hl:R02 xs≤1048576) :
  Tr Tryz.prog 27 #[.slice a n c] h fun v h'=>New J0 h h' [v] xs:=by
 obtain⟨rfl,hn⟩:=Sl.len hx
 have hl0:xs.length≤1048576:=by simp only[R02]at hl;omega
 refine C2 (args:=[.slice a xs.length c]) (fn:=Tryz.f27) rfl ?_
 refine aI ?_ ?_
 ·show 0≤(xs.length:Int)∧(xs.length:Int)≤xs.length∧(xs.length:Int)*8≤140737488355328∧(xs.length:Int)≤9223372036854775807
  omega
 refine eX { vars:=[4],boxes:=[],owns:=[0],kept:=[0] } (eX (fun vs os h'=>∃(k:Nat) (L:List (List Value)) (Bs:List (List Nat)),k≤xs.length∧vs = [.int .i64 k]∧os = [v04 L xs.length [.int .i64 0]]∧L.length=k ∧
  F3 (Wp.int.W h') L (xs.take k) Bs∧Sub h h'∧d6 h Bs.flatten) (eX (fun vs _=>match vs with | [.int _ j]=>((xs.length:Int)-j).toNat|_=>0) ?_))
 refine aI ⟨0,[],[],by omega,rfl,rfl,rfl,trivial,Sub.refl _,by simp[d6]⟩ ?_
 rintro _ _ h1 ⟨k,L,Bs,hk,⟨⟩,⟨⟩,hlk,hW,hsub,hfr⟩
 refine aI (fun hc2=>?_) (fun hc2=>?_)
 ·have hlt:k<xs.length:=by simpa using hc2
  obtain⟨x,gx⟩:=y06 hlt
  obtain⟨b1,cs1,e1,i1⟩:=Sl.get (Sl.mono hsub hx) gx (by decide)
  have hw:=L1 hlt hn
  obtain⟨rfl,g1⟩:=i1
  refine aI b1 (eX _ (aI e1 ?_))
  obtain⟨B,hB1,hB2,hB3⟩:=New.int (h:=h1) g1
  refine aI ?_ ?_
  ·show 0≤(k:Int)∧(k:Int)<((v04 L xs.length [.int .i64 0]).length:Nat)
   rw[v0a (by omega)];omega
  refine eX [.int .i64 0] (aI (D0g hlk hlt) ?_)
  refine aI rfl (aI (by first|exact trivial|exact aI rfl trivial|exact aI rfl (aI rfl trivial)|exact aI rfl (aI rfl (aI rfl trivial))|exact aI rfl (aI rfl (aI rfl (aI rfl trivial)))) (aI (by first|exact trivial|exact aI rfl trivial|exact aI rfl (aI rfl trivial)|exact aI rfl (aI rfl (aI rfl trivial))|exact aI rfl (aI rfl (aI rfl (aI rfl trivial)))) (aI ?_ ?_)))
  ·refine⟨k+1,L ++ [[.int .i64 x]],Bs ++ [B],by omega,by rw[←hw],?_,by simp[hlk],?_,hsub.trans hB3,?_⟩
   ·show [(v04 L xs.length [.int .i64 0]).set k [.int .i64 x]]=_
    rw[E0g hlk hlt]
   ·rw[c03 gx]
    exact F3.snoc hB1 (F0e hW hB3)
   ·exact r09 hW hsub hfr hB2
  ·show((xs.length:Int)-IntKind.i64.wrap ((k:Int)+1)).toNat<((xs.length:Int)-(k:Int)).toNat
   omega
 ·have hk:k=xs.length:=by simp at hc2;omega
  intro v h' hf
  rw[F0g (by omega)]at hf
  rw[hk,List.take_length]at hW
  exact j1.fresh (r:=Wp.int) hf hW hsub hfr
theorem J0n (h:Hp) (a:Option Addr) (n c:Nat) (xs:J1) (hx:T1.R h [.slice a n c] xs) (hl:e03 xs≤1048576) :
  Tr Tryz.prog 26 #[.slice a n c] h fun v h'=>New T1 h h' [v] xs:=by
 obtain⟨rfl,hn⟩:=Sl.len hx
 have hl0:xs.length≤1048576:=by simp only[e03]at hl;omega
 refine C2 (args:=[.slice a xs.length c]) (fn:=Tryz.f26) rfl ?_
 refine aI ?_ ?_
 ·show 0≤(xs.length:Int)∧(xs.length:Int)≤xs.length∧(xs.length:Int)*24≤140737488355328∧(xs.length:Int)≤9223372036854775807
  omega
 refine eX { vars:=[4],boxes:=[],owns:=[0],kept:=[0] } (eX (fun vs os h'=>∃(k:Nat) (L:List (List Value)) (Bs:List (List Nat)),k≤xs.length∧vs = [.int .i64 k]∧os = [v04 L xs.length [.slice none 0 0]]∧L.length=k ∧
  F3 (J0.W h') L (xs.take k) Bs∧Sub h h'∧d6 h Bs.flatten) (eX (fun vs _=>match vs with | [.int _ j]=>((xs.length:Int)-j).toNat|_=>0) ?_))
 refine aI ⟨0,[],[],by omega,rfl,rfl,rfl,trivial,Sub.refl _,by simp[d6]⟩ ?_
 rintro _ _ h1 ⟨k,L,Bs,hk,⟨⟩,⟨⟩,hlk,hW,hsub,hfr⟩
 refine aI (fun hc2=>?_) (fun hc2=>?_)
 ·have hlt:k<xs.length:=by simpa using hc2
  obtain⟨x,gx⟩:=y06 hlt
  obtain⟨b1,cs1,e1,i1⟩:=Sl.get (Sl.mono hsub hx) gx (by decide)
  have hw:=L1 hlt hn
  obtain⟨a1,n1,c1,rfl⟩:=Wp.slice_cell i1
  refine aI b1 (eX _ (aI e1 ?_))
  refine Tr.mono (w0p h1 _ _ _ x i1 (by have:=A0o (m:=R02) gx;simp only[e03]at hl;omega)) ?_
  rintro v h2 ⟨B,hB1,hB2,hB3⟩
  obtain⟨a2,n2,c2,e2⟩:=Wp.slice_cell (J0.toR hB1)
  cases e2
  refine aI ?_ ?_
  ·show 0≤(k:Int)∧(k:Int)<((v04 L xs.length [.slice none 0 0]).length:Nat)
   rw[v0a (by omega)];omega
  refine eX [.slice none 0 0] (aI (D0g hlk hlt) ?_)
  refine aI rfl (aI (by first|exact trivial|exact aI rfl trivial|exact aI rfl (aI rfl trivial)|exact aI rfl (aI rfl (aI rfl trivial))|exact aI rfl (aI rfl (aI rfl (aI rfl trivial)))) (aI (by first|exact trivial|exact aI rfl trivial|exact aI rfl (aI rfl trivial)|exact aI rfl (aI rfl (aI rfl trivial))|exact aI rfl (aI rfl (aI rfl (aI rfl trivial)))) (aI ?_ ?_)))
  ·refine⟨k+1,L ++ [[.slice a2 n2 c2]],Bs ++ [B],by omega,by rw[←hw],?_,by simp[hlk],?_,hsub.trans hB3,?_⟩
   ·show [(v04 L xs.length [.slice none 0 0]).set k [.slice a2 n2 c2]]=_
    rw[E0g hlk hlt]
   ·rw[c03 gx]
    exact F3.snoc hB1 (F0e hW hB3)
   ·exact r09 hW hsub hfr hB2
  ·show((xs.length:Int)-IntKind.i64.wrap ((k:Int)+1)).toNat<((xs.length:Int)-(k:Int)).toNat
   omega
 ·have hk:k=xs.length:=by simp at hc2;omega
  intro v h' hf
  rw[F0g (by omega)]at hf
  rw[hk,List.take_length]at hW
  exact j1.fresh (r:=J0) hf hW hsub hfr
theorem j03 (h:Hp) (cs:List Value) (x:B0) (hx:E1.R h cs x) (hl:J8 x≤1048576) :
  Tr Tryz.prog 11 #[.agg cs.toArray] h fun v h'=>∃ cs',v = .agg cs'.toArray∧New E1 h h' cs' x:=by
 obtain⟨x0,a1,n1,c1,x1,rfl,rfl,h0,h1⟩:=D1 hx
 simp only[J8]at hl
 refine C2 (args:=[.agg #[.int .i64 x0,.slice a1 n1 c1]]) (fn:=Tryz.f11) rfl ?_
 refine Tr.mono (J0n h a1 n1 c1 x1 (Sl.mono (Sub.refl _) h1) (by omega)) ?_
 rintro v1 k1 N1
 obtain⟨a1z,n1z,c1z,ez1⟩:=Wp.slice_cell N1.r
 cases ez1
 exact eX _ (aI rfl (New.pair (New.int h0) N1))
end Go.Proofs.YtcakocbgbelmeaaGreat
