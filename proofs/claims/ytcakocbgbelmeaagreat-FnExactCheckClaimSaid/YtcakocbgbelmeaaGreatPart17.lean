/- Texts of the claim, joined: The data types of the laws, as lists and tuples and others. -/
import Derived.Test.YtcakocbgbelmeaaGreatHE
import Derived.Test.YtcakocbgbelmeaaGreatChecked
namespace Go.Proofs.YtcakocbgbelmeaaGreat
open Go.H
set_option linter.unusedVariables false
set_option linter.unusedSimpArgs false
set_option maxRecDepth 10000
abbrev H0:Type:=Int×Int×Int
abbrev P0:Wp H0:=Wp.pair Wp.int (Wp.pair Wp.int Wp.int)
instance y0r:DecidableEq H0:=(@instDecidableEqProd _ _ (inferInstance:DecidableEq Int) (@instDecidableEqProd _ _ (inferInstance:DecidableEq Int) (inferInstance:DecidableEq Int)))
def e0q(x:H0):Nat:=0
theorem I1{h:Hp}{cs:List Value}{x:H0}(hx:P0.R h cs x):∃(x0:Int) (x1:Int) (x2:Int),cs = [.int .i64 x0,.int .i64 x1,.int .i64 x2]∧x=(x0,x1,x2)∧M0 x0∧M0 x1∧M0 x2:=by
 obtain⟨x0,x1,x2⟩:=x
 obtain⟨_,_,rfl,⟨rfl,h0⟩,⟨_,_,rfl,⟨rfl,h1⟩,⟨rfl,h2⟩⟩⟩:=hx
 exact⟨x0,x1,x2,rfl,rfl,h0,h1,h2⟩
theorem D1{h:Hp}{x0:Int}{x1:Int}{x2:Int}(h0:M0 x0)(h1:M0 x1)(h2:M0 x2):P0.R h [.int .i64 x0,.int .i64 x1,.int .i64 x2] (x0,x1,x2) :=
 ⟨[.int .i64 x0],[.int .i64 x1,.int .i64 x2],rfl,⟨rfl,h0⟩,⟨[.int .i64 x1],[.int .i64 x2],rfl,⟨rfl,h1⟩,⟨rfl,h2⟩⟩⟩
theorem x0k{h:Hp}{x0:Int}{x1:Int}{x2:Int}(h0:M0 x0)(h1:M0 x1)(h2:M0 x2):P0.W h [.int .i64 x0,.int .i64 x1,.int .i64 x2] (x0,x1,x2) ([]++([] ++ [])) :=
 ⟨[.int .i64 x0],[.int .i64 x1,.int .i64 x2],[],([] ++ []),rfl,rfl,⟨⟨rfl,h0⟩,rfl⟩,⟨[.int .i64 x1],[.int .i64 x2],[],[],rfl,rfl,⟨⟨rfl,h1⟩,rfl⟩,⟨⟨rfl,h2⟩,rfl⟩⟩⟩
abbrev I0:Type:=List H0
abbrev F0:Wp I0:=Wp.slice P0
instance G0q:DecidableEq I0:=inferInstanceAs (DecidableEq (List H0))
def A05(x:I0):Nat:=x.length
abbrev j0:Type:=Int×Int×I0
abbrev W0:Wp j0:=Wp.pair Wp.int (Wp.pair Wp.int F0)
instance H0q:DecidableEq j0:=(@instDecidableEqProd _ _ (inferInstance:DecidableEq Int) (@instDecidableEqProd _ _ (inferInstance:DecidableEq Int) G0q))
def Z03(x:j0):Nat:=A05 x.2.2
theorem B0{h:Hp}{cs:List Value}{x:j0}(hx:W0.R h cs x):∃(x0:Int) (x1:Int) (a2:Option Addr) (n2 c2:Nat) (x2:I0),cs = [.int .i64 x0,.int .i64 x1,.slice a2 n2 c2]∧x=(x0,x1,x2)∧M0 x0∧M0 x1∧F0.R h [.slice a2 n2 c2] x2:=by
 obtain⟨x0,x1,x2⟩:=x
 obtain⟨_,_,rfl,⟨rfl,h0⟩,⟨_,_,rfl,⟨rfl,h1⟩,h2⟩⟩:=hx
 obtain⟨a2,n2,c2,rfl⟩:=Wp.slice_cell h2
 exact⟨x0,x1,a2,n2,c2,x2,rfl,rfl,h0,h1,h2⟩
theorem z0{h:Hp}{x0:Int}{x1:Int}{a2:Option Addr}{n2 c2:Nat}{x2:I0}(h0:M0 x0)(h1:M0 x1)(h2:F0.R h [.slice a2 n2 c2] x2):W0.R h [.int .i64 x0,.int .i64 x1,.slice a2 n2 c2] (x0,x1,x2) :=
 ⟨[.int .i64 x0],[.int .i64 x1,.slice a2 n2 c2],rfl,⟨rfl,h0⟩,⟨[.int .i64 x1],[.slice a2 n2 c2],rfl,⟨rfl,h1⟩,h2⟩⟩
abbrev K4:Type:=Int×Int
abbrev J4:Wp K4:=Wp.pair Wp.int Wp.int
instance z0r:DecidableEq K4:=(@instDecidableEqProd _ _ (inferInstance:DecidableEq Int) (inferInstance:DecidableEq Int))
theorem W02{h:Hp}{cs:List Value}{x:K4}(hx:J4.R h cs x):∃(x0:Int) (x1:Int),cs = [.int .i64 x0,.int .i64 x1]∧x=(x0,x1)∧M0 x0∧M0 x1:=by
 obtain⟨x0,x1⟩:=x
 obtain⟨_,_,rfl,⟨rfl,h0⟩,⟨rfl,h1⟩⟩:=hx
 exact⟨x0,x1,rfl,rfl,h0,h1⟩
theorem D2{h:Hp}{x0:Int}{x1:Int}(h0:M0 x0)(h1:M0 x1):J4.R h [.int .i64 x0,.int .i64 x1] (x0,x1) :=
 ⟨[.int .i64 x0],[.int .i64 x1],rfl,⟨rfl,h0⟩,⟨rfl,h1⟩⟩
abbrev C0:Type:=List Int
abbrev J0:Wp C0:=Wp.slice Wp.int
instance f0q:DecidableEq C0:=inferInstanceAs (DecidableEq (List Int))
def B4(x:C0):Nat:=x.length
abbrev P1:Type:=List C0
abbrev Q2:Wp P1:=Wp.slice J0
instance I0q:DecidableEq P1:=inferInstanceAs (DecidableEq (List C0))
def H5(x:P1):Nat:=x.length+l04 B4 x
abbrev S00:Type:=Int×Int×P1×C0×C0×j0×Int
abbrev u01:Wp S00:=Wp.pair Wp.int (Wp.pair Wp.int (Wp.pair Q2 (Wp.pair J0 (Wp.pair J0 (Wp.pair W0 Wp.int)))))
instance v0r:DecidableEq S00:=(@instDecidableEqProd _ _ (inferInstance:DecidableEq Int) (@instDecidableEqProd _ _ (inferInstance:DecidableEq Int) (@instDecidableEqProd _ _ I0q (@instDecidableEqProd _ _ f0q (@instDecidableEqProd _ _ f0q (@instDecidableEqProd _ _ H0q (inferInstance:DecidableEq Int)))))))
def X02(x:S00):Nat:=H5 x.2.2.1+B4 x.2.2.2.1+B4 x.2.2.2.2.1+Z03 x.2.2.2.2.2.1
theorem n01{h:Hp}{cs:List Value}{x:S00}(hx:u01.R h cs x):∃(x0:Int) (x1:Int) (a2:Option Addr) (n2 c2:Nat) (x2:P1) (a3:Option Addr) (n3 c3:Nat) (x3:C0) (a4:Option Addr) (n4 c4:Nat) (x4:C0) (x5_0:Int) (x5_1:Int) (a5_2:Option Addr) (n5_2 c5_2:Nat) (x5_2:I0) (x6:Int),cs = [.int .i64 x0,.int .i64 x1,.slice a2 n2 c2,.slice a3 n3 c3,.slice a4 n4 c4,.int .i64 x5_0,.int .i64 x5_1,.slice a5_2 n5_2 c5_2,.int .i64 x6]∧x=(x0,x1,x2,x3,x4,(x5_0,x5_1,x5_2),x6)∧M0 x0∧M0 x1∧Q2.R h [.slice a2 n2 c2] x2∧J0.R h [.slice a3 n3 c3] x3∧J0.R h [.slice a4 n4 c4] x4∧M0 x5_0∧M0 x5_1∧F0.R h [.slice a5_2 n5_2 c5_2] x5_2∧M0 x6:=by
 obtain⟨x0,x1,x2,x3,x4,⟨x5_0,x5_1,x5_2⟩,x6⟩:=x
 obtain⟨_,_,rfl,⟨rfl,h0⟩,⟨_,_,rfl,⟨rfl,h1⟩,⟨_,_,rfl,h2,⟨_,_,rfl,h3,⟨_,_,rfl,h4,⟨_,_,rfl,⟨_,_,rfl,⟨rfl,h5_0⟩,⟨_,_,rfl,⟨rfl,h5_1⟩,h5_2⟩⟩,⟨rfl,h6⟩⟩⟩⟩⟩⟩⟩:=hx
 obtain⟨a2,n2,c2,rfl⟩:=Wp.slice_cell h2
 obtain⟨a3,n3,c3,rfl⟩:=Wp.slice_cell h3
 obtain⟨a4,n4,c4,rfl⟩:=Wp.slice_cell h4
 obtain⟨a5_2,n5_2,c5_2,rfl⟩:=Wp.slice_cell h5_2
 exact⟨x0,x1,a2,n2,c2,x2,a3,n3,c3,x3,a4,n4,c4,x4,x5_0,x5_1,a5_2,n5_2,c5_2,x5_2,x6,rfl,rfl,h0,h1,h2,h3,h4,h5_0,h5_1,h5_2,h6⟩
theorem J06{h:Hp}{x0:Int}{x1:Int}{a2:Option Addr}{n2 c2:Nat}{x2:P1}{a3:Option Addr}{n3 c3:Nat}{x3:C0}{a4:Option Addr}{n4 c4:Nat}{x4:C0}{x5_0:Int}{x5_1:Int}{a5_2:Option Addr}{n5_2 c5_2:Nat}{x5_2:I0}{x6:Int}(h0:M0 x0)(h1:M0 x1)(h2:Q2.R h [.slice a2 n2 c2] x2)(h3:J0.R h [.slice a3 n3 c3] x3)(h4:J0.R h [.slice a4 n4 c4] x4)(h5_0:M0 x5_0)(h5_1:M0 x5_1)(h5_2:F0.R h [.slice a5_2 n5_2 c5_2] x5_2)(h6:M0 x6):u01.R h [.int .i64 x0,.int .i64 x1,.slice a2 n2 c2,.slice a3 n3 c3,.slice a4 n4 c4,.int .i64 x5_0,.int .i64 x5_1,.slice a5_2 n5_2 c5_2,.int .i64 x6] (x0,x1,x2,x3,x4,(x5_0,x5_1,x5_2),x6) :=
 ⟨[.int .i64 x0],[.int .i64 x1,.slice a2 n2 c2,.slice a3 n3 c3,.slice a4 n4 c4,.int .i64 x5_0,.int .i64 x5_1,.slice a5_2 n5_2 c5_2,.int .i64 x6],rfl,⟨rfl,h0⟩,⟨[.int .i64 x1],[.slice a2 n2 c2,.slice a3 n3 c3,.slice a4 n4 c4,.int .i64 x5_0,.int .i64 x5_1,.slice a5_2 n5_2 c5_2,.int .i64 x6],rfl,⟨rfl,h1⟩,⟨[.slice a2 n2 c2],[.slice a3 n3 c3,.slice a4 n4 c4,.int .i64 x5_0,.int .i64 x5_1,.slice a5_2 n5_2 c5_2,.int .i64 x6],rfl,h2,⟨[.slice a3 n3 c3],[.slice a4 n4 c4,.int .i64 x5_0,.int .i64 x5_1,.slice a5_2 n5_2 c5_2,.int .i64 x6],rfl,h3,⟨[.slice a4 n4 c4],[.int .i64 x5_0,.int .i64 x5_1,.slice a5_2 n5_2 c5_2,.int .i64 x6],rfl,h4,⟨[.int .i64 x5_0,.int .i64 x5_1,.slice a5_2 n5_2 c5_2],[.int .i64 x6],rfl,⟨[.int .i64 x5_0],[.int .i64 x5_1,.slice a5_2 n5_2 c5_2],rfl,⟨rfl,h5_0⟩,⟨[.int .i64 x5_1],[.slice a5_2 n5_2 c5_2],rfl,⟨rfl,h5_1⟩,h5_2⟩⟩,⟨rfl,h6⟩⟩⟩⟩⟩⟩⟩
abbrev N8:Type:=List K4
abbrev z0h:Wp N8:=Wp.slice J4
instance w0r:DecidableEq N8:=inferInstanceAs (DecidableEq (List K4))
theorem A0b(h:Hp):∃ cs,P0.R h cs (0,0,0):=⟨_,D1 (by decide) (by decide) (by decide)⟩
theorem o0n(h:Hp)(a:Option Addr)(n c:Nat)(xs:I0)(left:Int)(hx:F0.R h [.slice a n c] xs)(hl:0≤left∧left≤1048576):
  Tr Tryz.prog 118 #[.slice a n c,.int .i64 left] h fun v h'=>v = .int .i64 (szR left (A05 xs))∧h'=h:=by
 obtain⟨rfl,hn⟩:=Sl.len hx
 have hw:IntKind.i64.wrap (left-(xs.length:Int))=left-xs.length:=w64 (by omega) (by omega)
 refine Y1 (args:=[.slice a xs.length c,.int .i64 left]) (fn:=Tryz.f118) rfl ?_
 refine aI (fun hc=>?_) (fun hc=>?_)
 ·refine aI ?_ rfl
  simp[hw]at hc
  rw[A05,v0k (by omega)]
  rfl
 ·refine aI ?_ rfl
  simp[hw]at hc
  rw[A05,w0k (by omega)]
  exact congrArg (Value.int .i64) hw
theorem p0n(h:Hp)(cs:List Value)(x:j0)(left:Int)(hx:W0.R h cs x)(hl:0≤left∧left≤1048576):
  Tr Tryz.prog 57 #[.agg cs.toArray,.int .i64 left] h fun v h'=>v = .int .i64 (szR left (Z03 x))∧h'=h:=by
 obtain⟨x0,x1,a2,n2,c2,x2,rfl,rfl,h0,h1,h2⟩:=B0 hx
 refine Y1 (args:=[.agg #[.int .i64 x0,.int .i64 x1,.slice a2 n2 c2],.int .i64 left]) (fn:=Tryz.f57) rfl ?_
 refine Tr.val (o0n h a2 n2 c2 x2 (left) h2 hl) ?_
 refine aI (fun hc=>?_) (fun hc=>?_)
 ·refine aI ?_ rfl
  rw[Z03,Y05 (left:=left) (a:=((A05 x2:Nat):Int)) (by simpa using hc) hl.1 (by simp only[];omega)]
  rfl
 have q0:0≤szR left ((A05 x2:Nat):Int):=by simpa using hc
 have hl0:0≤szR left ((A05 x2:Nat):Int)∧szR left ((A05 x2:Nat):Int)≤1048576:=by
  have:=s09 q0
  omega
 exact aI rfl rfl
theorem l0f(h:Hp)(a:Option Addr)(n c:Nat)(xs:C0)(left:Int)(hx:J0.R h [.slice a n c] xs)(hl:0≤left∧left≤1048576):
  Tr Tryz.prog 56 #[.slice a n c,.int .i64 left] h fun v h'=>v = .int .i64 (szR left (B4 xs))∧h'=h:=by
 obtain⟨rfl,hn⟩:=Sl.len hx
 have hw:IntKind.i64.wrap (left-(xs.length:Int))=left-xs.length:=w64 (by omega) (by omega)
 refine Y1 (args:=[.slice a xs.length c,.int .i64 left]) (fn:=Tryz.f56) rfl ?_
 refine aI (fun hc=>?_) (fun hc=>?_)
 ·refine aI ?_ rfl
  simp[hw]at hc
  rw[B4,v0k (by omega)]
  rfl
 ·refine aI ?_ rfl
  simp[hw]at hc
  rw[B4,w0k (by omega)]
  exact congrArg (Value.int .i64) hw
theorem q0n(h:Hp)(a:Option Addr)(n c:Nat)(xs:P1)(left:Int)(hx:Q2.R h [.slice a n c] xs)(hl:0≤left∧left≤1048576):
  Tr Tryz.prog 24 #[.slice a n c,.int .i64 left] h fun v h'=>v = .int .i64 (szR left (H5 xs))∧h'=h:=by
 obtain⟨rfl,hn⟩:=Sl.len hx
 have hw:IntKind.i64.wrap (left-(xs.length:Int))=left-xs.length:=w64 (by omega) (by omega)
 refine Y1 (args:=[.slice a xs.length c,.int .i64 left]) (fn:=Tryz.f24) rfl ?_
 refine aI (fun hc=>?_) (fun hc=>?_)
 ·refine aI ?_ rfl
  simp[hw]at hc
  rw[H5,v0k (by omega)]
  rfl
 simp[hw]at hc
 refine eX { vars:=[1,5],boxes:=[],owns:=[] } (eX (fun vs _ h'=>∃ k:Nat,k≤xs.length∧0≤szR left ((xs.length+l04 B4 (xs.take k):Nat):Int)∧vs = [.int .i64 (szR left ((xs.length+l04 B4 (xs.take k):Nat):Int)),.int .i64 k]∧h'=h) (eX (fun vs _=>match vs with | [_,.int _ j]=>((xs.length:Int)-j).toNat|_=>0) ?_))
 have h0:szR left ((xs.length+l04 B4 (xs.take 0):Nat):Int)=left-xs.length:=by rw[w0k (by simp[l04];omega)];simp[l04]
 refine aI ⟨0,by omega,by omega,by rw[h0];exact congrArg (fun x=>[Value.int .i64 x,Value.int .i64 0]) hw,rfl⟩ ?_
 rintro _ _ h1 ⟨k,hk,hpos,⟨⟩,rfl⟩
 obtain⟨q1,q2⟩:=s09 hpos
 refine aI (fun hc2=>?_) (fun hc2=>?_)
 ·have hlt:k<xs.length:=by simpa using hc2
  obtain⟨x,hgx⟩:=A03 hlt
  obtain⟨b1,cs1,e1,i1⟩:=Sl.get hx hgx (by decide)
  have hw2:=V1 hlt hn
  obtain⟨a1,n1,c1,rfl⟩:=Wp.slice_cell i1
  refine aI b1 (eX _ (aI e1 ?_))
  refine Tr.val (l0f _ a1 n1 c1 x _ i1 ⟨by omega,by omega⟩) ?_
  have hstep:szR (szR left ((xs.length+l04 B4 (xs.take k):Nat):Int)) (B4 x:Nat)=szR left ((xs.length+l04 B4 (xs.take (k+1)):Nat):Int):=by
   rw[G06 hpos (by omega) (by omega),H0m hgx]
   congr 1
   omega
  refine aI (fun hc3=>?_) (fun hc3=>?_)
  ·refine aI ?_ rfl
   rw[hstep]at hc3
   have hneg2:szR left ((xs.length+l04 B4 (xs.take (k+1)):Nat):Int)<0:=by simpa using hc3
   have:=I0m B4 xs (k+1)
   rw[H5,Y05 hneg2 hl.1 (by omega)]
   rfl
  ·rw[hstep]at hc3
   have hpos2:0≤szR left ((xs.length+l04 B4 (xs.take (k+1)):Nat):Int):=by simpa using hc3
   refine aI rfl (aI (by first|exact trivial|exact aI rfl trivial|exact aI rfl (aI rfl trivial)|exact aI rfl (aI rfl (aI rfl trivial))|exact aI rfl (aI rfl (aI rfl (aI rfl trivial)))) (aI (by first|exact trivial|exact aI rfl trivial|exact aI rfl (aI rfl trivial)|exact aI rfl (aI rfl (aI rfl trivial))|exact aI rfl (aI rfl (aI rfl (aI rfl trivial)))) (aI ?_ ?_)))
   ·refine⟨k+1,by omega,hpos2,?_,rfl⟩
    rw[←hw2,←hstep]
   ·show((xs.length:Int)-IntKind.i64.wrap ((k:Int)+1)).toNat<((xs.length:Int)-(k:Int)).toNat
    omega
 ·have hk:k=xs.length:=by simp at hc2;omega
  subst hk
  refine aI ?_ rfl
  rw[List.take_length]
  rfl
theorem r0n(h:Hp)(cs:List Value)(x:S00)(left:Int)(hx:u01.R h cs x)(hl:0≤left∧left≤1048576):
  Tr Tryz.prog 14 #[.agg cs.toArray,.int .i64 left] h fun v h'=>v = .int .i64 (szR left (X02 x))∧h'=h:=by
 obtain⟨x0,x1,a2,n2,c2,x2,a3,n3,c3,x3,a4,n4,c4,x4,x5_0,x5_1,a5_2,n5_2,c5_2,x5_2,x6,rfl,rfl,h0,h1,h2,h3,h4,h5_0,h5_1,h5_2,h6⟩:=n01 hx
 refine Y1 (args:=[.agg #[.int .i64 x0,.int .i64 x1,.slice a2 n2 c2,.slice a3 n3 c3,.slice a4 n4 c4,.int .i64 x5_0,.int .i64 x5_1,.slice a5_2 n5_2 c5_2,.int .i64 x6],.int .i64 left]) (fn:=Tryz.f14) rfl ?_
 refine Tr.val (q0n h a2 n2 c2 x2 (left) h2 hl) ?_
 refine aI (fun hc=>?_) (fun hc=>?_)
 ·refine aI ?_ rfl
  rw[X02,Y05 (left:=left) (a:=((H5 x2:Nat):Int)) (by simpa using hc) hl.1 (by simp only[];omega)]
  rfl
 have q0:0≤szR left ((H5 x2:Nat):Int):=by simpa using hc
 have hl0:0≤szR left ((H5 x2:Nat):Int)∧szR left ((H5 x2:Nat):Int)≤1048576:=by
  have:=s09 q0
  omega
 refine Tr.val (l0f h a3 n3 c3 x3 (szR left ((H5 x2:Nat):Int)) h3 hl0) ?_
 refine aI (fun hc=>?_) (fun hc=>?_)
 ·refine aI ?_ rfl
  have hc':szR (szR left ((H5 x2:Nat):Int)) ((B4 x3:Nat):Int)<0:=by simpa using hc
  rw[ G06 q0 (by omega) (by omega)]at hc'
  rw[X02,Y05 hc' hl.1 (by simp only[];omega)]
  rfl
 have hc':0≤szR (szR left ((H5 x2:Nat):Int)) ((B4 x3:Nat):Int):=by simpa using hc
 have st1:szR left ((H5 x2+B4 x3:Nat):Int)=szR (szR left ((H5 x2:Nat):Int)) ((B4 x3:Nat):Int):=by rw[ G06 q0 (by omega) (by omega)];congr 1
 have q1:0≤szR left ((H5 x2+B4 x3:Nat):Int):=by rw[st1];exact hc'
 clear hc'
 have hl1:0≤szR (szR left ((H5 x2:Nat):Int)) ((B4 x3:Nat):Int)∧szR (szR left ((H5 x2:Nat):Int)) ((B4 x3:Nat):Int)≤1048576:=by
  rw[←st1]
  have:=s09 q1
  omega
 refine Tr.val (l0f h a4 n4 c4 x4 (szR (szR left ((H5 x2:Nat):Int)) ((B4 x3:Nat):Int)) h4 hl1) ?_
 refine aI (fun hc=>?_) (fun hc=>?_)
 ·refine aI ?_ rfl
  have hc':szR (szR (szR left ((H5 x2:Nat):Int)) ((B4 x3:Nat):Int)) ((B4 x4:Nat):Int)<0:=by simpa using hc
  rw[←st1,G06 q1 (by omega) (by omega)]at hc'
  rw[X02,Y05 hc' hl.1 (by simp only[];omega)]
  rfl
 have hc':0≤szR (szR (szR left ((H5 x2:Nat):Int)) ((B4 x3:Nat):Int)) ((B4 x4:Nat):Int):=by simpa using hc
 have st2:szR left ((H5 x2+B4 x3+B4 x4:Nat):Int)=szR (szR (szR left ((H5 x2:Nat):Int)) ((B4 x3:Nat):Int)) ((B4 x4:Nat):Int):=by rw[←st1,G06 q1 (by omega) (by omega)];congr 1
 have q2:0≤szR left ((H5 x2+B4 x3+B4 x4:Nat):Int):=by rw[st2];exact hc'
 clear hc'
 have hl2:0≤szR (szR (szR left ((H5 x2:Nat):Int)) ((B4 x3:Nat):Int)) ((B4 x4:Nat):Int)∧szR (szR (szR left ((H5 x2:Nat):Int)) ((B4 x3:Nat):Int)) ((B4 x4:Nat):Int)≤1048576:=by
  rw[←st2]
  have:=s09 q2
  omega
 refine Tr.val (p0n h [.int .i64 x5_0,.int .i64 x5_1,.slice a5_2 n5_2 c5_2] (x5_0,x5_1,x5_2) (szR (szR (szR left ((H5 x2:Nat):Int)) ((B4 x3:Nat):Int)) ((B4 x4:Nat):Int)) (z0 h5_0 h5_1 h5_2) hl2) ?_
 refine aI (fun hc=>?_) (fun hc=>?_)
 ·refine aI ?_ rfl
  have hc':szR (szR (szR (szR left ((H5 x2:Nat):Int)) ((B4 x3:Nat):Int)) ((B4 x4:Nat):Int)) ((Z03 (x5_0,x5_1,x5_2):Nat):Int)<0:=by simpa using hc
  rw[←st2,G06 q2 (by omega) (by omega)]at hc'
  rw[X02,Y05 hc' hl.1 (by simp only[];omega)]
  rfl
 have hc':0≤szR (szR (szR (szR left ((H5 x2:Nat):Int)) ((B4 x3:Nat):Int)) ((B4 x4:Nat):Int)) ((Z03 (x5_0,x5_1,x5_2):Nat):Int):=by simpa using hc
 have st3:szR left ((H5 x2+B4 x3+B4 x4+Z03 (x5_0,x5_1,x5_2):Nat):Int)=szR (szR (szR (szR left ((H5 x2:Nat):Int)) ((B4 x3:Nat):Int)) ((B4 x4:Nat):Int)) ((Z03 (x5_0,x5_1,x5_2):Nat):Int):=by rw[←st2,G06 q2 (by omega) (by omega)];congr 1
 have q3:0≤szR left ((H5 x2+B4 x3+B4 x4+Z03 (x5_0,x5_1,x5_2):Nat):Int):=by rw[st3];exact hc'
 clear hc'
 have hl3:0≤szR (szR (szR (szR left ((H5 x2:Nat):Int)) ((B4 x3:Nat):Int)) ((B4 x4:Nat):Int)) ((Z03 (x5_0,x5_1,x5_2):Nat):Int)∧szR (szR (szR (szR left ((H5 x2:Nat):Int)) ((B4 x3:Nat):Int)) ((B4 x4:Nat):Int)) ((Z03 (x5_0,x5_1,x5_2):Nat):Int)≤1048576:=by
  rw[←st3]
  have:=s09 q3
  omega
 exact aI (congrArg (Value.int .i64) (st3.symm.trans (by rw[X02]))) rfl
theorem m0p(h:Hp)(cs ds:List Value)(x y:H0)(hx:P0.R h cs x)(hy:P0.R h ds y):
  Tr Tryz.prog 201 #[.agg cs.toArray,.agg ds.toArray] h fun v h'=>v = .bool (decide (x=y))∧h'=h:=by
 obtain⟨x0,x1,x2,rfl,rfl,h0,h1,h2⟩:=I1 hx
 obtain⟨x0y,x1y,x2y,rfl,rfl,h0y,h1y,h2y⟩:=I1 hy
 refine Y1 (args:=[.agg #[.int .i64 x0,.int .i64 x1,.int .i64 x2],.agg #[.int .i64 x0y,.int .i64 x1y,.int .i64 x2y]]) (fn:=Tryz.f201) rfl ?_
 refine aI (fun hc=>?_) (fun hc=>?_)
 ·have ne:x0≠x0y:=by simpa using hc
  exact aI (congrArg Value.bool (decide_eq_false fun e=>by cases e;exact ne rfl).symm) rfl
 have q0:x0=x0y:=by simpa using hc
 subst q0
 refine aI (fun hc=>?_) (fun hc=>?_)
 ·have ne:x1≠x1y:=by simpa using hc
  exact aI (congrArg Value.bool (decide_eq_false fun e=>by cases e;exact ne rfl).symm) rfl
 have q1:x1=x1y:=by simpa using hc
 subst q1
 refine aI (fun hc=>?_) (fun hc=>?_)
 ·have ne:x2≠x2y:=by simpa using hc
  exact aI (congrArg Value.bool (decide_eq_false fun e=>by cases e;exact ne rfl).symm) rfl
 have q2:x2=x2y:=by simpa using hc
 subst q2
 exact aI (congrArg Value.bool (decide_eq_true rfl).symm) rfl
theorem s0n(h:Hp)(a:Option Addr)(n c:Nat)(a':Option Addr)(n' c':Nat)(xs ys:I0)(hx:F0.R h [.slice a n c] xs)(hy:F0.R h [.slice a' n' c'] ys):
  Tr Tryz.prog 147 #[.slice a n c,.slice a' n' c'] h fun v h'=>v = .bool (decide (xs=ys))∧h'=h:=by
 obtain⟨rfl,hn⟩:=Sl.len hx
 obtain⟨rfl,hn'⟩:=Sl.len hy
 refine Y1 (args:=[.slice a xs.length c,.slice a' ys.length c']) (fn:=Tryz.f147) rfl ?_
 refine aI (fun hc=>?_) (fun hc=>?_)
 ·refine aI (congrArg Value.bool ?_) rfl
  have:xs.length≠ys.length:=by simp at hc;omega
  exact(decide_eq_false fun e=>this (by rw[e])).symm
 have hlen:xs.length=ys.length:=by simp at hc;omega
 refine eX { vars:=[5],boxes:=[],owns:=[] } (eX (fun vs _ h'=>∃ k:Nat,k≤xs.length∧xs.take k=ys.take k∧vs = [.int .i64 k]∧h'=h) (eX (fun vs _=>match vs with | [.int _ j]=>((xs.length:Int)-j).toNat|_=>0) ?_))
 refine aI ⟨0,by omega,by simp,rfl,rfl⟩ ?_
 rintro _ h1 ⟨k,hk,hall,⟨⟩,rfl⟩
 refine aI (fun hc2=>?_) (fun hc2=>?_)
 ·have hlt:k<xs.length:=by simpa using hc2
  obtain⟨x,gx⟩:=A03 hlt
  obtain⟨y,gy⟩:=A03 (l:=ys) (k:=k) (by omega)
  obtain⟨b1,cs1,e1,i1⟩:=Sl.get hx gx (by decide)
  obtain⟨b2,cs2,e2,i2⟩:=Sl.get hy gy (by decide)
  have hw:=V1 hlt hn
  obtain⟨x0,x1,x2,rfl,rfl,g0,g1,g2⟩:=I1 i1
  obtain⟨x0y,x1y,x2y,rfl,rfl,g0y,g1y,g2y⟩:=I1 i2
  refine Or.inl (aI (aI (by kernel_rfl) (by kernel_rfl)) ?_)
  refine aI b1 (eX _ (aI e1 (aI b2 (eX _ (aI e2 ?_)))))
  refine eX (.bool _) (aI (m0p _ [.int .i64 x0,.int .i64 x1,.int .i64 x2] [.int .i64 x0y,.int .i64 x1y,.int .i64 x2y] (x0,x1,x2) (x0y,x1y,x2y) (D1 g0 g1 g2) (D1 g0y g1y g2y)) ?_)
  refine aI (fun hc3=>?_) (fun hc3=>?_)
  ·refine aI (congrArg Value.bool ?_) rfl
   have hne:(x0,x1,x2)≠(x0y,x1y,x2y):=H06 hc3
   exact(decide_eq_false fun e=>hne (oJ (gx.symm.trans ((congrArg (fun l:I0=>l[k]?) e).trans gy)))).symm
  ·have heq:(x0,x1,x2)=(x0y,x1y,x2y):=J04 hc3
   refine aI rfl (aI (by first|exact trivial|exact aI rfl trivial|exact aI rfl (aI rfl trivial)|exact aI rfl (aI rfl (aI rfl trivial))|exact aI rfl (aI rfl (aI rfl (aI rfl trivial)))) (aI (by first|exact trivial|exact aI rfl trivial|exact aI rfl (aI rfl trivial)|exact aI rfl (aI rfl (aI rfl trivial))|exact aI rfl (aI rfl (aI rfl (aI rfl trivial)))) (aI ?_ ?_)))
   ·refine⟨k+1,by omega,by rw[m01 gx,m01 gy,hall,heq],?_,rfl⟩
    rw[←hw]
   ·show((xs.length:Int)-IntKind.i64.wrap ((k:Int)+1)).toNat<((xs.length:Int)-(k:Int)).toNat
    omega
 ·have hk:k=xs.length:=by simp at hc2;omega
  refine aI (congrArg Value.bool ?_) rfl
  refine(decide_eq_true ?_).symm
  subst hk
  rwa [List.take_length,hlen,List.take_length]at hall
theorem t0n(h:Hp)(cs ds:List Value)(x y:j0)(hx:W0.R h cs x)(hy:W0.R h ds y):
  Tr Tryz.prog 85 #[.agg cs.toArray,.agg ds.toArray] h fun v h'=>v = .bool (decide (x=y))∧h'=h:=by
 obtain⟨x0,x1,a2,n2,c2,x2,rfl,rfl,h0,h1,h2⟩:=B0 hx
 obtain⟨x0y,x1y,a2y,n2y,c2y,x2y,rfl,rfl,h0y,h1y,h2y⟩:=B0 hy
 refine Y1 (args:=[.agg #[.int .i64 x0,.int .i64 x1,.slice a2 n2 c2],.agg #[.int .i64 x0y,.int .i64 x1y,.slice a2y n2y c2y]]) (fn:=Tryz.f85) rfl ?_
 refine aI (fun hc=>?_) (fun hc=>?_)
 ·have ne:x0≠x0y:=by simpa using hc
  exact aI (congrArg Value.bool (decide_eq_false fun e=>by cases e;exact ne rfl).symm) rfl
 have q0:x0=x0y:=by simpa using hc
 subst q0
 refine aI (fun hc=>?_) (fun hc=>?_)
 ·have ne:x1≠x1y:=by simpa using hc
  exact aI (congrArg Value.bool (decide_eq_false fun e=>by cases e;exact ne rfl).symm) rfl
 have q1:x1=x1y:=by simpa using hc
 subst q1
 refine Tr.val (s0n h a2 n2 c2 a2y n2y c2y x2 x2y h2 h2y) ?_
 refine aI (fun hc=>?_) (fun hc=>?_)
 ·have ne:x2≠x2y:=H06 hc
  exact aI (congrArg Value.bool (decide_eq_false fun e=>by cases e;exact ne rfl).symm) rfl
 have q2:x2=x2y:=J04 hc
 subst q2
 exact aI (congrArg Value.bool (decide_eq_true rfl).symm) rfl
theorem m0f(h:Hp)(a:Option Addr)(n c:Nat)(a':Option Addr)(n' c':Nat)(xs ys:C0)(hx:J0.R h [.slice a n c] xs)(hy:J0.R h [.slice a' n' c'] ys):
  Tr Tryz.prog 30 #[.slice a n c,.slice a' n' c'] h fun v h'=>v = .bool (decide (xs=ys))∧h'=h:=by
 obtain⟨rfl,hn⟩:=Sl.len hx
 obtain⟨rfl,hn'⟩:=Sl.len hy
 refine Y1 (args:=[.slice a xs.length c,.slice a' ys.length c']) (fn:=Tryz.f30) rfl ?_
 refine aI (fun hc=>?_) (fun hc=>?_)
 ·refine aI (congrArg Value.bool ?_) rfl
  have:xs.length≠ys.length:=by simp at hc;omega
  exact(decide_eq_false fun e=>this (by rw[e])).symm
 have hlen:xs.length=ys.length:=by simp at hc;omega
 refine eX { vars:=[5],boxes:=[],owns:=[] } (eX (fun vs _ h'=>∃ k:Nat,k≤xs.length∧xs.take k=ys.take k∧vs = [.int .i64 k]∧h'=h) (eX (fun vs _=>match vs with | [.int _ j]=>((xs.length:Int)-j).toNat|_=>0) ?_))
 refine aI ⟨0,by omega,by simp,rfl,rfl⟩ ?_
 rintro _ h1 ⟨k,hk,hall,⟨⟩,rfl⟩
 refine aI (fun hc2=>?_) (fun hc2=>?_)
 ·have hlt:k<xs.length:=by simpa using hc2
  obtain⟨x,gx⟩:=A03 hlt
  obtain⟨y,gy⟩:=A03 (l:=ys) (k:=k) (by omega)
  obtain⟨b1,cs1,e1,i1⟩:=Sl.get hx gx (by decide)
  obtain⟨b2,cs2,e2,i2⟩:=Sl.get hy gy (by decide)
  have hw:=V1 hlt hn
  obtain⟨rfl,_⟩:=i1
  obtain⟨rfl,_⟩:=i2
  refine Or.inl (aI (aI (by kernel_rfl) (by kernel_rfl)) ?_)
  refine aI b1 (eX _ (aI e1 (aI b2 (eX _ (aI e2 ?_)))))
  refine aI (fun hc3=>?_) (fun hc3=>?_)
  ·refine aI (congrArg Value.bool ?_) rfl
   have hne:x≠y:=by simpa using hc3
   exact(decide_eq_false fun e=>hne (oJ (gx.symm.trans ((congrArg (fun l:C0=>l[k]?) e).trans gy)))).symm
  ·have heq:x=y:=by simpa using hc3
   refine aI rfl (aI (by first|exact trivial|exact aI rfl trivial|exact aI rfl (aI rfl trivial)|exact aI rfl (aI rfl (aI rfl trivial))|exact aI rfl (aI rfl (aI rfl (aI rfl trivial)))) (aI (by first|exact trivial|exact aI rfl trivial|exact aI rfl (aI rfl trivial)|exact aI rfl (aI rfl (aI rfl trivial))|exact aI rfl (aI rfl (aI rfl (aI rfl trivial)))) (aI ?_ ?_)))
   ·refine⟨k+1,by omega,by rw[m01 gx,m01 gy,hall,heq],?_,rfl⟩
    rw[←hw]
   ·show((xs.length:Int)-IntKind.i64.wrap ((k:Int)+1)).toNat<((xs.length:Int)-(k:Int)).toNat
    omega
 ·have hk:k=xs.length:=by simp at hc2;omega
  refine aI (congrArg Value.bool ?_) rfl
  refine(decide_eq_true ?_).symm
  subst hk
  rwa [List.take_length,hlen,List.take_length]at hall
theorem u0n(h:Hp)(a:Option Addr)(n c:Nat)(a':Option Addr)(n' c':Nat)(xs ys:P1)(hx:Q2.R h [.slice a n c] xs)(hy:Q2.R h [.slice a' n' c'] ys):
  Tr Tryz.prog 29 #[.slice a n c,.slice a' n' c'] h fun v h'=>v = .bool (decide (xs=ys))∧h'=h:=by
 obtain⟨rfl,hn⟩:=Sl.len hx
 obtain⟨rfl,hn'⟩:=Sl.len hy
 refine Y1 (args:=[.slice a xs.length c,.slice a' ys.length c']) (fn:=Tryz.f29) rfl ?_
 refine aI (fun hc=>?_) (fun hc=>?_)
 ·refine aI (congrArg Value.bool ?_) rfl
  have:xs.length≠ys.length:=by simp at hc;omega
  exact(decide_eq_false fun e=>this (by rw[e])).symm
 have hlen:xs.length=ys.length:=by simp at hc;omega
 refine eX { vars:=[5],boxes:=[],owns:=[] } (eX (fun vs _ h'=>∃ k:Nat,k≤xs.length∧xs.take k=ys.take k∧vs = [.int .i64 k]∧h'=h) (eX (fun vs _=>match vs with | [.int _ j]=>((xs.length:Int)-j).toNat|_=>0) ?_))
 refine aI ⟨0,by omega,by simp,rfl,rfl⟩ ?_
 rintro _ h1 ⟨k,hk,hall,⟨⟩,rfl⟩
 refine aI (fun hc2=>?_) (fun hc2=>?_)
 ·have hlt:k<xs.length:=by simpa using hc2
  obtain⟨x,gx⟩:=A03 hlt
  obtain⟨y,gy⟩:=A03 (l:=ys) (k:=k) (by omega)
  obtain⟨b1,cs1,e1,i1⟩:=Sl.get hx gx (by decide)
  obtain⟨b2,cs2,e2,i2⟩:=Sl.get hy gy (by decide)
  have hw:=V1 hlt hn
  obtain⟨a1,n1,c1,rfl⟩:=Wp.slice_cell i1
  obtain⟨a2,n2,c2,rfl⟩:=Wp.slice_cell i2
  refine Or.inl (aI (aI (by kernel_rfl) (by kernel_rfl)) ?_)
  refine aI b1 (eX _ (aI e1 (aI b2 (eX _ (aI e2 ?_)))))
  refine eX (.bool _) (aI (m0f _ _ _ _ _ _ _ x y i1 i2) ?_)
  refine aI (fun hc3=>?_) (fun hc3=>?_)
  ·refine aI (congrArg Value.bool ?_) rfl
   have hne:x≠y:=H06 hc3
   exact(decide_eq_false fun e=>hne (oJ (gx.symm.trans ((congrArg (fun l:P1=>l[k]?) e).trans gy)))).symm
  ·have heq:x=y:=J04 hc3
   refine aI rfl (aI (by first|exact trivial|exact aI rfl trivial|exact aI rfl (aI rfl trivial)|exact aI rfl (aI rfl (aI rfl trivial))|exact aI rfl (aI rfl (aI rfl (aI rfl trivial)))) (aI (by first|exact trivial|exact aI rfl trivial|exact aI rfl (aI rfl trivial)|exact aI rfl (aI rfl (aI rfl trivial))|exact aI rfl (aI rfl (aI rfl (aI rfl trivial)))) (aI ?_ ?_)))
   ·refine⟨k+1,by omega,by rw[m01 gx,m01 gy,hall,heq],?_,rfl⟩
    rw[←hw]
   ·show((xs.length:Int)-IntKind.i64.wrap ((k:Int)+1)).toNat<((xs.length:Int)-(k:Int)).toNat
    omega
 ·have hk:k=xs.length:=by simp at hc2;omega
  refine aI (congrArg Value.bool ?_) rfl
  refine(decide_eq_true ?_).symm
  subst hk
  rwa [List.take_length,hlen,List.take_length]at hall
theorem v0n(h:Hp)(cs ds:List Value)(x y:S00)(hx:u01.R h cs x)(hy:u01.R h ds y):
  Tr Tryz.prog 18 #[.agg cs.toArray,.agg ds.toArray] h fun v h'=>v = .bool (decide (x=y))∧h'=h:=by
 obtain⟨x0,x1,a2,n2,c2,x2,a3,n3,c3,x3,a4,n4,c4,x4,x5_0,x5_1,a5_2,n5_2,c5_2,x5_2,x6,rfl,rfl,h0,h1,h2,h3,h4,h5_0,h5_1,h5_2,h6⟩:=n01 hx
 obtain⟨x0y,x1y,a2y,n2y,c2y,x2y,a3y,n3y,c3y,x3y,a4y,n4y,c4y,x4y,x5_0y,x5_1y,a5_2y,n5_2y,c5_2y,x5_2y,x6y,rfl,rfl,h0y,h1y,h2y,h3y,h4y,h5_0y,h5_1y,h5_2y,h6y⟩:=n01 hy
 refine Y1 (args:=[.agg #[.int .i64 x0,.int .i64 x1,.slice a2 n2 c2,.slice a3 n3 c3,.slice a4 n4 c4,.int .i64 x5_0,.int .i64 x5_1,.slice a5_2 n5_2 c5_2,.int .i64 x6],.agg #[.int .i64 x0y,.int .i64 x1y,.slice a2y n2y c2y,.slice a3y n3y c3y,.slice a4y n4y c4y,.int .i64 x5_0y,.int .i64 x5_1y,.slice a5_2y n5_2y c5_2y,.int .i64 x6y]]) (fn:=Tryz.f18) rfl ?_
 refine aI (fun hc=>?_) (fun hc=>?_)
 ·have ne:x0≠x0y:=by simpa using hc
  exact aI (congrArg Value.bool (decide_eq_false fun e=>by cases e;exact ne rfl).symm) rfl
 have q0:x0=x0y:=by simpa using hc
 subst q0
 refine aI (fun hc=>?_) (fun hc=>?_)
 ·have ne:x1≠x1y:=by simpa using hc
  exact aI (congrArg Value.bool (decide_eq_false fun e=>by cases e;exact ne rfl).symm) rfl
 have q1:x1=x1y:=by simpa using hc
 subst q1
 refine Tr.val (u0n h a2 n2 c2 a2y n2y c2y x2 x2y h2 h2y) ?_
 refine aI (fun hc=>?_) (fun hc=>?_)
 ·have ne:x2≠x2y:=H06 hc
  exact aI (congrArg Value.bool (decide_eq_false fun e=>by cases e;exact ne rfl).symm) rfl
 have q2:x2=x2y:=J04 hc
 subst q2
 refine Tr.val (m0f h a3 n3 c3 a3y n3y c3y x3 x3y h3 h3y) ?_
 refine aI (fun hc=>?_) (fun hc=>?_)
 ·have ne:x3≠x3y:=H06 hc
  exact aI (congrArg Value.bool (decide_eq_false fun e=>by cases e;exact ne rfl).symm) rfl
 have q3:x3=x3y:=J04 hc
 subst q3
 refine Tr.val (m0f h a4 n4 c4 a4y n4y c4y x4 x4y h4 h4y) ?_
 refine aI (fun hc=>?_) (fun hc=>?_)
 ·have ne:x4≠x4y:=H06 hc
  exact aI (congrArg Value.bool (decide_eq_false fun e=>by cases e;exact ne rfl).symm) rfl
 have q4:x4=x4y:=J04 hc
 subst q4
 refine Tr.val (t0n h [.int .i64 x5_0,.int .i64 x5_1,.slice a5_2 n5_2 c5_2] [.int .i64 x5_0y,.int .i64 x5_1y,.slice a5_2y n5_2y c5_2y] (x5_0,x5_1,x5_2) (x5_0y,x5_1y,x5_2y) (z0 h5_0 h5_1 h5_2) (z0 h5_0y h5_1y h5_2y)) ?_
 refine aI (fun hc=>?_) (fun hc=>?_)
 ·have ne:(x5_0,x5_1,x5_2)≠(x5_0y,x5_1y,x5_2y):=H06 hc
  exact aI (congrArg Value.bool (decide_eq_false fun e=>by cases e;exact ne rfl).symm) rfl
 have q5:(x5_0,x5_1,x5_2)=(x5_0y,x5_1y,x5_2y):=J04 hc
 cases q5
 refine aI (fun hc=>?_) (fun hc=>?_)
 ·have ne:x6≠x6y:=by simpa using hc
  exact aI (congrArg Value.bool (decide_eq_false fun e=>by cases e;exact ne rfl).symm) rfl
 have q6:x6=x6y:=by simpa using hc
 subst q6
 exact aI (congrArg Value.bool (decide_eq_true rfl).symm) rfl
theorem n0p(h:Hp)(cs:List Value)(x:H0)(hx:P0.R h cs x)(hl:e0q x≤1048576):
  Tr Tryz.prog 187 #[.agg cs.toArray] h fun v h'=>∃ cs',v = .agg cs'.toArray∧New P0 h h' cs' x:=by
 obtain⟨x0,x1,x2,rfl,rfl,h0,h1,h2⟩:=I1 hx
 refine Y1 (args:=[.agg #[.int .i64 x0,.int .i64 x1,.int .i64 x2]]) (fn:=Tryz.f187) rfl ?_
 exact eX _ (aI rfl (New.pair (New.int h0) (New.pair (New.int h1) (New.int h2))))
theorem w0n(h:Hp)(a:Option Addr)(n c:Nat)(xs:I0)(hx:F0.R h [.slice a n c] xs)(hl:A05 xs≤1048576):
  Tr Tryz.prog 133 #[.slice a n c] h fun v h'=>New F0 h h' [v] xs:=by
 obtain⟨rfl,hn⟩:=Sl.len hx
 have hl0:xs.length≤1048576:=by simp only[A05]at hl;omega
 refine Y1 (args:=[.slice a xs.length c]) (fn:=Tryz.f133) rfl ?_
 refine aI ?_ ?_
 ·show 0≤(xs.length:Int)∧(xs.length:Int)≤xs.length∧(xs.length:Int)*24≤140737488355328∧(xs.length:Int)≤9223372036854775807
  omega
 refine eX { vars:=[4],boxes:=[],owns:=[0],kept:=[0] } (eX (fun vs os h'=>∃(k:Nat) (L:List (List Value)) (Bs:List (List Nat)),k≤xs.length∧vs = [.int .i64 k]∧os = [j03 L xs.length [.int .i64 0,.int .i64 0,.int .i64 0]]∧L.length=k ∧
  F3 (P0.W h') L (xs.take k) Bs∧Sub h h'∧d7 h Bs.flatten) (eX (fun vs _=>match vs with | [.int _ j]=>((xs.length:Int)-j).toNat|_=>0) ?_))
 refine aI ⟨0,[],[],by omega,rfl,rfl,rfl,trivial,Sub.refl _,by simp[d7]⟩ ?_
 rintro _ _ h1 ⟨k,L,Bs,hk,⟨⟩,⟨⟩,hlk,hW,hsub,hfr⟩
 refine aI (fun hc2=>?_) (fun hc2=>?_)
 ·have hlt:k<xs.length:=by simpa using hc2
  obtain⟨x,gx⟩:=A03 hlt
  obtain⟨b1,cs1,e1,i1⟩:=Sl.get (Sl.mono hsub hx) gx (by decide)
  have hw:=V1 hlt hn
  obtain⟨x0,x1,x2,rfl,rfl,g0,g1,g2⟩:=I1 i1
  refine aI b1 (eX _ (aI e1 ?_))
  refine Tr.mono (n0p h1 [.int .i64 x0,.int .i64 x1,.int .i64 x2] (x0,x1,x2) (D1 g0 g1 g2) (by simp only[e0q];omega)) ?_
  rintro v h2 ⟨cs2,rfl,B,hB1,hB2,hB3⟩
  obtain⟨x0z,x1z,x2z,rfl,ez,_,_,_⟩:=I1 (P0.toR hB1)
  refine aI ?_ ?_
  ·show 0≤(k:Int)∧(k:Int)<((j03 L xs.length [.int .i64 0,.int .i64 0,.int .i64 0]).length:Nat)
   rw[F06 (by omega)];omega
  refine eX [.int .i64 0,.int .i64 0,.int .i64 0] (aI (v0b hlk hlt) ?_)
  refine aI rfl (aI (by first|exact trivial|exact aI rfl trivial|exact aI rfl (aI rfl trivial)|exact aI rfl (aI rfl (aI rfl trivial))|exact aI rfl (aI rfl (aI rfl (aI rfl trivial)))) (aI (by first|exact trivial|exact aI rfl trivial|exact aI rfl (aI rfl trivial)|exact aI rfl (aI rfl (aI rfl trivial))|exact aI rfl (aI rfl (aI rfl (aI rfl trivial)))) (aI ?_ ?_)))
  ·refine⟨k+1,L ++ [[.int .i64 x0z,.int .i64 x1z,.int .i64 x2z]],Bs ++ [B],by omega,by rw[←hw],?_,by simp[hlk],?_,hsub.trans hB3,?_⟩
   ·show [(j03 L xs.length [.int .i64 0,.int .i64 0,.int .i64 0]).set k [.int .i64 x0z,.int .i64 x1z,.int .i64 x2z]]=_
    rw[w0b hlk hlt]
   ·rw[m01 gx]
    exact F3.snoc hB1 (Z0f hW hB3)
   ·exact r09 hW hsub hfr hB2
  ·show((xs.length:Int)-IntKind.i64.wrap ((k:Int)+1)).toNat<((xs.length:Int)-(k:Int)).toNat
   omega
 ·have hk:k=xs.length:=by simp at hc2;omega
  intro v h' hf
  rw[x0b (by omega)]at hf
  rw[hk,List.take_length]at hW
  exact Z0.fresh (r:=P0) hf hW hsub hfr
theorem x0n(h:Hp)(cs:List Value)(x:j0)(hx:W0.R h cs x)(hl:Z03 x≤1048576):
  Tr Tryz.prog 71 #[.agg cs.toArray] h fun v h'=>∃ cs',v = .agg cs'.toArray∧New W0 h h' cs' x:=by
 obtain⟨x0,x1,a2,n2,c2,x2,rfl,rfl,h0,h1,h2⟩:=B0 hx
 simp only[Z03]at hl
 refine Y1 (args:=[.agg #[.int .i64 x0,.int .i64 x1,.slice a2 n2 c2]]) (fn:=Tryz.f71) rfl ?_
 refine Tr.mono (w0n h a2 n2 c2 x2 (Sl.mono (Sub.refl _) h2) (by omega)) ?_
 rintro v2 k2 N2
 obtain⟨a2z,n2z,c2z,ez2⟩:=Wp.slice_cell N2.r
 cases ez2
 exact eX _ (aI rfl (New.pair (New.int h0) (New.pair (New.int h1) N2)))
theorem n0f(h:Hp)(a:Option Addr)(n c:Nat)(xs:C0)(hx:J0.R h [.slice a n c] xs)(hl:B4 xs≤1048576):
  Tr Tryz.prog 27 #[.slice a n c] h fun v h'=>New J0 h h' [v] xs:=by
 obtain⟨rfl,hn⟩:=Sl.len hx
 have hl0:xs.length≤1048576:=by simp only[B4]at hl;omega
 refine Y1 (args:=[.slice a xs.length c]) (fn:=Tryz.f27) rfl ?_
 refine aI ?_ ?_
 ·show 0≤(xs.length:Int)∧(xs.length:Int)≤xs.length∧(xs.length:Int)*8≤140737488355328∧(xs.length:Int)≤9223372036854775807
  omega
 refine eX { vars:=[4],boxes:=[],owns:=[0],kept:=[0] } (eX (fun vs os h'=>∃(k:Nat) (L:List (List Value)) (Bs:List (List Nat)),k≤xs.length∧vs = [.int .i64 k]∧os = [j03 L xs.length [.int .i64 0]]∧L.length=k ∧
  F3 (Wp.int.W h') L (xs.take k) Bs∧Sub h h'∧d7 h Bs.flatten) (eX (fun vs _=>match vs with | [.int _ j]=>((xs.length:Int)-j).toNat|_=>0) ?_))
 refine aI ⟨0,[],[],by omega,rfl,rfl,rfl,trivial,Sub.refl _,by simp[d7]⟩ ?_
 rintro _ _ h1 ⟨k,L,Bs,hk,⟨⟩,⟨⟩,hlk,hW,hsub,hfr⟩
 refine aI (fun hc2=>?_) (fun hc2=>?_)
 ·have hlt:k<xs.length:=by simpa using hc2
  obtain⟨x,gx⟩:=A03 hlt
  obtain⟨b1,cs1,e1,i1⟩:=Sl.get (Sl.mono hsub hx) gx (by decide)
  have hw:=V1 hlt hn
  obtain⟨rfl,g1⟩:=i1
  refine aI b1 (eX _ (aI e1 ?_))
  obtain⟨B,hB1,hB2,hB3⟩:=New.int (h:=h1) g1
  refine aI ?_ ?_
  ·show 0≤(k:Int)∧(k:Int)<((j03 L xs.length [.int .i64 0]).length:Nat)
   rw[F06 (by omega)];omega
  refine eX [.int .i64 0] (aI (v0b hlk hlt) ?_)
  refine aI rfl (aI (by first|exact trivial|exact aI rfl trivial|exact aI rfl (aI rfl trivial)|exact aI rfl (aI rfl (aI rfl trivial))|exact aI rfl (aI rfl (aI rfl (aI rfl trivial)))) (aI (by first|exact trivial|exact aI rfl trivial|exact aI rfl (aI rfl trivial)|exact aI rfl (aI rfl (aI rfl trivial))|exact aI rfl (aI rfl (aI rfl (aI rfl trivial)))) (aI ?_ ?_)))
  ·refine⟨k+1,L ++ [[.int .i64 x]],Bs ++ [B],by omega,by rw[←hw],?_,by simp[hlk],?_,hsub.trans hB3,?_⟩
   ·show [(j03 L xs.length [.int .i64 0]).set k [.int .i64 x]]=_
    rw[w0b hlk hlt]
   ·rw[m01 gx]
    exact F3.snoc hB1 (Z0f hW hB3)
   ·exact r09 hW hsub hfr hB2
  ·show((xs.length:Int)-IntKind.i64.wrap ((k:Int)+1)).toNat<((xs.length:Int)-(k:Int)).toNat
   omega
 ·have hk:k=xs.length:=by simp at hc2;omega
  intro v h' hf
  rw[x0b (by omega)]at hf
  rw[hk,List.take_length]at hW
  exact Z0.fresh (r:=Wp.int) hf hW hsub hfr
theorem y0n(h:Hp)(a:Option Addr)(n c:Nat)(xs:P1)(hx:Q2.R h [.slice a n c] xs)(hl:H5 xs≤1048576):
  Tr Tryz.prog 26 #[.slice a n c] h fun v h'=>New Q2 h h' [v] xs:=by
 obtain⟨rfl,hn⟩:=Sl.len hx
 have hl0:xs.length≤1048576:=by simp only[H5]at hl;omega
 refine Y1 (args:=[.slice a xs.length c]) (fn:=Tryz.f26) rfl ?_
 refine aI ?_ ?_
 ·show 0≤(xs.length:Int)∧(xs.length:Int)≤xs.length∧(xs.length:Int)*24≤140737488355328∧(xs.length:Int)≤9223372036854775807
  omega
 refine eX { vars:=[4],boxes:=[],owns:=[0],kept:=[0] } (eX (fun vs os h'=>∃(k:Nat) (L:List (List Value)) (Bs:List (List Nat)),k≤xs.length∧vs = [.int .i64 k]∧os = [j03 L xs.length [.slice none 0 0]]∧L.length=k ∧
  F3 (J0.W h') L (xs.take k) Bs∧Sub h h'∧d7 h Bs.flatten) (eX (fun vs _=>match vs with | [.int _ j]=>((xs.length:Int)-j).toNat|_=>0) ?_))
 refine aI ⟨0,[],[],by omega,rfl,rfl,rfl,trivial,Sub.refl _,by simp[d7]⟩ ?_
 rintro _ _ h1 ⟨k,L,Bs,hk,⟨⟩,⟨⟩,hlk,hW,hsub,hfr⟩
 refine aI (fun hc2=>?_) (fun hc2=>?_)
 ·have hlt:k<xs.length:=by simpa using hc2
  obtain⟨x,gx⟩:=A03 hlt
  obtain⟨b1,cs1,e1,i1⟩:=Sl.get (Sl.mono hsub hx) gx (by decide)
  have hw:=V1 hlt hn
  obtain⟨a1,n1,c1,rfl⟩:=Wp.slice_cell i1
  refine aI b1 (eX _ (aI e1 ?_))
  refine Tr.mono (n0f h1 _ _ _ x i1 (by have:=n0o (m:=B4) gx;simp only[H5]at hl;omega)) ?_
  rintro v h2 ⟨B,hB1,hB2,hB3⟩
  obtain⟨a2,n2,c2,e2⟩:=Wp.slice_cell (J0.toR hB1)
  cases e2
  refine aI ?_ ?_
  ·show 0≤(k:Int)∧(k:Int)<((j03 L xs.length [.slice none 0 0]).length:Nat)
   rw[F06 (by omega)];omega
  refine eX [.slice none 0 0] (aI (v0b hlk hlt) ?_)
  refine aI rfl (aI (by first|exact trivial|exact aI rfl trivial|exact aI rfl (aI rfl trivial)|exact aI rfl (aI rfl (aI rfl trivial))|exact aI rfl (aI rfl (aI rfl (aI rfl trivial)))) (aI (by first|exact trivial|exact aI rfl trivial|exact aI rfl (aI rfl trivial)|exact aI rfl (aI rfl (aI rfl trivial))|exact aI rfl (aI rfl (aI rfl (aI rfl trivial)))) (aI ?_ ?_)))
  ·refine⟨k+1,L ++ [[.slice a2 n2 c2]],Bs ++ [B],by omega,by rw[←hw],?_,by simp[hlk],?_,hsub.trans hB3,?_⟩
   ·show [(j03 L xs.length [.slice none 0 0]).set k [.slice a2 n2 c2]]=_
    rw[w0b hlk hlt]
   ·rw[m01 gx]
    exact F3.snoc hB1 (Z0f hW hB3)
   ·exact r09 hW hsub hfr hB2
  ·show((xs.length:Int)-IntKind.i64.wrap ((k:Int)+1)).toNat<((xs.length:Int)-(k:Int)).toNat
   omega
 ·have hk:k=xs.length:=by simp at hc2;omega
  intro v h' hf
  rw[x0b (by omega)]at hf
  rw[hk,List.take_length]at hW
  exact Z0.fresh (r:=J0) hf hW hsub hfr
theorem h0c(h:Hp)(cs:List Value)(x:S00)(hx:u01.R h cs x)(hl:X02 x≤1048576):
  Tr Tryz.prog 16 #[.agg cs.toArray] h fun v h'=>∃ cs',v = .agg cs'.toArray∧New u01 h h' cs' x:=by
 obtain⟨x0,x1,a2,n2,c2,x2,a3,n3,c3,x3,a4,n4,c4,x4,x5_0,x5_1,a5_2,n5_2,c5_2,x5_2,x6,rfl,rfl,h0,h1,h2,h3,h4,h5_0,h5_1,h5_2,h6⟩:=n01 hx
 simp only[X02]at hl
 refine Y1 (args:=[.agg #[.int .i64 x0,.int .i64 x1,.slice a2 n2 c2,.slice a3 n3 c3,.slice a4 n4 c4,.int .i64 x5_0,.int .i64 x5_1,.slice a5_2 n5_2 c5_2,.int .i64 x6]]) (fn:=Tryz.f16) rfl ?_
 refine Tr.mono (y0n h a2 n2 c2 x2 (Sl.mono (Sub.refl _) h2) (by omega)) ?_
 rintro v2 k2 N2
 obtain⟨a2z,n2z,c2z,ez2⟩:=Wp.slice_cell N2.r
 cases ez2
 refine Tr.mono (n0f k2 a3 n3 c3 x3 (Sl.mono N2.sub h3) (by omega)) ?_
 rintro v3 k3 N3
 obtain⟨a3z,n3z,c3z,ez3⟩:=Wp.slice_cell N3.r
 cases ez3
 refine Tr.mono (n0f k3 a4 n4 c4 x4 (Sl.mono (N2.sub.trans N3.sub) h4) (by omega)) ?_
 rintro v4 k4 N4
 obtain⟨a4z,n4z,c4z,ez4⟩:=Wp.slice_cell N4.r
 cases ez4
 refine Tr.mono (x0n k4 [.int .i64 x5_0,.int .i64 x5_1,.slice a5_2 n5_2 c5_2] (x5_0,x5_1,x5_2) (W0.mono ((N2.sub.trans N3.sub).trans N4.sub) (z0 h5_0 h5_1 h5_2)) (by omega)) ?_
 rintro v5 k5 ⟨cs5,rfl,N5⟩
 obtain⟨x5_0z,x5_1z,a5_2z,n5_2z,c5_2z,x5_2z,rfl,ez5,_,_,_⟩:=B0 N5.r
 exact eX _ (aI rfl (New.pair (New.int h0) (New.pair (New.int h1) (New.pair N2 (New.pair N3 (New.pair N4 (New.pair N5 (New.int h6))))))))
end Go.Proofs.YtcakocbgbelmeaaGreat
