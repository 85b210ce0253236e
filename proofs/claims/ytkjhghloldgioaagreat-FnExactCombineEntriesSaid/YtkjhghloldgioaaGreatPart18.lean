/- Texts of the claim, joined: The data types of the laws, as lists and tuples and others. -/
import Derived.Test.YtkjhghloldgioaaGreatHE
import Derived.Test.YtkjhghloldgioaaGreatChecked
namespace Go.Proofs.YtkjhghloldgioaaGreat
open Go.H
set_option linter.unusedVariables false
set_option linter.unusedSimpArgs false
set_option maxRecDepth 10000
def h0b:Nat->Nat->List UInt8->List UInt8
 |0,_,acc=>acc
 |f+1,n,acc=>if n=0 then acc else h0b f (n / 10) (UInt8.ofNat (48+n % 10)::acc)
theorem I0f:∀(f n:Nat) (acc:List UInt8),(h0b f n acc).length<=f+acc.length
 |0,n,acc=>by simp[h0b]
 |f+1,n,acc=>by
  simp only[h0b]
  split
  ·omega
  ·have:=I0f f (n / 10) (UInt8.ofNat (48+n % 10)::acc)
   simp only[List.length_cons]at this
   omega
theorem r0l{x:Int}(h1 : -9223372036854775808<=x)(h2:x<=9223372036854775807):O0 x:=⟨h1,h2⟩
def J9(k:Int):ByteArray:=if k<=0 then⟨#[109,48]⟩else⟨(109::h0b 20 k.toNat []).toArray⟩
theorem l0h(k:Int):(J9 k).size<=9223372036854775807:=by
 unfold J9
 split
 ·decide
 ·have:=I0f 20 k.toNat []
  show(109::h0b 20 k.toNat []).toArray.size<=_
  simp only[List.size_toArray,List.length_cons]
  simp only[List.length_nil]at this
  omega
abbrev H0:Type:=Int×Int×Int
abbrev H1:Wp H0:=Wp.pair Wp.int (Wp.pair Wp.int Wp.int)
instance m0p:DecidableEq H0:=(@instDecidableEqProd _ _ (inferInstance:DecidableEq Int) (@instDecidableEqProd _ _ (inferInstance:DecidableEq Int) (inferInstance:DecidableEq Int)))
def R0n(x:H0):Nat:=0
def H5(x:H0):Nat:=1+1+1
def G01(x:H0)(k:Int):H0:=(k,(k+(1:Nat)),(k+(1+1:Nat)))
theorem U1{h:Hp}{cs:List Value}{x:H0}(hx:H1.R h cs x):∃(x0:Int) (x1:Int) (x2:Int),cs = [.int .i64 x0,.int .i64 x1,.int .i64 x2]/\x=(x0,x1,x2)/\O0 x0/\O0 x1/\O0 x2:=by
 obtain⟨x0,x1,x2⟩:=x
 obtain⟨_,_,rfl,⟨rfl,h0⟩,⟨_,_,rfl,⟨rfl,h1⟩,⟨rfl,h2⟩⟩⟩:=hx
 exact⟨x0,x1,x2,rfl,rfl,h0,h1,h2⟩
theorem T1{h:Hp}{x0:Int}{x1:Int}{x2:Int}(h0:O0 x0)(h1:O0 x1)(h2:O0 x2):H1.R h [.int .i64 x0,.int .i64 x1,.int .i64 x2] (x0,x1,x2) :=
 ⟨[.int .i64 x0],[.int .i64 x1,.int .i64 x2],rfl,⟨rfl,h0⟩,⟨[.int .i64 x1],[.int .i64 x2],rfl,⟨rfl,h1⟩,⟨rfl,h2⟩⟩⟩
theorem d09{h:Hp}{cs:List Value}{x:H0}{B:List Nat}(hx:H1.W h cs x B):∃(x0:Int) (x1:Int) (x2:Int),cs = [.int .i64 x0,.int .i64 x1,.int .i64 x2]/\x=(x0,x1,x2)/\B=([]++([] ++ []))/\O0 x0/\O0 x1/\O0 x2:=by
 obtain⟨x0,x1,x2⟩:=x
 obtain⟨_,_,_,_,rfl,rfl,⟨⟨rfl,h0⟩,rfl⟩,⟨_,_,_,_,rfl,rfl,⟨⟨rfl,h1⟩,rfl⟩,⟨⟨rfl,h2⟩,rfl⟩⟩⟩:=hx
 exact⟨x0,x1,x2,rfl,rfl,rfl,h0,h1,h2⟩
theorem V04{h:Hp}{x0:Int}{x1:Int}{x2:Int}(h0:O0 x0)(h1:O0 x1)(h2:O0 x2):H1.W h [.int .i64 x0,.int .i64 x1,.int .i64 x2] (x0,x1,x2) ([]++([] ++ [])) :=
 ⟨[.int .i64 x0],[.int .i64 x1,.int .i64 x2],[],([] ++ []),rfl,rfl,⟨⟨rfl,h0⟩,rfl⟩,⟨[.int .i64 x1],[.int .i64 x2],[],[],rfl,rfl,⟨⟨rfl,h1⟩,rfl⟩,⟨⟨rfl,h2⟩,rfl⟩⟩⟩
abbrev K0:Type:=List H0
abbrev J0:Wp K0:=Wp.slice H1
instance p0o:DecidableEq K0:=inferInstanceAs (DecidableEq (List H0))
def k01(x:K0):Nat:=x.length
def V00(x:K0):Nat:=A5 H5 x
def g01(x:K0)(k:Int):K0:=mkL G01 H5 x k
abbrev j0:Type:=Int×Int×K0
abbrev D1:Wp j0:=Wp.pair Wp.int (Wp.pair Wp.int J0)
instance q0o:DecidableEq j0:=(@instDecidableEqProd _ _ (inferInstance:DecidableEq Int) (@instDecidableEqProd _ _ (inferInstance:DecidableEq Int) p0o))
def P9(x:j0):Nat:=k01 x.2.2
def d02(x:j0):Nat:=1+1+V00 x.2.2
def d0e(x:j0)(k:Int):j0:=(k,(k+(1:Nat)),g01 x.2.2 (k+(1+1:Nat)))
theorem C0{h:Hp}{cs:List Value}{x:j0}(hx:D1.R h cs x):∃(x0:Int) (x1:Int) (a2:Option Addr) (n2 c2:Nat) (x2:K0),cs = [.int .i64 x0,.int .i64 x1,.slice a2 n2 c2]/\x=(x0,x1,x2)/\O0 x0/\O0 x1/\J0.R h [.slice a2 n2 c2] x2:=by
 obtain⟨x0,x1,x2⟩:=x
 obtain⟨_,_,rfl,⟨rfl,h0⟩,⟨_,_,rfl,⟨rfl,h1⟩,h2⟩⟩:=hx
 obtain⟨a2,n2,c2,rfl⟩:=Wp.slice_cell h2
 exact⟨x0,x1,a2,n2,c2,x2,rfl,rfl,h0,h1,h2⟩
theorem l0{h:Hp}{x0:Int}{x1:Int}{a2:Option Addr}{n2 c2:Nat}{x2:K0}(h0:O0 x0)(h1:O0 x1)(h2:J0.R h [.slice a2 n2 c2] x2):D1.R h [.int .i64 x0,.int .i64 x1,.slice a2 n2 c2] (x0,x1,x2) :=
 ⟨[.int .i64 x0],[.int .i64 x1,.slice a2 n2 c2],rfl,⟨rfl,h0⟩,⟨[.int .i64 x1],[.slice a2 n2 c2],rfl,⟨rfl,h1⟩,h2⟩⟩
abbrev L4:Type:=Int×Int
abbrev O3:Wp L4:=Wp.pair Wp.int Wp.int
instance n0p:DecidableEq L4:=(@instDecidableEqProd _ _ (inferInstance:DecidableEq Int) (inferInstance:DecidableEq Int))
theorem y00{h:Hp}{cs:List Value}{x:L4}(hx:O3.R h cs x):∃(x0:Int) (x1:Int),cs = [.int .i64 x0,.int .i64 x1]/\x=(x0,x1)/\O0 x0/\O0 x1:=by
 obtain⟨x0,x1⟩:=x
 obtain⟨_,_,rfl,⟨rfl,h0⟩,⟨rfl,h1⟩⟩:=hx
 exact⟨x0,x1,rfl,rfl,h0,h1⟩
theorem C2{h:Hp}{x0:Int}{x1:Int}(h0:O0 x0)(h1:O0 x1):O3.R h [.int .i64 x0,.int .i64 x1] (x0,x1) :=
 ⟨[.int .i64 x0],[.int .i64 x1],rfl,⟨rfl,h0⟩,⟨rfl,h1⟩⟩
abbrev Y0:Type:=List Int
abbrev M4:Wp Y0:=Wp.slice Wp.int
instance o0p:DecidableEq Y0:=inferInstanceAs (DecidableEq (List Int))
abbrev e0e:Type:=List Y0
abbrev r0o:Wp e0e:=Wp.slice M4
instance h0p:DecidableEq e0e:=inferInstanceAs (DecidableEq (List Y0))
abbrev I5:Type:=ByteArray×j0
abbrev Z0:Wp I5:=Wp.pair Wp.str D1
instance i0p:DecidableEq I5:=(@instDecidableEqProd _ _ (inferInstance:DecidableEq ByteArray) q0o)
def V7(x:I5):Nat:=x.1.size+P9 x.2
def B3(x:I5):Nat:=1+d02 x.2
def y9(x:I5)(k:Int):I5:=(J9 k,d0e x.2 (k+(1:Nat)))
theorem j3{h:Hp}{cs:List Value}{x:I5}(hx:Z0.R h cs x):∃(x0:ByteArray) (aA:Int) (aB:Int) (aC:Option Addr) (aD aF:Nat) (aG:K0),cs = [.string x0,.int .i64 aA,.int .i64 aB,.slice aC aD aF]/\x=(x0,(aA,aB,aG))/\x0.size<=9223372036854775807/\O0 aA/\O0 aB/\J0.R h [.slice aC aD aF] aG:=by
 obtain⟨x0,⟨aA,aB,aG⟩⟩:=x
 obtain⟨_,_,rfl,⟨rfl,h0⟩,⟨_,_,rfl,⟨rfl,aJ⟩,⟨_,_,rfl,⟨rfl,aK⟩,aH⟩⟩⟩:=hx
 obtain⟨aC,aD,aF,rfl⟩:=Wp.slice_cell aH
 exact⟨x0,aA,aB,aC,aD,aF,aG,rfl,rfl,h0,aJ,aK,aH⟩
theorem S3{h:Hp}{x0:ByteArray}{aB:Int}{aA:Int}{aC:Option Addr}{aD aF:Nat}{aG:K0}(h0:x0.size<=9223372036854775807)(aH:O0 aB)(aJ:O0 aA)(aK:J0.R h [.slice aC aD aF] aG):Z0.R h [.string x0,.int .i64 aB,.int .i64 aA,.slice aC aD aF] (x0,(aB,aA,aG)) :=
 ⟨[.string x0],[.int .i64 aB,.int .i64 aA,.slice aC aD aF],rfl,⟨rfl,h0⟩,⟨[.int .i64 aB],[.int .i64 aA,.slice aC aD aF],rfl,⟨rfl,aH⟩,⟨[.int .i64 aA],[.slice aC aD aF],rfl,⟨rfl,aJ⟩,aK⟩⟩⟩
theorem W04{h:Hp}{cs:List Value}{x:I5}{B:List Nat}(hx:Z0.W h cs x B):∃(x0:ByteArray) (aA:Int) (aB:Int) (aC:Option Addr) (aD aF:Nat) (aG:K0) (B1_2:List Nat),cs = [.string x0,.int .i64 aA,.int .i64 aB,.slice aC aD aF]/\x=(x0,(aA,aB,aG))/\B=([]++([]++([]++B1_2)))/\x0.size<=9223372036854775807/\O0 aA/\O0 aB/\J0.W h [.slice aC aD aF] aG B1_2:=by
 obtain⟨x0,⟨aA,aB,aG⟩⟩:=x
 obtain⟨_,_,_,_,rfl,rfl,⟨⟨rfl,h0⟩,rfl⟩,⟨_,_,_,_,rfl,rfl,⟨⟨rfl,aJ⟩,rfl⟩,⟨_,_,_,_,rfl,rfl,⟨⟨rfl,aK⟩,rfl⟩,aH⟩⟩⟩:=hx
 obtain⟨aC,aD,aF,rfl⟩:=Wp.slice_cell (J0.toR aH)
 exact⟨x0,aA,aB,aC,aD,aF,aG,_,rfl,rfl,rfl,h0,aJ,aK,aH⟩
theorem B03{h:Hp}{x0:ByteArray}{aB:Int}{aA:Int}{aC:Option Addr}{aD aF:Nat}{aG:K0}{B1_2:List Nat}(h0:x0.size<=9223372036854775807)(aH:O0 aB)(aJ:O0 aA)(aK:J0.W h [.slice aC aD aF] aG B1_2):Z0.W h [.string x0,.int .i64 aB,.int .i64 aA,.slice aC aD aF] (x0,(aB,aA,aG)) ([]++([]++([]++B1_2))) :=
 ⟨[.string x0],[.int .i64 aB,.int .i64 aA,.slice aC aD aF],[],([]++([]++B1_2)),rfl,rfl,⟨⟨rfl,h0⟩,rfl⟩,⟨[.int .i64 aB],[.int .i64 aA,.slice aC aD aF],[],([]++B1_2),rfl,rfl,⟨⟨rfl,aH⟩,rfl⟩,⟨[.int .i64 aA],[.slice aC aD aF],[],B1_2,rfl,rfl,⟨⟨rfl,aJ⟩,rfl⟩,aK⟩⟩⟩
abbrev K1:Type:=List I5
abbrev Z1:Wp K1:=Wp.slice Z0
instance j0n:DecidableEq K1:=inferInstanceAs (DecidableEq (List I5))
def L00(x:K1):Nat:=x.length+A5 V7 x
def e02(x:K1):Nat:=A5 B3 x
def h03(x:K1)(k:Int):K1:=mkL y9 B3 x k
abbrev Q0:Type:=Int×K1
abbrev Y1:Wp Q0:=Wp.pair Wp.int Z1
instance W0o:DecidableEq Q0:=(@instDecidableEqProd _ _ (inferInstance:DecidableEq Int) j0n)
def n8(x:Q0):Nat:=L00 x.2
def U5(x:Q0):Nat:=e02 x.2
def n04(x:Q0)(k:Int):Q0:=(x.1,h03 x.2 k)
theorem L1{h:Hp}{cs:List Value}{x:Q0}(hx:Y1.R h cs x):∃(x0:Int) (a1:Option Addr) (n1 c1:Nat) (x1:K1),cs = [.int .i64 x0,.slice a1 n1 c1]/\x=(x0,x1)/\O0 x0/\Z1.R h [.slice a1 n1 c1] x1:=by
 obtain⟨x0,x1⟩:=x
 obtain⟨_,_,rfl,⟨rfl,h0⟩,h1⟩:=hx
 obtain⟨a1,n1,c1,rfl⟩:=Wp.slice_cell h1
 exact⟨x0,a1,n1,c1,x1,rfl,rfl,h0,h1⟩
theorem T0{h:Hp}{x0:Int}{a1:Option Addr}{n1 c1:Nat}{x1:K1}(h0:O0 x0)(h1:Z1.R h [.slice a1 n1 c1] x1):Y1.R h [.int .i64 x0,.slice a1 n1 c1] (x0,x1) :=
 ⟨[.int .i64 x0],[.slice a1 n1 c1],rfl,⟨rfl,h0⟩,h1⟩
theorem f0e{h:Hp}{cs:List Value}{x:Q0}{B:List Nat}(hx:Y1.W h cs x B):∃(x0:Int) (a1:Option Addr) (n1 c1:Nat) (x1:K1) (B1:List Nat),cs = [.int .i64 x0,.slice a1 n1 c1]/\x=(x0,x1)/\B=([]++B1)/\O0 x0/\Z1.W h [.slice a1 n1 c1] x1 B1:=by
 obtain⟨x0,x1⟩:=x
 obtain⟨_,_,_,_,rfl,rfl,⟨⟨rfl,h0⟩,rfl⟩,h1⟩:=hx
 obtain⟨a1,n1,c1,rfl⟩:=Wp.slice_cell (Z1.toR h1)
 exact⟨x0,a1,n1,c1,x1,_,rfl,rfl,rfl,h0,h1⟩
abbrev W7:Type:=List L4
abbrev g0e:Wp W7:=Wp.slice O3
instance j0p:DecidableEq W7:=inferInstanceAs (DecidableEq (List L4))
theorem k0n(x:H0):H5 x<=3:=by
 simp only[H5]
 omega
theorem l0n(x:K0):V00 x<=16*k01 x:=H0f (c:=H5) (λx=>by have:=k0n x;omega) x
theorem s0l(x:j0):d02 x<=2+16*P9 x:=by
 have:=l0n x.2.2
 simp only[d02,P9]
 omega
theorem t0l(x:I5):B3 x<=3+16*V7 x:=by
 have:=s0l x.2
 simp only[B3,V7]
 omega
theorem u0l(x:K1):e02 x<=16*L00 x:=t0i (c:=B3) (m:=V7) (λx=>by have:=t0l x;omega) x
theorem S0j(x:Q0):U5 x<=16*n8 x:=by
 have:=u0l x.2
 simp only[U5,n8]
 omega
theorem m0h(h:Hp):∃ cs,H1.R h cs (0,0,0):=⟨_,T1 (by decide) (by decide) (by decide)⟩
theorem h0e(h:Hp):∃ cs,Z0.R h cs (⟨#[]⟩,(0,0,[])):=⟨_,S3 (by decide) (by decide) (by decide) (c09 H1 h)⟩
theorem r0k(h:Hp)(a:Option Addr)(n c:Nat)(xs:K0)(left:Int)(hx:J0.R h [.slice a n c] xs)(hl:0<=left/\left<=1048576):
  Tr Tryz.prog 102 #[.slice a n c,.int .i64 left] h λv h'=>v = .int .i64 (szR left (k01 xs))/\h'=h:=by
 obtain⟨rfl,hn⟩:=Sl.len hx
 have hw:IntKind.i64.wrap (left-(xs.length:Int))=left-xs.length:=w64 (by omega) (by omega)
 refine D3 (args:=[.slice a xs.length c,.int .i64 left]) (fn:=Tryz.f102) rfl ?_
 refine aI (λhc=>?_) (λhc=>?_)
 ·refine aI ?_ rfl
  simp[hw]at hc
  rw[k01,i0h (by omega)]
  rfl
 ·refine aI ?_ rfl
  simp[hw]at hc
  rw[k01,j0h (by omega)]
  exact congrArg (Value.int .i64) hw
theorem s0k(h:Hp)(cs:List Value)(x:j0)(left:Int)(hx:D1.R h cs x)(hl:0<=left/\left<=1048576):
  Tr Tryz.prog 41 #[.agg cs.toArray,.int .i64 left] h λv h'=>v = .int .i64 (szR left (P9 x))/\h'=h:=by
 obtain⟨x0,x1,a2,n2,c2,x2,rfl,rfl,h0,h1,h2⟩:=C0 hx
 refine D3 (args:=[.agg #[.int .i64 x0,.int .i64 x1,.slice a2 n2 c2],.int .i64 left]) (fn:=Tryz.f41) rfl ?_
 refine Tr.val (r0k h a2 n2 c2 x2 (left) h2 hl) ?_
 refine aI (λhc=>?_) (λhc=>?_)
 ·refine aI ?_ rfl
  rw[P9,W07 (left:=left) (a:=((k01 x2:Nat):Int)) (by simpa using hc) hl.1 (by simp only[];omega)]
  rfl
 have q0:0<=szR left ((k01 x2:Nat):Int):=by simpa using hc
 have aA:0<=szR left ((k01 x2:Nat):Int)/\szR left ((k01 x2:Nat):Int)<=1048576:=by
  have:=a09 q0
  omega
 exact aI rfl rfl
theorem t0k(h:Hp)(cs:List Value)(x:I5)(left:Int)(hx:Z0.R h cs x)(hl:0<=left/\left<=1048576):
  Tr Tryz.prog 237 #[.agg cs.toArray,.int .i64 left] h λv h'=>v = .int .i64 (szR left (V7 x))/\h'=h:=by
 obtain⟨x0,aA,aB,aF,aG,aH,aC,rfl,rfl,h0,aJ,aK,aL⟩:=j3 hx
 refine D3 (args:=[.agg #[.string x0,.int .i64 aA,.int .i64 aB,.slice aF aG aH],.int .i64 left]) (fn:=Tryz.f237) rfl ?_
 have aM:IntKind.i64.wrap (left-(x0.size:Int))=left-x0.size:=w64 (by omega) (by omega)
 refine aI (λhc=>?_) (λhc=>?_)
 ·simp[aM]at hc
  refine aI ?_ rfl
  rw[V7,i0h (by simp only[];omega)]
  rfl
 simp[aM]at hc
 have aD:szR left ((x0.size:Nat):Int)=left-x0.size:=j0h (by omega)
 have q0:0<=szR left ((x0.size:Nat):Int):=by rw[aD];omega
 have aD:szR left ((x0.size:Nat):Int)=IntKind.i64.wrap (left-(x0.size:Int)):=by rw[aM];exact aD
 have aO:0<=IntKind.i64.wrap (left-(x0.size:Int))/\IntKind.i64.wrap (left-(x0.size:Int))<=1048576:=by
  rw[←aD]
  have:=a09 q0
  omega
 refine Tr.val (s0k h [.int .i64 aA,.int .i64 aB,.slice aF aG aH] (aA,aB,aC) (IntKind.i64.wrap (left-(x0.size:Int))) (l0 aJ aK aL) aO) ?_
 refine aI (λhc=>?_) (λhc=>?_)
 ·refine aI ?_ rfl
  have hc':szR (IntKind.i64.wrap (left-(x0.size:Int))) ((P9 (aA,aB,aC):Nat):Int)<0:=by simpa using hc
  rw[←aD,a0e q0 (by omega) (by omega)]at hc'
  rw[V7,W07 hc' hl.1 (by simp only[];omega)]
  rfl
 have hc':0<=szR (IntKind.i64.wrap (left-(x0.size:Int))) ((P9 (aA,aB,aC):Nat):Int):=by simpa using hc
 have aN:szR left ((x0.size+P9 (aA,aB,aC):Nat):Int)=szR (IntKind.i64.wrap (left-(x0.size:Int))) ((P9 (aA,aB,aC):Nat):Int):=by rw[←aD,a0e q0 (by omega) (by omega)];congr 1
 have q1:0<=szR left ((x0.size+P9 (aA,aB,aC):Nat):Int):=by rw[aN];exact hc'
 clear hc'
 have aP:0<=szR (IntKind.i64.wrap (left-(x0.size:Int))) ((P9 (aA,aB,aC):Nat):Int)/\szR (IntKind.i64.wrap (left-(x0.size:Int))) ((P9 (aA,aB,aC):Nat):Int)<=1048576:=by
  rw[←aN]
  have:=a09 q1
  omega
 exact aI (congrArg (Value.int .i64) (aN.symm.trans (by rw[V7]))) rfl
theorem Q0h(h:Hp)(a:Option Addr)(n c:Nat)(xs:K1)(left:Int)(hx:Z1.R h [.slice a n c] xs)(hl:0<=left/\left<=1048576):
  Tr Tryz.prog 128 #[.slice a n c,.int .i64 left] h λv h'=>v = .int .i64 (szR left (L00 xs))/\h'=h:=by
 obtain⟨rfl,hn⟩:=Sl.len hx
 have hw:IntKind.i64.wrap (left-(xs.length:Int))=left-xs.length:=w64 (by omega) (by omega)
 refine D3 (args:=[.slice a xs.length c,.int .i64 left]) (fn:=Tryz.f128) rfl ?_
 refine aI (λhc=>?_) (λhc=>?_)
 ·refine aI ?_ rfl
  simp[hw]at hc
  rw[L00,i0h (by omega)]
  rfl
 simp[hw]at hc
 refine eX { vars:=[1,5],boxes:=[],owns:=[] } (eX (λvs _ h'=>∃ k:Nat,k<=xs.length/\0<=szR left ((xs.length+A5 V7 (xs.take k):Nat):Int)/\vs = [.int .i64 (szR left ((xs.length+A5 V7 (xs.take k):Nat):Int)),.int .i64 k]/\h'=h) (eX (λvs _=>match vs with | [_,.int _ j]=>((xs.length:Int)-j).toNat|_=>0) ?_))
 have h0:szR left ((xs.length+A5 V7 (xs.take 0):Nat):Int)=left-xs.length:=by rw[j0h (by simp[A5];omega)];simp[A5]
 refine aI ⟨0,by omega,by omega,by rw[h0];exact congrArg (λx=>[Value.int .i64 x,Value.int .i64 0]) hw,rfl⟩ ?_
 rintro _ _ h1 ⟨k,hk,hpos,⟨⟩,rfl⟩
 obtain⟨q1,q2⟩:=a09 hpos
 refine aI (λaH=>?_) (λaH=>?_)
 ·have hlt:k<xs.length:=by simpa using aH
  obtain⟨x,hgx⟩:=E01 hlt
  obtain⟨b1,aQ,e1,i1⟩:=Sl.get hx hgx (by decide)
  have aP:=U2 hlt hn
  obtain⟨x0,aA,aB,aJ,aK,aL,aC,rfl,rfl,g0,aM,aN,aO⟩:=j3 i1
  refine aI b1 (eX _ (aI e1 ?_))
  refine Tr.val (t0k _ [.string x0,.int .i64 aA,.int .i64 aB,.slice aJ aK aL] (x0,(aA,aB,aC)) _ (S3 g0 aM aN aO) ⟨by omega,by omega⟩) ?_
  have hstep:szR (szR left ((xs.length+A5 V7 (xs.take k):Nat):Int)) (V7 (x0,(aA,aB,aC)):Nat)=szR left ((xs.length+A5 V7 (xs.take (k+1)):Nat):Int):=by
   rw[a0e hpos (by omega) (by omega),j04 hgx]
   congr 1
   omega
  refine aI (λaD=>?_) (λaD=>?_)
  ·refine aI ?_ rfl
   rw[hstep]at aD
   have aF:szR left ((xs.length+A5 V7 (xs.take (k+1)):Nat):Int)<0:=by simpa using aD
   have:=k04 V7 xs (k+1)
   rw[L00,W07 aF hl.1 (by omega)]
   rfl
  ·rw[hstep]at aD
   have aG:0<=szR left ((xs.length+A5 V7 (xs.take (k+1)):Nat):Int):=by simpa using aD
   refine aI rfl (aI (by first|exact trivial|exact aI rfl trivial|exact aI rfl (aI rfl trivial)|exact aI rfl (aI rfl (aI rfl trivial))|exact aI rfl (aI rfl (aI rfl (aI rfl trivial)))) (aI (by first|exact trivial|exact aI rfl trivial|exact aI rfl (aI rfl trivial)|exact aI rfl (aI rfl (aI rfl trivial))|exact aI rfl (aI rfl (aI rfl (aI rfl trivial)))) (aI ?_ ?_)))
   ·refine⟨k+1,by omega,aG,?_,rfl⟩
    rw[←aP,←hstep]
   ·show((xs.length:Int)-IntKind.i64.wrap ((k:Int)+1)).toNat<((xs.length:Int)-(k:Int)).toNat
    omega
 ·have hk:k=xs.length:=by simp at aH;omega
  subst hk
  refine aI ?_ rfl
  rw[List.take_length]
  rfl
theorem I0g(h:Hp)(cs:List Value)(x:Q0)(left:Int)(hx:Y1.R h cs x)(hl:0<=left/\left<=1048576):
  Tr Tryz.prog 48 #[.agg cs.toArray,.int .i64 left] h λv h'=>v = .int .i64 (szR left (n8 x))/\h'=h:=by
 obtain⟨x0,a1,n1,c1,x1,rfl,rfl,h0,h1⟩:=L1 hx
 refine D3 (args:=[.agg #[.int .i64 x0,.slice a1 n1 c1],.int .i64 left]) (fn:=Tryz.f48) rfl ?_
 refine Tr.val (Q0h h a1 n1 c1 x1 (left) h1 hl) ?_
 refine aI (λhc=>?_) (λhc=>?_)
 ·refine aI ?_ rfl
  rw[n8,W07 (left:=left) (a:=((L00 x1:Nat):Int)) (by simpa using hc) hl.1 (by simp only[];omega)]
  rfl
 have q0:0<=szR left ((L00 x1:Nat):Int):=by simpa using hc
 have aA:0<=szR left ((L00 x1:Nat):Int)/\szR left ((L00 x1:Nat):Int)<=1048576:=by
  have:=a09 q0
  omega
 exact aI rfl rfl
theorem K0m(h:Hp)(cs ds:List Value)(x y:H0)(hx:H1.R h cs x)(hy:H1.R h ds y):
  Tr Tryz.prog 225 #[.agg cs.toArray,.agg ds.toArray] h λv h'=>v = .bool (decide (x=y))/\h'=h:=by
 obtain⟨x0,x1,x2,rfl,rfl,h0,h1,h2⟩:=U1 hx
 obtain⟨x0y,x1y,x2y,rfl,rfl,h0y,h1y,h2y⟩:=U1 hy
 refine D3 (args:=[.agg #[.int .i64 x0,.int .i64 x1,.int .i64 x2],.agg #[.int .i64 x0y,.int .i64 x1y,.int .i64 x2y]]) (fn:=Tryz.f225) rfl ?_
 refine aI (λhc=>?_) (λhc=>?_)
 ·have ne:x0≠x0y:=by simpa using hc
  exact aI (congrArg Value.bool (decide_eq_false λe=>by cases e;exact ne rfl).symm) rfl
 have q0:x0=x0y:=by simpa using hc
 subst q0
 refine aI (λhc=>?_) (λhc=>?_)
 ·have ne:x1≠x1y:=by simpa using hc
  exact aI (congrArg Value.bool (decide_eq_false λe=>by cases e;exact ne rfl).symm) rfl
 have q1:x1=x1y:=by simpa using hc
 subst q1
 refine aI (λhc=>?_) (λhc=>?_)
 ·have ne:x2≠x2y:=by simpa using hc
  exact aI (congrArg Value.bool (decide_eq_false λe=>by cases e;exact ne rfl).symm) rfl
 have q2:x2=x2y:=by simpa using hc
 subst q2
 exact aI (congrArg Value.bool (decide_eq_true rfl).symm) rfl
theorem u0k(h:Hp)(a:Option Addr)(n c:Nat)(a':Option Addr)(n' c':Nat)(xs ys:K0)(hx:J0.R h [.slice a n c] xs)(hy:J0.R h [.slice a' n' c'] ys):
  Tr Tryz.prog 116 #[.slice a n c,.slice a' n' c'] h λv h'=>v = .bool (decide (xs=ys))/\h'=h:=by
 obtain⟨rfl,hn⟩:=Sl.len hx
 obtain⟨rfl,hn'⟩:=Sl.len hy
 refine D3 (args:=[.slice a xs.length c,.slice a' ys.length c']) (fn:=Tryz.f116) rfl ?_
 refine aI (λhc=>?_) (λhc=>?_)
 ·refine aI (congrArg Value.bool ?_) rfl
  have:xs.length≠ys.length:=by simp at hc;omega
  exact(decide_eq_false λe=>this (by rw[e])).symm
 have hlen:xs.length=ys.length:=by simp at hc;omega
 refine eX { vars:=[5],boxes:=[],owns:=[] } (eX (λvs _ h'=>∃ k:Nat,k<=xs.length/\xs.take k=ys.take k/\vs = [.int .i64 k]/\h'=h) (eX (λvs _=>match vs with | [.int _ j]=>((xs.length:Int)-j).toNat|_=>0) ?_))
 refine aI ⟨0,by omega,by simp,rfl,rfl⟩ ?_
 rintro _ h1 ⟨k,hk,hall,⟨⟩,rfl⟩
 refine aI (λaA=>?_) (λaA=>?_)
 ·have hlt:k<xs.length:=by simpa using aA
  obtain⟨x,gx⟩:=E01 hlt
  obtain⟨y,gy⟩:=E01 (l:=ys) (k:=k) (by omega)
  obtain⟨b1,aC,e1,i1⟩:=Sl.get hx gx (by decide)
  obtain⟨b2,aD,e2,i2⟩:=Sl.get hy gy (by decide)
  have hw:=U2 hlt hn
  obtain⟨x0,x1,x2,rfl,rfl,g0,g1,g2⟩:=U1 i1
  obtain⟨x0y,x1y,x2y,rfl,rfl,g0y,g1y,g2y⟩:=U1 i2
  refine Or.inl (aI (aI (by kernel_rfl) (by kernel_rfl)) ?_)
  refine aI b1 (eX _ (aI e1 (aI b2 (eX _ (aI e2 ?_)))))
  refine eX (.bool _) (aI (K0m _ [.int .i64 x0,.int .i64 x1,.int .i64 x2] [.int .i64 x0y,.int .i64 x1y,.int .i64 x2y] (x0,x1,x2) (x0y,x1y,x2y) (T1 g0 g1 g2) (T1 g0y g1y g2y)) ?_)
  refine aI (λaB=>?_) (λaB=>?_)
  ·refine aI (congrArg Value.bool ?_) rfl
   have hne:(x0,x1,x2)≠(x0y,x1y,x2y):=X07 aB
   exact(decide_eq_false λe=>hne (oJ (gx.symm.trans ((congrArg (λl:K0=>l[k]?) e).trans gy)))).symm
  ·have heq:(x0,x1,x2)=(x0y,x1y,x2y):=N05 aB
   refine aI rfl (aI (by first|exact trivial|exact aI rfl trivial|exact aI rfl (aI rfl trivial)|exact aI rfl (aI rfl (aI rfl trivial))|exact aI rfl (aI rfl (aI rfl (aI rfl trivial)))) (aI (by first|exact trivial|exact aI rfl trivial|exact aI rfl (aI rfl trivial)|exact aI rfl (aI rfl (aI rfl trivial))|exact aI rfl (aI rfl (aI rfl (aI rfl trivial)))) (aI ?_ ?_)))
   ·refine⟨k+1,by omega,by rw[w01 gx,w01 gy,hall,heq],?_,rfl⟩
    rw[←hw]
   ·show((xs.length:Int)-IntKind.i64.wrap ((k:Int)+1)).toNat<((xs.length:Int)-(k:Int)).toNat
    omega
 ·have hk:k=xs.length:=by simp at aA;omega
  refine aI (congrArg Value.bool ?_) rfl
  refine(decide_eq_true ?_).symm
  subst hk
  rwa [List.take_length,hlen,List.take_length]at hall
theorem v0k(h:Hp)(cs ds:List Value)(x y:j0)(hx:D1.R h cs x)(hy:D1.R h ds y):
  Tr Tryz.prog 45 #[.agg cs.toArray,.agg ds.toArray] h λv h'=>v = .bool (decide (x=y))/\h'=h:=by
 obtain⟨x0,x1,a2,n2,c2,x2,rfl,rfl,h0,h1,h2⟩:=C0 hx
 obtain⟨x0y,x1y,a2y,n2y,c2y,x2y,rfl,rfl,h0y,h1y,h2y⟩:=C0 hy
 refine D3 (args:=[.agg #[.int .i64 x0,.int .i64 x1,.slice a2 n2 c2],.agg #[.int .i64 x0y,.int .i64 x1y,.slice a2y n2y c2y]]) (fn:=Tryz.f45) rfl ?_
 refine aI (λhc=>?_) (λhc=>?_)
 ·have ne:x0≠x0y:=by simpa using hc
  exact aI (congrArg Value.bool (decide_eq_false λe=>by cases e;exact ne rfl).symm) rfl
 have q0:x0=x0y:=by simpa using hc
 subst q0
 refine aI (λhc=>?_) (λhc=>?_)
 ·have ne:x1≠x1y:=by simpa using hc
  exact aI (congrArg Value.bool (decide_eq_false λe=>by cases e;exact ne rfl).symm) rfl
 have q1:x1=x1y:=by simpa using hc
 subst q1
 refine Tr.val (u0k h a2 n2 c2 a2y n2y c2y x2 x2y h2 h2y) ?_
 refine aI (λhc=>?_) (λhc=>?_)
 ·have ne:x2≠x2y:=X07 hc
  exact aI (congrArg Value.bool (decide_eq_false λe=>by cases e;exact ne rfl).symm) rfl
 have q2:x2=x2y:=N05 hc
 subst q2
 exact aI (congrArg Value.bool (decide_eq_true rfl).symm) rfl
theorem w0k(h:Hp)(cs ds:List Value)(x y:I5)(hx:Z0.R h cs x)(hy:Z0.R h ds y):
  Tr Tryz.prog 239 #[.agg cs.toArray,.agg ds.toArray] h λv h'=>v = .bool (decide (x=y))/\h'=h:=by
 obtain⟨x0,aA,aB,aD,aF,aG,aC,rfl,rfl,h0,aH,aJ,aK⟩:=j3 hx
 obtain⟨x0y,x1_0y,x1_1y,a1_2y,n1_2y,c1_2y,x1_2y,rfl,rfl,h0y,h1_0y,h1_1y,h1_2y⟩:=j3 hy
 refine D3 (args:=[.agg #[.string x0,.int .i64 aA,.int .i64 aB,.slice aD aF aG],.agg #[.string x0y,.int .i64 x1_0y,.int .i64 x1_1y,.slice a1_2y n1_2y c1_2y]]) (fn:=Tryz.f239) rfl ?_
 refine aI (λhc=>?_) (λhc=>?_)
 ·have ne:x0≠x0y:=Q0n hc
  exact aI (congrArg Value.bool (decide_eq_false λe=>by cases e;exact ne rfl).symm) rfl
 have q0:x0=x0y:=V0o hc
 subst q0
 refine Tr.val (v0k h [.int .i64 aA,.int .i64 aB,.slice aD aF aG] [.int .i64 x1_0y,.int .i64 x1_1y,.slice a1_2y n1_2y c1_2y] (aA,aB,aC) (x1_0y,x1_1y,x1_2y) (l0 aH aJ aK) (l0 h1_0y h1_1y h1_2y)) ?_
 refine aI (λhc=>?_) (λhc=>?_)
 ·have ne:(aA,aB,aC)≠(x1_0y,x1_1y,x1_2y):=X07 hc
  exact aI (congrArg Value.bool (decide_eq_false λe=>by cases e;exact ne rfl).symm) rfl
 have q1:(aA,aB,aC)=(x1_0y,x1_1y,x1_2y):=N05 hc
 cases q1
 exact aI (congrArg Value.bool (decide_eq_true rfl).symm) rfl
theorem R0h(h:Hp)(a:Option Addr)(n c:Nat)(a':Option Addr)(n' c':Nat)(xs ys:K1)(hx:Z1.R h [.slice a n c] xs)(hy:Z1.R h [.slice a' n' c'] ys):
  Tr Tryz.prog 139 #[.slice a n c,.slice a' n' c'] h λv h'=>v = .bool (decide (xs=ys))/\h'=h:=by
 obtain⟨rfl,hn⟩:=Sl.len hx
 obtain⟨rfl,hn'⟩:=Sl.len hy
 refine D3 (args:=[.slice a xs.length c,.slice a' ys.length c']) (fn:=Tryz.f139) rfl ?_
 refine aI (λhc=>?_) (λhc=>?_)
 ·refine aI (congrArg Value.bool ?_) rfl
  have:xs.length≠ys.length:=by simp at hc;omega
  exact(decide_eq_false λe=>this (by rw[e])).symm
 have hlen:xs.length=ys.length:=by simp at hc;omega
 refine eX { vars:=[5],boxes:=[],owns:=[] } (eX (λvs _ h'=>∃ k:Nat,k<=xs.length/\xs.take k=ys.take k/\vs = [.int .i64 k]/\h'=h) (eX (λvs _=>match vs with | [.int _ j]=>((xs.length:Int)-j).toNat|_=>0) ?_))
 refine aI ⟨0,by omega,by simp,rfl,rfl⟩ ?_
 rintro _ h1 ⟨k,hk,hall,⟨⟩,rfl⟩
 refine aI (λaD=>?_) (λaD=>?_)
 ·have hlt:k<xs.length:=by simpa using aD
  obtain⟨x,gx⟩:=E01 hlt
  obtain⟨y,gy⟩:=E01 (l:=ys) (k:=k) (by omega)
  obtain⟨b1,aN,e1,i1⟩:=Sl.get hx gx (by decide)
  obtain⟨b2,aO,e2,i2⟩:=Sl.get hy gy (by decide)
  have hw:=U2 hlt hn
  obtain⟨x0,aA,aB,aF,aG,aH,aC,rfl,rfl,g0,aJ,aK,aL⟩:=j3 i1
  obtain⟨x0y,x1_0y,x1_1y,a1_2y,n1_2y,c1_2y,x1_2y,rfl,rfl,g0y,g1_0y,g1_1y,g1_2y⟩:=j3 i2
  refine Or.inl (aI (aI (by kernel_rfl) (by kernel_rfl)) ?_)
  refine aI b1 (eX _ (aI e1 (aI b2 (eX _ (aI e2 ?_)))))
  refine eX (.bool _) (aI (w0k _ [.string x0,.int .i64 aA,.int .i64 aB,.slice aF aG aH] [.string x0y,.int .i64 x1_0y,.int .i64 x1_1y,.slice a1_2y n1_2y c1_2y] (x0,(aA,aB,aC)) (x0y,(x1_0y,x1_1y,x1_2y)) (S3 g0 aJ aK aL) (S3 g0y g1_0y g1_1y g1_2y)) ?_)
  refine aI (λaM=>?_) (λaM=>?_)
  ·refine aI (congrArg Value.bool ?_) rfl
   have hne:(x0,(aA,aB,aC))≠(x0y,(x1_0y,x1_1y,x1_2y)):=X07 aM
   exact(decide_eq_false λe=>hne (oJ (gx.symm.trans ((congrArg (λl:K1=>l[k]?) e).trans gy)))).symm
  ·have heq:(x0,(aA,aB,aC))=(x0y,(x1_0y,x1_1y,x1_2y)):=N05 aM
   refine aI rfl (aI (by first|exact trivial|exact aI rfl trivial|exact aI rfl (aI rfl trivial)|exact aI rfl (aI rfl (aI rfl trivial))|exact aI rfl (aI rfl (aI rfl (aI rfl trivial)))) (aI (by first|exact trivial|exact aI rfl trivial|exact aI rfl (aI rfl trivial)|exact aI rfl (aI rfl (aI rfl trivial))|exact aI rfl (aI rfl (aI rfl (aI rfl trivial)))) (aI ?_ ?_)))
   ·refine⟨k+1,by omega,by rw[w01 gx,w01 gy,hall,heq],?_,rfl⟩
    rw[←hw]
   ·show((xs.length:Int)-IntKind.i64.wrap ((k:Int)+1)).toNat<((xs.length:Int)-(k:Int)).toNat
    omega
 ·have hk:k=xs.length:=by simp at aD;omega
  refine aI (congrArg Value.bool ?_) rfl
  refine(decide_eq_true ?_).symm
  subst hk
  rwa [List.take_length,hlen,List.take_length]at hall
theorem J03(h:Hp)(cs ds:List Value)(x y:Q0)(hx:Y1.R h cs x)(hy:Y1.R h ds y):
  Tr Tryz.prog 52 #[.agg cs.toArray,.agg ds.toArray] h λv h'=>v = .bool (decide (x=y))/\h'=h:=by
 obtain⟨x0,a1,n1,c1,x1,rfl,rfl,h0,h1⟩:=L1 hx
 obtain⟨x0y,a1y,n1y,c1y,x1y,rfl,rfl,h0y,h1y⟩:=L1 hy
 refine D3 (args:=[.agg #[.int .i64 x0,.slice a1 n1 c1],.agg #[.int .i64 x0y,.slice a1y n1y c1y]]) (fn:=Tryz.f52) rfl ?_
 refine aI (λhc=>?_) (λhc=>?_)
 ·have ne:x0≠x0y:=by simpa using hc
  exact aI (congrArg Value.bool (decide_eq_false λe=>by cases e;exact ne rfl).symm) rfl
 have q0:x0=x0y:=by simpa using hc
 subst q0
 refine Tr.val (R0h h a1 n1 c1 a1y n1y c1y x1 x1y h1 h1y) ?_
 refine aI (λhc=>?_) (λhc=>?_)
 ·have ne:x1≠x1y:=X07 hc
  exact aI (congrArg Value.bool (decide_eq_false λe=>by cases e;exact ne rfl).symm) rfl
 have q1:x1=x1y:=N05 hc
 subst q1
 exact aI (congrArg Value.bool (decide_eq_true rfl).symm) rfl
theorem L0m(h:Hp)(cs:List Value)(x:H0)(hx:H1.R h cs x)(hl:R0n x<=1048576):
  Tr Tryz.prog 218 #[.agg cs.toArray] h λv h'=>∃ cs',v = .agg cs'.toArray/\New H1 h h' cs' x:=by
 obtain⟨x0,x1,x2,rfl,rfl,h0,h1,h2⟩:=U1 hx
 refine D3 (args:=[.agg #[.int .i64 x0,.int .i64 x1,.int .i64 x2]]) (fn:=Tryz.f218) rfl ?_
 exact eX _ (aI rfl (New.pair (New.int h0) (New.pair (New.int h1) (New.int h2))))
theorem x0k(h:Hp)(a:Option Addr)(n c:Nat)(xs:K0)(hx:J0.R h [.slice a n c] xs)(hl:k01 xs<=1048576):
  Tr Tryz.prog 110 #[.slice a n c] h λv h'=>New J0 h h' [v] xs:=by
 obtain⟨rfl,hn⟩:=Sl.len hx
 have aF:xs.length<=1048576:=by simp only[k01]at hl;omega
 refine D3 (args:=[.slice a xs.length c]) (fn:=Tryz.f110) rfl ?_
 refine aI ?_ ?_
 ·show 0<=(xs.length:Int)/\(xs.length:Int)<=xs.length/\(xs.length:Int)*24<=140737488355328/\(xs.length:Int)<=9223372036854775807
  omega
 refine eX { vars:=[4],boxes:=[],owns:=[0],kept:=[0] } (eX (λvs os h'=>∃(k:Nat) (L:List (List Value)) (Bs:List (List Nat)),k<=xs.length/\vs = [.int .i64 k]/\os = [g03 L xs.length [.int .i64 0,.int .i64 0,.int .i64 0]]/\L.length=k /\
  F3 (H1.W h') L (xs.take k) Bs/\Sub h h'/\c5 h Bs.flatten) (eX (λvs _=>match vs with | [.int _ j]=>((xs.length:Int)-j).toNat|_=>0) ?_))
 refine aI ⟨0,[],[],by omega,rfl,rfl,rfl,trivial,Sub.refl _,by simp[c5]⟩ ?_
 rintro _ _ h1 ⟨k,L,Bs,hk,⟨⟩,⟨⟩,hlk,hW,hsub,hfr⟩
 refine aI (λaA=>?_) (λaA=>?_)
 ·have hlt:k<xs.length:=by simpa using aA
  obtain⟨x,gx⟩:=E01 hlt
  obtain⟨b1,aG,e1,i1⟩:=Sl.get (Sl.mono hsub hx) gx (by decide)
  have hw:=U2 hlt hn
  obtain⟨x0,x1,x2,rfl,rfl,g0,g1,g2⟩:=U1 i1
  refine aI b1 (eX _ (aI e1 ?_))
  refine Tr.mono (L0m h1 [.int .i64 x0,.int .i64 x1,.int .i64 x2] (x0,x1,x2) (T1 g0 g1 g2) (by simp only[R0n];omega)) ?_
  rintro v h2 ⟨aH,rfl,B,aB,aD,aC⟩
  obtain⟨x0z,x1z,x2z,rfl,ez,_,_,_⟩:=U1 (H1.toR aB)
  refine aI ?_ ?_
  ·show 0<=(k:Int)/\(k:Int)<((g03 L xs.length [.int .i64 0,.int .i64 0,.int .i64 0]).length:Nat)
   rw[V07 (by omega)];omega
  refine eX [.int .i64 0,.int .i64 0,.int .i64 0] (aI (T0c hlk hlt) ?_)
  refine aI rfl (aI (by first|exact trivial|exact aI rfl trivial|exact aI rfl (aI rfl trivial)|exact aI rfl (aI rfl (aI rfl trivial))|exact aI rfl (aI rfl (aI rfl (aI rfl trivial)))) (aI (by first|exact trivial|exact aI rfl trivial|exact aI rfl (aI rfl trivial)|exact aI rfl (aI rfl (aI rfl trivial))|exact aI rfl (aI rfl (aI rfl (aI rfl trivial)))) (aI ?_ ?_)))
  ·refine⟨k+1,L ++ [[.int .i64 x0z,.int .i64 x1z,.int .i64 x2z]],Bs ++ [B],by omega,by rw[←hw],?_,by simp[hlk],?_,hsub.trans aC,?_⟩
   ·show [(g03 L xs.length [.int .i64 0,.int .i64 0,.int .i64 0]).set k [.int .i64 x0z,.int .i64 x1z,.int .i64 x2z]]=_
    rw[U0c hlk hlt]
   ·rw[w01 gx]
    exact F3.snoc aB (c0b hW aC)
   ·exact i07 hW hsub hfr aD
  ·show((xs.length:Int)-IntKind.i64.wrap ((k:Int)+1)).toNat<((xs.length:Int)-(k:Int)).toNat
   omega
 ·have hk:k=xs.length:=by simp at aA;omega
  intro v h' hf
  rw[V0c (by omega)]at hf
  rw[hk,List.take_length]at hW
  exact O1.fresh (r:=H1) hf hW hsub hfr
theorem y0k(h:Hp)(cs:List Value)(x:j0)(hx:D1.R h cs x)(hl:P9 x<=1048576):
  Tr Tryz.prog 43 #[.agg cs.toArray] h λv h'=>∃ cs',v = .agg cs'.toArray/\New D1 h h' cs' x:=by
 obtain⟨x0,x1,a2,n2,c2,x2,rfl,rfl,h0,h1,h2⟩:=C0 hx
 simp only[P9]at hl
 refine D3 (args:=[.agg #[.int .i64 x0,.int .i64 x1,.slice a2 n2 c2]]) (fn:=Tryz.f43) rfl ?_
 refine Tr.mono (x0k h a2 n2 c2 x2 (Sl.mono (Sub.refl _) h2) (by omega)) ?_
 rintro v2 k2 N2
 obtain⟨a2z,n2z,c2z,aA⟩:=Wp.slice_cell N2.r
 cases aA
 exact eX _ (aI rfl (New.pair (New.int h0) (New.pair (New.int h1) N2)))
theorem z0k(h:Hp)(cs:List Value)(x:I5)(hx:Z0.R h cs x)(hl:V7 x<=1048576):
  Tr Tryz.prog 238 #[.agg cs.toArray] h λv h'=>∃ cs',v = .agg cs'.toArray/\New Z0 h h' cs' x:=by
 obtain⟨x0,aA,aB,aC,aD,aF,aG,rfl,rfl,h0,aH,aJ,aK⟩:=j3 hx
 simp only[V7]at hl
 refine D3 (args:=[.agg #[.string x0,.int .i64 aA,.int .i64 aB,.slice aC aD aF]]) (fn:=Tryz.f238) rfl ?_
 refine Tr.mono (y0k h [.int .i64 aA,.int .i64 aB,.slice aC aD aF] (aA,aB,aG) (D1.mono (Sub.refl _) (l0 aH aJ aK)) (by omega)) ?_
 rintro v1 k1 ⟨aL,rfl,N1⟩
 obtain⟨x1_0z,x1_1z,a1_2z,n1_2z,c1_2z,x1_2z,rfl,aM,_,_,_⟩:=C0 N1.r
 exact eX _ (aI rfl (New.pair (New.str h0) N1))
theorem S0h(h:Hp)(a:Option Addr)(n c:Nat)(xs:K1)(hx:Z1.R h [.slice a n c] xs)(hl:L00 xs<=1048576):
  Tr Tryz.prog 133 #[.slice a n c] h λv h'=>New Z1 h h' [v] xs:=by
 obtain⟨rfl,hn⟩:=Sl.len hx
 have aP:xs.length<=1048576:=by simp only[L00]at hl;omega
 refine D3 (args:=[.slice a xs.length c]) (fn:=Tryz.f133) rfl ?_
 refine aI ?_ ?_
 ·show 0<=(xs.length:Int)/\(xs.length:Int)<=xs.length/\(xs.length:Int)*56<=140737488355328/\(xs.length:Int)<=9223372036854775807
  omega
 refine eX { vars:=[4],boxes:=[],owns:=[0],kept:=[0] } (eX (λvs os h'=>∃(k:Nat) (L:List (List Value)) (Bs:List (List Nat)),k<=xs.length/\vs = [.int .i64 k]/\os = [g03 L xs.length [.string ⟨#[]⟩,.int .i64 0,.int .i64 0,.slice none 0 0]]/\L.length=k /\
  F3 (Z0.W h') L (xs.take k) Bs/\Sub h h'/\c5 h Bs.flatten) (eX (λvs _=>match vs with | [.int _ j]=>((xs.length:Int)-j).toNat|_=>0) ?_))
 refine aI ⟨0,[],[],by omega,rfl,rfl,rfl,trivial,Sub.refl _,by simp[c5]⟩ ?_
 rintro _ _ h1 ⟨k,L,Bs,hk,⟨⟩,⟨⟩,hlk,hW,hsub,hfr⟩
 refine aI (λaC=>?_) (λaC=>?_)
 ·have hlt:k<xs.length:=by simpa using aC
  obtain⟨x,gx⟩:=E01 hlt
  obtain⟨b1,aQ,e1,i1⟩:=Sl.get (Sl.mono hsub hx) gx (by decide)
  have hw:=U2 hlt hn
  obtain⟨x0,aA,aB,aD,aF,aG,aH,rfl,rfl,g0,aJ,aK,aL⟩:=j3 i1
  refine aI b1 (eX _ (aI e1 ?_))
  refine Tr.mono (z0k h1 [.string x0,.int .i64 aA,.int .i64 aB,.slice aD aF aG] (x0,(aA,aB,aH)) (S3 g0 aJ aK aL) (by first|(have:=o0l (m:=V7) gx;simp only[L00]at hl;omega)|(show V7 _<=_;simp only[V7];omega))) ?_
  rintro v h2 ⟨aR,rfl,B,aM,aO,aN⟩
  obtain⟨x0z,x1_0z,x1_1z,a1_2z,n1_2z,c1_2z,x1_2z,rfl,ez,_,_,_,_⟩:=j3 (Z0.toR aM)
  refine aI ?_ ?_
  ·show 0<=(k:Int)/\(k:Int)<((g03 L xs.length [.string ⟨#[]⟩,.int .i64 0,.int .i64 0,.slice none 0 0]).length:Nat)
   rw[V07 (by omega)];omega
  refine eX [.string ⟨#[]⟩,.int .i64 0,.int .i64 0,.slice none 0 0] (aI (T0c hlk hlt) ?_)
  refine aI rfl (aI (by first|exact trivial|exact aI rfl trivial|exact aI rfl (aI rfl trivial)|exact aI rfl (aI rfl (aI rfl trivial))|exact aI rfl (aI rfl (aI rfl (aI rfl trivial)))) (aI (by first|exact trivial|exact aI rfl trivial|exact aI rfl (aI rfl trivial)|exact aI rfl (aI rfl (aI rfl trivial))|exact aI rfl (aI rfl (aI rfl (aI rfl trivial)))) (aI ?_ ?_)))
  ·refine⟨k+1,L ++ [[.string x0z,.int .i64 x1_0z,.int .i64 x1_1z,.slice a1_2z n1_2z c1_2z]],Bs ++ [B],by omega,by rw[←hw],?_,by simp[hlk],?_,hsub.trans aN,?_⟩
   ·show [(g03 L xs.length [.string ⟨#[]⟩,.int .i64 0,.int .i64 0,.slice none 0 0]).set k [.string x0z,.int .i64 x1_0z,.int .i64 x1_1z,.slice a1_2z n1_2z c1_2z]]=_
    rw[U0c hlk hlt]
   ·rw[w01 gx]
    exact F3.snoc aM (c0b hW aN)
   ·exact i07 hW hsub hfr aO
  ·show((xs.length:Int)-IntKind.i64.wrap ((k:Int)+1)).toNat<((xs.length:Int)-(k:Int)).toNat
   omega
 ·have hk:k=xs.length:=by simp at aC;omega
  intro v h' hf
  rw[V0c (by omega)]at hf
  rw[hk,List.take_length]at hW
  exact O1.fresh (r:=Z0) hf hW hsub hfr
theorem K03(h:Hp)(cs:List Value)(x:Q0)(hx:Y1.R h cs x)(hl:n8 x<=1048576):
  Tr Tryz.prog 50 #[.agg cs.toArray] h λv h'=>∃ cs',v = .agg cs'.toArray/\New Y1 h h' cs' x:=by
 obtain⟨x0,a1,n1,c1,x1,rfl,rfl,h0,h1⟩:=L1 hx
 simp only[n8]at hl
 refine D3 (args:=[.agg #[.int .i64 x0,.slice a1 n1 c1]]) (fn:=Tryz.f50) rfl ?_
 refine Tr.mono (S0h h a1 n1 c1 x1 (Sl.mono (Sub.refl _) h1) (by omega)) ?_
 rintro v1 k1 N1
 obtain⟨a1z,n1z,c1z,aA⟩:=Wp.slice_cell N1.r
 cases aA
 exact eX _ (aI rfl (New.pair (New.int h0) N1))
theorem A0k(n:Nat)(acc:List UInt8):∀ f,n=0->h0b f n acc=acc
 |0,_=>rfl
 |f+1,h=>by simp[h0b,h]
theorem e0c(h:Hp)(k:Int)(hk:0<=k/\k<=4611686018427387904):
  Tr Tryz.prog 240 #[.int .i64 k] h λv h'=>v = .string (J9 k)/\h'=h:=by
 refine Tr.forget ?_
 refine D3 (args:=[.int .i64 k]) (fn:=Tryz.f240) rfl ?_
 refine aI (λhc=>?_) (λhc=>?_)
 ·have:k=0:=by simp at hc;omega
  subst this
  exact aI rfl (Sub.refl _)
 have aC:0<k:=by simp at hc;omega
 refine eX { vars:=[0,3],boxes:=[],owns:=[] } (eX (λvs _ h'=>∃(m f:Nat) (acc:List UInt8),m<=4611686018427387904/\m<10 ^ f/\f<=20/\h0b f m acc=h0b 20 k.toNat []/\acc.length<=20-f/\vs = [.int .i64 m,.string ⟨acc.toArray⟩]/\Sub h h') (eX (λvs _=>match vs with | [.int _ j,_]=>j.toNat|_=>0) ?_))
 refine aI ⟨k.toNat,20,[],by omega,by omega,by omega,rfl,by simp,by rw[show((k.toNat:Nat):Int)=k from by omega],Sub.refl _⟩ ?_
 rintro _ _ h1 ⟨m,f,acc,hmb,hm,hf,hd,hl,⟨⟩,hs⟩
 refine aI (λaA=>?_) (λaA=>?_)
 ·have aB:m≠0:=by rintro rfl;simp at aA
  refine aI (by decide) ?_
  refine eX [_] (aI rfl ?_)
  have hX:IntKind.u8.wrap (IntKind.i64.wrap (48+(m:Int).tmod 10))=((48+m % 10:Nat):Int):=by
   rw[show(10:Int)=((10:Nat):Int) from rfl,←Int.ofNat_tmod]
   simp[IntKind.wrap,IntKind.signed,IntKind.bits]
   omega
  have hS:strOfNums [IntKind.u8.wrap (IntKind.i64.wrap (48+(m:Int).tmod 10))]++⟨acc.toArray⟩=⟨(UInt8.ofNat (48+m % 10)::acc).toArray⟩:=by
   rw[hX,show strOfNums [((48+m % 10:Nat):Int)]=⟨#[UInt8.ofNat (48+m % 10)]⟩ from by simp only[strOfNums,List.map_cons,List.map_nil,Int.toNat_natCast]]
   generalize UInt8.ofNat (48+m % 10)=d
   apply ByteArray.ext
   rw[ByteArray.data_append]
   simp
  obtain⟨f,rfl⟩:∃ f',f=f'+1:=by
   cases f with
   |zero=>simp at hm;omega
   |succ f=>exact⟨f,rfl⟩
  have hq:(m:Int).tdiv 10=((m / 10:Nat):Int):=by rw[show(10:Int)=((10:Nat):Int) from rfl,←Int.ofNat_tdiv]
  refine aI ?_ ?_
  ·show(strOfNums _).size+acc.toArray.size<=9223372036854775807
   simp only[strOfNums_size,List.size_toArray,List.length_singleton]
   omega
  have hw:IntKind.i64.wrap ((m:Int).tdiv 10)=((m / 10:Nat):Int):=by rw[hq];exact w64 (by omega) (by omega)
  refine aI (by decide) ?_
  refine aI rfl (aI (by first|exact trivial|exact aI rfl trivial|exact aI rfl (aI rfl trivial)|exact aI rfl (aI rfl (aI rfl trivial))|exact aI rfl (aI rfl (aI rfl (aI rfl trivial)))) (aI (by first|exact trivial|exact aI rfl trivial|exact aI rfl (aI rfl trivial)|exact aI rfl (aI rfl (aI rfl trivial))|exact aI rfl (aI rfl (aI rfl (aI rfl trivial)))) (aI ?_ ?_)))
  ·refine⟨m / 10,f,UInt8.ofNat (48+m % 10)::acc,by omega,?_,by omega,?_,by simp;omega,?_,hs⟩
   ·rw[Nat.pow_succ]at hm
    omega
   ·rw[←hd]
    simp only[h0b,if_neg aB]
   ·rw[←hw,←hS]
  ·show(IntKind.i64.wrap ((m:Int).tdiv 10)).toNat<((m:Int)).toNat
   rw[hw]
   omega
 ·have aB:m=0:=by simp at aA;omega
  refine aI ?_ ?_
  ·show 1+acc.toArray.size<=9223372036854775807
   simp only[List.size_toArray]
   omega
  refine aI (congrArg Value.string ?_) hs
  rw[A0k m acc f aB]at hd
  unfold J9
  rw[if_neg (by omega),←hd]
  apply ByteArray.ext
  simp
theorem J0g(h:Hp)(a:Option Addr)(n c:Nat)(xs:K0)(B:List Nat)(k:Int)(hx:J0.W h [.slice a n c] xs B)(hB:B.Nodup)(hk:0<=k/\k+(V00 xs:Nat)<=4611686018427387904):
  Tr Tryz.prog 141 #[.slice a n c,.int .i64 k] h λv h'=>v = .int .i64 (k+(V00 xs:Nat))/\J0.W h' [.slice a n c] (g01 xs k) B/\∀ y,y ∉ B->h' y=h y:=by
 obtain⟨rfl,hn⟩:=Sl.len (J0.toR hx)
 refine D3 (args:=[.slice a xs.length c,.int .i64 k]) (fn:=Tryz.f141) rfl ?_
 refine eX { vars:=[1,5],boxes:=[],owns:=[] } (eX (λvs _ h'=>∃(j:Nat) (kk:Int),kk=k+(A5 H5 (xs.take j):Nat)/\j<=xs.length/\vs = [.int .i64 kk,.int .i64 j]/\J0.W h' [.slice a xs.length c] (F01 G01 H5 xs k j) B/\∀ y,y ∉ B->h' y=h y) (eX (λvs _=>match vs with | [_,.int _ j]=>((xs.length:Int)-j).toNat|_=>0) ?_))
 refine aI ⟨0,k,by simp[A5],by omega,rfl,by rw[W0c];exact hx,λ_ _=>rfl⟩ ?_
 rintro _ _ h1 ⟨j,kk,hkk,hj,⟨⟩,W0,F0⟩
 refine aI (λaL=>?_) (λaL=>?_)
 ·have hlt:j<xs.length:=by simpa using aL
  obtain⟨x,gx⟩:=E01 hlt
  have G0:=E0f (mk:=G01) (c:=H5) (k:=k) gx
  have aY:A5 H5 (xs.take (j+1))=A5 H5 (xs.take j)+H5 x:=j04 gx
  have bW:=k04 H5 xs (j+1)
  have hw:=U2 hlt hn
  have hkx:0<=kk/\kk+(H5 x:Nat)<=4611686018427387904:=by
   have:(V00 xs:Int)=(A5 H5 xs:Nat):=rfl
   omega
  obtain⟨x0,x1,x2⟩:=x
  simp only[H5]at hkx
  obtain⟨b0,bX,Bi0,aA,aB,aC,aM,aZ,e0,w0,bA,aN,aO,bB,aV,bC,bD,bE⟩:=Wp.at W0 hB G0 (by decide)
  cases aZ
  obtain⟨x0q0,x1q0,x2q0,rfl,bF,rfl,g0q0,g1q0,g2q0⟩:=d09 w0
  cases bF
  refine aI b0 ?_
  refine q00.mk (Int.natCast_nonneg j) bA (aN 0 (by decide)) (by rw[Int.toNat_natCast];rfl) trivial ?_
  have W1:J0.W (h1.set aA (.cells (aC.setIfInBounds (aB+(j*H1.sz+0)) (.int .i64 (kk))) aM (0,0))) [.slice (some ⟨aA,aB,none⟩) xs.length c] ((F01 G01 H5 xs k j).set j (kk,x1,x2)) B:=bE 0 (.int .i64 (kk)) (kk,x1,x2) (by decide) λh' hf=>V04 (r0l (by  omega) (by  omega)) g1q0 g2q0
  have F1:∀ y,y ∉ B->(h1.set aA (.cells (aC.setIfInBounds (aB+(j*H1.sz+0)) (.int .i64 (kk))) aM (0,0))) y=h y:=λy hy=>(Hp.set_other _ _ λe=>hy (by rw[e];exact aO)).trans (F0 y hy)
  generalize (h1.set aA (.cells (aC.setIfInBounds (aB+(j*H1.sz+0)) (.int .i64 (kk))) aM (0,0)))=aD at W1 F1 ⊢
  have aJ:IntKind.i64.wrap (kk+1)=kk+(1):=by rw[w64 (by  omega) (by  omega)]<;>omega
  have G1:((F01 G01 H5 xs k j).set j (kk,x1,x2))[j]?=some (kk,x1,x2):=by rw[List.getElem?_set_self (by rw[s02];exact hlt)]
  obtain⟨b1,bY,Bi1,bZ,cA,aF,aP,bG,e1,w1,bH,aQ,aR,bI,aW,bJ,bK,bL⟩:=Wp.at W1 hB G1 (by decide)
  cases bG
  obtain⟨x0q1,x1q1,x2q1,rfl,bM,rfl,g0q1,g1q1,g2q1⟩:=d09 w1
  cases bM
  refine aI b1 ?_
  refine q00.mk (Int.natCast_nonneg j) bH (aQ 1 (by decide)) (by rw[Int.toNat_natCast];rfl) trivial ?_
  have W2:J0.W (aD.set aA (.cells (aF.setIfInBounds (aB+(j*H1.sz+1)) (.int .i64 (IntKind.i64.wrap (kk+1)))) aP (0,0))) [.slice (some ⟨aA,aB,none⟩) xs.length c] ((F01 G01 H5 xs k j).set j (kk,IntKind.i64.wrap (kk+1),x2)) B:=by have:=bL 1 (.int .i64 (IntKind.i64.wrap (kk+1))) (kk,IntKind.i64.wrap (kk+1),x2) (by decide) λh' hf=>V04 g0q1 (r0l (by rw[aJ];omega) (by rw[aJ];omega)) g2q1;rwa [List.set_set]at this
  have F2:∀ y,y ∉ B->(aD.set aA (.cells (aF.setIfInBounds (aB+(j*H1.sz+1)) (.int .i64 (IntKind.i64.wrap (kk+1)))) aP (0,0))) y=h y:=λy hy=>(Hp.set_other _ _ λe=>hy (by rw[e];exact aR)).trans (F1 y hy)
  generalize (aD.set aA (.cells (aF.setIfInBounds (aB+(j*H1.sz+1)) (.int .i64 (IntKind.i64.wrap (kk+1)))) aP (0,0)))=aG at W2 F2 ⊢
  have aK:IntKind.i64.wrap (IntKind.i64.wrap (kk+1)+1)=kk+(1+1):=by rw[w64 (by rw[aJ];omega) (by rw[aJ];omega)]<;>rw[aJ]<;>omega
  have G2:((F01 G01 H5 xs k j).set j (kk,IntKind.i64.wrap (kk+1),x2))[j]?=some (kk,IntKind.i64.wrap (kk+1),x2):=by rw[List.getElem?_set_self (by rw[s02];exact hlt)]
  obtain⟨b2,cC,Bi2,cD,cE,aH,aS,bN,e2,w2,bO,aT,aU,bP,aX,bQ,bR,bS⟩:=Wp.at W2 hB G2 (by decide)
  cases bN
  obtain⟨x0q2,x1q2,x2q2,rfl,bT,rfl,g0q2,g1q2,g2q2⟩:=d09 w2
  cases bT
  refine aI b2 ?_
  refine q00.mk (Int.natCast_nonneg j) bO (aT 2 (by decide)) (by rw[Int.toNat_natCast];rfl) trivial ?_
  have W3:J0.W (aG.set aA (.cells (aH.setIfInBounds (aB+(j*H1.sz+2)) (.int .i64 (IntKind.i64.wrap (IntKind.i64.wrap (kk+1)+1)))) aS (0,0))) [.slice (some ⟨aA,aB,none⟩) xs.length c] ((F01 G01 H5 xs k j).set j (kk,IntKind.i64.wrap (kk+1),IntKind.i64.wrap (IntKind.i64.wrap (kk+1)+1))) B:=by have:=bS 2 (.int .i64 (IntKind.i64.wrap (IntKind.i64.wrap (kk+1)+1))) (kk,IntKind.i64.wrap (kk+1),IntKind.i64.wrap (IntKind.i64.wrap (kk+1)+1)) (by decide) λh' hf=>V04 g0q2 g1q2 (r0l (by rw[aK];omega) (by rw[aK];omega));rwa [List.set_set]at this
  have F3:∀ y,y ∉ B->(aG.set aA (.cells (aH.setIfInBounds (aB+(j*H1.sz+2)) (.int .i64 (IntKind.i64.wrap (IntKind.i64.wrap (kk+1)+1)))) aS (0,0))) y=h y:=λy hy=>(Hp.set_other _ _ λe=>hy (by rw[e];exact aU)).trans (F2 y hy)
  generalize (aG.set aA (.cells (aH.setIfInBounds (aB+(j*H1.sz+2)) (.int .i64 (IntKind.i64.wrap (IntKind.i64.wrap (kk+1)+1)))) aS (0,0)))=bU at W3 F3 ⊢
  have bV:IntKind.i64.wrap (IntKind.i64.wrap (IntKind.i64.wrap (kk+1)+1)+1)=kk+(1+1+1):=by rw[w64 (by rw[aK];omega) (by rw[aK];omega)]<;>rw[aK]<;>omega
  have em:(kk,IntKind.i64.wrap (kk+1),IntKind.i64.wrap (IntKind.i64.wrap (kk+1)+1))=G01 (x0,x1,x2) kk:=by
   simp only[G01,H5]
   exact(congr (congrArg Prod.mk rfl) (congr (congrArg Prod.mk (by rw[aJ]<;>first|rfl|omega|(simp;omega))) (by rw[aK]<;>first|rfl|omega|(simp;omega))))
  have eL:(F01 G01 H5 xs k j).set j (kk,IntKind.i64.wrap (kk+1),IntKind.i64.wrap (IntKind.i64.wrap (kk+1)+1))=F01 G01 H5 xs k (j+1):=by rw[em];rw[hkk];exact F0f gx
  rw[eL]at W3
  refine aI rfl (aI (by first|exact trivial|exact aI rfl trivial|exact aI rfl (aI rfl trivial)|exact aI rfl (aI rfl (aI rfl trivial))|exact aI rfl (aI rfl (aI rfl (aI rfl trivial)))) (aI (by first|exact trivial|exact aI rfl trivial|exact aI rfl (aI rfl trivial)|exact aI rfl (aI rfl (aI rfl trivial))|exact aI rfl (aI rfl (aI rfl (aI rfl trivial)))) (aI ?_ ?_)))
  ·refine⟨j+1,IntKind.i64.wrap (IntKind.i64.wrap (IntKind.i64.wrap (kk+1)+1)+1),?_,by omega,by rw[←hw],W3,F3⟩
   rw[bV];rw[aY];simp only[H5];omega
  ·show((xs.length:Int)-IntKind.i64.wrap ((j:Int)+1)).toNat<((xs.length:Int)-(j:Int)).toNat
   omega
 ·have hj':j=xs.length:=by simp at aL;omega
  subst hj'
  rw[List.take_length]at hkk
  rw[D0f]at W0
  exact aI (congrArg (Value.int .i64) hkk) (aI W0 F0)
theorem J0e(h:Hp)(a:Option Addr)(n c:Nat)(xs:K1)(B:List Nat)(k:Int)(hx:Z1.W h [.slice a n c] xs B)(hB:B.Nodup)(hk:0<=k/\k+(e02 xs:Nat)<=4611686018427387904):
  Tr Tryz.prog 140 #[.slice a n c,.int .i64 k] h λv h'=>v = .int .i64 (k+(e02 xs:Nat))/\Z1.W h' [.slice a n c] (h03 xs k) B/\∀ y,y ∉ B->h' y=h y:=by
 obtain⟨rfl,hn⟩:=Sl.len (Z1.toR hx)
 refine D3 (args:=[.slice a xs.length c,.int .i64 k]) (fn:=Tryz.f140) rfl ?_
 refine eX { vars:=[1,5],boxes:=[],owns:=[] } (eX (λvs _ h'=>∃(j:Nat) (kk:Int),kk=k+(A5 B3 (xs.take j):Nat)/\j<=xs.length/\vs = [.int .i64 kk,.int .i64 j]/\Z1.W h' [.slice a xs.length c] (F01 y9 B3 xs k j) B/\∀ y,y ∉ B->h' y=h y) (eX (λvs _=>match vs with | [_,.int _ j]=>((xs.length:Int)-j).toNat|_=>0) ?_))
 refine aI ⟨0,k,by simp[A5],by omega,rfl,by rw[W0c];exact hx,λ_ _=>rfl⟩ ?_
 rintro _ _ h1 ⟨j,kk,hkk,hj,⟨⟩,W0,F0⟩
 refine aI (λaR=>?_) (λaR=>?_)
 ·have hlt:j<xs.length:=by simpa using aR
  obtain⟨x,gx⟩:=E01 hlt
  have G0:=E0f (mk:=y9) (c:=B3) (k:=k) gx
  have bH:A5 B3 (xs.take (j+1))=A5 B3 (xs.take j)+B3 x:=j04 gx
  have cP:=k04 B3 xs (j+1)
  have hw:=U2 hlt hn
  have hkx:0<=kk/\kk+(B3 x:Nat)<=4611686018427387904:=by
   have:(e02 xs:Int)=(A5 B3 xs:Nat):=rfl
   omega
  obtain⟨x0,⟨aF,aB,aA⟩⟩:=x
  simp only[B3,d02]at hkx
  obtain⟨b0,cQ,Bi0,aC,aD,aG,aS,bI,e0,w0,bJ,aT,aU,bK,bD,bL,bM,bN⟩:=Wp.at W0 hB G0 (by decide)
  cases bI
  obtain⟨x0q0,x1_0q0,x1_1q0,a1_2q0,n1_2q0,c1_2q0,x1_2q0,B1_2q0,rfl,bO,rfl,g0q0,g1_0q0,g1_1q0,g1_2q0⟩:=W04 w0
  cases bO
  refine Tr.val (e0c _ (kk) ⟨by omega,by omega⟩) ?_
  refine aI b0 ?_
  refine q00.mk (Int.natCast_nonneg j) bJ (aT 0 (by decide)) (by rw[Int.toNat_natCast];rfl) trivial ?_
  have W1:Z1.W (h1.set aC (.cells (aG.setIfInBounds (aD+(j*Z0.sz+0)) (.string (J9 (kk)))) aS (0,0))) [.slice (some ⟨aC,aD,none⟩) xs.length c] ((F01 y9 B3 xs k j).set j (J9 (kk),(aF,aB,aA))) B:=bN 0 (.string (J9 (kk))) (J9 (kk),(aF,aB,aA)) (by decide) λh' hf=>B03 (l0h _) g1_0q0 g1_1q0 (J0.frame g1_2q0 λy hy=>hf y (by simp[hy]))
  have F1:∀ y,y ∉ B->(h1.set aC (.cells (aG.setIfInBounds (aD+(j*Z0.sz+0)) (.string (J9 (kk)))) aS (0,0))) y=h y:=λy hy=>(Hp.set_other _ _ λe=>hy (by rw[e];exact aU)).trans (F0 y hy)
  generalize (h1.set aC (.cells (aG.setIfInBounds (aD+(j*Z0.sz+0)) (.string (J9 (kk)))) aS (0,0)))=aH at W1 F1 ⊢
  have aM:IntKind.i64.wrap (kk+1)=kk+(1):=by rw[w64 (by  omega) (by  omega)]<;>omega
  have G1:((F01 y9 B3 xs k j).set j (J9 (kk),(aF,aB,aA)))[j]?=some (J9 (kk),(aF,aB,aA)):=by rw[List.getElem?_set_self (by rw[s02];exact hlt)]
  obtain⟨b1,cR,Bi1,cS,cT,aJ,aV,bP,e1,w1,bQ,aW,aX,bR,bE,bS,bT,bU⟩:=Wp.at W1 hB G1 (by decide)
  cases bP
  obtain⟨x0q1,x1_0q1,x1_1q1,a1_2q1,n1_2q1,c1_2q1,x1_2q1,B1_2q1,rfl,bV,rfl,g0q1,g1_0q1,g1_1q1,g1_2q1⟩:=W04 w1
  cases bV
  refine aI b1 ?_
  refine q00.mk (Int.natCast_nonneg j) bQ (aW 1 (by decide)) (by rw[Int.toNat_natCast];rfl) trivial ?_
  have W2:Z1.W (aH.set aC (.cells (aJ.setIfInBounds (aD+(j*Z0.sz+1)) (.int .i64 (IntKind.i64.wrap (kk+1)))) aV (0,0))) [.slice (some ⟨aC,aD,none⟩) xs.length c] ((F01 y9 B3 xs k j).set j (J9 (kk),(IntKind.i64.wrap (kk+1),aB,aA))) B:=by have:=bU 1 (.int .i64 (IntKind.i64.wrap (kk+1))) (J9 (kk),(IntKind.i64.wrap (kk+1),aB,aA)) (by decide) λh' hf=>B03 g0q1 (r0l (by rw[aM];omega) (by rw[aM];omega)) g1_1q1 (J0.frame g1_2q1 λy hy=>hf y (by simp[hy]));rwa [List.set_set]at this
  have F2:∀ y,y ∉ B->(aH.set aC (.cells (aJ.setIfInBounds (aD+(j*Z0.sz+1)) (.int .i64 (IntKind.i64.wrap (kk+1)))) aV (0,0))) y=h y:=λy hy=>(Hp.set_other _ _ λe=>hy (by rw[e];exact aX)).trans (F1 y hy)
  generalize (aH.set aC (.cells (aJ.setIfInBounds (aD+(j*Z0.sz+1)) (.int .i64 (IntKind.i64.wrap (kk+1)))) aV (0,0)))=aK at W2 F2 ⊢
  have aN:IntKind.i64.wrap (IntKind.i64.wrap (kk+1)+1)=kk+(1+1):=by rw[w64 (by rw[aM];omega) (by rw[aM];omega)]<;>rw[aM]<;>omega
  have G2:((F01 y9 B3 xs k j).set j (J9 (kk),(IntKind.i64.wrap (kk+1),aB,aA)))[j]?=some (J9 (kk),(IntKind.i64.wrap (kk+1),aB,aA)):=by rw[List.getElem?_set_self (by rw[s02];exact hlt)]
  obtain⟨b2,cU,Bi2,cV,cW,aL,aY,bW,e2,w2,bX,aZ,bA,bY,bF,bZ,cA,cC⟩:=Wp.at W2 hB G2 (by decide)
  cases bW
  obtain⟨x0q2,x1_0q2,x1_1q2,a1_2q2,n1_2q2,c1_2q2,x1_2q2,B1_2q2,rfl,cD,rfl,g0q2,g1_0q2,g1_1q2,g1_2q2⟩:=W04 w2
  cases cD
  refine aI b2 ?_
  refine q00.mk (Int.natCast_nonneg j) bX (aZ 2 (by decide)) (by rw[Int.toNat_natCast];rfl) trivial ?_
  have W3:Z1.W (aK.set aC (.cells (aL.setIfInBounds (aD+(j*Z0.sz+2)) (.int .i64 (IntKind.i64.wrap (IntKind.i64.wrap (kk+1)+1)))) aY (0,0))) [.slice (some ⟨aC,aD,none⟩) xs.length c] ((F01 y9 B3 xs k j).set j (J9 (kk),(IntKind.i64.wrap (kk+1),IntKind.i64.wrap (IntKind.i64.wrap (kk+1)+1),aA))) B:=by have:=cC 2 (.int .i64 (IntKind.i64.wrap (IntKind.i64.wrap (kk+1)+1))) (J9 (kk),(IntKind.i64.wrap (kk+1),IntKind.i64.wrap (IntKind.i64.wrap (kk+1)+1),aA)) (by decide) λh' hf=>B03 g0q2 g1_0q2 (r0l (by rw[aN];omega) (by rw[aN];omega)) (J0.frame g1_2q2 λy hy=>hf y (by simp[hy]));rwa [List.set_set]at this
  have F3:∀ y,y ∉ B->(aK.set aC (.cells (aL.setIfInBounds (aD+(j*Z0.sz+2)) (.int .i64 (IntKind.i64.wrap (IntKind.i64.wrap (kk+1)+1)))) aY (0,0))) y=h y:=λy hy=>(Hp.set_other _ _ λe=>hy (by rw[e];exact bA)).trans (F2 y hy)
  generalize (aK.set aC (.cells (aL.setIfInBounds (aD+(j*Z0.sz+2)) (.int .i64 (IntKind.i64.wrap (IntKind.i64.wrap (kk+1)+1)))) aY (0,0)))=cE at W3 F3 ⊢
  have aQ:IntKind.i64.wrap (IntKind.i64.wrap (IntKind.i64.wrap (kk+1)+1)+1)=kk+(1+1+1):=by rw[w64 (by rw[aN];omega) (by rw[aN];omega)]<;>rw[aN]<;>omega
  have G3:((F01 y9 B3 xs k j).set j (J9 (kk),(IntKind.i64.wrap (kk+1),IntKind.i64.wrap (IntKind.i64.wrap (kk+1)+1),aA)))[j]?=some (J9 (kk),(IntKind.i64.wrap (kk+1),IntKind.i64.wrap (IntKind.i64.wrap (kk+1)+1),aA)):=by rw[List.getElem?_set_self (by rw[s02];exact hlt)]
  obtain⟨b3,cX,Bi3,cY,cZ,cG,dA,cH,e3,w3,dB,cI,cJ,cK,aO,aP,bB,dC⟩:=Wp.at W3 hB G3 (by decide)
  cases cH
  obtain⟨x0q3,x1_0q3,x1_1q3,a1_2q3,n1_2q3,c1_2q3,x1_2q3,B1_2q3,rfl,cL,rfl,g0q3,g1_0q3,g1_1q3,g1_2q3⟩:=W04 w3
  cases cL
  refine aI b3 (eX _ (aI e3 ?_))
  have cM:Bi3.Nodup:=by first|exact aP|(have:=aP;simp only[List.nil_append,List.append_nil,List.nodup_append]at this;grind)
  refine Tr.mono (J0g _ a1_2q3 n1_2q3 c1_2q3 (aA) Bi3 (IntKind.i64.wrap (IntKind.i64.wrap (IntKind.i64.wrap (kk+1)+1)+1)) g1_2q3 cM ⟨by rw[aQ];omega,by rw[aQ];omega⟩) ?_
  rintro v3 h3m ⟨rfl,cN,bG⟩
  have W4:Z1.W h3m [.slice (some ⟨aC,aD,none⟩) xs.length c] ((F01 y9 B3 xs k j).set j (J9 (kk),(IntKind.i64.wrap (kk+1),IntKind.i64.wrap (IntKind.i64.wrap (kk+1)+1),(g01 aA (IntKind.i64.wrap (IntKind.i64.wrap (IntKind.i64.wrap (kk+1)+1)+1)))))) B:=by have:=bB h3m (J9 (kk),(IntKind.i64.wrap (kk+1),IntKind.i64.wrap (IntKind.i64.wrap (kk+1)+1),(g01 aA (IntKind.i64.wrap (IntKind.i64.wrap (IntKind.i64.wrap (kk+1)+1)+1))))) (λy hy=>bG y λbC=>hy (by simp[bC])) (B03 g0q3 g1_0q3 g1_1q3 cN);rwa [List.set_set]at this
  have F4:∀ y,y ∉ B->h3m y=h y:=λy hy=>(bG y λbC=>hy (aO y (by simp[bC]))).trans (F3 y hy)
  have cO:(IntKind.i64.wrap (IntKind.i64.wrap (IntKind.i64.wrap (kk+1)+1)+1)+(V00 aA:Nat):Int)=kk+(1+1+1+(V00 aA:Nat)):=by rw[aQ];omega
  have em:(J9 (kk),(IntKind.i64.wrap (kk+1),IntKind.i64.wrap (IntKind.i64.wrap (kk+1)+1),(g01 aA (IntKind.i64.wrap (IntKind.i64.wrap (IntKind.i64.wrap (kk+1)+1)+1)))))=y9 (x0,(aF,aB,aA)) kk:=by
   simp only[y9,B3,d0e,d02]
   exact(congr (congrArg Prod.mk rfl) (congr (congrArg Prod.mk (by rw[aM]<;>first|rfl|omega|(simp;omega))) (congr (congrArg Prod.mk (by rw[aN]<;>first|rfl|omega|(simp;omega))) (congrArg (g01 aA) (by rw[aQ]<;>first|rfl|omega|(simp;omega))))))
  have eL:(F01 y9 B3 xs k j).set j (J9 (kk),(IntKind.i64.wrap (kk+1),IntKind.i64.wrap (IntKind.i64.wrap (kk+1)+1),(g01 aA (IntKind.i64.wrap (IntKind.i64.wrap (IntKind.i64.wrap (kk+1)+1)+1)))))=F01 y9 B3 xs k (j+1):=by rw[em];rw[hkk];exact F0f gx
  rw[eL]at W4
  refine aI rfl (aI (by first|exact trivial|exact aI rfl trivial|exact aI rfl (aI rfl trivial)|exact aI rfl (aI rfl (aI rfl trivial))|exact aI rfl (aI rfl (aI rfl (aI rfl trivial)))) (aI (by first|exact trivial|exact aI rfl trivial|exact aI rfl (aI rfl trivial)|exact aI rfl (aI rfl (aI rfl trivial))|exact aI rfl (aI rfl (aI rfl (aI rfl trivial)))) (aI ?_ ?_)))
  ·refine⟨j+1,IntKind.i64.wrap (IntKind.i64.wrap (IntKind.i64.wrap (kk+1)+1)+1)+(V00 aA:Nat),?_,by omega,by rw[←hw],W4,F4⟩
   rw[cO];rw[bH];simp only[B3,d02];omega
  ·show((xs.length:Int)-IntKind.i64.wrap ((j:Int)+1)).toNat<((xs.length:Int)-(j:Int)).toNat
   omega
 ·have hj':j=xs.length:=by simp at aR;omega
  subst hj'
  rw[List.take_length]at hkk
  rw[D0f]at W0
  exact aI (congrArg (Value.int .i64) hkk) (aI W0 F0)
theorem S06(h:Hp)(cs:List Value)(x:Q0)(B:List Nat)(k:Int)(hx:Y1.W h cs x B)(hB:B.Nodup)(hk:0<=k/\k+(U5 x:Nat)<=4611686018427387904):
  Tr Tryz.prog 53 #[.agg cs.toArray,.int .i64 k] h λv h'=>v = .int .i64 (k+(U5 x:Nat))/\Y1.W h' cs (n04 x k) B/\∀ y,y ∉ B->h' y=h y:=by
 obtain⟨x0,a1,n1,c1,x1,B1,rfl,rfl,rfl,h0,h1⟩:=f0e hx
 simp only[U5]at hk
 refine D3 (args:=[.agg #[.int .i64 x0,.slice a1 n1 c1],.int .i64 k]) (fn:=Tryz.f53) rfl ?_
 have aB:B.Nodup:=by first|exact hB|(have:=hB;simp only[List.nil_append,List.append_nil,List.nodup_append]at this;grind)
 refine Tr.mono (J0e _ a1 n1 c1 x1 B (k) h1 aB ⟨by omega,by omega⟩) ?_
 rintro v1 h1m ⟨rfl,aC,aD⟩
 have eK:(k+(e02 x1:Nat):Int)=k+(U5 (x0,x1):Nat):=by simp only[U5]<;>omega
 have WW:Y1.W h1m [.int .i64 x0,.slice a1 n1 c1] (x0,h03 x1 (k)) (B):=⟨[.int .i64 x0],[.slice a1 n1 c1],[],B,rfl,rfl,⟨⟨rfl,h0⟩,rfl⟩,aC⟩
 have em:(x0,h03 x1 (k))=n04 (x0,x1) k:=by
  unfold n04
  exact(congr (congrArg Prod.mk rfl) rfl)
 rw[em]at WW
 exact aI (congrArg (Value.int .i64) eK) (aI WW (λy hy=>aD y (λaA=>hy (by first|exact aA|(simp only[List.nil_append,List.append_nil,List.mem_append,List.not_mem_nil,false_or,or_false]at aA ⊢;grind)))))
theorem K0g(h:Hp)(a:Option Addr)(n c:Nat)(xs:K0)(k:Int)(hx:J0.R h [.slice a n c] (g01 xs k))(hk:0<=k/\k+(V00 xs:Nat)<=4611686018427387904):
  Tr Tryz.prog 156 #[.slice a n c,.int .i64 k] h λv h'=>v = .int .i64 (k+(V00 xs:Nat))/\h'=h:=by
 obtain⟨en,hn⟩:=Sl.len hx
 rw[show(g01 xs k).length=xs.length from x00 _ _ _ _]at en
 subst en
 refine D3 (args:=[.slice a xs.length c,.int .i64 k]) (fn:=Tryz.f156) rfl ?_
 refine eX { vars:=[1,5],boxes:=[],owns:=[] } (eX (λvs _ h'=>∃(j:Nat) (kk:Int),kk=k+(A5 H5 (xs.take j):Nat)/\j<=xs.length/\vs = [.int .i64 kk,.int .i64 j]/\h'=h) (eX (λvs _=>match vs with | [_,.int _ j]=>((xs.length:Int)-j).toNat|_=>0) ?_))
 refine aI ⟨0,k,by simp[A5],by omega,rfl,rfl⟩ ?_
 rintro _ _ h1 ⟨j,kk,hkk,hj,⟨⟩,rfl⟩
 refine aI (λaC=>?_) (λaC=>?_)
 ·have hlt:j<xs.length:=by simpa using aC
  obtain⟨x,gx⟩:=E01 hlt
  have aD:A5 H5 (xs.take (j+1))=A5 H5 (xs.take j)+H5 x:=j04 gx
  have aG:=k04 H5 xs (j+1)
  have hw:=U2 hlt hn
  have hkx:0<=kk/\kk+(H5 x:Nat)<=4611686018427387904:=by
   have:(V00 xs:Int)=(A5 H5 xs:Nat):=rfl
   omega
  have gm:(g01 xs k)[j]?=some (G01 x kk):=by rw[hkk];exact b0e gx
  obtain⟨b1,aH,e1,i1⟩:=Sl.get hx gm (by decide)
  obtain⟨x0,x1,x2⟩:=x
  simp only[H5]at hkx
  obtain⟨x0q,x1q,x2q,rfl,ex,g0,g1,g2⟩:=U1 i1
  simp only[G01,H5,Prod.mk.injEq]at ex
  obtain⟨rfl,rfl,rfl⟩:=ex
  refine aI b1 (eX _ (aI e1 ?_))
  refine aI (λhc=>?_) (λhc=>?_)
  ·exact((bne_iff_ne.1 hc) (by first|rfl|omega|(simp;omega))).elim
  clear hc
  have aA:IntKind.i64.wrap (kk+1)=kk+(1):=by rw[w64 (by  omega) (by  omega)]<;>omega
  refine aI b1 (eX _ (aI e1 ?_))
  refine aI (λhc=>?_) (λhc=>?_)
  ·exact((bne_iff_ne.1 hc) (by rw[aA];first|rfl|omega|(simp;omega))).elim
  clear hc
  have aB:IntKind.i64.wrap (IntKind.i64.wrap (kk+1)+1)=kk+(1+1):=by rw[w64 (by rw[aA];  omega) (by rw[aA];  omega)]<;>rw[aA]<;>omega
  refine aI b1 (eX _ (aI e1 ?_))
  refine aI (λhc=>?_) (λhc=>?_)
  ·exact((bne_iff_ne.1 hc) (by rw[aB];first|rfl|omega|(simp;omega))).elim
  clear hc
  have aF:IntKind.i64.wrap (IntKind.i64.wrap (IntKind.i64.wrap (kk+1)+1)+1)=kk+(1+1+1):=by rw[w64 (by rw[aB];  omega) (by rw[aB];  omega)]<;>rw[aB]<;>omega
  refine aI rfl (aI (by first|exact trivial|exact aI rfl trivial|exact aI rfl (aI rfl trivial)|exact aI rfl (aI rfl (aI rfl trivial))|exact aI rfl (aI rfl (aI rfl (aI rfl trivial)))) (aI (by first|exact trivial|exact aI rfl trivial|exact aI rfl (aI rfl trivial)|exact aI rfl (aI rfl (aI rfl trivial))|exact aI rfl (aI rfl (aI rfl (aI rfl trivial)))) (aI ?_ ?_)))
  ·refine⟨j+1,IntKind.i64.wrap (IntKind.i64.wrap (IntKind.i64.wrap (kk+1)+1)+1),?_,by omega,by rw[←hw],rfl⟩
   rw[aF];rw[aD];simp only[H5];omega
  ·show((xs.length:Int)-IntKind.i64.wrap ((j:Int)+1)).toNat<((xs.length:Int)-(j:Int)).toNat
   omega
 ·have hj':j=xs.length:=by simp at aC;omega
  subst hj'
  rw[List.take_length]at hkk
  exact aI (congrArg (Value.int .i64) hkk) rfl
theorem K0e(h:Hp)(a:Option Addr)(n c:Nat)(xs:K1)(k:Int)(hx:Z1.R h [.slice a n c] (h03 xs k))(hk:0<=k/\k+(e02 xs:Nat)<=4611686018427387904):
  Tr Tryz.prog 142 #[.slice a n c,.int .i64 k] h λv h'=>v = .int .i64 (k+(e02 xs:Nat))/\h'=h:=by
 obtain⟨en,hn⟩:=Sl.len hx
 rw[show(h03 xs k).length=xs.length from x00 _ _ _ _]at en
 subst en
 refine D3 (args:=[.slice a xs.length c,.int .i64 k]) (fn:=Tryz.f142) rfl ?_
 refine eX { vars:=[1,5],boxes:=[],owns:=[] } (eX (λvs _ h'=>∃(j:Nat) (kk:Int),kk=k+(A5 B3 (xs.take j):Nat)/\j<=xs.length/\vs = [.int .i64 kk,.int .i64 j]/\h'=h) (eX (λvs _=>match vs with | [_,.int _ j]=>((xs.length:Int)-j).toNat|_=>0) ?_))
 refine aI ⟨0,k,by simp[A5],by omega,rfl,rfl⟩ ?_
 rintro _ _ h1 ⟨j,kk,hkk,hj,⟨⟩,rfl⟩
 refine aI (λaF=>?_) (λaF=>?_)
 ·have hlt:j<xs.length:=by simpa using aF
  obtain⟨x,gx⟩:=E01 hlt
  have aH:A5 B3 (xs.take (j+1))=A5 B3 (xs.take j)+B3 x:=j04 gx
  have aP:=k04 B3 xs (j+1)
  have hw:=U2 hlt hn
  have hkx:0<=kk/\kk+(B3 x:Nat)<=4611686018427387904:=by
   have:(e02 xs:Int)=(A5 B3 xs:Nat):=rfl
   omega
  have gm:(h03 xs k)[j]?=some (y9 x kk):=by rw[hkk];exact b0e gx
  obtain⟨b1,aQ,e1,i1⟩:=Sl.get hx gm (by decide)
  obtain⟨x0,⟨aJ,aK,aA⟩⟩:=x
  simp only[B3,d02]at hkx
  obtain⟨x0q,x1_0q,x1_1q,a1_2q,n1_2q,c1_2q,x1_2q,rfl,ex,g0,aL,aM,aG⟩:=j3 i1
  simp only[y9,B3,d0e,d02,Prod.mk.injEq]at ex
  obtain⟨rfl,⟨rfl,rfl,rfl⟩⟩:=ex
  refine Or.inl (aI (aI (by kernel_rfl) (by kernel_rfl)) ?_)
  refine aI b1 (eX _ (aI e1 ?_))
  refine eX (.string _) (aI (e0c _ (kk) ⟨by omega,by omega⟩) ?_)
  refine aI (λhc=>?_) (λhc=>?_)
  ·exact((Q0n hc) (congrArg J9 (by first|rfl|omega|(simp;omega)))).elim
  clear hc
  have aC:IntKind.i64.wrap (kk+1)=kk+(1):=by rw[w64 (by  omega) (by  omega)]<;>omega
  refine aI b1 (eX _ (aI e1 ?_))
  refine aI (λhc=>?_) (λhc=>?_)
  ·exact((bne_iff_ne.1 hc) (by rw[aC];first|rfl|omega|(simp;omega))).elim
  clear hc
  have aD:IntKind.i64.wrap (IntKind.i64.wrap (kk+1)+1)=kk+(1+1):=by rw[w64 (by rw[aC];  omega) (by rw[aC];  omega)]<;>rw[aC]<;>omega
  refine aI b1 (eX _ (aI e1 ?_))
  refine aI (λhc=>?_) (λhc=>?_)
  ·exact((bne_iff_ne.1 hc) (by rw[aD];first|rfl|omega|(simp;omega))).elim
  clear hc
  have aB:IntKind.i64.wrap (IntKind.i64.wrap (IntKind.i64.wrap (kk+1)+1)+1)=kk+(1+1+1):=by rw[w64 (by rw[aD];  omega) (by rw[aD];  omega)]<;>rw[aD]<;>omega
  refine aI b1 (eX _ (aI e1 ?_))
  have aN:J0.R h1 [.slice a1_2q n1_2q c1_2q] (g01 aA (IntKind.i64.wrap (IntKind.i64.wrap (IntKind.i64.wrap (kk+1)+1)+1))):=U0o (P:=λz=>J0.R h1 [.slice a1_2q n1_2q c1_2q] (g01 aA z)) aG (by rw[aB];first|rfl|omega|(simp;omega))
  refine Tr.val (K0g _ a1_2q n1_2q c1_2q aA (IntKind.i64.wrap (IntKind.i64.wrap (IntKind.i64.wrap (kk+1)+1)+1)) aN ⟨by rw[aB];omega,by rw[aB];omega⟩) ?_
  refine aI (λhc=>?_) (λhc=>?_)
  ·have:(IntKind.i64.wrap (IntKind.i64.wrap (IntKind.i64.wrap (kk+1)+1)+1)+(V00 aA:Nat):Int)<0:=by simpa only[decide_eq_true_eq] using hc
   exact absurd this (by rw[aB];omega)
  clear hc
  have aO:(IntKind.i64.wrap (IntKind.i64.wrap (IntKind.i64.wrap (kk+1)+1)+1)+(V00 aA:Nat):Int)=kk+(1+1+1+(V00 aA:Nat)):=by rw[aB];omega
  refine aI rfl (aI (by first|exact trivial|exact aI rfl trivial|exact aI rfl (aI rfl trivial)|exact aI rfl (aI rfl (aI rfl trivial))|exact aI rfl (aI rfl (aI rfl (aI rfl trivial)))) (aI (by first|exact trivial|exact aI rfl trivial|exact aI rfl (aI rfl trivial)|exact aI rfl (aI rfl (aI rfl trivial))|exact aI rfl (aI rfl (aI rfl (aI rfl trivial)))) (aI ?_ ?_)))
  ·refine⟨j+1,IntKind.i64.wrap (IntKind.i64.wrap (IntKind.i64.wrap (kk+1)+1)+1)+(V00 aA:Nat),?_,by omega,by rw[←hw],rfl⟩
   rw[aO];rw[aH];simp only[B3,d02];omega
  ·show((xs.length:Int)-IntKind.i64.wrap ((j:Int)+1)).toNat<((xs.length:Int)-(j:Int)).toNat
   omega
 ·have hj':j=xs.length:=by simp at aF;omega
  subst hj'
  rw[List.take_length]at hkk
  exact aI (congrArg (Value.int .i64) hkk) rfl
theorem T06(h:Hp)(cs:List Value)(x:Q0)(k:Int)(hx:Y1.R h cs (n04 x k))(hk:0<=k/\k+(U5 x:Nat)<=4611686018427387904):
  Tr Tryz.prog 55 #[.agg cs.toArray,.int .i64 k] h λv h'=>v = .int .i64 (k+(U5 x:Nat))/\h'=h:=by
 obtain⟨x0,x1⟩:=x
 obtain⟨x0q,a1q,n1q,c1q,x1q,rfl,ex,g0,g1⟩:=L1 hx
 simp only[n04,U5,Prod.mk.injEq]at ex
 obtain⟨rfl,rfl⟩:=ex
 simp only[U5]at hk
 refine D3 (args:=[.agg #[.int .i64 x0,.slice a1q n1q c1q],.int .i64 k]) (fn:=Tryz.f55) rfl ?_
 refine Tr.val (K0e _ a1q n1q c1q x1 (k) (by have gg:=g1;first|exact gg|(rwa [show k+(((0:Nat):Int))=k from by omega]at gg)) ⟨by omega,by omega⟩) ?_
 refine aI (λhc=>?_) (λhc=>?_)
 ·have:(k+(e02 x1:Nat):Int)<0:=by simpa only[decide_eq_true_eq] using hc
  exact absurd this (by omega)
 clear hc
 exact aI (congrArg (Value.int .i64) (by simp only[U5]<;>omega)) rfl
end Go.Proofs.YtkjhghloldgioaaGreat
