/- Texts of the claim, joined: The data types of the laws, as lists and tuples and others. -/
import Derived.Test.YtkjhghloldgioaaGreatHE
import Derived.Test.YtkjhghloldgioaaGreatChecked
namespace Go.Proofs.YtkjhghloldgioaaGreat
open Go.H
set_option linter.unusedVariables false
set_option linter.unusedSimpArgs false
set_option maxRecDepth 10000
def C07:Nat->Nat->List UInt8->List UInt8
 |0,_,acc=>acc
 |f+1,n,acc=>if n=0 then acc else C07 f (n / 10) (UInt8.ofNat (48+n % 10)::acc)
theorem J0c:∀(f n:Nat) (acc:List UInt8),(C07 f n acc).length<=f+acc.length
 |0,n,acc=>by simp[C07]
 |f+1,n,acc=>by
  simp only[C07]
  split
  ·omega
  ·have:=J0c f (n / 10) (UInt8.ofNat (48+n % 10)::acc)
   simp only[List.length_cons]at this
   omega
abbrev D0:Type:=Int×Int×Int
abbrev Z0:Wp D0:=Wp.pair Wp.int (Wp.pair Wp.int Wp.int)
instance W0q:DecidableEq D0:=(@instDecidableEqProd _ _ (inferInstance:DecidableEq Int) (@instDecidableEqProd _ _ (inferInstance:DecidableEq Int) (inferInstance:DecidableEq Int)))
def f0p(x:D0):Nat:=0
theorem G1{h:Hp}{cs:List Value}{x:D0}(f:Z0.R h cs x):∃(a:Int) (b:Int) (c:Int),cs = [.int .i64 a,.int .i64 b,.int .i64 c]/\x=(a,b,c)/\J0 a/\J0 b/\J0 c:=by
 obtain⟨a,b,c⟩:=x
 obtain⟨_,_,rfl,⟨rfl,h0⟩,⟨_,_,rfl,⟨rfl,d⟩,⟨rfl,e⟩⟩⟩:=f
 exact⟨a,b,c,rfl,rfl,h0,d,e⟩
theorem C1{h:Hp}{c:Int}{a:Int}{b:Int}(h0:J0 c)(d:J0 a)(e:J0 b):Z0.R h [.int .i64 c,.int .i64 a,.int .i64 b] (c,a,b) :=
 ⟨[.int .i64 c],[.int .i64 a,.int .i64 b],rfl,⟨rfl,h0⟩,⟨[.int .i64 a],[.int .i64 b],rfl,⟨rfl,d⟩,⟨rfl,e⟩⟩⟩
theorem l0j{h:Hp}{c:Int}{a:Int}{b:Int}(h0:J0 c)(d:J0 a)(e:J0 b):Z0.W h [.int .i64 c,.int .i64 a,.int .i64 b] (c,a,b) ([]++([] ++ [])) :=
 ⟨[.int .i64 c],[.int .i64 a,.int .i64 b],[],([] ++ []),rfl,rfl,⟨⟨rfl,h0⟩,rfl⟩,⟨[.int .i64 a],[.int .i64 b],[],[],rfl,rfl,⟨⟨rfl,d⟩,rfl⟩,⟨⟨rfl,e⟩,rfl⟩⟩⟩
abbrev M0:Type:=List D0
abbrev K0:Wp M0:=Wp.slice Z0
instance W0p:DecidableEq M0:=inferInstanceAs (DecidableEq (List D0))
def S03(x:M0):Nat:=x.length
abbrev j0:Type:=Int×Int×M0
abbrev Y0:Wp j0:=Wp.pair Wp.int (Wp.pair Wp.int K0)
instance X0p:DecidableEq j0:=(@instDecidableEqProd _ _ (inferInstance:DecidableEq Int) (@instDecidableEqProd _ _ (inferInstance:DecidableEq Int) W0p))
def C04(x:j0):Nat:=S03 x.2.2
theorem C0{h:Hp}{cs:List Value}{x:j0}(j:Y0.R h cs x):∃(a:Int) (b:Int) (c:Option Addr) (e d:Nat) (f:M0),cs = [.int .i64 a,.int .i64 b,.slice c e d]/\x=(a,b,f)/\J0 a/\J0 b/\K0.R h [.slice c e d] f:=by
 obtain⟨a,b,f⟩:=x
 obtain⟨_,_,rfl,⟨rfl,h0⟩,⟨_,_,rfl,⟨rfl,i⟩,g⟩⟩:=j
 obtain⟨c,e,d,rfl⟩:=Wp.slice_cell g
 exact⟨a,b,c,e,d,f,rfl,rfl,h0,i,g⟩
theorem l0{h:Hp}{e:Int}{a:Int}{b:Option Addr}{d c:Nat}{f:M0}(h0:J0 e)(g:J0 a)(i:K0.R h [.slice b d c] f):Y0.R h [.int .i64 e,.int .i64 a,.slice b d c] (e,a,f) :=
 ⟨[.int .i64 e],[.int .i64 a,.slice b d c],rfl,⟨rfl,h0⟩,⟨[.int .i64 a],[.slice b d c],rfl,⟨rfl,g⟩,i⟩⟩
abbrev B5:Type:=Int×Int
abbrev Q4:Wp B5:=Wp.pair Wp.int Wp.int
instance X0q:DecidableEq B5:=(@instDecidableEqProd _ _ (inferInstance:DecidableEq Int) (inferInstance:DecidableEq Int))
theorem p02{h:Hp}{cs:List Value}{x:B5}(d:Q4.R h cs x):∃(a:Int) (b:Int),cs = [.int .i64 a,.int .i64 b]/\x=(a,b)/\J0 a/\J0 b:=by
 obtain⟨a,b⟩:=x
 obtain⟨_,_,rfl,⟨rfl,h0⟩,⟨rfl,c⟩⟩:=d
 exact⟨a,b,rfl,rfl,h0,c⟩
theorem Y1{h:Hp}{a:Int}{b:Int}(h0:J0 a)(c:J0 b):Q4.R h [.int .i64 a,.int .i64 b] (a,b) :=
 ⟨[.int .i64 a],[.int .i64 b],rfl,⟨rfl,h0⟩,⟨rfl,c⟩⟩
abbrev F0:Type:=List Int
abbrev T0:Wp F0:=Wp.slice Wp.int
instance Y0q:DecidableEq F0:=inferInstanceAs (DecidableEq (List Int))
def m0n(x:F0):Nat:=x.length
abbrev N01:Type:=List F0
abbrev T03:Wp N01:=Wp.slice T0
instance Q0q:DecidableEq N01:=inferInstanceAs (DecidableEq (List F0))
abbrev m0j:Type:=ByteArray×j0
instance R0q:DecidableEq m0j:=(@instDecidableEqProd _ _ (inferInstance:DecidableEq ByteArray) X0p)
abbrev M0b:Type:=List m0j
instance H0q:DecidableEq M0b:=inferInstanceAs (DecidableEq (List m0j))
abbrev g8:Type:=List B5
abbrev a0g:Wp g8:=Wp.slice Q4
instance S0q:DecidableEq g8:=inferInstanceAs (DecidableEq (List B5))
theorem x06(h:Hp):∃ cs,Z0.R h cs (0,0,0):=⟨_,C1 (by decide) (by decide) (by decide)⟩
theorem q0m(h:Hp)(a:Option Addr)(n c:Nat)(xs:M0)(left:Int)(f:K0.R h [.slice a n c] xs)(g:0<=left/\left<=1048576):
  Tr Tryz.prog 102 #[.slice a n c,.int .i64 left] h λv e=>v = .int .i64 (szR left (S03 xs))/\e=h:=by
 obtain⟨rfl,i⟩:=Sl.len f
 have d:IntKind.i64.wrap (left-(xs.length:Int))=left-xs.length:=w64 (by omega) (by omega)
 refine C2 (args:=[.slice a xs.length c,.int .i64 left]) (fn:=Tryz.f102) rfl ?_
 refine aI (λb=>?_) (λb=>?_)
 ·refine aI ?_ rfl
  simp[d]at b
  rw[S03,T0p (by omega)]
  rfl
 ·refine aI ?_ rfl
  simp[d]at b
  rw[S03,U0p (by omega)]
  exact congrArg (Value.int .i64) d
theorem r0m(h:Hp)(cs:List Value)(x:j0)(left:Int)(k:Y0.R h cs x)(f:0<=left/\left<=1048576):
  Tr Tryz.prog 41 #[.agg cs.toArray,.int .i64 left] h λv i=>v = .int .i64 (szR left (C04 x))/\i=h:=by
 obtain⟨m,n,d,g,e,b,rfl,rfl,h0,o,j⟩:=C0 k
 refine C2 (args:=[.agg #[.int .i64 m,.int .i64 n,.slice d g e],.int .i64 left]) (fn:=Tryz.f41) rfl ?_
 refine Tr.val (q0m h d g e b (left) j f) ?_
 refine aI (λc=>?_) (λc=>?_)
 ·refine aI ?_ rfl
  rw[C04,j0n (left:=left) (a:=((S03 b:Nat):Int)) (by simpa using c) f.1 (by simp only[];omega)]
  rfl
 have l:0<=szR left ((S03 b:Nat):Int):=by simpa using c
 have p:0<=szR left ((S03 b:Nat):Int)/\szR left ((S03 b:Nat):Int)<=1048576:=by
  have:=i0n l
  omega
 exact aI rfl rfl
theorem l0o(h:Hp)(cs ds:List Value)(x y:D0)(l:Z0.R h cs x)(m:Z0.R h ds y):
  Tr Tryz.prog 225 #[.agg cs.toArray,.agg ds.toArray] h λv k=>v = .bool (decide (x=y))/\k=h:=by
 obtain⟨c,f,i,rfl,rfl,h0,s,u⟩:=G1 l
 obtain⟨d,g,j,rfl,rfl,q,t,w⟩:=G1 m
 refine C2 (args:=[.agg #[.int .i64 c,.int .i64 f,.int .i64 i],.agg #[.int .i64 d,.int .i64 g,.int .i64 j]]) (fn:=Tryz.f225) rfl ?_
 refine aI (λa=>?_) (λa=>?_)
 ·have b:c≠d:=by simpa using a
  exact aI (congrArg Value.bool (decide_eq_false λe=>by cases e;exact b rfl).symm) rfl
 have n:c=d:=by simpa using a
 subst n
 refine aI (λa=>?_) (λa=>?_)
 ·have b:f≠g:=by simpa using a
  exact aI (congrArg Value.bool (decide_eq_false λe=>by cases e;exact b rfl).symm) rfl
 have o:f=g:=by simpa using a
 subst o
 refine aI (λa=>?_) (λa=>?_)
 ·have b:i≠j:=by simpa using a
  exact aI (congrArg Value.bool (decide_eq_false λe=>by cases e;exact b rfl).symm) rfl
 have p:i=j:=by simpa using a
 subst p
 exact aI (congrArg Value.bool (decide_eq_true rfl).symm) rfl
theorem s0m(h:Hp)(a:Option Addr)(n c:Nat)(p:Option Addr)(H q:Nat)(xs b:M0)(F:K0.R h [.slice a n c] xs)(G:K0.R h [.slice p H q] b):
  Tr Tryz.prog 116 #[.slice a n c,.slice p H q] h λv u=>v = .bool (decide (xs=b))/\u=h:=by
 obtain⟨rfl,V⟩:=Sl.len F
 obtain⟨rfl,ad⟩:=Sl.len G
 refine C2 (args:=[.slice a xs.length c,.slice p b.length q]) (fn:=Tryz.f116) rfl ?_
 refine aI (λw=>?_) (λw=>?_)
 ·refine aI (congrArg Value.bool ?_) rfl
  have:xs.length≠b.length:=by simp at w;omega
  exact(decide_eq_false λe=>this (by rw[e])).symm
 have U:xs.length=b.length:=by simp at w;omega
 refine eX { vars:=[5],boxes:=[],owns:=[] } (eX (λvs _ u=>∃ k:Nat,k<=xs.length/\xs.take k=b.take k/\vs = [.int .i64 k]/\u=h) (eX (λvs _=>match vs with | [.int _ j]=>((xs.length:Int)-j).toNat|_=>0) ?_))
 refine aI ⟨0,by omega,by simp,rfl,rfl⟩ ?_
 rintro _ ac ⟨k,D,C,⟨⟩,rfl⟩
 refine aI (λz=>?_) (λz=>?_)
 ·have E:k<xs.length:=by simpa using z
  obtain⟨x,s⟩:=m07 E
  obtain⟨y,t⟩:=m07 (l:=b) (k:=k) (by omega)
  obtain⟨I,aa,K,Y⟩:=Sl.get F s (by decide)
  obtain⟨J,ab,L,Z⟩:=Sl.get G t (by decide)
  have X:=V1 E V
  obtain⟨d,g,m,rfl,rfl,M,O,Q⟩:=G1 Y
  obtain⟨f,i,o,rfl,rfl,N,P,S⟩:=G1 Z
  refine Or.inl (aI (aI (by kernel_rfl) (by kernel_rfl)) ?_)
  refine aI I (eX _ (aI K (aI J (eX _ (aI L ?_)))))
  refine eX (.bool _) (aI (l0o _ [.int .i64 d,.int .i64 g,.int .i64 m] [.int .i64 f,.int .i64 i,.int .i64 o] (d,g,m) (f,i,o) (C1 M O Q) (C1 N P S)) ?_)
  refine aI (λA=>?_) (λA=>?_)
  ·refine aI (congrArg Value.bool ?_) rfl
   have W:(d,g,m)≠(f,i,o):=v0k A
   exact(decide_eq_false λe=>W (oJ (s.symm.trans ((congrArg (λl:M0=>l[k]?) e).trans t)))).symm
  ·have T:(d,g,m)=(f,i,o):=w0h A
   refine aI rfl (aI (by first|exact trivial|exact aI rfl trivial|exact aI rfl (aI rfl trivial)|exact aI rfl (aI rfl (aI rfl trivial))|exact aI rfl (aI rfl (aI rfl (aI rfl trivial)))) (aI (by first|exact trivial|exact aI rfl trivial|exact aI rfl (aI rfl trivial)|exact aI rfl (aI rfl (aI rfl trivial))|exact aI rfl (aI rfl (aI rfl (aI rfl trivial)))) (aI ?_ ?_)))
   ·refine⟨k+1,by omega,by rw[w03 s,w03 t,C,T],?_,rfl⟩
    rw[←X]
   ·show((xs.length:Int)-IntKind.i64.wrap ((k:Int)+1)).toNat<((xs.length:Int)-(k:Int)).toNat
    omega
 ·have D:k=xs.length:=by simp at z;omega
  refine aI (congrArg Value.bool ?_) rfl
  refine(decide_eq_true ?_).symm
  subst D
  rwa [List.take_length,U,List.take_length]at C
theorem t0m(h:Hp)(cs ds:List Value)(x y:j0)(u:Y0.R h cs x)(w:Y0.R h ds y):
  Tr Tryz.prog 45 #[.agg cs.toArray,.agg ds.toArray] h λv q=>v = .bool (decide (x=y))/\q=h:=by
 obtain⟨c,f,k,o,m,i,rfl,rfl,h0,E,s⟩:=C0 u
 obtain⟨d,g,l,p,n,j,rfl,rfl,D,F,t⟩:=C0 w
 refine C2 (args:=[.agg #[.int .i64 c,.int .i64 f,.slice k o m],.agg #[.int .i64 d,.int .i64 g,.slice l p n]]) (fn:=Tryz.f45) rfl ?_
 refine aI (λa=>?_) (λa=>?_)
 ·have b:c≠d:=by simpa using a
  exact aI (congrArg Value.bool (decide_eq_false λe=>by cases e;exact b rfl).symm) rfl
 have z:c=d:=by simpa using a
 subst z
 refine aI (λa=>?_) (λa=>?_)
 ·have b:f≠g:=by simpa using a
  exact aI (congrArg Value.bool (decide_eq_false λe=>by cases e;exact b rfl).symm) rfl
 have A:f=g:=by simpa using a
 subst A
 refine Tr.val (s0m h k o m l p n i j s t) ?_
 refine aI (λa=>?_) (λa=>?_)
 ·have b:i≠j:=v0k a
  exact aI (congrArg Value.bool (decide_eq_false λe=>by cases e;exact b rfl).symm) rfl
 have C:i=j:=w0h a
 subst C
 exact aI (congrArg Value.bool (decide_eq_true rfl).symm) rfl
theorem m0o(h:Hp)(a:Option Addr)(n c:Nat)(d:Option Addr)(A f:Nat)(xs b:F0)(w:T0.R h [.slice a n c] xs)(z:T0.R h [.slice d A f] b):
  Tr Tryz.prog 22 #[.slice a n c,.slice d A f] h λv m=>v = .bool (decide (xs=b))/\m=h:=by
 obtain⟨rfl,I⟩:=Sl.len w
 obtain⟨rfl,Q⟩:=Sl.len z
 refine C2 (args:=[.slice a xs.length c,.slice d b.length f]) (fn:=Tryz.f22) rfl ?_
 refine aI (λo=>?_) (λo=>?_)
 ·refine aI (congrArg Value.bool ?_) rfl
  have:xs.length≠b.length:=by simp at o;omega
  exact(decide_eq_false λe=>this (by rw[e])).symm
 have H:xs.length=b.length:=by simp at o;omega
 refine eX { vars:=[5],boxes:=[],owns:=[] } (eX (λvs _ m=>∃ k:Nat,k<=xs.length/\xs.take k=b.take k/\vs = [.int .i64 k]/\m=h) (eX (λvs _=>match vs with | [.int _ j]=>((xs.length:Int)-j).toNat|_=>0) ?_))
 refine aI ⟨0,by omega,by simp,rfl,rfl⟩ ?_
 rintro _ P ⟨k,t,s,⟨⟩,rfl⟩
 refine aI (λp=>?_) (λp=>?_)
 ·have u:k<xs.length:=by simpa using p
  obtain⟨x,g⟩:=m07 u
  obtain⟨y,i⟩:=m07 (l:=b) (k:=k) (by omega)
  obtain⟨C,N,E,L⟩:=Sl.get w g (by decide)
  obtain⟨D,O,F,M⟩:=Sl.get z i (by decide)
  have K:=V1 u I
  obtain⟨rfl,_⟩:=L
  obtain⟨rfl,_⟩:=M
  refine Or.inl (aI (aI (by kernel_rfl) (by kernel_rfl)) ?_)
  refine aI C (eX _ (aI E (aI D (eX _ (aI F ?_)))))
  refine aI (λq=>?_) (λq=>?_)
  ·refine aI (congrArg Value.bool ?_) rfl
   have J:x≠y:=by simpa using q
   exact(decide_eq_false λe=>J (oJ (g.symm.trans ((congrArg (λl:F0=>l[k]?) e).trans i)))).symm
  ·have G:x=y:=by simpa using q
   refine aI rfl (aI (by first|exact trivial|exact aI rfl trivial|exact aI rfl (aI rfl trivial)|exact aI rfl (aI rfl (aI rfl trivial))|exact aI rfl (aI rfl (aI rfl (aI rfl trivial)))) (aI (by first|exact trivial|exact aI rfl trivial|exact aI rfl (aI rfl trivial)|exact aI rfl (aI rfl (aI rfl trivial))|exact aI rfl (aI rfl (aI rfl (aI rfl trivial)))) (aI ?_ ?_)))
   ·refine⟨k+1,by omega,by rw[w03 g,w03 i,s,G],?_,rfl⟩
    rw[←K]
   ·show((xs.length:Int)-IntKind.i64.wrap ((k:Int)+1)).toNat<((xs.length:Int)-(k:Int)).toNat
    omega
 ·have t:k=xs.length:=by simp at p;omega
  refine aI (congrArg Value.bool ?_) rfl
  refine(decide_eq_true ?_).symm
  subst t
  rwa [List.take_length,H,List.take_length]at s
theorem n0o(h:Hp)(cs:List Value)(x:D0)(d:Z0.R h cs x)(i:f0p x<=1048576):
  Tr Tryz.prog 218 #[.agg cs.toArray] h λv a=>∃ cs',v = .agg cs'.toArray/\New Z0 h a cs' x:=by
 obtain⟨e,f,g,rfl,rfl,h0,b,c⟩:=G1 d
 refine C2 (args:=[.agg #[.int .i64 e,.int .i64 f,.int .i64 g]]) (fn:=Tryz.f218) rfl ?_
 exact eX _ (aI rfl (New.pair (New.int h0) (New.pair (New.int b) (New.int c))))
theorem u0m(h:Hp)(a:Option Addr)(n c:Nat)(xs:M0)(s:K0.R h [.slice a n c] xs)(J:S03 xs<=1048576):
  Tr Tryz.prog 110 #[.slice a n c] h λv b=>New K0 h b [v] xs:=by
 obtain⟨rfl,K⟩:=Sl.len s
 have T:xs.length<=1048576:=by simp only[S03]at J;omega
 refine C2 (args:=[.slice a xs.length c]) (fn:=Tryz.f110) rfl ?_
 refine aI ?_ ?_
 ·show 0<=(xs.length:Int)/\(xs.length:Int)<=xs.length/\(xs.length:Int)*24<=140737488355328/\(xs.length:Int)<=9223372036854775807
  omega
 refine eX { vars:=[4],boxes:=[],owns:=[0],kept:=[0] } (eX (λvs os b=>∃(k:Nat) (L:List (List Value)) (Bs:List (List Nat)),k<=xs.length/\vs = [.int .i64 k]/\os = [Q03 L xs.length [.int .i64 0,.int .i64 0,.int .i64 0]]/\L.length=k /\
  F3 (Z0.W b) L (xs.take k) Bs/\Sub h b/\r6 h Bs.flatten) (eX (λvs _=>match vs with | [.int _ j]=>((xs.length:Int)-j).toNat|_=>0) ?_))
 refine aI ⟨0,[],[],by omega,rfl,rfl,rfl,trivial,Sub.refl _,by simp[r6]⟩ ?_
 rintro _ _ H ⟨k,L,Bs,q,⟨⟩,⟨⟩,i,d,f,p⟩
 refine aI (λg=>?_) (λg=>?_)
 ·have e:k<xs.length:=by simpa using g
  obtain⟨x,l⟩:=m07 e
  obtain⟨C,O,D,N⟩:=Sl.get (Sl.mono f s) l (by decide)
  have M:=V1 e K
  obtain⟨t,w,z,rfl,rfl,E,F,G⟩:=G1 N
  refine aI C (eX _ (aI D ?_))
  refine Tr.mono (n0o H [.int .i64 t,.int .i64 w,.int .i64 z] (t,w,z) (C1 E F G) (by simp only[f0p];omega)) ?_
  rintro v S ⟨P,rfl,B,m,I,o⟩
  obtain⟨u,y,A,rfl,Q,_,_,_⟩:=G1 (Z0.toR m)
  refine aI ?_ ?_
  ·show 0<=(k:Int)/\(k:Int)<((Q03 L xs.length [.int .i64 0,.int .i64 0,.int .i64 0]).length:Nat)
   rw[i09 (by omega)];omega
  refine eX [.int .i64 0,.int .i64 0,.int .i64 0] (aI (G0e i e) ?_)
  refine aI rfl (aI (by first|exact trivial|exact aI rfl trivial|exact aI rfl (aI rfl trivial)|exact aI rfl (aI rfl (aI rfl trivial))|exact aI rfl (aI rfl (aI rfl (aI rfl trivial)))) (aI (by first|exact trivial|exact aI rfl trivial|exact aI rfl (aI rfl trivial)|exact aI rfl (aI rfl (aI rfl trivial))|exact aI rfl (aI rfl (aI rfl (aI rfl trivial)))) (aI ?_ ?_)))
  ·refine⟨k+1,L ++ [[.int .i64 u,.int .i64 y,.int .i64 A]],Bs ++ [B],by omega,by rw[←M],?_,by simp[i],?_,f.trans o,?_⟩
   ·show [(Q03 L xs.length [.int .i64 0,.int .i64 0,.int .i64 0]).set k [.int .i64 u,.int .i64 y,.int .i64 A]]=_
    rw[H0e i e]
   ·rw[w03 l]
    exact F3.snoc m (v0h d o)
   ·exact G0c d f p I
  ·show((xs.length:Int)-IntKind.i64.wrap ((k:Int)+1)).toNat<((xs.length:Int)-(k:Int)).toNat
   omega
 ·have q:k=xs.length:=by simp at g;omega
  intro v b hf
  rw[I0e (by omega)]at hf
  rw[q,List.take_length]at d
  exact E1.fresh (r:=Z0) hf d f p
theorem X0a(h:Hp)(cs:List Value)(x:j0)(k:Y0.R h cs x)(j:C04 x<=1048576):
  Tr Tryz.prog 43 #[.agg cs.toArray] h λv f=>∃ cs',v = .agg cs'.toArray/\New Y0 h f cs' x:=by
 obtain⟨l,m,b,d,c,n,rfl,rfl,h0,g,i⟩:=C0 k
 simp only[C04]at j
 refine C2 (args:=[.agg #[.int .i64 l,.int .i64 m,.slice b d c]]) (fn:=Tryz.f43) rfl ?_
 refine Tr.mono (u0m h b d c n (Sl.mono (Sub.refl _) i) (by omega)) ?_
 rintro t q a
 obtain⟨o,s,p,e⟩:=Wp.slice_cell a.r
 cases e
 exact eX _ (aI rfl (New.pair (New.int h0) (New.pair (New.int g) a)))
theorem S0d(h:Hp)(a:Option Addr)(n c:Nat)(xs:F0)(q:T0.R h [.slice a n c] xs)(A:m0n xs<=1048576):
  Tr Tryz.prog 36 #[.slice a n c] h λv b=>New T0 h b [v] xs:=by
 obtain⟨rfl,C⟩:=Sl.len q
 have G:xs.length<=1048576:=by simp only[m0n]at A;omega
 refine C2 (args:=[.slice a xs.length c]) (fn:=Tryz.f36) rfl ?_
 refine aI ?_ ?_
 ·show 0<=(xs.length:Int)/\(xs.length:Int)<=xs.length/\(xs.length:Int)*8<=140737488355328/\(xs.length:Int)<=9223372036854775807
  omega
 refine eX { vars:=[4],boxes:=[],owns:=[0],kept:=[0] } (eX (λvs os b=>∃(k:Nat) (L:List (List Value)) (Bs:List (List Nat)),k<=xs.length/\vs = [.int .i64 k]/\os = [Q03 L xs.length [.int .i64 0]]/\L.length=k /\
  F3 (Wp.int.W b) L (xs.take k) Bs/\Sub h b/\r6 h Bs.flatten) (eX (λvs _=>match vs with | [.int _ j]=>((xs.length:Int)-j).toNat|_=>0) ?_))
 refine aI ⟨0,[],[],by omega,rfl,rfl,rfl,trivial,Sub.refl _,by simp[r6]⟩ ?_
 rintro _ _ w ⟨k,L,Bs,p,⟨⟩,⟨⟩,i,d,f,o⟩
 refine aI (λg=>?_) (λg=>?_)
 ·have e:k<xs.length:=by simpa using g
  obtain⟨x,l⟩:=m07 e
  obtain⟨s,F,t,E⟩:=Sl.get (Sl.mono f q) l (by decide)
  have D:=V1 e C
  obtain⟨rfl,u⟩:=E
  refine aI s (eX _ (aI t ?_))
  obtain⟨B,y,z,m⟩:=New.int (h:=w) u
  refine aI ?_ ?_
  ·show 0<=(k:Int)/\(k:Int)<((Q03 L xs.length [.int .i64 0]).length:Nat)
   rw[i09 (by omega)];omega
  refine eX [.int .i64 0] (aI (G0e i e) ?_)
  refine aI rfl (aI (by first|exact trivial|exact aI rfl trivial|exact aI rfl (aI rfl trivial)|exact aI rfl (aI rfl (aI rfl trivial))|exact aI rfl (aI rfl (aI rfl (aI rfl trivial)))) (aI (by first|exact trivial|exact aI rfl trivial|exact aI rfl (aI rfl trivial)|exact aI rfl (aI rfl (aI rfl trivial))|exact aI rfl (aI rfl (aI rfl (aI rfl trivial)))) (aI ?_ ?_)))
  ·refine⟨k+1,L ++ [[.int .i64 x]],Bs ++ [B],by omega,by rw[←D],?_,by simp[i],?_,f.trans m,?_⟩
   ·show [(Q03 L xs.length [.int .i64 0]).set k [.int .i64 x]]=_
    rw[H0e i e]
   ·rw[w03 l]
    exact F3.snoc y (v0h d m)
   ·exact G0c d f o z
  ·show((xs.length:Int)-IntKind.i64.wrap ((k:Int)+1)).toNat<((xs.length:Int)-(k:Int)).toNat
   omega
 ·have p:k=xs.length:=by simp at g;omega
  intro v b hf
  rw[I0e (by omega)]at hf
  rw[p,List.take_length]at d
  exact E1.fresh (r:=Wp.int) hf d f o
end Go.Proofs.YtkjhghloldgioaaGreat
