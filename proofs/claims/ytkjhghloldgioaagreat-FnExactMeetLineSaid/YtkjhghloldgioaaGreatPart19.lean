/- Texts of the claim, joined: The data types of the laws, as lists and tuples and others. -/
import Derived.Test.YtkjhghloldgioaaGreatHE
import Derived.Test.YtkjhghloldgioaaGreatChecked
namespace Go.Proofs.YtkjhghloldgioaaGreat
open Go.H
set_option linter.unusedVariables false
set_option linter.unusedSimpArgs false
set_option maxRecDepth 10000
def H08:Nat->Nat->List UInt8->List UInt8
 |0,_,acc=>acc
 |f+1,n,acc=>if n=0 then acc else H08 f (n / 10) (UInt8.ofNat (48+n % 10)::acc)
theorem d0e:∀(f n:Nat) (acc:List UInt8),(H08 f n acc).length<=f+acc.length
 |0,n,acc=>by simp[H08]
 |f+1,n,acc=>by
  simp only[H08]
  split
  ·omega
  ·have:=d0e f (n / 10) (UInt8.ofNat (48+n % 10)::acc)
   simp only[List.length_cons]at this
   omega
abbrev M0:Type:=Int×Int×Int
abbrev H1:Wp M0:=Wp.pair Wp.int (Wp.pair Wp.int Wp.int)
instance o0u:DecidableEq M0:=(@instDecidableEqProd _ _ (inferInstance:DecidableEq Int) (@instDecidableEqProd _ _ (inferInstance:DecidableEq Int) (inferInstance:DecidableEq Int)))
def E0s(x:M0):Nat:=0
theorem Q1{h:Hp}{cs:List Value}{x:M0}(f:H1.R h cs x):∃(a:Int) (b:Int) (c:Int),cs = [.int .i64 a,.int .i64 b,.int .i64 c]/\x=(a,b,c)/\I0 a/\I0 b/\I0 c:=by
 obtain⟨a,b,c⟩:=x
 obtain⟨_,_,rfl,⟨rfl,h0⟩,⟨_,_,rfl,⟨rfl,d⟩,⟨rfl,e⟩⟩⟩:=f
 exact⟨a,b,c,rfl,rfl,h0,d,e⟩
theorem T1{h:Hp}{c:Int}{a:Int}{b:Int}(h0:I0 c)(d:I0 a)(e:I0 b):H1.R h [.int .i64 c,.int .i64 a,.int .i64 b] (c,a,b) :=
 ⟨[.int .i64 c],[.int .i64 a,.int .i64 b],rfl,⟨rfl,h0⟩,⟨[.int .i64 a],[.int .i64 b],rfl,⟨rfl,d⟩,⟨rfl,e⟩⟩⟩
theorem B0l{h:Hp}{c:Int}{a:Int}{b:Int}(h0:I0 c)(d:I0 a)(e:I0 b):H1.W h [.int .i64 c,.int .i64 a,.int .i64 b] (c,a,b) ([]++([] ++ [])) :=
 ⟨[.int .i64 c],[.int .i64 a,.int .i64 b],[],([] ++ []),rfl,rfl,⟨⟨rfl,h0⟩,rfl⟩,⟨[.int .i64 a],[.int .i64 b],[],[],rfl,rfl,⟨⟨rfl,d⟩,rfl⟩,⟨⟨rfl,e⟩,rfl⟩⟩⟩
abbrev O0:Type:=List M0
abbrev S0:Wp O0:=Wp.slice H1
instance o0t:DecidableEq O0:=inferInstanceAs (DecidableEq (List M0))
def M04(x:O0):Nat:=x.length
abbrev j0:Type:=Int×Int×O0
abbrev V0:Wp j0:=Wp.pair Wp.int (Wp.pair Wp.int S0)
instance p0t:DecidableEq j0:=(@instDecidableEqProd _ _ (inferInstance:DecidableEq Int) (@instDecidableEqProd _ _ (inferInstance:DecidableEq Int) o0t))
def j02(x:j0):Nat:=M04 x.2.2
theorem H0{h:Hp}{cs:List Value}{x:j0}(j:V0.R h cs x):∃(a:Int) (b:Int) (c:Option Addr) (e d:Nat) (f:O0),cs = [.int .i64 a,.int .i64 b,.slice c e d]/\x=(a,b,f)/\I0 a/\I0 b/\S0.R h [.slice c e d] f:=by
 obtain⟨a,b,f⟩:=x
 obtain⟨_,_,rfl,⟨rfl,h0⟩,⟨_,_,rfl,⟨rfl,i⟩,g⟩⟩:=j
 obtain⟨c,e,d,rfl⟩:=Wp.slice_cell g
 exact⟨a,b,c,e,d,f,rfl,rfl,h0,i,g⟩
theorem l0{h:Hp}{e:Int}{a:Int}{b:Option Addr}{d c:Nat}{f:O0}(h0:I0 e)(g:I0 a)(i:S0.R h [.slice b d c] f):V0.R h [.int .i64 e,.int .i64 a,.slice b d c] (e,a,f) :=
 ⟨[.int .i64 e],[.int .i64 a,.slice b d c],rfl,⟨rfl,h0⟩,⟨[.int .i64 a],[.slice b d c],rfl,⟨rfl,g⟩,i⟩⟩
abbrev H4:Type:=Int×Int
abbrev J3:Wp H4:=Wp.pair Wp.int Wp.int
instance p0u:DecidableEq H4:=(@instDecidableEqProd _ _ (inferInstance:DecidableEq Int) (inferInstance:DecidableEq Int))
theorem c00{h:Hp}{cs:List Value}{x:H4}(d:J3.R h cs x):∃(a:Int) (b:Int),cs = [.int .i64 a,.int .i64 b]/\x=(a,b)/\I0 a/\I0 b:=by
 obtain⟨a,b⟩:=x
 obtain⟨_,_,rfl,⟨rfl,h0⟩,⟨rfl,c⟩⟩:=d
 exact⟨a,b,rfl,rfl,h0,c⟩
theorem C2{h:Hp}{a:Int}{b:Int}(h0:I0 a)(c:I0 b):J3.R h [.int .i64 a,.int .i64 b] (a,b) :=
 ⟨[.int .i64 a],[.int .i64 b],rfl,⟨rfl,h0⟩,⟨rfl,c⟩⟩
abbrev P0:Type:=List Int
abbrev K1:Wp P0:=Wp.slice Wp.int
instance q0u:DecidableEq P0:=inferInstanceAs (DecidableEq (List Int))
abbrev D4:Type:=List P0
abbrev k02:Wp D4:=Wp.slice K1
instance i0u:DecidableEq D4:=inferInstanceAs (DecidableEq (List P0))
abbrev C0l:Type:=ByteArray×j0
instance j0u:DecidableEq C0l:=(@instDecidableEqProd _ _ (inferInstance:DecidableEq ByteArray) p0t)
abbrev e0d:Type:=List C0l
instance a0u:DecidableEq e0d:=inferInstanceAs (DecidableEq (List C0l))
abbrev b9:Type:=List H4
abbrev b0i:Wp b9:=Wp.slice J3
instance k0u:DecidableEq b9:=inferInstanceAs (DecidableEq (List H4))
theorem D0l(h:Hp):∃ cs,H1.R h cs (0,0,0):=⟨_,T1 (by decide) (by decide) (by decide)⟩
theorem J0p(h:Hp):∃ cs,J3.R h cs (0,0):=⟨_,C2 (by decide) (by decide)⟩
theorem S0o(h:Hp)(a:Option Addr)(n c:Nat)(xs:O0)(left:Int)(f:S0.R h [.slice a n c] xs)(g:0<=left/\left<=1048576):
  Tr Tryz.prog 102 #[.slice a n c,.int .i64 left] h λv e=>v = .int .i64 (szR left (M04 xs))/\e=h:=by
 obtain⟨rfl,i⟩:=Sl.len f
 have d:IntKind.i64.wrap (left-(xs.length:Int))=left-xs.length:=w64 (by omega) (by omega)
 refine I3 (args:=[.slice a xs.length c,.int .i64 left]) (fn:=Tryz.f102) rfl ?_
 refine aI (λb=>?_) (λb=>?_)
 ·refine aI ?_ rfl
  simp[d]at b
  rw[M04,m0t (by omega)]
  rfl
 ·refine aI ?_ rfl
  simp[d]at b
  rw[M04,n0t (by omega)]
  exact congrArg (Value.int .i64) d
theorem s0h(h:Hp)(cs:List Value)(x:j0)(left:Int)(k:V0.R h cs x)(f:0<=left/\left<=1048576):
  Tr Tryz.prog 41 #[.agg cs.toArray,.int .i64 left] h λv i=>v = .int .i64 (szR left (j02 x))/\i=h:=by
 obtain⟨m,n,d,g,e,b,rfl,rfl,h0,o,j⟩:=H0 k
 refine I3 (args:=[.agg #[.int .i64 m,.int .i64 n,.slice d g e],.int .i64 left]) (fn:=Tryz.f41) rfl ?_
 refine Tr.val (S0o h d g e b (left) j f) ?_
 refine aI (λc=>?_) (λc=>?_)
 ·refine aI ?_ rfl
  rw[j02,H0p (left:=left) (a:=((M04 b:Nat):Int)) (by simpa using c) f.1 (by simp only[];omega)]
  rfl
 have l:0<=szR left ((M04 b:Nat):Int):=by simpa using c
 have p:0<=szR left ((M04 b:Nat):Int)/\szR left ((M04 b:Nat):Int)<=1048576:=by
  have:=A0l l
  omega
 exact aI rfl rfl
theorem x0r(h:Hp)(cs ds:List Value)(x y:M0)(l:H1.R h cs x)(m:H1.R h ds y):
  Tr Tryz.prog 225 #[.agg cs.toArray,.agg ds.toArray] h λv k=>v = .bool (decide (x=y))/\k=h:=by
 obtain⟨c,f,i,rfl,rfl,h0,s,u⟩:=Q1 l
 obtain⟨d,g,j,rfl,rfl,q,t,w⟩:=Q1 m
 refine I3 (args:=[.agg #[.int .i64 c,.int .i64 f,.int .i64 i],.agg #[.int .i64 d,.int .i64 g,.int .i64 j]]) (fn:=Tryz.f225) rfl ?_
 refine aI (λa=>?_) (λa=>?_)
 ·have b:c≠d:=by simpa using a
  exact aI (congrArg Value.bool (decide_eq_false λe=>by cases e;exact b rfl).symm) rfl
 have n:c=d:=by simpa using a
 subst n
 refine aI (λa=>?_) (λa=>?_)
 ·have b:f≠g:=by simpa using a
  exact aI (congrArg Value.bool (decide_eq_false λe=>by cases e;exact b rfl).symm) rfl
 have o:f=g:=by simpa using a
 subst o
 refine aI (λa=>?_) (λa=>?_)
 ·have b:i≠j:=by simpa using a
  exact aI (congrArg Value.bool (decide_eq_false λe=>by cases e;exact b rfl).symm) rfl
 have p:i=j:=by simpa using a
 subst p
 exact aI (congrArg Value.bool (decide_eq_true rfl).symm) rfl
theorem T0o(h:Hp)(a:Option Addr)(n c:Nat)(p:Option Addr)(H q:Nat)(xs b:O0)(F:S0.R h [.slice a n c] xs)(G:S0.R h [.slice p H q] b):
  Tr Tryz.prog 116 #[.slice a n c,.slice p H q] h λv u=>v = .bool (decide (xs=b))/\u=h:=by
 obtain⟨rfl,V⟩:=Sl.len F
 obtain⟨rfl,ad⟩:=Sl.len G
 refine I3 (args:=[.slice a xs.length c,.slice p b.length q]) (fn:=Tryz.f116) rfl ?_
 refine aI (λw=>?_) (λw=>?_)
 ·refine aI (congrArg Value.bool ?_) rfl
  have:xs.length≠b.length:=by simp at w;omega
  exact(decide_eq_false λe=>this (by rw[e])).symm
 have U:xs.length=b.length:=by simp at w;omega
 refine eX { vars:=[5],boxes:=[],owns:=[] } (eX (λvs _ u=>∃ k:Nat,k<=xs.length/\xs.take k=b.take k/\vs = [.int .i64 k]/\u=h) (eX (λvs _=>match vs with | [.int _ j]=>((xs.length:Int)-j).toNat|_=>0) ?_))
 refine aI ⟨0,by omega,by simp,rfl,rfl⟩ ?_
 rintro _ ac ⟨k,D,C,⟨⟩,rfl⟩
 refine aI (λz=>?_) (λz=>?_)
 ·have E:k<xs.length:=by simpa using z
  obtain⟨x,s⟩:=Y0h E
  obtain⟨y,t⟩:=Y0h (l:=b) (k:=k) (by omega)
  obtain⟨I,aa,K,Y⟩:=Sl.get F s (by decide)
  obtain⟨J,ab,L,Z⟩:=Sl.get G t (by decide)
  have X:=G2 E V
  obtain⟨d,g,m,rfl,rfl,M,O,Q⟩:=Q1 Y
  obtain⟨f,i,o,rfl,rfl,N,P,S⟩:=Q1 Z
  refine Or.inl (aI (aI (by kernel_rfl) (by kernel_rfl)) ?_)
  refine aI I (eX _ (aI K (aI J (eX _ (aI L ?_)))))
  refine eX (.bool _) (aI (x0r _ [.int .i64 d,.int .i64 g,.int .i64 m] [.int .i64 f,.int .i64 i,.int .i64 o] (d,g,m) (f,i,o) (T1 M O Q) (T1 N P S)) ?_)
  refine aI (λA=>?_) (λA=>?_)
  ·refine aI (congrArg Value.bool ?_) rfl
   have W:(d,g,m)≠(f,i,o):=I0m A
   exact(decide_eq_false λe=>W (oJ (s.symm.trans ((congrArg (λl:O0=>l[k]?) e).trans t)))).symm
  ·have T:(d,g,m)=(f,i,o):=C0j A
   refine aI rfl (aI (by first|exact trivial|exact aI rfl trivial|exact aI rfl (aI rfl trivial)|exact aI rfl (aI rfl (aI rfl trivial))|exact aI rfl (aI rfl (aI rfl (aI rfl trivial)))) (aI (by first|exact trivial|exact aI rfl trivial|exact aI rfl (aI rfl trivial)|exact aI rfl (aI rfl (aI rfl trivial))|exact aI rfl (aI rfl (aI rfl (aI rfl trivial)))) (aI ?_ ?_)))
   ·refine⟨k+1,by omega,by rw[F0b s,F0b t,C,T],?_,rfl⟩
    rw[←X]
   ·show((xs.length:Int)-IntKind.i64.wrap ((k:Int)+1)).toNat<((xs.length:Int)-(k:Int)).toNat
    omega
 ·have D:k=xs.length:=by simp at z;omega
  refine aI (congrArg Value.bool ?_) rfl
  refine(decide_eq_true ?_).symm
  subst D
  rwa [List.take_length,U,List.take_length]at C
theorem t0h(h:Hp)(cs ds:List Value)(x y:j0)(u:V0.R h cs x)(w:V0.R h ds y):
  Tr Tryz.prog 45 #[.agg cs.toArray,.agg ds.toArray] h λv q=>v = .bool (decide (x=y))/\q=h:=by
 obtain⟨c,f,k,o,m,i,rfl,rfl,h0,E,s⟩:=H0 u
 obtain⟨d,g,l,p,n,j,rfl,rfl,D,F,t⟩:=H0 w
 refine I3 (args:=[.agg #[.int .i64 c,.int .i64 f,.slice k o m],.agg #[.int .i64 d,.int .i64 g,.slice l p n]]) (fn:=Tryz.f45) rfl ?_
 refine aI (λa=>?_) (λa=>?_)
 ·have b:c≠d:=by simpa using a
  exact aI (congrArg Value.bool (decide_eq_false λe=>by cases e;exact b rfl).symm) rfl
 have z:c=d:=by simpa using a
 subst z
 refine aI (λa=>?_) (λa=>?_)
 ·have b:f≠g:=by simpa using a
  exact aI (congrArg Value.bool (decide_eq_false λe=>by cases e;exact b rfl).symm) rfl
 have A:f=g:=by simpa using a
 subst A
 refine Tr.val (T0o h k o m l p n i j s t) ?_
 refine aI (λa=>?_) (λa=>?_)
 ·have b:i≠j:=I0m a
  exact aI (congrArg Value.bool (decide_eq_false λe=>by cases e;exact b rfl).symm) rfl
 have C:i=j:=C0j a
 subst C
 exact aI (congrArg Value.bool (decide_eq_true rfl).symm) rfl
theorem y0r(h:Hp)(cs:List Value)(x:M0)(d:H1.R h cs x)(i:E0s x<=1048576):
  Tr Tryz.prog 218 #[.agg cs.toArray] h λv a=>∃ cs',v = .agg cs'.toArray/\New H1 h a cs' x:=by
 obtain⟨e,f,g,rfl,rfl,h0,b,c⟩:=Q1 d
 refine I3 (args:=[.agg #[.int .i64 e,.int .i64 f,.int .i64 g]]) (fn:=Tryz.f218) rfl ?_
 exact eX _ (aI rfl (New.pair (New.int h0) (New.pair (New.int b) (New.int c))))
theorem U0o(h:Hp)(a:Option Addr)(n c:Nat)(xs:O0)(s:S0.R h [.slice a n c] xs)(J:M04 xs<=1048576):
  Tr Tryz.prog 110 #[.slice a n c] h λv b=>New S0 h b [v] xs:=by
 obtain⟨rfl,K⟩:=Sl.len s
 have T:xs.length<=1048576:=by simp only[M04]at J;omega
 refine I3 (args:=[.slice a xs.length c]) (fn:=Tryz.f110) rfl ?_
 refine aI ?_ ?_
 ·show 0<=(xs.length:Int)/\(xs.length:Int)<=xs.length/\(xs.length:Int)*24<=140737488355328/\(xs.length:Int)<=9223372036854775807
  omega
 refine eX { vars:=[4],boxes:=[],owns:=[0],kept:=[0] } (eX (λvs os b=>∃(k:Nat) (L:List (List Value)) (Bs:List (List Nat)),k<=xs.length/\vs = [.int .i64 k]/\os = [X06 L xs.length [.int .i64 0,.int .i64 0,.int .i64 0]]/\L.length=k /\
  F3 (H1.W b) L (xs.take k) Bs/\Sub h b/\K7 h Bs.flatten) (eX (λvs _=>match vs with | [.int _ j]=>((xs.length:Int)-j).toNat|_=>0) ?_))
 refine aI ⟨0,[],[],by omega,rfl,rfl,rfl,trivial,Sub.refl _,by simp[K7]⟩ ?_
 rintro _ _ H ⟨k,L,Bs,q,⟨⟩,⟨⟩,i,d,f,p⟩
 refine aI (λg=>?_) (λg=>?_)
 ·have e:k<xs.length:=by simpa using g
  obtain⟨x,l⟩:=Y0h e
  obtain⟨C,O,D,N⟩:=Sl.get (Sl.mono f s) l (by decide)
  have M:=G2 e K
  obtain⟨t,w,z,rfl,rfl,E,F,G⟩:=Q1 N
  refine aI C (eX _ (aI D ?_))
  refine Tr.mono (y0r H [.int .i64 t,.int .i64 w,.int .i64 z] (t,w,z) (T1 E F G) (by simp only[E0s];omega)) ?_
  rintro v S ⟨P,rfl,B,m,I,o⟩
  obtain⟨u,y,A,rfl,Q,_,_,_⟩:=Q1 (H1.toR m)
  refine aI ?_ ?_
  ·show 0<=(k:Int)/\(k:Int)<((X06 L xs.length [.int .i64 0,.int .i64 0,.int .i64 0]).length:Nat)
   rw[X0h (by omega)];omega
  refine eX [.int .i64 0,.int .i64 0,.int .i64 0] (aI (k0o i e) ?_)
  refine aI rfl (aI (by first|exact trivial|exact aI rfl trivial|exact aI rfl (aI rfl trivial)|exact aI rfl (aI rfl (aI rfl trivial))|exact aI rfl (aI rfl (aI rfl (aI rfl trivial)))) (aI (by first|exact trivial|exact aI rfl trivial|exact aI rfl (aI rfl trivial)|exact aI rfl (aI rfl (aI rfl trivial))|exact aI rfl (aI rfl (aI rfl (aI rfl trivial)))) (aI ?_ ?_)))
  ·refine⟨k+1,L ++ [[.int .i64 u,.int .i64 y,.int .i64 A]],Bs ++ [B],by omega,by rw[←M],?_,by simp[i],?_,f.trans o,?_⟩
   ·show [(X06 L xs.length [.int .i64 0,.int .i64 0,.int .i64 0]).set k [.int .i64 u,.int .i64 y,.int .i64 A]]=_
    rw[l0o i e]
   ·rw[F0b l]
    exact F3.snoc m (Y0d d o)
   ·exact z0l d f p I
  ·show((xs.length:Int)-IntKind.i64.wrap ((k:Int)+1)).toNat<((xs.length:Int)-(k:Int)).toNat
   omega
 ·have q:k=xs.length:=by simp at g;omega
  intro v b hf
  rw[m0o (by omega)]at hf
  rw[q,List.take_length]at d
  exact G1.fresh (r:=H1) hf d f p
theorem o04(h:Hp)(cs:List Value)(x:j0)(k:V0.R h cs x)(j:j02 x<=1048576):
  Tr Tryz.prog 43 #[.agg cs.toArray] h λv f=>∃ cs',v = .agg cs'.toArray/\New V0 h f cs' x:=by
 obtain⟨l,m,b,d,c,n,rfl,rfl,h0,g,i⟩:=H0 k
 simp only[j02]at j
 refine I3 (args:=[.agg #[.int .i64 l,.int .i64 m,.slice b d c]]) (fn:=Tryz.f43) rfl ?_
 refine Tr.mono (U0o h b d c n (Sl.mono (Sub.refl _) i) (by omega)) ?_
 rintro t q a
 obtain⟨o,s,p,e⟩:=Wp.slice_cell a.r
 cases e
 exact eX _ (aI rfl (New.pair (New.int h0) (New.pair (New.int g) a)))
end Go.Proofs.YtkjhghloldgioaaGreat
