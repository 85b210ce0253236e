/- Texts of the claim, joined: The data types of the laws, as lists and tuples and others. -/
import Derived.Test.YtmgikbbmpnbbjaaGreatHE
import Derived.Test.YtmgikbbmpnbbjaaGreatChecked
namespace Go.Proofs.YtmgikbbmpnbbjaaGreat
open Go.H
set_option linter.unusedVariables false
set_option linter.unusedSimpArgs false
set_option maxRecDepth 10000
def n0c:Nat->Nat->List UInt8->List UInt8
 |0,_,acc=>acc
 |f+1,n,acc=>if n=0 then acc else n0c f (n / 10) (UInt8.ofNat (48+n % 10)::acc)
theorem p0g:∀(f n:Nat) (acc:List UInt8),(n0c f n acc).length<=f+acc.length
 |0,n,acc=>by simp[n0c]
 |f+1,n,acc=>by
  simp only[n0c]
  split
  ·omega
  ·have:=p0g f (n / 10) (UInt8.ofNat (48+n % 10)::acc)
   simp only[List.length_cons]at this
   omega
abbrev N0:Type:=Int×Int×Int
abbrev I1:Wp N0:=Wp.pair Wp.int (Wp.pair Wp.int Wp.int)
instance H0v:DecidableEq N0:=(@instDecidableEqProd _ _ (inferInstance:DecidableEq Int) (@instDecidableEqProd _ _ (inferInstance:DecidableEq Int) (inferInstance:DecidableEq Int)))
theorem U1{h:Hp}{cs:List Value}{x:N0}(f:I1.R h cs x):∃(a:Int) (b:Int) (c:Int),cs = [.int .i64 a,.int .i64 b,.int .i64 c]/\x=(a,b,c)/\H0 a/\H0 b/\H0 c:=by
 obtain⟨a,b,c⟩:=x
 obtain⟨_,_,rfl,⟨rfl,h0⟩,⟨_,_,rfl,⟨rfl,d⟩,⟨rfl,e⟩⟩⟩:=f
 exact⟨a,b,c,rfl,rfl,h0,d,e⟩
theorem D1{h:Hp}{c:Int}{a:Int}{b:Int}(h0:H0 c)(d:H0 a)(e:H0 b):I1.R h [.int .i64 c,.int .i64 a,.int .i64 b] (c,a,b) :=
 ⟨[.int .i64 c],[.int .i64 a,.int .i64 b],rfl,⟨rfl,h0⟩,⟨[.int .i64 a],[.int .i64 b],rfl,⟨rfl,d⟩,⟨rfl,e⟩⟩⟩
theorem r0n{h:Hp}{c:Int}{a:Int}{b:Int}(h0:H0 c)(d:H0 a)(e:H0 b):I1.W h [.int .i64 c,.int .i64 a,.int .i64 b] (c,a,b) ([]++([] ++ [])) :=
 ⟨[.int .i64 c],[.int .i64 a,.int .i64 b],[],([] ++ []),rfl,rfl,⟨⟨rfl,h0⟩,rfl⟩,⟨[.int .i64 a],[.int .i64 b],[],[],rfl,rfl,⟨⟨rfl,d⟩,rfl⟩,⟨⟨rfl,e⟩,rfl⟩⟩⟩
abbrev Z0:Type:=List N0
abbrev Q0:Wp Z0:=Wp.slice I1
instance w0u:DecidableEq Z0:=inferInstanceAs (DecidableEq (List N0))
abbrev j0:Type:=Int×Int×Z0
abbrev F1:Wp j0:=Wp.pair Wp.int (Wp.pair Wp.int Q0)
instance x0u:DecidableEq j0:=(@instDecidableEqProd _ _ (inferInstance:DecidableEq Int) (@instDecidableEqProd _ _ (inferInstance:DecidableEq Int) w0u))
theorem C0{h:Hp}{cs:List Value}{x:j0}(j:F1.R h cs x):∃(a:Int) (b:Int) (c:Option Addr) (e d:Nat) (f:Z0),cs = [.int .i64 a,.int .i64 b,.slice c e d]/\x=(a,b,f)/\H0 a/\H0 b/\Q0.R h [.slice c e d] f:=by
 obtain⟨a,b,f⟩:=x
 obtain⟨_,_,rfl,⟨rfl,h0⟩,⟨_,_,rfl,⟨rfl,i⟩,g⟩⟩:=j
 obtain⟨c,e,d,rfl⟩:=Wp.slice_cell g
 exact⟨a,b,c,e,d,f,rfl,rfl,h0,i,g⟩
theorem l0{h:Hp}{e:Int}{a:Int}{b:Option Addr}{d c:Nat}{f:Z0}(h0:H0 e)(g:H0 a)(i:Q0.R h [.slice b d c] f):F1.R h [.int .i64 e,.int .i64 a,.slice b d c] (e,a,f) :=
 ⟨[.int .i64 e],[.int .i64 a,.slice b d c],rfl,⟨rfl,h0⟩,⟨[.int .i64 a],[.slice b d c],rfl,⟨rfl,g⟩,i⟩⟩
abbrev F5:Type:=Int×Int
abbrev G5:Wp F5:=Wp.pair Wp.int Wp.int
instance I0v:DecidableEq F5:=(@instDecidableEqProd _ _ (inferInstance:DecidableEq Int) (inferInstance:DecidableEq Int))
theorem O03{h:Hp}{cs:List Value}{x:F5}(d:G5.R h cs x):∃(a:Int) (b:Int),cs = [.int .i64 a,.int .i64 b]/\x=(a,b)/\H0 a/\H0 b:=by
 obtain⟨a,b⟩:=x
 obtain⟨_,_,rfl,⟨rfl,h0⟩,⟨rfl,c⟩⟩:=d
 exact⟨a,b,rfl,rfl,h0,c⟩
theorem B3{h:Hp}{a:Int}{b:Int}(h0:H0 a)(c:H0 b):G5.R h [.int .i64 a,.int .i64 b] (a,b) :=
 ⟨[.int .i64 a],[.int .i64 b],rfl,⟨rfl,h0⟩,⟨rfl,c⟩⟩
abbrev J0:Type:=List Int
abbrev O0:Wp J0:=Wp.slice Wp.int
instance J0v:DecidableEq J0:=inferInstanceAs (DecidableEq (List Int))
abbrev O2:Type:=List J0
abbrev Q2:Wp O2:=Wp.slice O0
instance y0u:DecidableEq O2:=inferInstanceAs (DecidableEq (List J0))
abbrev D0:Type:=Int×O2
abbrev T1:Wp D0:=Wp.pair Wp.int Q2
instance J0s:DecidableEq D0:=(@instDecidableEqProd _ _ (inferInstance:DecidableEq Int) y0u)
theorem J1{h:Hp}{cs:List Value}{x:D0}(g:T1.R h cs x):∃(a:Int) (b:Option Addr) (d c:Nat) (e:O2),cs = [.int .i64 a,.slice b d c]/\x=(a,e)/\H0 a/\Q2.R h [.slice b d c] e:=by
 obtain⟨a,e⟩:=x
 obtain⟨_,_,rfl,⟨rfl,h0⟩,f⟩:=g
 obtain⟨b,d,c,rfl⟩:=Wp.slice_cell f
 exact⟨a,b,d,c,e,rfl,rfl,h0,f⟩
theorem S0{h:Hp}{a:Int}{b:Option Addr}{d c:Nat}{e:O2}(h0:H0 a)(f:Q2.R h [.slice b d c] e):T1.R h [.int .i64 a,.slice b d c] (a,e) :=
 ⟨[.int .i64 a],[.slice b d c],rfl,⟨rfl,h0⟩,f⟩
abbrev s0n:Type:=ByteArray×j0
instance z0v:DecidableEq s0n:=(@instDecidableEqProd _ _ (inferInstance:DecidableEq ByteArray) x0u)
abbrev f0a:Type:=List s0n
instance q0v:DecidableEq f0a:=inferInstanceAs (DecidableEq (List s0n))
abbrev M9:Type:=List F5
abbrev Y0j:Wp M9:=Wp.slice G5
instance A0v:DecidableEq M9:=inferInstanceAs (DecidableEq (List F5))
theorem t0n(h:Hp):∃ cs,I1.R h cs (0,0,0):=⟨_,D1 (by decide) (by decide) (by decide)⟩
end Go.Proofs.YtmgikbbmpnbbjaaGreat
