/- MakeClaim, of the spec and of the code. -/
import Derived.Test.YtkjhghloldgioaaGreatPart25
import Derived.Test.YtkjhghloldgioaaGreatPart28
import Derived.Test.YtkjhghloldgioaaGreatPart29
namespace Go.Proofs.YtkjhghloldgioaaGreat
open Go.H
set_option linter.unusedVariables false
theorem N0c{l:Y1}(h:i02 l<=1048576):l.length<=1048576/\(∀ x∈l,x.length<=1048576):=by
 unfold i02 at h
 refine⟨by omega,λx a=>?_⟩
 have:=L0e (m:=U00) a
 have e:U00 x=x.length:=rfl
 omega
theorem e0r{g:l0}{w:List Int}(h:(B07 g w).2=true):(B07 g w).1.2.2.length<=120:=by
 unfold B07 at h ⊢
 cases c:(O2 g&&(U1 g.1 w && !f02 g w))with
 |false=>rw[c]at h;cases h
 |true =>
  rw[c]at h
  simp only[cond_true]at h ⊢
  cases c1:(V01 g w).2 with
  |false=>rw[c1]at h;cases h
  |true =>
   rw[c1]at h
   simp only[cond_true]at h ⊢
   cases c2:(o03 (V01 g w).1).2 with
   |false=>rw[c2]at h;cases h
   |true=>exact(s02 (r07 (M0i c2).1)).1
theorem j0q{g:l0}(a:O2 g=true){w:List Int}(b:U1 g.1 w=true):(U02 g w).1.2.2.length<=120:=by
 obtain⟨c,d,e⟩:=s02 a
 unfold U02
 rw[a,b]
 cases decide (((w.length:Nat):Int)=0)
 ·cases (C3 g 0 w 0).2
  ·simp
  ·simp only[Bool.and_self,cond_true,cond_false]
   exact(s02 (r07 (P00 (E2 (P01 a)) (u:=0) (v:=0) (w:=w) ⟨iR _,by omega⟩ ⟨iR _,by omega⟩ b))).1
 ·simp only[Bool.and_self,cond_true];exact c
theorem D0h(k r:Int)(l:Y1)(w p:J0)(g:l0)(n:Int)(b:i02 l<=1048576)(d:w.length<=1048576)(c:p.length<=1048576)(a:g.2.2.length<=120):d0a (k,r,l,w,p,g,n)<=4000000:=by
 have e:d0a (k,r,l,w,p,g,n)=i02 l+w.length+p.length+g.2.2.length:=by
  unfold d0a j0i q0l
  simp[U00]
 omega
theorem N0k(k r:Int)(l:Y1)(w:J0)(q:I0 k)(s:I0 r)(b:i02 l<=1048576)(j:U00 w<=1048576):p00 (N3 k r l w).1<=100000000:=by
 have c:w.length<=1048576:=j
 have a:d0a u05.1<=4000000:=by decide
 have p:=N0q (N3 k r l w).1
 suffices h:d0a (N3 k r l w).1<=4000000 by omega
 unfold N3
 cases hs:(N9 r l).2
 ·exact a
 cases hW:U1 r w
 ·exact a
 obtain⟨e,i⟩:=a0m hs
 have f:U1 (N9 r l).1.1 w=true:=by rw[i];exact hW
 have d:=(s02 e).1
 have t:=(f0q (P01 e) w).1
 have m:=λh => @e0r (N9 r l).1 w h
 have n:=j0q e f
 have o:=C0k (N9 r l).1 w
 generalize (N9 r l).1=g at *
 simp only[Bool.and_self,cond_true]
 cases decide (k=1)
 ·cases decide (k=2)
  ·cases decide (k=3)
   ·cases decide (k=4)
    ·cases decide (k=5)
     ·cases decide (k=6)
      ·exact a
      ·cases decide (R01 g>0)
       ·exact a
       ·exact D0h _ _ _ _ _ _ _ b c (by simp) d
     ·cases decide (c03 g=((l.length:Nat):Int))
      ·exact a
      ·exact D0h _ _ _ _ _ _ _ b c (by simp) d
    ·cases (g01 g w).2
     ·exact a
     ·exact D0h _ _ _ _ _ _ _ b c (by simp) o
   ·cases (U02 g w).2&&F06 g (U02 g w).1
    ·exact a
    ·exact D0h _ _ _ _ _ _ _ b c (by simp) n
  ·cases hp:(B07 g w).2
   ·exact a
   ·exact D0h _ _ _ _ _ _ _ b c (by simp) (m hp)
 ·cases (z0d g w).2
  ·exact a
  ·exact D0h _ _ _ _ _ _ _ b c (by omega) d
theorem P0d(h:Hp)(k:Int)(j:I0 k)(r:Int)(o:I0 r)(a:Option Addr)(f c:Nat)(l:Y1)(m:Z1.R h [.slice a f c] l)(e:i02 l<=1048576)(b:Option Addr)(g d:Nat)(w:J0)(p:M0.R h [.slice b g d] w)(n:U00 w<=1048576):
  Tr Tryz.prog 34 #[.int .i64 k,.int .i64 r,.slice a f c,.slice b g d] h λv i=>∃ cs,v = .tuple #[.agg cs.toArray,.bool (N3 k r l w).2]/\s00.R i cs (N3 k r l w).1/\Sub h i :=
 I0c h k j r o a f c l m b g d w p _ (d0m k r l w (N0c e).1 (N0c e).2 (λx q=>by have:=(N0c e).2 x q;omega) n)
theorem G07(h:Hp)(k:Int)(j:I0 k)(r:Int)(o:I0 r)(a:Option Addr)(f c:Nat)(l:Y1)(m:Z1.R h [.slice a f c] l)(e:i02 l<=1048576)(b:Option Addr)(g d:Nat)(w:J0)(p:M0.R h [.slice b g d] w)(n:U00 w<=1048576):
  Tr Tryz.prog 37 #[.int .i64 k,.int .i64 r,.slice a f c,.slice b g d] h λv i=>∃ cs,v = .tuple #[.agg cs.toArray,.bool (N3 k r l w).2]/\New s00 h i cs (N3 k r l w).1 :=
 M0c h k j r o a f c l m b g d w p _ (e0m k r l w (N0c e).1 (N0c e).2 (λx q=>by have:=(N0c e).2 x q;omega) n)
end Go.Proofs.YtkjhghloldgioaaGreat
