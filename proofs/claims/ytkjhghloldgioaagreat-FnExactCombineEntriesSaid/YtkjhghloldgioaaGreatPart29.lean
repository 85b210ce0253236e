/- Texts of the claim, joined: PutEntry, of the spec and of the code and others. -/
import Derived.Test.YtkjhghloldgioaaGreatPart25
import Derived.Test.YtkjhghloldgioaaGreatPart28
namespace Go.Proofs.YtkjhghloldgioaaGreat
open Go.H
set_option linter.unusedVariables false
theorem F0m{x:Q0}(h:n8 x<=1048576):B00 x.2:=by
 unfold n8 L00 at h
 refine⟨by omega,λe he=>?_⟩
 have:=d0b (m:=V7) he
 unfold V7 P9 k01 at this h
 exact⟨by omega,by omega⟩
theorem G0m:∀ l:K0,A5 H5 l=3*l.length
 | []=>rfl
 |e::l=>by have:=G0m l;simp only[A5,H5,this,List.length_cons];omega
theorem ce3(e:I5):B3 e=3+3*e.2.2.2.length:=by
 have:=G0m e.2.2.2
 unfold B3 d02 V00
 omega
theorem H0m(e:I5):∀ l:K1,A5 B3 (o03 e l)<=A5 B3 l+B3 e
 | []=>by simp[o03,A5]
 |x::r=>by
  have:=H0m e r
  unfold o03
  cases M00 x.1 e.1
  ·cases O9 x.1 e.1<;>simp only[cond_true,cond_false,A5]<;>omega
  ·simp only[cond_true,A5];omega
theorem I0m:∀ l:K1,A5 B3 l<=3*(l.length+A5 V7 l)
 | []=>by simp[A5]
 |e::l=>by
  have:=I0m l
  have h:=ce3 e
  simp only[A5,List.length_cons,h,V7,P9,k01];omega
theorem P0h(x:Q0)(s:ByteArray)(g:j0)(hm:n8 x<=1048576)(hs:s.size<=1048576)(hg:P9 g<=1048576):U5 (o01 x s g).1<=16777216:=by
 have h1:U5 x<=3*n8 x:=I0m x.2
 have h2:=H0m (s,g) x.2
 have h3:=ce3 (s,g)
 have h4:g.2.2.length<=1048576:=by unfold P9 k01 at hg;omega
 unfold o01
 cases P4 x&&(D9 s&&(decide (g.1=x.1)&&E3 g))
 ·exact Nat.le_trans h1 (by omega)
 ·rw[cond_true]
  cases decide (16<(o03 (s,g) x.2).length)
  ·have:U5 x=A5 B3 x.2:=rfl
   rw[cond_false]
   show A5 B3 (o03 (s,g) x.2)<=16777216
   simp only at h3
   omega
  ·exact Nat.le_trans h1 (by omega)
def T2(x:Q0)(n o a b:ByteArray):Q0×Bool:=O02 x n o a b
theorem x09(x:Q0)(n o a b:ByteArray)(hm:n8 x<=1048576)(hn:n.size<=1048576)(ho:o.size<=1048576)(ha:a.size<=1048576)(hb:b.size<=1048576):U5 (T2 x n o a b).1<=16777216:=by
 unfold T2 O02
 cases P4 x&&((l3 x a).2&&((l3 x b).2&&(K02 o (l3 x a).1 (l3 x b).1).2))with
 |false =>
  have h1:U5 x<=3*n8 x:=I0m x.2
  exact Nat.le_trans h1 (by omega)
 |true =>
  refine P0h x n _ hm hn ?_
  have:=r09 o (l3 x a).1 (l3 x b).1
  unfold P9 k01
  omega
theorem a06(h:Hp)(cs:List Value)(x:Q0)(hx:Y1.R h cs x)(hm:n8 x<=1048576)(n:ByteArray)(hn:n.size<=9223372036854775807)(hns:n.size<=1048576)(o:ByteArray)(ho:o.size<=9223372036854775807)(hos:o.size<=1048576)
  (a:ByteArray) (ha:a.size<=9223372036854775807) (has:a.size<=1048576) (b:ByteArray) (hb:b.size<=9223372036854775807) (hbs:b.size<=1048576) :
  Tr Tryz.prog 56 #[.agg cs.toArray,.string n,.string o,.string a,.string b] h λv h'=>∃ cs,v = .tuple #[.agg cs.toArray,.bool (T2 x n o a b).2]/\Y1.R h' cs (T2 x n o a b).1/\Sub h h' :=
 n05 h cs x hx n hn o ho a ha b hb _ (r0c x n o a b (F0m hm) hns)
theorem v02(h:Hp)(cs:List Value)(x:Q0)(hx:Y1.R h cs x)(hm:n8 x<=1048576)(n:ByteArray)(hn:n.size<=9223372036854775807)(hns:n.size<=1048576)(o:ByteArray)(ho:o.size<=9223372036854775807)(hos:o.size<=1048576)
  (a:ByteArray) (ha:a.size<=9223372036854775807) (has:a.size<=1048576) (b:ByteArray) (hb:b.size<=9223372036854775807) (hbs:b.size<=1048576) :
  Tr Tryz.prog 57 #[.agg cs.toArray,.string n,.string o,.string a,.string b] h λv h'=>∃ cs,v = .tuple #[.agg cs.toArray,.bool (T2 x n o a b).2]/\New Y1 h h' cs (T2 x n o a b).1 :=
 p05 h cs x hx n hn o ho a ha b hb _ (s0c x n o a b (F0m hm) hns)
end Go.Proofs.YtkjhghloldgioaaGreat
