/- Texts of the claim, joined: Plain laws: words and presentations, as the spec and the cod and others. -/
import Derived.Test.YtkjhghloldgioaaGreatPart18
import Derived.Test.YtkjhghloldgioaaGreatH33
namespace Go.Proofs.YtkjhghloldgioaaGreat
open Go.H
set_option linter.unusedVariables false
set_option linter.unusedSimpArgs false
theorem D0b{p:Prop}[Decidable p](h:p):grd p=some ():=by unfold grd;rw[if_pos h]
def inR(lo hi x:Int):Bool:=decide (lo<=x)&&decide (x<=hi)
theorem v09(a b c:Int):U2 a b c=some (inR b c a):=by
 unfold U2 inR
 by_cases h:b<=a<;>simp[h]
theorem P08(a b c:Int):J3 a b c=some (inR b c a):=v09 a b c
def R0(r n:Int):T1×Bool:=(V1 r n).getD ([],false)
def o02(r n:Int):Bool:=match V1 r n,T2 r n with
 |some a,some b=>decide (a=b)&&decide (p8 a.1<=1000)
 |_,_=>false
theorem O0c:o02 1 1=true:=by decide +kernel
theorem P0c:o02 1 2=true:=by decide +kernel
theorem Q0c:o02 1 3=true:=by decide +kernel
theorem R0c:o02 2 1=true:=by decide +kernel
theorem S0c:o02 2 2=true:=by decide +kernel
theorem T0c:o02 2 3=true:=by decide +kernel
theorem U0c:o02 3 1=true:=by decide +kernel
theorem V0c:o02 3 2=true:=by decide +kernel
theorem h0c{r n:Int}(h:inR 1 3 r=false∨inR 1 3 n=false∨r=3/\n=3):V1 r n=some ([],false)/\T2 r n=some ([],false):=by
 unfold V1 T2
 rw[v09,P08,v09,P08,oB,oB]
 cases h1:inR 1 3 r
 ·simp[chk]
 ·rw[h1]at h
  cases h2:inR 1 3 n
  ·simp[chk]
  ·rw[h2]at h
   obtain⟨rfl,rfl⟩:r=3/\n=3:=by simpa using h
   simp[chk]
theorem W0c(r n:Int):o02 r n=true:=by
 by_cases h:inR 1 3 r=false∨inR 1 3 n=false∨r=3/\n=3
 ·obtain⟨h1,h2⟩:=h0c h
  unfold o02
  rw[h1,h2]
  decide
 ·have h1:inR 1 3 r=true:=by
   cases e:inR 1 3 r
   ·exact absurd (.inl e) h
   ·rfl
  have h2:inR 1 3 n=true:=by
   cases e:inR 1 3 n
   ·exact absurd (.inr (.inl e)) h
   ·rfl
  have h3 : ¬(r=3/\n=3):=λe=>h (.inr (.inr e))
  have a1:1<=r/\r<=3:=by simpa [inR] using h1
  have a2:1<=n/\n<=3:=by simpa [inR] using h2
  have b1:r=1∨r=2∨r=3:=by omega
  have b2:n=1∨n=2∨n=3:=by omega
  rcases b1 with rfl|rfl|rfl<;>rcases b2 with rfl|rfl|rfl
  ·exact O0c
  ·exact P0c
  ·exact Q0c
  ·exact R0c
  ·exact S0c
  ·exact T0c
  ·exact U0c
  ·exact V0c
  ·exact absurd ⟨rfl,rfl⟩ h3
theorem E0b(r n:Int):V1 r n=some (R0 r n)/\T2 r n=some (R0 r n)/\p8 (R0 r n).1<=1000:=by
 have h:=W0c r n
 unfold o02 at h
 unfold R0
 split at h
 ·rename_i a b e1 e2
  simp only[Bool.and_eq_true,decide_eq_true_eq]at h
  rw[e1,e2,h.1]
  exact⟨rfl,rfl,by rw[←h.1];exact h.2⟩
 ·cases h
def tot:List (List Int)->Nat
 | []=>0
 |w::r=>w.length+tot r
def p0d(e f:U3):Int:=c7 e f
theorem F0b(e f:U3):p0d e f=if G7 e.1 f.1≠0 then G7 e.1 f.1 else if G7 e.2.1 f.2.1≠0 then G7 e.2.1 f.2.1 else G7 e.2.2 f.2.2:=rfl
theorem G0a(a b:Int):P3 a b=some (G7 a b):=by
 unfold P3 G7
 by_cases h:a<b
 ·simp[h]
 ·by_cases h2:a>b<;>simp[h,h2]
theorem u03(e f:U3):l5 e f=some (p0d e f):=by
 obtain⟨a,l,b⟩:=e
 obtain⟨a',l',b'⟩:=f
 rw[F0b]
 unfold l5
 simp only[G0a,oB,D0b (g0c _ _)]
 by_cases h1:G7 a a'=0
 ·by_cases h2:G7 l l'=0
  ·simp[h1,h2]
  ·simp[h1,h2]
 ·simp[h1]
end Go.Proofs.YtkjhghloldgioaaGreat
