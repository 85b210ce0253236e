/- Texts of the claim, joined: Plain laws: claims checked and others. -/
import Derived.Test.YtkjhghloldgioaaGreatPart24
import Derived.Test.YtkjhghloldgioaaGreatPart23
import Derived.Test.YtkjhghloldgioaaGreatPart18
namespace Go.Proofs.YtkjhghloldgioaaGreat
open Go.H
set_option linter.unusedVariables false
set_option linter.unusedSimpArgs false
theorem r0i{g:j0}(h:g.2.2.length<=120)(v:Int):(G06 g v).1.2.2.length<=120:=by
 unfold G06
 cases hf:O0 g with
 |false=>simpa using h
 |true =>
  cases hv:inR 0 (g.2.1-1) v with
  |false=>simpa using h
  |true =>
   simp only[Bool.and_self,cond_true]
   exact(u0l (W0o hf (by simp only[inR,Bool.and_eq_true,decide_eq_true_eq]at hv;omega))).1
theorem c0e(g:j0)(w:List Int):(i01 g w).1.2.2.length<=120:=by
 unfold i01
 cases hc:j2 g with
 |false=>simp
 |true =>
  have a:=l4 (B5 hc)
  have b:=(u0l hc).1
  cases U2 g.1 w with
  |false=>simp
  |true =>
   simp only[Bool.and_self,cond_true]
   cases decide ((O2 g 0 w).2<w.length)with
   |false=>simp only[cond_false];exact r0i b _
   |true =>
    simp only[cond_true]
    cases (Z2 g).2 with
    |false=>simp
    |true =>
     simp only[cond_true]
     have c:=g09 (l05 a) (O2 g 0 w).1 (w.drop (O2 g 0 w).2) g.2.1
     cases (o5 (Z2 g).1 (O2 g 0 w).1 (w.drop (O2 g 0 w).2) g.2.1).2 with
     |false=>simp
     |true=>simp only[cond_true];exact r0i c _
def m09(k r:Int)(ws:List (List Int))(w a:List Int)(g:j0)(n:Int):Bool :=
 bif L6 r ws&&(U2 r w&&(decide (g.1=r)&&j2 g))then
  (if k=1 then g05 g ws&&eqW (i0c (D03 g) a) w
  else if k=2 then(ws.all λv=>m01 g v) && !(m01 g w)
  else if k=3 then g05 g ws&&m01 g w
  else if k=4 then(i01 g (inv w)).2&&g05 (i01 g (inv w)).1 ws
  else if k=5 then g05 g ws&&(decide (h05 g=((ws.length:Nat):Int))&&decide (n=((ws.length:Nat):Int)))
  else if k=6 then g05 g ws&&(decide (J04 g=n)&&decide (n>0))
  else false)
 else false
def q04(c:t9):Bool:=m09 c.1 c.2.1 c.2.2.1 c.2.2.2.1 c.2.2.2.2.1 c.2.2.2.2.2.1 c.2.2.2.2.2.2
theorem b0o{bs:List (List Int)}(h:BOk bs)(l:List Int):(i0c bs l).length<=200000:=by
 have a:=E01 h (l.take 200)
 have b:=v07 ((l.take 200).flatMap (exP bs)) []
 unfold i0c
 rw[List.length_reverse]
 rw[List.length_take]at a
 simp only[List.length_nil]at b
 omega
theorem s0i{g:j0}(b:j2 g=true):BOk (D03 g):=by
 have h:=h0r b
 exact⟨λw a=>⟨(h.1 w a).1,by have:=(h.1 w a).2;omega⟩,by have:=h.2;omega⟩
theorem B0j(k r:Int)(ws:List (List Int))(w e:List Int)(g:j0)(n:Int)(h:ws.length<=140737488355328)(i:T8 ws)(p:w.length<=140737488355328)(d:g.2.2.length<=140737488355328):
  n00 (k,r,ws,w,e,g,n)=some (m09 k r ws w e g n):=by
 have B:=U08 r ws h i
 have C:=w05 r w p
 have D:=X03 g d
 have f:=k0i g d ws h i
 have F:=L0m g d (inv w) (by rw[y05];exact p)
 have G:=k0i (i01 g (inv w)).1 (by have:=c0e g (inv w);omega) ws h i
 have l:=z0g g d
 have m:=u0a g d
 unfold m09
 obtain⟨a,b,c⟩:=g
 unfold n00
 simp only[B,oB]
 cases hA:L6 r ws with
 |false=>simp only[Bool.not_false,Bool.not_true,L1,oB,cond_true,if_true,Bool.false_and,cond_false]
 |true =>
  simp only[Bool.not_true,Bool.not_false,H1,C,oB,cond_false]
  cases hW:U2 r w with
  |false=>simp only[Bool.not_false,Bool.not_true,L1,oB,cond_true,if_true,Bool.false_and,Bool.and_false,cond_false]
  |true =>
   simp only[Bool.not_true,cond_false]
   by_cases hr:a=r
   ·subst hr
    simp only[decide_true,Bool.not_true,Bool.not_false,H1,D,oB,cond_false]
    cases hc:j2 (a,b,c)with
    |false=>simp only[Bool.not_false,if_true,Bool.and_false,cond_false]
    |true =>
     obtain⟨J,I,H⟩:=u07 hA
     have o:=s0i hc
     have s:=f0r hc
     have t:=d0p o e
     have u:=y07 (a:=i0c (D03 (a,b,c)) e) (b:=w) (by have:=b0o o e;omega)
     have A:=J0m hc ws H (by omega)
     have j:=j09 hc hW
     have E:=h03 w (by have:=(O04 hW).1;omega)
     simp only[Bool.not_true,Bool.false_eq_true,if_false,Bool.and_self,cond_true]
     by_cases k1:k=1
     ·rw[if_pos (decide_eq_true k1),if_pos k1,f,oB]
      cases g05 (a,b,c) ws<;>simp[H1,L1,s,t,u]
     rw[if_neg (by simpa using k1),if_neg k1]
     by_cases k2:k=2
     ·rw[if_pos (decide_eq_true k2),if_pos k2,A,oB]
      cases (ws.all λv=>m01 (a,b,c) v)<;>simp[H1,L1,j]
     rw[if_neg (by simpa using k2),if_neg k2]
     by_cases k3:k=3
     ·rw[if_pos (decide_eq_true k3),if_pos k3,f,oB]
      cases g05 (a,b,c) ws<;>simp[H1,L1,j]
     rw[if_neg (by simpa using k3),if_neg k3]
     by_cases k4:k=4
     ·rw[if_pos (decide_eq_true k4),if_pos k4,E,oB,F,oB]
      generalize i01 (a,b,c) (inv w)=q at *
      obtain⟨⟨x,y,z⟩,ok⟩:=q
      cases ok<;>simp[H1,L1,G]
     rw[if_neg (by simpa using k4),if_neg k4]
     by_cases k5:k=5
     ·rw[if_pos (decide_eq_true k5),if_pos k5,f,oB]
      cases g05 (a,b,c) ws with
      |false =>
       simp only[L1,oB,cond_false,Bool.false_and]
       rw[D0 (show J0 0 from⟨by omega,by omega⟩)];rfl
      |true =>
       simp only[H1,l.1,oB,cond_true,Bool.true_and]
       rw[D0 l.2,oB]
       cases decide (h05 (a,b,c)=((ws.length:Nat):Int))<;>rfl
     rw[if_neg (by simpa using k5),if_neg k5]
     by_cases k6:k=6
     ·rw[if_pos (decide_eq_true k6),if_pos k6,f,oB]
      cases g05 (a,b,c) ws with
      |false =>
       simp only[L1,oB,cond_false,Bool.false_and]
       rw[D0 (show J0 0 from⟨by omega,by omega⟩)];rfl
      |true =>
       simp only[H1,m.1,oB,cond_true,Bool.true_and]
       rw[D0 m.2,oB]
       cases decide (J04 (a,b,c)=n)<;>rfl
     rw[if_neg (by simpa using k6),if_neg k6]
   ·simp only[decide_eq_false hr,Bool.not_false,Bool.not_true,L1,oB,cond_true,if_true,Bool.false_and,Bool.and_false,cond_false]
theorem C0j(k r:Int)(ws:List (List Int))(w e:List Int)(g:j0)(n:Int)(h:ws.length<=140737488355328)(i:T8 ws)(m:w.length<=140737488355328)(d:g.2.2.length<=140737488355328):
  o00 (k,r,ws,w,e,g,n)=some (m09 k r ws w e g n):=by
 have u:=V08 r ws h i
 have A:=x05 r w m
 have B:=p01 g d
 have f:=l0i g d ws h i
 have D:=M0m g d (inv w) (by rw[y05];exact m)
 have E:=l0i (i01 g (inv w)).1 (by have:=c0e g (inv w);omega) ws h i
 have F:=N0m g d
 have G:=(z0g g d).2
 have H:=Y0g g d
 have I:=(u0a g d).2
 unfold m09
 obtain⟨a,b,c⟩:=g
 unfold o00
 simp only[u,oB]
 cases hA:L6 r ws with
 |false=>simp only[Bool.not_false,Bool.not_true,L1,oB,cond_true,if_true,Bool.false_and,cond_false]
 |true =>
  simp only[Bool.not_true,Bool.not_false,H1,A,oB,cond_false]
  cases hW:U2 r w with
  |false=>simp only[Bool.not_false,Bool.not_true,L1,oB,cond_true,if_true,Bool.false_and,Bool.and_false,cond_false]
  |true =>
   simp only[Bool.not_true,Bool.not_false,H1,B,oB,cond_false]
   cases hc:j2 (a,b,c)with
   |false=>simp only[Bool.not_false,cond_true,if_true,Bool.and_false,cond_false]
   |true =>
    simp only[Bool.not_true,cond_false]
    by_cases hr:a=r
    ·subst hr
     obtain⟨L,K,J⟩:=u07 hA
     have l:=s0i hc
     have o:=X0r hc
     have p:=e0p l e
     have s:=q0d (a:=i0c (D03 (a,b,c)) e) (b:=w) (by have:=b0o l e;omega)
     have t:=K0m hc ws J (by omega)
     have j:=w0g hc hW
     have C:=H04 w (by have:=(O04 hW).1;omega)
     simp only[decide_true,Bool.not_true,Bool.false_eq_true,if_false,Bool.and_self,cond_true]
     by_cases k1:k=1
     ·rw[if_pos (decide_eq_true k1),if_pos k1,f,oB]
      cases g05 (a,b,c) ws<;>simp[H1,L1,o,p,s]
     rw[if_neg (by simpa using k1),if_neg k1]
     by_cases k2:k=2
     ·rw[if_pos (decide_eq_true k2),if_pos k2,t,oB]
      cases (ws.all λv=>m01 (a,b,c) v)<;>simp[H1,L1,j]
     rw[if_neg (by simpa using k2),if_neg k2]
     by_cases k3:k=3
     ·rw[if_pos (decide_eq_true k3),if_pos k3,f,oB]
      cases g05 (a,b,c) ws<;>simp[H1,L1,j]
     rw[if_neg (by simpa using k3),if_neg k3]
     by_cases k4:k=4
     ·rw[if_pos (decide_eq_true k4),if_pos k4,C,oB,D,oB]
      generalize i01 (a,b,c) (inv w)=q at *
      obtain⟨⟨x,y,z⟩,ok⟩:=q
      cases ok<;>simp[H1,L1,E]
     rw[if_neg (by simpa using k4),if_neg k4]
     by_cases k5:k=5
     ·rw[if_pos (decide_eq_true k5),if_pos k5,f,oB]
      cases g05 (a,b,c) ws with
      |false =>
       simp only[L1,oB,cond_false,Bool.false_and]
       rw[D0 (show J0 0 from⟨by omega,by omega⟩)];rfl
      |true =>
       simp only[H1,F,oB,cond_true,Bool.true_and]
       rw[D0 G,oB]
       cases decide (h05 (a,b,c)=((ws.length:Nat):Int))<;>rfl
     rw[if_neg (by simpa using k5),if_neg k5]
     by_cases k6:k=6
     ·rw[if_pos (decide_eq_true k6),if_pos k6,f,oB]
      cases g05 (a,b,c) ws with
      |false =>
       simp only[L1,oB,cond_false,Bool.false_and]
       rw[D0 (show J0 0 from⟨by omega,by omega⟩)];rfl
      |true =>
       simp only[cond_true,Bool.true_and]
       by_cases c6:n>0
       ·simp only[decide_eq_true c6,H1,H,oB,cond_true,Bool.and_true]
        rw[D0 I,oB]
       ·simp only[decide_eq_false c6,L1,oB,cond_false,Bool.and_false]
        rw[D0 (show J0 0 from⟨by omega,by omega⟩)];rfl
     rw[if_neg (by simpa using k6),if_neg k6]
    ·simp only[decide_eq_false hr,Bool.not_false,cond_true,if_true,Bool.false_and,Bool.and_false,cond_false]
def z07(c:t9):Prop:=c.2.2.1.length<=140737488355328/\T8 c.2.2.1/\c.2.2.2.1.length<=140737488355328/\c.2.2.2.2.2.1.2.2.length<=140737488355328
theorem r0d(c:t9)(h:z07 c):n00 c=some (q04 c):=B0j c.1 c.2.1 c.2.2.1 c.2.2.2.1 c.2.2.2.2.1 c.2.2.2.2.2.1 c.2.2.2.2.2.2 h.1 h.2.1 h.2.2.1 h.2.2.2
theorem s0d(c:t9)(h:z07 c):o00 c=some (q04 c):=C0j c.1 c.2.1 c.2.2.1 c.2.2.2.1 c.2.2.2.2.1 c.2.2.2.2.2.1 c.2.2.2.2.2.2 h.1 h.2.1 h.2.2.1 h.2.2.2
def c0o(r:Int)(c:t9):Bool:=bif !decide (c.2.1=r)then true else !q04 c
def fcA(r:Int):List t9->Nat->List Int
 | [],_=>[]
 |c::t,k=>bif c0o r c then(k:Int)::fcA r t (k+1)else fcA r t (k+1)
theorem d0o(r:Int):∀(l:List t9) (k:Nat),(fcA r l k).length<=l.length
 | [],k=>Nat.le_refl _
 |c::t,k=>by
  have a:=d0o r t (k+1)
  unfold fcA
  cases c0o r c
  ·simp only[cond_false,List.length_cons];omega
  ·simp only[cond_true,List.length_cons];omega
def D0j(x:A4):Prop:=x.2.length<=1048576/\∀ c∈x.2,z07 c
def K3(x:A4):List Int:=fcA x.1 x.2 0
theorem z0l(r:Int)(cs:List t9)(o:cs.length<=1048576)(f:∀ c∈cs,z07 c):∀(d k fuel:Nat) (acc:List Int),k+d=cs.length->d<fuel->acc.length<=k ->
  Y4 cs r fuel (k:Int) acc=some (acc++fcA r (cs.drop k) k)
 |d,k,0,acc,g,hf,e=>by omega
 |0,k,fuel+1,acc,g,hf,e=>by
  rw[Y4.eq_2,if_neg (by simp only[decide_eq_true_eq];omega),J1 (by omega)];simp[fcA]
 |d+1,k,fuel+1,acc,g,hf,e=>by
  have i:k<cs.length:=by omega
  have a:=O5 i
  have j:=f _ (List.mem_of_getElem? a)
  have h:=M1 a
  generalize cs[k]=x at a j h
  have n:=r0d x j
  have b:=λm q=>z0l r cs o f d (k+1) fuel m (by omega) (by omega) q
  rw[Y4.eq_2,if_pos (by simp only[decide_eq_true_eq];omega),h,fcA,Y1 i (by omega)]
  unfold c0o
  simp only[J2 a,oB]
  obtain⟨p,l,s,t,u,⟨v,w,y⟩,z⟩:=x
  simp only
  by_cases c:l=r
  ·simp only[decide_eq_true c,Bool.not_true,Bool.not_false,H1,oB,n,cond_false]
   cases q04 (p,l,s,t,u,(v,w,y),z)with
   |true =>
    simp only[Bool.not_true,Bool.false_eq_true,if_false,cond_false]
    exact b _ (by omega)
   |false =>
    simp only[Bool.not_false,if_true,cond_true]
    rw[D0 (by simp;omega),oB,b _ (by simp;omega)]
    simp
  ·simp only[decide_eq_false c,Bool.not_true,Bool.not_false,L1,oB,cond_true,if_true]
   rw[D0 (by simp;omega),oB,b _ (by simp;omega)]
   simp
theorem A0l(r:Int)(cs:List t9)(o:cs.length<=1048576)(f:∀ c∈cs,z07 c):∀(d k fuel:Nat) (acc:List Int),k+d=cs.length->d<fuel->acc.length<=k ->
  Z4 cs r fuel (k:Int) acc=some (acc++fcA r (cs.drop k) k)
 |d,k,0,acc,g,hf,e=>by omega
 |0,k,fuel+1,acc,g,hf,e=>by
  rw[Z4.eq_2,if_neg (by simp only[decide_eq_true_eq];omega),J1 (by omega)];simp[fcA]
 |d+1,k,fuel+1,acc,g,hf,e=>by
  have i:k<cs.length:=by omega
  have a:=O5 i
  have j:=f _ (List.mem_of_getElem? a)
  have h:=M1 a
  generalize cs[k]=x at a j h
  have n:=s0d x j
  have b:=λm q=>A0l r cs o f d (k+1) fuel m (by omega) (by omega) q
  rw[Z4.eq_2,if_pos (by simp only[decide_eq_true_eq];omega),h,fcA,Y1 i (by omega)]
  unfold c0o
  simp only[J2 a,oB]
  obtain⟨p,l,s,t,u,⟨v,w,y⟩,z⟩:=x
  simp only
  by_cases c:l=r
  ·simp only[decide_eq_true c,Bool.not_true,Bool.not_false,H1,oB,n,cond_false]
   cases q04 (p,l,s,t,u,(v,w,y),z)with
   |true =>
    simp only[Bool.not_true,Bool.false_eq_true,if_false,cond_false]
    exact b _ (by omega)
   |false =>
    simp only[Bool.not_false,if_true,cond_true]
    rw[D0 (by simp;omega),oB,b _ (by simp;omega)]
    simp
  ·simp only[decide_eq_false c,Bool.not_true,Bool.not_false,L1,oB,cond_true,if_true]
   rw[D0 (by simp;omega),oB,b _ (by simp;omega)]
   simp
theorem B0l(x:A4)(h:D0j x):b02 x=some (K3 x):=by
 have a:=z0l x.1 x.2 h.1 h.2 x.2.length 0 Q0 [] (by omega) (C1 (by have:=h.1;omega)) (by simp)
 rw[show((0:Nat):Int)=0 from rfl,List.drop_zero,List.nil_append]at a
 unfold K3
 obtain⟨r,cs⟩:=x
 unfold b02
 simp only at a ⊢
 rw[a];rfl
theorem C0l(x:A4)(h:D0j x):c02 x=some (K3 x):=by
 have a:=A0l x.1 x.2 h.1 h.2 x.2.length 0 Q0 [] (by omega) (C1 (by have:=h.1;omega)) (by simp)
 rw[show((0:Nat):Int)=0 from rfl,List.drop_zero,List.nil_append]at a
 unfold K3
 obtain⟨r,cs⟩:=x
 unfold c02
 simp only at a ⊢
 rw[a];rfl
end Go.Proofs.YtkjhghloldgioaaGreat
