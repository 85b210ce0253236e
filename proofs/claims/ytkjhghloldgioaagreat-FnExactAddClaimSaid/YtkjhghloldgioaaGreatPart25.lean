/- Texts of the claim, joined: Plain laws: claims checked and others. -/
import Derived.Test.YtkjhghloldgioaaGreatPart24
import Derived.Test.YtkjhghloldgioaaGreatPart23
import Derived.Test.YtkjhghloldgioaaGreatPart18
namespace Go.Proofs.YtkjhghloldgioaaGreat
open Go.H
set_option linter.unusedVariables false
set_option linter.unusedSimpArgs false
theorem k0j{g:j0}(h:g.2.2.length<=120)(v:Int):(o07 g v).1.2.2.length<=120:=by
 unfold o07
 cases hf:O0 g with
 |false=>simpa using h
 |true =>
  cases hv:inR 0 (g.2.1-1) v with
  |false=>simpa using h
  |true =>
   simp only[Bool.and_self,cond_true]
   exact(w0m (d0q hf (by simp only[inR,Bool.and_eq_true,decide_eq_true_eq]at hv;omega))).1
theorem M0e(g:j0)(w:List Int):(B01 g w).1.2.2.length<=120:=by
 unfold B01
 cases hc:I2 g with
 |false=>simp
 |true =>
  have a:=P4 (R5 hc)
  have b:=(w0m hc).1
  cases C3 g.1 w with
  |false=>simp
  |true =>
   simp only[Bool.and_self,cond_true]
   cases decide ((Y2 g 0 w).2<w.length)with
   |false=>simp only[cond_false];exact k0j b _
   |true =>
    simp only[cond_true]
    cases (I3 g).2 with
    |false=>simp
    |true =>
     simp only[cond_true]
     have c:=R09 (P05 a) (Y2 g 0 w).1 (w.drop (Y2 g 0 w).2) g.2.1
     cases (L5 (I3 g).1 (Y2 g 0 w).1 (w.drop (Y2 g 0 w).2) g.2.1).2 with
     |false=>simp
     |true=>simp only[cond_true];exact k0j c _
def X09(k r:Int)(ws:List (List Int))(w a:List Int)(g:j0)(n:Int):Bool :=
 bif a7 r ws&&(C3 r w&&(decide (g.1=r)&&I2 g))then
  (if k=1 then K05 g ws&&eqW (W0c (d04 g) a) w
  else if k=2 then(ws.all λv=>F01 g v) && !(F01 g w)
  else if k=3 then K05 g ws&&F01 g w
  else if k=4 then(B01 g (inv w)).2&&K05 (B01 g (inv w)).1 ws
  else if k=5 then K05 g ws&&(decide (L05 g=((ws.length:Nat):Int))&&decide (n=((ws.length:Nat):Int)))
  else if k=6 then K05 g ws&&(decide (i05 g=n)&&decide (n>0))
  else false)
 else false
def S00(c:Z2):Bool:=X09 c.1 c.2.1 c.2.2.1 c.2.2.2.1 c.2.2.2.2.1 c.2.2.2.2.2.1 c.2.2.2.2.2.2
theorem j0p{bs:List (List Int)}(h:BOk bs)(l:List Int):(W0c bs l).length<=200000:=by
 have a:=c02 h (l.take 200)
 have b:=g08 ((l.take 200).flatMap (exP bs)) []
 unfold W0c
 rw[List.length_reverse]
 rw[List.length_take]at a
 simp only[List.length_nil]at b
 omega
theorem l0j{g:j0}(b:I2 g=true):BOk (d04 g):=by
 have h:=l0s b
 exact⟨λw a=>⟨(h.1 w a).1,by have:=(h.1 w a).2;omega⟩,by have:=h.2;omega⟩
theorem y0k(k r:Int)(ws:List (List Int))(w e:List Int)(g:j0)(n:Int)(h:ws.length<=140737488355328)(i:w9 ws)(p:w.length<=140737488355328)(d:g.2.2.length<=140737488355328):
  C9 (k,r,ws,w,e,g,n)=some (X09 k r ws w e g n):=by
 have B:=F09 r ws h i
 have C:=a06 r w p
 have D:=y04 g d
 have f:=d0j g d ws h i
 have F:=R0n g d (inv w) (by rw[c06];exact p)
 have G:=d0j (B01 g (inv w)).1 (by have:=M0e g (inv w);omega) ws h i
 have l:=p0h g d
 have m:=j0b g d
 unfold X09
 obtain⟨a,b,c⟩:=g
 unfold C9
 simp only[B,oB]
 cases hA:a7 r ws with
 |false=>simp only[Bool.not_false,Bool.not_true,K1,oB,cond_true,if_true,Bool.false_and,cond_false]
 |true =>
  simp only[Bool.not_true,Bool.not_false,H1,C,oB,cond_false]
  cases hW:C3 r w with
  |false=>simp only[Bool.not_false,Bool.not_true,K1,oB,cond_true,if_true,Bool.false_and,Bool.and_false,cond_false]
  |true =>
   simp only[Bool.not_true,cond_false]
   by_cases hr:a=r
   ·subst hr
    simp only[decide_true,Bool.not_true,Bool.not_false,H1,D,oB,cond_false]
    cases hc:I2 (a,b,c)with
    |false=>simp only[Bool.not_false,if_true,Bool.and_false,cond_false]
    |true =>
     obtain⟨J,I,H⟩:=f08 hA
     have o:=l0j hc
     have s:=j0s hc
     have t:=k0q o e
     have u:=j08 (a:=W0c (d04 (a,b,c)) e) (b:=w) (by have:=j0p o e;omega)
     have A:=P0n hc ws H (by omega)
     have j:=U09 hc hW
     have E:=I03 w (by have:=(r05 hW).1;omega)
     simp only[Bool.not_true,Bool.false_eq_true,if_false,Bool.and_self,cond_true]
     by_cases k1:k=1
     ·rw[if_pos (decide_eq_true k1),if_pos k1,f,oB]
      cases K05 (a,b,c) ws<;>simp[H1,K1,s,t,u]
     rw[if_neg (by simpa using k1),if_neg k1]
     by_cases k2:k=2
     ·rw[if_pos (decide_eq_true k2),if_pos k2,A,oB]
      cases (ws.all λv=>F01 (a,b,c) v)<;>simp[H1,K1,j]
     rw[if_neg (by simpa using k2),if_neg k2]
     by_cases k3:k=3
     ·rw[if_pos (decide_eq_true k3),if_pos k3,f,oB]
      cases K05 (a,b,c) ws<;>simp[H1,K1,j]
     rw[if_neg (by simpa using k3),if_neg k3]
     by_cases k4:k=4
     ·rw[if_pos (decide_eq_true k4),if_pos k4,E,oB,F,oB]
      generalize B01 (a,b,c) (inv w)=q at *
      obtain⟨⟨x,y,z⟩,ok⟩:=q
      cases ok<;>simp[H1,K1,G]
     rw[if_neg (by simpa using k4),if_neg k4]
     by_cases k5:k=5
     ·rw[if_pos (decide_eq_true k5),if_pos k5,f,oB]
      cases K05 (a,b,c) ws with
      |false =>
       simp only[K1,oB,cond_false,Bool.false_and]
       rw[H0 (show J0 0 from⟨by omega,by omega⟩)];rfl
      |true =>
       simp only[H1,l.1,oB,cond_true,Bool.true_and]
       rw[H0 l.2,oB]
       cases decide (L05 (a,b,c)=((ws.length:Nat):Int))<;>rfl
     rw[if_neg (by simpa using k5),if_neg k5]
     by_cases k6:k=6
     ·rw[if_pos (decide_eq_true k6),if_pos k6,f,oB]
      cases K05 (a,b,c) ws with
      |false =>
       simp only[K1,oB,cond_false,Bool.false_and]
       rw[H0 (show J0 0 from⟨by omega,by omega⟩)];rfl
      |true =>
       simp only[H1,m.1,oB,cond_true,Bool.true_and]
       rw[H0 m.2,oB]
       cases decide (i05 (a,b,c)=n)<;>rfl
     rw[if_neg (by simpa using k6),if_neg k6]
   ·simp only[decide_eq_false hr,Bool.not_false,Bool.not_true,K1,oB,cond_true,if_true,Bool.false_and,Bool.and_false,cond_false]
theorem z0k(k r:Int)(ws:List (List Int))(w e:List Int)(g:j0)(n:Int)(h:ws.length<=140737488355328)(i:w9 ws)(m:w.length<=140737488355328)(d:g.2.2.length<=140737488355328):
  D9 (k,r,ws,w,e,g,n)=some (X09 k r ws w e g n):=by
 have u:=G09 r ws h i
 have A:=b06 r w m
 have B:=I01 g d
 have f:=e0j g d ws h i
 have D:=S0n g d (inv w) (by rw[c06];exact m)
 have E:=e0j (B01 g (inv w)).1 (by have:=M0e g (inv w);omega) ws h i
 have F:=T0n g d
 have G:=(p0h g d).2
 have H:=Q0h g d
 have I:=(j0b g d).2
 unfold X09
 obtain⟨a,b,c⟩:=g
 unfold D9
 simp only[u,oB]
 cases hA:a7 r ws with
 |false=>simp only[Bool.not_false,Bool.not_true,K1,oB,cond_true,if_true,Bool.false_and,cond_false]
 |true =>
  simp only[Bool.not_true,Bool.not_false,H1,A,oB,cond_false]
  cases hW:C3 r w with
  |false=>simp only[Bool.not_false,Bool.not_true,K1,oB,cond_true,if_true,Bool.false_and,Bool.and_false,cond_false]
  |true =>
   simp only[Bool.not_true,Bool.not_false,H1,B,oB,cond_false]
   cases hc:I2 (a,b,c)with
   |false=>simp only[Bool.not_false,cond_true,if_true,Bool.and_false,cond_false]
   |true =>
    simp only[Bool.not_true,cond_false]
    by_cases hr:a=r
    ·subst hr
     obtain⟨L,K,J⟩:=f08 hA
     have l:=l0j hc
     have o:=f0t hc
     have p:=l0q l e
     have s:=b0e (a:=W0c (d04 (a,b,c)) e) (b:=w) (by have:=j0p l e;omega)
     have t:=Q0n hc ws J (by omega)
     have j:=m0h hc hW
     have C:=g05 w (by have:=(r05 hW).1;omega)
     simp only[decide_true,Bool.not_true,Bool.false_eq_true,if_false,Bool.and_self,cond_true]
     by_cases k1:k=1
     ·rw[if_pos (decide_eq_true k1),if_pos k1,f,oB]
      cases K05 (a,b,c) ws<;>simp[H1,K1,o,p,s]
     rw[if_neg (by simpa using k1),if_neg k1]
     by_cases k2:k=2
     ·rw[if_pos (decide_eq_true k2),if_pos k2,t,oB]
      cases (ws.all λv=>F01 (a,b,c) v)<;>simp[H1,K1,j]
     rw[if_neg (by simpa using k2),if_neg k2]
     by_cases k3:k=3
     ·rw[if_pos (decide_eq_true k3),if_pos k3,f,oB]
      cases K05 (a,b,c) ws<;>simp[H1,K1,j]
     rw[if_neg (by simpa using k3),if_neg k3]
     by_cases k4:k=4
     ·rw[if_pos (decide_eq_true k4),if_pos k4,C,oB,D,oB]
      generalize B01 (a,b,c) (inv w)=q at *
      obtain⟨⟨x,y,z⟩,ok⟩:=q
      cases ok<;>simp[H1,K1,E]
     rw[if_neg (by simpa using k4),if_neg k4]
     by_cases k5:k=5
     ·rw[if_pos (decide_eq_true k5),if_pos k5,f,oB]
      cases K05 (a,b,c) ws with
      |false =>
       simp only[K1,oB,cond_false,Bool.false_and]
       rw[H0 (show J0 0 from⟨by omega,by omega⟩)];rfl
      |true =>
       simp only[H1,F,oB,cond_true,Bool.true_and]
       rw[H0 G,oB]
       cases decide (L05 (a,b,c)=((ws.length:Nat):Int))<;>rfl
     rw[if_neg (by simpa using k5),if_neg k5]
     by_cases k6:k=6
     ·rw[if_pos (decide_eq_true k6),if_pos k6,f,oB]
      cases K05 (a,b,c) ws with
      |false =>
       simp only[K1,oB,cond_false,Bool.false_and]
       rw[H0 (show J0 0 from⟨by omega,by omega⟩)];rfl
      |true =>
       simp only[cond_true,Bool.true_and]
       by_cases c6:n>0
       ·simp only[decide_eq_true c6,H1,H,oB,cond_true,Bool.and_true]
        rw[H0 I,oB]
       ·simp only[decide_eq_false c6,K1,oB,cond_false,Bool.and_false]
        rw[H0 (show J0 0 from⟨by omega,by omega⟩)];rfl
     rw[if_neg (by simpa using k6),if_neg k6]
    ·simp only[decide_eq_false hr,Bool.not_false,cond_true,if_true,Bool.false_and,Bool.and_false,cond_false]
def M05(c:Z2):Prop:=c.2.2.1.length<=140737488355328/\w9 c.2.2.1/\c.2.2.2.1.length<=140737488355328/\c.2.2.2.2.2.1.2.2.length<=140737488355328
theorem k08(c:Z2)(h:M05 c):C9 c=some (S00 c):=y0k c.1 c.2.1 c.2.2.1 c.2.2.2.1 c.2.2.2.2.1 c.2.2.2.2.2.1 c.2.2.2.2.2.2 h.1 h.2.1 h.2.2.1 h.2.2.2
theorem l08(c:Z2)(h:M05 c):D9 c=some (S00 c):=z0k c.1 c.2.1 c.2.2.1 c.2.2.2.1 c.2.2.2.2.1 c.2.2.2.2.2.1 c.2.2.2.2.2.2 h.1 h.2.1 h.2.2.1 h.2.2.2
def k0p(r:Int)(c:Z2):Bool:=bif !decide (c.2.1=r)then true else !S00 c
def fcA(r:Int):List Z2->Nat->List Int
 | [],_=>[]
 |c::t,k=>bif k0p r c then(k:Int)::fcA r t (k+1)else fcA r t (k+1)
theorem A0k(r:Int):∀(l:List Z2) (k:Nat),(fcA r l k).length<=l.length
 | [],k=>Nat.le_refl _
 |c::t,k=>by
  have a:=A0k r t (k+1)
  unfold fcA
  cases k0p r c
  ·simp only[cond_false,List.length_cons];omega
  ·simp only[cond_true,List.length_cons];omega
def Q08(x:V1):Prop:=x.2.length<=1048576/\∀ c∈x.2,M05 c
def a02(x:V1):List Int:=fcA x.1 x.2 0
theorem B0m(r:Int)(cs:List Z2)(o:cs.length<=1048576)(f:∀ c∈cs,M05 c):∀(d k fuel:Nat) (acc:List Int),k+d=cs.length->d<fuel->acc.length<=k ->
  A5 cs r fuel (k:Int) acc=some (acc++fcA r (cs.drop k) k)
 |d,k,0,acc,g,hf,e=>by omega
 |0,k,fuel+1,acc,g,hf,e=>by
  rw[A5.eq_2,if_neg (by simp only[decide_eq_true_eq];omega),I1 (by omega)];simp[fcA]
 |d+1,k,fuel+1,acc,g,hf,e=>by
  have i:k<cs.length:=by omega
  have a:=E5 i
  have j:=f _ (List.mem_of_getElem? a)
  have h:=O1 a
  generalize cs[k]=x at a j h
  have n:=k08 x j
  have b:=λm q=>B0m r cs o f d (k+1) fuel m (by omega) (by omega) q
  rw[A5.eq_2,if_pos (by simp only[decide_eq_true_eq];omega),h,fcA,C2 i (by omega)]
  unfold k0p
  simp only[P2 a,oB]
  obtain⟨p,l,s,t,u,⟨v,w,y⟩,z⟩:=x
  simp only
  by_cases c:l=r
  ·simp only[decide_eq_true c,Bool.not_true,Bool.not_false,H1,oB,n,cond_false]
   cases S00 (p,l,s,t,u,(v,w,y),z)with
   |true =>
    simp only[Bool.not_true,Bool.false_eq_true,if_false,cond_false]
    exact b _ (by omega)
   |false =>
    simp only[Bool.not_false,if_true,cond_true]
    rw[H0 (by simp;omega),oB,b _ (by simp;omega)]
    simp
  ·simp only[decide_eq_false c,Bool.not_true,Bool.not_false,K1,oB,cond_true,if_true]
   rw[H0 (by simp;omega),oB,b _ (by simp;omega)]
   simp
theorem C0m(r:Int)(cs:List Z2)(o:cs.length<=1048576)(f:∀ c∈cs,M05 c):∀(d k fuel:Nat) (acc:List Int),k+d=cs.length->d<fuel->acc.length<=k ->
  B5 cs r fuel (k:Int) acc=some (acc++fcA r (cs.drop k) k)
 |d,k,0,acc,g,hf,e=>by omega
 |0,k,fuel+1,acc,g,hf,e=>by
  rw[B5.eq_2,if_neg (by simp only[decide_eq_true_eq];omega),I1 (by omega)];simp[fcA]
 |d+1,k,fuel+1,acc,g,hf,e=>by
  have i:k<cs.length:=by omega
  have a:=E5 i
  have j:=f _ (List.mem_of_getElem? a)
  have h:=O1 a
  generalize cs[k]=x at a j h
  have n:=l08 x j
  have b:=λm q=>C0m r cs o f d (k+1) fuel m (by omega) (by omega) q
  rw[B5.eq_2,if_pos (by simp only[decide_eq_true_eq];omega),h,fcA,C2 i (by omega)]
  unfold k0p
  simp only[P2 a,oB]
  obtain⟨p,l,s,t,u,⟨v,w,y⟩,z⟩:=x
  simp only
  by_cases c:l=r
  ·simp only[decide_eq_true c,Bool.not_true,Bool.not_false,H1,oB,n,cond_false]
   cases S00 (p,l,s,t,u,(v,w,y),z)with
   |true =>
    simp only[Bool.not_true,Bool.false_eq_true,if_false,cond_false]
    exact b _ (by omega)
   |false =>
    simp only[Bool.not_false,if_true,cond_true]
    rw[H0 (by simp;omega),oB,b _ (by simp;omega)]
    simp
  ·simp only[decide_eq_false c,Bool.not_true,Bool.not_false,K1,oB,cond_true,if_true]
   rw[H0 (by simp;omega),oB,b _ (by simp;omega)]
   simp
theorem D0m(x:V1)(h:Q08 x):o01 x=some (a02 x):=by
 have a:=B0m x.1 x.2 h.1 h.2 x.2.length 0 T0 [] (by omega) (D1 (by have:=h.1;omega)) (by simp)
 rw[show((0:Nat):Int)=0 from rfl,List.drop_zero,List.nil_append]at a
 unfold a02
 obtain⟨r,cs⟩:=x
 unfold o01
 simp only at a ⊢
 rw[a];rfl
theorem E0m(x:V1)(h:Q08 x):p01 x=some (a02 x):=by
 have a:=C0m x.1 x.2 h.1 h.2 x.2.length 0 T0 [] (by omega) (D1 (by have:=h.1;omega)) (by simp)
 rw[show((0:Nat):Int)=0 from rfl,List.drop_zero,List.nil_append]at a
 unfold a02
 obtain⟨r,cs⟩:=x
 unfold p01
 simp only at a ⊢
 rw[a];rfl
def o00(x:V1):Bool:=(inR 1 3 x.1&&decide (((x.2.length:Nat):Int)<=12))&&decide ((((a02 x).length:Nat):Int)=0)
theorem B0k(x:V1)(h:Q08 x):P01 x=some (o00 x):=by
 have a:=D0m x h
 have b:=A0k x.1 x.2 0
 have c:=h.1
 have d:(a02 x).length<=x.2.length:=b
 unfold o00
 obtain⟨r,cs⟩:=x
 unfold P01
 simp only[A02,oB]at a c d ⊢
 have e:(bif inR 1 3 r then decide (((cs.length:Nat):Int)<=12)else false)=(inR 1 3 r&&decide (((cs.length:Nat):Int)<=12)):=by cases inR 1 3 r<;>rfl
 rw[e]
 cases inR 1 3 r&&decide (((cs.length:Nat):Int)<=12)with
 |false =>
  simp only[K1,oB,cond_false,Bool.false_and]
  rw[H0 (by simp)];rfl
 |true =>
  simp only[H1,a,oB,cond_true,Bool.true_and]
  rw[H0 (by omega)];rfl
theorem C0k(x:V1)(h:Q08 x):Q01 x=some (o00 x):=by
 have a:=E0m x h
 have b:=A0k x.1 x.2 0
 have c:=h.1
 have d:(a02 x).length<=x.2.length:=b
 unfold o00
 obtain⟨r,cs⟩:=x
 unfold Q01
 simp only[m03,oB]at a c d ⊢
 have e:(bif inR 1 3 r then decide (((cs.length:Nat):Int)<=12)else false)=(inR 1 3 r&&decide (((cs.length:Nat):Int)<=12)):=by cases inR 1 3 r<;>rfl
 rw[e]
 cases inR 1 3 r&&decide (((cs.length:Nat):Int)<=12)with
 |false =>
  simp only[K1,oB,cond_false,Bool.false_and]
  rw[H0 (by simp)];rfl
 |true =>
  simp only[H1,a,oB,cond_true,Bool.true_and]
  rw[H0 (by omega)];rfl
theorem p0s(l:List (List Int))(h:l.length<=1099511627776)(g:∀ w∈l,w.length<=1099511627776):∀(d k fuel:Nat) (acc:List (List Int)),k+d=l.length->d<fuel->acc.length<=k ->
  l9 l fuel (k:Int) acc=some (acc++l.drop k)
 |d,k,0,acc,c,hf,b=>by omega
 |0,k,fuel+1,acc,c,hf,b=>by
  rw[l9.eq_2,if_neg (by simp only[decide_eq_true_eq];omega),I1 (by omega),List.append_nil]
 |d+1,k,fuel+1,acc,c,hf,b=>by
  have f:k<l.length:=by omega
  have a:=E5 f
  have i:=g _ (List.mem_of_getElem? a)
  have e:=O1 a
  generalize l[k]=w at a i e
  rw[l9.eq_2,if_pos (by simp only[decide_eq_true_eq];omega),P2 a,oB,H0 (by simp only[List.length_nil];omega),oB,H0 (by simp only[List.length_singleton];omega),oB,C2 f (by omega),
   p0s l h g d (k+1) fuel _ (by omega) (by omega) (by simp only[List.length_append,List.length_singleton];omega),e,List.nil_append,List.append_assoc];rfl
theorem e0u(l:List (List Int))(a:l.length<=1099511627776)(b:∀ w∈l,w.length<=1099511627776):y03 l=some l:=by
 have h:=p0s l a b l.length 0 T0 [] (by omega) (D1 (by omega)) (by simp)
 rw[show((0:Nat):Int)=0 from rfl,List.drop_zero,List.nil_append]at h
 unfold y03
 rw[h];rfl
theorem q0s{a:List Int}(b:a.length<=1099511627776):H7 a=some a:=by
 unfold H7
 rw[H0 (by simp;omega)]
 rfl
theorem A0u(l:List (List Int))(i:l.length<=1099511627776)(g:∀ w∈l,w.length<=1099511627776):∀(d k fuel:Nat) (acc:List (List Int)),k+d=l.length->d<fuel->acc.length<=k ->
  D7 l fuel (k:Int) acc=some (acc++l.drop k)
 |d,k,0,acc,c,hf,b=>by omega
 |0,k,fuel+1,acc,c,hf,b=>by
  rw[D7.eq_2,if_neg (by simp only[decide_eq_true_eq];omega),I1 (by omega),List.append_nil]
 |d+1,k,fuel+1,acc,c,hf,b=>by
  have f:k<l.length:=by omega
  have a:=E5 f
  have h:=g _ (List.mem_of_getElem? a)
  have e:=O1 a
  generalize l[k]=w at a h e
  rw[D7.eq_2,if_pos (by simp only[decide_eq_true_eq];omega),P2 a,oB,q0s h,oB,H0 (by simp only[List.length_singleton];omega),oB,C2 f (by omega),
   A0u l i g d (k+1) fuel _ (by omega) (by omega) (by simp only[List.length_append,List.length_singleton];omega),e,List.append_assoc];rfl
theorem P0u(l:List (List Int))(a:l.length<=1099511627776)(b:∀ w∈l,w.length<=1099511627776):r02 l=some l:=by
 have h:=A0u l a b l.length 0 T0 [] (by omega) (D1 (by omega)) (by simp)
 rw[show((0:Nat):Int)=0 from rfl,List.drop_zero,List.nil_append]at h
 unfold r02
 rw[H0 (by omega),oB]
 exact(congrArg (λo=>Option.bind o λy=>some y) h)
def R0h(c:Z2):Prop:=(c.2.2.1.length<=1099511627776/\∀ w∈c.2.2.1,w.length<=1099511627776)/\c.2.2.2.1.length<=1099511627776/\c.2.2.2.2.1.length<=1099511627776/\c.2.2.2.2.2.1.2.2.length<=1099511627776
theorem F0m(c:Z2)(h:R0h c):q02 c=some c:=by
 obtain⟨⟨f,g⟩,i,j,l⟩:=h
 have d:=e0u _ f g
 have e:=B02 _ l
 obtain⟨k,r,ws,w,p,⟨a,b,es⟩,n⟩:=c
 simp only at i j d e
 unfold q02
 simp only[d,e,oB,List.nil_append,List.length_nil]
 rw[H0 (by omega),oB,H0 (by omega),oB]
theorem G0m(c:Z2)(h:R0h c):f01 c=some c:=by
 obtain⟨⟨i,j⟩,l,m,o⟩:=h
 have d:=P0u _ i j
 have e:=Z01 _ o
 have f:=q0s l
 have g:=q0s m
 obtain⟨k,r,ws,w,p,⟨a,b,es⟩,n⟩:=c
 simp only at d e f g
 unfold f01
 simp only[d,e,f,g,oB]
theorem H0m(l:List Z2)(j:l.length<=1099511627)(i:∀ c∈l,R0h c)(r:Int):∀(d k fuel:Nat) (acc:List Z2),k+d=l.length->d<fuel->acc.length<=k ->
  n9 l fuel (k:Int) r acc=some (r,acc++l.drop k)
 |d,k,0,acc,f,hf,b=>by omega
 |0,k,fuel+1,acc,f,hf,b=>by
  rw[n9.eq_2,if_neg (by simp only[decide_eq_true_eq];omega),I1 (by omega),List.append_nil]
 |d+1,k,fuel+1,acc,f,hf,b=>by
  have h:k<l.length:=by omega
  have a:=E5 h
  have e:=F0m _ (i _ (List.mem_of_getElem? a))
  have g:=O1 a
  generalize l[k]=c at a e g
  have m:=H0m l j i r d (k+1) fuel (acc ++ [c]) (by omega) (by omega) (by simp only[List.length_append,List.length_singleton];omega)
  rw[n9.eq_2,if_pos (by simp only[decide_eq_true_eq];omega),P2 a,oB,C2 h (by omega),g]
  obtain⟨n,o,p,q,s,⟨t,u,v⟩,w⟩:=c
  simp only[e,oB]
  rw[H0 (by simp only[List.length_singleton];omega),oB,m,List.append_assoc];rfl
theorem I0m(l:List Z2)(j:l.length<=1099511627)(i:∀ c∈l,R0h c)(r:Int):∀(d k fuel:Nat) (acc:List Z2),k+d=l.length->d<fuel->acc.length<=k ->
  S5 l fuel (k:Int) r acc=some (r,acc++l.drop k)
 |d,k,0,acc,f,hf,b=>by omega
 |0,k,fuel+1,acc,f,hf,b=>by
  rw[S5.eq_2,if_neg (by simp only[decide_eq_true_eq];omega),I1 (by omega),List.append_nil]
 |d+1,k,fuel+1,acc,f,hf,b=>by
  have h:k<l.length:=by omega
  have a:=E5 h
  have e:=G0m _ (i _ (List.mem_of_getElem? a))
  have g:=O1 a
  generalize l[k]=c at a e g
  have m:=I0m l j i r d (k+1) fuel (acc ++ [c]) (by omega) (by omega) (by simp only[List.length_append,List.length_singleton];omega)
  rw[S5.eq_2,if_pos (by simp only[decide_eq_true_eq];omega),P2 a,oB,C2 h (by omega),g]
  obtain⟨n,o,p,q,s,⟨t,u,v⟩,w⟩:=c
  simp only[e,oB]
  rw[H0 (by simp only[List.length_singleton];omega),oB,m,List.append_assoc];rfl
def T2(x:V1)(c:Z2):V1×Bool :=
 bif o00 x&&decide (c.2.1=x.1)&&S00 c&&decide (x.2.length<12)then((x.1,x.2 ++ [c]),true)else(x,false)
theorem r0s{x:V1}(h:o00 x=true):x.2.length<=12:=by
 unfold o00 at h
 simp only[Bool.and_eq_true,decide_eq_true_eq]at h
 omega
theorem m0q(x:V1)(q:Q08 x)(s:∀ c∈x.2,R0h c)(h:x.2.length<=1099511627)(c:Z2)(m:M05 c)(o:R0h c):e04 x c=some (T2 x c):=by
 have i:=B0k x q
 have j:=k08 c m
 have l:=F0m c o
 have f:=H0m x.2 h s x.1 x.2.length 0 T0 [] (by omega) (D1 (by omega)) (by simp)
 rw[show((0:Nat):Int)=0 from rfl,List.drop_zero,List.nil_append]at f
 have d:=r0s (x:=x)
 unfold T2
 obtain⟨v,g⟩:=x
 obtain⟨k,r,ws,w,p,⟨a,b,es⟩,n⟩:=c
 simp only at f d h
 unfold e04 Q04
 simp only[f,i,l,oB]
 cases hN:o00 (v,g)with
 |false=>simp[K1]
 |true =>
  have d:=d hN
  by_cases e:r=v
  ·subst e
   simp only[Bool.not_true,decide_true,cond_false,Bool.not_false,H1,j,oB,Bool.true_and]
   cases S00 (k,r,ws,w,p,(a,b,es),n)with
   |false=>rfl
   |true =>
    simp only[Bool.not_true,cond_false,Bool.true_and]
    by_cases c:g.length<12
    ·rw[if_neg (by simp only[decide_eq_true_eq];omega),H0 (by simp only[List.length_singleton];omega),decide_eq_true c];rfl
    ·rw[if_pos (by simp only[decide_eq_true_eq];omega),decide_eq_false c];rfl
  ·simp only[Bool.not_true,decide_eq_false e,cond_false,Bool.not_false,cond_true,K1,oB,if_true,Bool.and_false,Bool.false_and]
theorem n0q(x:V1)(q:Q08 x)(s:∀ c∈x.2,R0h c)(h:x.2.length<=1099511627)(c:Z2)(m:M05 c)(o:R0h c):f04 x c=some (T2 x c):=by
 have i:=C0k x q
 have j:=l08 c m
 have l:=G0m c o
 have f:=I0m x.2 h s x.1 x.2.length 0 T0 [] (by omega) (D1 (by omega)) (by simp)
 rw[show((0:Nat):Int)=0 from rfl,List.drop_zero,List.nil_append]at f
 have d:=r0s (x:=x)
 unfold T2
 obtain⟨v,g⟩:=x
 obtain⟨k,r,ws,w,p,⟨a,b,es⟩,n⟩:=c
 simp only at f d h
 unfold f04 b02
 simp only[f,i,l,oB]
 cases hN:o00 (v,g)with
 |false=>simp[K1]
 |true =>
  have d:=d hN
  by_cases e:r=v
  ·subst e
   simp only[Bool.not_true,decide_true,cond_false,Bool.not_false,H1,j,oB,Bool.true_and]
   cases S00 (k,r,ws,w,p,(a,b,es),n)with
   |false=>rfl
   |true =>
    simp only[Bool.not_true,cond_false,Bool.true_and]
    by_cases c:g.length<12
    ·rw[if_neg (by simp only[decide_eq_true_eq];omega),H0 (by simp only[List.length_singleton];omega),decide_eq_true c];rfl
    ·rw[if_pos (by simp only[decide_eq_true_eq];omega),decide_eq_false c];rfl
  ·simp only[Bool.not_true,decide_eq_false e,cond_false,Bool.not_false,cond_true,K1,oB,if_true,Bool.and_false,Bool.false_and]
end Go.Proofs.YtkjhghloldgioaaGreat
