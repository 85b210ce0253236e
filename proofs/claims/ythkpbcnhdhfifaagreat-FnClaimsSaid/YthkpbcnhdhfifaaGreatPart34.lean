/- Texts of the claim, joined: Plain laws: a word rewritten in the basis and others. -/
import Derived.Test.YthkpbcnhdhfifaaGreatPart33
import Derived.Test.YthkpbcnhdhfifaaGreatPart23
import Derived.Test.YthkpbcnhdhfifaaGreatPart29
import Derived.Test.YthkpbcnhdhfifaaGreatPart21
import Derived.Test.YthkpbcnhdhfifaaGreatH36
import Derived.Test.YthkpbcnhdhfifaaGreatPart22
import Derived.Test.YthkpbcnhdhfifaaGreatPart30
import Derived.Test.YthkpbcnhdhfifaaGreatPart32
namespace Go.Proofs.YthkpbcnhdhfifaaGreat
set_option linter.all false
open Go.H
open IntKind (i64)
def A06(e:Q0):List Q0->Nat->Option Nat
 | [],_=>none
 |x::l,k=>if e=x then some k else A06 e l (k+1)
def u0l{e:Q0}:∀ {l:List Q0} {k i:Nat},A06 e l k=some i->i<k+l.length
 | [],k,i,h=>by cases h
 |x::l,k,i,h=>by
  unfold A06 at h;split at h;·cases h;simp
  have:=u0l h;grind
def sgK(x:Int)(k:Nat):Int:=if 0<x then(k:Int)+1 else -(k:Int)-1
def b0g(x v n:Int):List Q0->Nat->List Int
 | [],_=>[]
 |e::l,k=>if stp v x n=e then sgK x k::b0g x v n l (k+1)else b0g x v n l (k+1)
theorem y0r{x v n:Int}:∀ {l:List Q0} {k:Nat},stp v x n ∉ l->b0g x v n l k = []
 | [],k,h=>rfl
 |e::l,k,h=>by unfold b0g;rw[iE λc=>h oG];exact y0r λc=>h (mC _ c)
def J0n{x v n:Int}:∀ {l:List Q0} {k:Nat},l.Nodup->b0g x v n l k=(A06 (stp v x n) l k).toList.map (sgK x)
 | [],k,h=>rfl
 |e::l,k,h=>by
  obtain⟨b,a⟩:=List.nodup_cons.1 h;unfold b0g A06;split;·grind[y0r]
  exact J0n a
def rwL(g:B0)(E:List Q0):Int->List Int->List Int
 |_,[]=>[]
 |v,x::w=>(A06 (stp v x (S0 g v x)) E 0).toList.map (sgK x)++rwL g E (S0 g v x) w
def O0u{a:Type}(o:Option a):o.toList.length<=1:=by cases o<;>simp
theorem L0j(g:B0)(a:List Q0):∀(w:List Int) (v:Int),(rwL g a v w).length<=w.length
 | [],v=>Nat.le_refl _
 |x::w,v=>by
  have b:=L0j g a w (S0 g v x)
  have c:=O0u (A06 (stp v x (S0 g v x)) a 0)
  grind[rwL,List.length_append,List.length_map,List.length_cons]
def m0p(g:B0)(a:List Q0)(c:a.length<=1000):∀(w:List Int) (v:Int),∀ y∈rwL g a v w,-1000<=y/\y<=1000
 | [],v,y,h=>by cases h
 |x::w,v,y,h=>by
  unfold rwL at h;rcases List.mem_append.1 h with h|h;·obtain⟨k,b,rfl⟩:=List.mem_map.1 h;have b:=u0l (Option.mem_toList.1 b);unfold sgK;split<;>omega
  exact m0p g a c w _ y h
def a0y(w:List Int)(i:Nat)(x:Int)(m:w[i]?=some x)(g:C3 x)(h0:x≠0)(v n:Int)(f:List Q0)(y:f.length<=1000):∀(d k fuel:Nat) (acc:List Int),k+d=f.length->d<fuel->acc.length<=100000+k -> l5 f w (i:Int) v n fuel (k:Int) acc=some (acc++b0g x v n (f.drop k) k)
 |d,k,0,acc,p,hf,o=>oM
 |0,k,fuel+1,acc,p,hf,o=>by simp_all[l5.eq_2,iE,dE,J1,b0g]
 |d+1,k,fuel+1,acc,p,hf,o=>by
  have z:k<f.length:=oM;have l:=V3 z;have q:=L1 l;generalize f[k]=e at l q;have A:=λs h=>a0y w i x m g h0 v n f y d (k+1) fuel s oM oM h;have t:=w64 (show -9223372036854775808<=(k:Int)+1 by omega) oM;have u:i64.wrap (i64.wrap (0-(k:Int))-1) = -(k:Int)-1:=by grind[w64]
  obtain⟨a,b,c⟩:=e;rw[l5.eq_2,iP oG,E2 m,oB,q,b0g];simp only[E2 l,t,u,chk,X0b g.1 g.2];unfold stp sgK;by_cases hp:0<x
  ·have j : ¬ x<0:=oM;simp only[dT (show x>0 from hp),dF j,iP hp,iE j,cT,zF,oB,fT,if_false];by_cases c1:(v,x,n)=(a,b,c);·rw[iP ((P06 _ _).2 c1.symm),iP c1,F0 oG,oB];grind
   rw[iE λh=>c1 ((P06 _ _).1 h).symm,iE c1];grind
  have j:x<0:=oM;simp only[dF (show ¬ x>0 from hp),dT j,iE hp,iP j,cT,zF,oB,fT,if_false,E2 m,X0b g.1 g.2];by_cases c1:(n,-x,v)=(a,b,c);·rw[iP ((P06 _ _).2 c1.symm),iP c1,F0 oG,oB];grind
  rw[iE λh=>c1 ((P06 _ _).1 h).symm,iE c1];grind
def b0y{g:B0}(m:H0 g)(w:List Int)(o:∀ x∈w,C3 x/\x≠0)(p:w.length<=1000)(a:List Q0)(f:a.length<=1000)(h:a.Nodup):∀(d k fuel:Nat) (v:Int) (acc:List Int),k+d=w.length->d<fuel->acc.length<=k -> F8 w g.1 g.2.1 g.2.2 a fuel v (k:Int) acc=some (acc++rwL g a v (w.drop k))
 |d,k,0,v,acc,j,hf,i=>oM
 |0,k,fuel+1,v,acc,j,hf,i=>by simp_all[F8.eq_2,iE,dE,J1,rwL]
 |d+1,k,fuel+1,v,acc,j,hf,i=>by
  obtain⟨q,u,s,y⟩:=P0 m;have n:k<w.length:=oM;have b:=V3 n;obtain⟨c,h0⟩:=o _ (mG b);have l:=L1 b;generalize w[k]=x at b c h0 l;have e:=a0y w k x b c h0 v (S0 g v x) a f a.length 0 U0 acc oM (F1 oM) oM;rw[show((0:Nat):Int)=0 from rfl,(dZ),J0n h]at e;have t:=O0u (A06 (stp v x (S0 g v x)) a 0);rw[F8.eq_2,iP oG,E2 b,oB,show(g.1,g.2.1,g.2.2)=g from rfl,m04 g v x c oM,oB,F0 (V02 q s.2 v x),oB,e,oB,G2 n oM,
   b0y m w o p a f h d (k+1) fuel _ _ oM oM oG,l,rwL,List.append_assoc]
def z0r(es:List Q0)(e:Q0)(o:es.length<=1000):∀(d k fuel:Nat),k+d=es.length->d<fuel -> U1 es e.1 e.2.1 e.2.2 fuel (k:Int)=some (match A06 e (es.drop k) k with|some i => .inl (i:Int)|none => .inr ())
 |d,k,0,f,hf=>oM
 |0,k,fuel+1,f,hf=>by rw[U1.eq_2,iE oG,J1 oM];rfl
 |d+1,k,fuel+1,f,hf=>by
  have j:k<es.length:=oM;have a:=V3 j;have g:=L1 a;generalize es[k]=b at a g;obtain⟨l,m,n⟩:=b;rw[U1.eq_2,iP oG,E2 a,oB,g,A06];simp only[show(e.1,e.2.1,e.2.2)=e from rfl];by_cases c:e=(l,m,n);·rw[iP ((P06 _ _).2 c),iP c]
  rw[iE λh=>c ((P06 _ _).1 h),iE c,G2 j oM];exact z0r es e o d (k+1) fuel oM oM
def i0z(es:List Q0)(e:Q0)(d:es.length<=1000):T2 es e=some (match A06 e es 0 with|some i=>(i:Int)|none => -1):=by have h:=z0r es e d es.length 0 U0 oM (F1 oM);rw[show((0:Nat):Int)=0 from rfl,(dZ)]at h;obtain⟨a,b,c⟩:=e;unfold T2;simp only at h ⊢;rw[h,oB];cases A06 (a,b,c) es 0<;>rfl
def Y0z{g:B0}(s:H0 g)(w:List Int)(u:∀ x∈w,C3 x/\x≠0)(D:w.length<=1000)(f:List Q0)(n:f.length<=1000):∀(d k fuel:Nat) (v:Int) (acc:List Int),k+d=w.length->d<fuel->acc.length<=k -> p6 w g.1 g.2.1 g.2.2 f fuel v (k:Int) acc=some (acc++rwL g f v (w.drop k))
 |d,k,0,v,acc,p,hf,o=>oM
 |0,k,fuel+1,v,acc,p,hf,o=>by simp_all[p6.eq_2,iE,dE,J1,rwL]
 |d+1,k,fuel+1,v,acc,p,hf,o=>by
  obtain⟨F,I,G,J⟩:=P0 s;have t:k<w.length:=oM;have j:=V3 t;obtain⟨l,h0⟩:=u _ (mG j);have q:=L1 j;generalize w[k]=x at j l h0 q;have C:=i0z f (stp v x (S0 g v x)) n;have E:=V0o v x (S0 g v x) l;have m:=λy h=>Y0z s w u D f n d (k+1) fuel (S0 g v x) y oM oM h;rw[p6.eq_2,iP oG,E2 j,oB,show(g.1,g.2.1,g.2.2)=g from rfl,a05 g v x l oM,oB,F0 (V02 F G.2 v x),oB,E,oB,G2 t oM,q,rwL];generalize stp v x (S0 g v x)=e at *;obtain⟨a,b,c⟩:=e;simp only[C];cases hfe:A06 (a,b,c) f 0 with
  |none =>simp only[oB];rw[F0 (show I0 (-1) from⟨oM,oM⟩),oB,iE oS,m acc oM];simp
  |some i =>
   have H:=u0l hfe;have z:=w64 (show -9223372036854775808<=(i:Int)+1 by omega) oM;have A:i64.wrap (i64.wrap (0-(i:Int))-1) = -(i:Int)-1:=by grind[w64]
   simp only[oB,z,A];rw[F0 (show I0 (i:Int) from⟨oM,oM⟩),oB,iP oG];simp only[Option.toList_some,List.map_cons,List.map_nil];unfold sgK;by_cases hp:0<x;·rw[iP oG,iP hp,F0 oG,oB,m _ oG,List.append_assoc]
   rw[iE oG,iE hp,F0 oG,oB,m _ oG,List.append_assoc]
def g0d(g:B0)(w:List Int):List Int×Bool:=bif S4 g w then((Z8 [] (rwL g (C4 g) 0 w)).reverse,true)else([],false)
theorem k0e{g:B0}(hf:H0 g):(C4 g).length<=120/\(C4 g).Nodup:=by obtain⟨b,c,d,f⟩:=P0 hf;have a:=List.length_filter_le (λe => !decide (e∈W02 g)) g.2.2;exact⟨by unfold C4;omega,(M08 (B05 (Y1 hf))).filter _⟩
def A0r{g:B0}(hf:H0 g)(w:List Int):(g0d g w).1.length<=w.length/\∀ y∈(g0d g w).1,I0 y:=by
 have b:=L0j g (C4 g) w 0;have c:=N06 (rwL g (C4 g) 0 w) [];have a:=m0p g (C4 g) (by grind[k0e]) w 0;unfold g0d;cases S4 g w;·grind
 refine⟨oG,λy h=>?_⟩;rcases V0g _ _ (List.mem_reverse.1 h)with h|h;·cases h
 have:=a y h;exact⟨oM,oM⟩
def c0y{g:B0}(h:D1 g){w:List Int}(e:O1 g.1 w):Y03 g w=some (g0d g w):=by have hf:=V1 h;obtain⟨s,t,u,v⟩:=P0 hf;obtain⟨wl,f⟩:=w00 e;have j:=E00 w (λx d=>(f x d).1.1) oM;rw[U06 e]at j;have n:=g05 (r:=g.1) h e;have o:=p0r hf;obtain⟨m,i⟩:=k0e hf;have k:=b0y hf w (λx d=>⟨(f x d).1,(f x d).2.1⟩) oM (C4 g) oM i w.length 0 U0 0 [] oM (F1 oM) oS;rw[show((0:Nat):Int)=0 from rfl,(dZ),(nA)]at k;have p:=L0j g (C4 g) w 0;have q:=E00 (rwL g (C4 g) 0 w) (λy l=>by have:=m0p g (C4 g) oM w 0 y l;exact⟨oM,oM⟩) oM;unfold g0d;obtain⟨a,b,c⟩:=g;unfold Y03;grind
def d0y{g:B0}(i:D1 g){w:List Int}(e:O1 g.1 w):Z03 g w=some (g0d g w):=by
 have hf:=V1 i;obtain⟨q,s,t,u⟩:=P0 hf;obtain⟨wl,k⟩:=w00 e;have f:=L0b w oM;rw[U06 e]at f;have l:=c0d (r:=g.1) i e;have m:=B0u hf;obtain⟨n,o⟩:=k0e hf;have d:=Y0z hf w (λx j=>⟨(k x j).1,(k x j).2.1⟩) oM (C4 g) oM w.length 0 U0 0 [] oM (F1 oM) oS;rw[show((0:Nat):Int)=0 from rfl,(dZ),(nA)]at d;have p:=L0j g (C4 g) w 0;have h:=L07 [rwL g (C4 g) 0 w] oS (by simp only[b0p];omega);unfold g0d;obtain⟨a,b,c⟩:=g;unfold Z03;simp only[f,l,m,d,oB]at d h ⊢;cases S4 (a,b,c) w;·rfl
 simp only[bT,fT,if_false,cT,d,h,oB];rfl
theorem v0l:∀(d:Nat) (g:B0),(T8 d g).1=g.1
 |0,g=>rfl
 |d+1,g=>by
  unfold T8;cases J9 g with
  |none=>rfl
  |some k=>exact v0l d _
theorem w0l{g:B0}(a:W0 g):D1 (m03 g):=f0e (H02 a)
theorem x0l:∀(n:Nat) (g:B0),(z03 n g).1.1=g.1
 |0,g=>rfl
 |n+1,g=>by
  unfold z03;cases O9 g.2.2 with
  |nil=>rfl
  |cons f r=>exact x0l n _
theorem g0t(g:B0):(m03 g).1=g.1:=by show(T8 40 (N8 g).1).1=g.1;grind[v0l,N8,W0,x0l]
theorem y0l:∀(ws:List (List Int)) (g:B0),(a08 ws g).1=g.1
 | [],g=>rfl
 |w::ws,g=>by show(a08 ws (T1 g 0 w 0).1).1=g.1;rw[y0l ws,q04]
theorem h0d{r:Int}{ws:List (List Int)}(h:(O3 r ws).2):D1 (O3 r ws).1/\(O3 r ws).1.1=r:=by
 unfold O3 at h ⊢;cases hA:O2 r ws;·rw[hA]at h;cases h
 rw[(cT)];grind[w0l,B07,m03,g0t,y0l]
def p05(g:B0)(w:List Int):B0×Bool:=bif D1 g&&O1 g.1 w then (bif decide (((w.length:Nat):Int)=0)then(g,true)else(bif(T1 g 0 w 0).2 then(m03 (T1 g 0 w 0).1,true)else((0,0,[]),false)))else((0,0,[]),false)
def h0t{g:B0}(d:D1 g){w:List Int}(e:O1 g.1 w)(m:w.length<=140737488355328):H04 g w=some (p05 g w):=by obtain⟨n,o,p⟩:=V05 d;have h:=Y1 (y02 d);have i:=j04 g oM;have f:=h03 g.1 w m;have j:=Z00 g oM;have k:=P0i h e;have l:=a0d (r00 h (u:=0) (v:=0) (w:=w) ⟨iR _,oM⟩ ⟨iR _,oM⟩ e);unfold p05;rw[d,e]at *;generalize T1 g 0 w 0=q at *;obtain⟨s,t,x⟩:=g;obtain⟨⟨a,b,c⟩,y⟩:=q;unfold H04;simp only at f l;simp only[i,f,j,k,oB,G1,bT,bF,zF,cT,fT,if_false,Bool.and_self];grind
def i0t{g:B0}(d:D1 g){w:List Int}(e:O1 g.1 w)(m:w.length<=140737488355328):I04 g w=some (p05 g w):=by obtain⟨n,o,p⟩:=V05 d;have h:=Y1 (y02 d);have i:=l01 g oM;have f:=i03 g.1 w m;have j:=G02 g oM;have k:=Q0i h e;have l:=b0d (r00 h (u:=0) (v:=0) (w:=w) ⟨iR _,oM⟩ ⟨iR _,oM⟩ e);unfold p05;rw[d,e]at *;generalize T1 g 0 w 0=q at *;obtain⟨s,t,x⟩:=g;obtain⟨⟨a,b,c⟩,y⟩:=q;unfold I04;simp only at f l;simp only[i,f,j,k,oB,G1,bT,bF,zF,cT,fT,if_false,Bool.and_self];grind
def u08:L2×Bool:=((0,0,[],[],[],(0,0,[]),0),false)
def A01(k r:Int)(l:List (List Int))(w:List Int):L2×Bool :=
 bif(O3 r l).2&&O1 r w then
  (bif decide (k=1)then(bif(g0d (O3 r l).1 w).2 then((k,r,l,w,(g0d (O3 r l).1 w).1,(O3 r l).1,0),true)else u08)
  else bif decide (k=2)then(bif(Y06 (O3 r l).1 w).2 then((k,r,l,w,[],(Y06 (O3 r l).1 w).1,0),true)else u08)
  else bif decide (k=3)then(bif(p05 (O3 r l).1 w).2&&O06 (O3 r l).1 (p05 (O3 r l).1 w).1 then((k,r,l,w,[],(p05 (O3 r l).1 w).1,0),true)else u08)
  else bif decide (k=4)then(bif(G3 (O3 r l).1 w).2 then((k,r,l,w,[],(G3 (O3 r l).1 w).1,0),true)else u08)
  else bif decide (k=5)then(bif decide (i02 (O3 r l).1=((l.length:Nat):Int))then((k,r,l,w,[],(O3 r l).1,i02 (O3 r l).1),true)else u08)
  else bif decide (k=6)then(bif decide (c01 (O3 r l).1>0)then((k,r,l,w,[],(O3 r l).1,c01 (O3 r l).1),true)else u08)
  else u08)else u08
theorem e0y(a b:B0):O06 a b=O06 b a:=decide_eq_decide.2 ⟨Eq.symm,Eq.symm⟩
def z0l(k r:Int)(l:List (List Int))(w:List Int)(N:l.length<=1048576)(y:∀ x∈l,x.length<=1048576)(z:Y8 l)(O:w.length<=1048576):z02 k r l w=some (A01 k r l w):=by
 have o:=Q0x l oM (λx A=>by have:=y x A;omega);have p:=j0e r l oM z;have e:=h03 r w oM;have u:=λh => @h0d r l h;unfold A01 z02 Z06 h06;rw[o,oB,F0 oG,oB,(nA)];simp only[p,oB];generalize O3 r l=q at *;obtain⟨g,G⟩:=q;cases G;·grind[M1,u08]
 have n:=u rfl;simp only at n;cases hW:O1 r w;·grind[G1,u08]
 obtain⟨d,v⟩:=n;have m:O1 g.1 w:=by rw[v];exact hW
 obtain⟨K,L,M⟩:=V05 d;have s:=c0y d m;have f2:=Y0v g oM w oM;have f3:=h0t d m oM;have t:=B0f g oM w oM;have f:=C0f g oM;have i:=k0a g oM;have j:=K08 g (p05 g w).1 oM;rw[hW]at e;obtain⟨a,b,c⟩:=g;generalize g0d (a,b,c) w=a1 at *;generalize Y06 (a,b,c) w=a2 at *;generalize p05 (a,b,c) w=a3 at *;generalize G3 (a,b,c) w=a4 at *;generalize i02 (a,b,c)=a5 at *;generalize c01 (a,b,c)=a6 at *;obtain⟨P,H⟩:=a1;obtain⟨⟨Q,s1,s2⟩,I⟩:=a2;obtain⟨⟨C,D,E⟩,F⟩:=a3;obtain⟨⟨R,S,T⟩,J⟩:=a4;simp only at j;simp only[G1,e,oB,bT,bF,zF,cT,fT,if_false,Bool.and_self,s,f2,f3,t,f.1,i.1,j,F0 f.2,F0 i.2];cases decide (k=1)<;>simp only[fT,if_false,if_true,zF,cT,oB]
 ·cases decide (k=2)<;>simp only[fT,if_false,if_true,zF,cT,oB]
  ·cases decide (k=3)<;>simp only[fT,if_false,if_true,zF,cT,oB]
   ·cases decide (k=4)<;>simp only[fT,if_false,if_true,zF,cT,oB]
    ·cases decide (k=5)<;>simp only[fT,if_false,if_true,zF,cT,oB];·cases decide (k=6)<;>simp only[fT,if_false,if_true,zF,cT,oB,bF,u08];cases decide (a6>0)<;>rfl
     cases decide (a5=((l.length:Nat):Int))<;>rfl
    cases J<;>rfl
   cases F;·rfl
   simp only[G1,oB,cT,Bool.true_and];cases O06 (a,b,c) (C,D,E)<;>rfl
  cases I<;>rfl
 cases H<;>rfl
def j0t(k r:Int)(l:List (List Int))(w:List Int)(V:l.length<=1048576)(G:∀ x∈l,x.length<=1048576)(H:Y8 l)(W:w.length<=1048576):b04 k r l w=some (A01 k r l w):=by
 have p:=Q0B l oM (λx n=>by have:=G x n;omega);have o:=R0z (a:=w) oM;have s:=z0n r l oM H;have i:=i03 r w oM;have E:=λh => @h0d r l h;unfold A01 b04;simp only[s,oB];generalize O3 r l=q at *;obtain⟨g,O⟩:=q;cases O;·grind[M1,u08]
 have m:=E rfl;simp only at m;cases hW:O1 r w;·grind[G1,u08]
 obtain⟨e,F⟩:=m;have f:O1 g.1 w:=by rw[F];exact hW
 obtain⟨S,T,U⟩:=V05 e;have t:=d0y e f;have f2:=Z0v g oM w oM;have f3:=i0t e f oM;have y:=l0l g oM w oM;have z:=m0l g oM;have A:=W0e g oM;have I:=h0p g;have J:=n0l g;have C:∀ x:B0,x.2.2.length<=9223372036854775807->D7 x g=some (O06 g x):=λx n=>by grind[e0y,Z0d]
 have D:(p05 g w).1.2.2.length<=9223372036854775807:=by
  unfold p05;rw[e,f];cases decide (((w.length:Nat):Int)=0)
  ·cases (T1 g 0 w 0).2;·simp
   simp only[Bool.and_self,cT,zF];have:=V05 (w0l (r00 (Y1 (y02 e)) (u:=0) (v:=0) (w:=w) ⟨iR _,oM⟩ ⟨iR _,oM⟩ f));omega
  grind
 have j:=C _ D;rw[hW]at i;obtain⟨b,c,d⟩:=g;generalize g0d (b,c,d) w=a1 at *;generalize Y06 (b,c,d) w=a2 at *;generalize p05 (b,c,d) w=a3 at *;generalize G3 (b,c,d) w=a4 at *;generalize i02 (b,c,d)=a5 at *;generalize c01 (b,c,d)=a6 at *;obtain⟨X,P⟩:=a1;obtain⟨⟨Y,s1,s2⟩,Q⟩:=a2;obtain⟨⟨K,L,M⟩,N⟩:=a3;obtain⟨⟨Z,aa,ab⟩,R⟩:=a4;simp only at j;simp only[G1,o,p,i,oB,bT,bF,zF,cT,fT,if_false,Bool.and_self,t,f2,f3,y,z,A,j,F0 I,F0 J];cases decide (k=1)<;>simp only[fT,if_false,if_true,zF,cT,oB]
 ·cases decide (k=2)<;>simp only[fT,if_false,if_true,zF,cT,oB]
  ·cases decide (k=3)<;>simp only[fT,if_false,if_true,zF,cT,oB]
   ·cases decide (k=4)<;>simp only[fT,if_false,if_true,zF,cT,oB]
    ·cases decide (k=5)<;>simp only[fT,if_false,if_true,zF,cT,oB];·cases decide (k=6)<;>simp only[fT,if_false,if_true,zF,cT,oB,bF,u08];cases decide (a6>0)<;>rfl
     cases decide (a5=((l.length:Nat):Int))<;>rfl
    cases R<;>rfl
   cases N;·rfl
   simp only[G1,oB,cT,Bool.true_and];cases O06 (b,c,d) (K,L,M)<;>rfl
  cases Q<;>rfl
 cases P<;>rfl
set_option maxRecDepth 10000
abbrev B(l:List UInt8):BA:=⟨l.toArray⟩
def F01(l:List UInt8):E06 (B l) ⟨#[]⟩=l.isEmpty:=by rw[U0w];grind
def c08(x:Int):Bool := !(x == 0)&&inR (-3) 3 x
def chL(x:Int):UInt8:=if x<0 then UInt8.ofNat (64+x.natAbs)else UInt8.ofNat (96+x.natAbs)
def Z0i{x:Int}(a:c08 x):x = -3∨x = -2∨x = -1∨x=1∨x=2∨x=3:=by simp only[c08,inR,aE,Bool.not_eq_true',beq_eq_false_iff_ne,dE]at a;omega
def k0t(x:Int):J04 x=some (c08 x):=by unfold J04 c08;rw[H03];by_cases h:x=0<;>simp[h,chk]
def F0r(x:Int)(a:c08 x):Y05 x=some (B [chL x]):=by rcases Z0i a with rfl|rfl|rfl|rfl|rfl|rfl<;>rfl
theorem Z0g(x:Int):A00 x=some (bif c08 x then B [chL x]else B []):=by
 cases hx:c08 x
 ·unfold A00;rw[y04,y04];have a:inR 1 3 x=false:=by simp only[c08,inR,Bool.and_eq_false_iff,Bool.not_eq_false',beq_iff_eq,decide_eq_false_iff_not]at hx ⊢;omega
  have b:inR (-3) (-1) x=false:=by simp only[c08,inR,Bool.and_eq_false_iff,Bool.not_eq_false',beq_iff_eq,decide_eq_false_iff_not]at hx ⊢;omega
  rw[a,b];rfl
 rcases Z0i hx with rfl|rfl|rfl|rfl|rfl|rfl<;>rfl
def c04:List Int->Bool
 | []=>true
 |x::r=>c08 x&&c04 r
def wl(w:List Int):List UInt8:=match w with
 | []=>[49]
 |x::r=>(x::r).map chL
def P05(w:List Int):BA:=bif c04 w then B (wl w)else B []
def q0B(w:List Int):(wl w).isEmpty=false:=by cases w<;>rfl
theorem l0a(w:List Int):(wl w).length<=w.length+1:=by cases w<;>simp[wl]
theorem j0d(w:List Int):(P05 w).size<=w.length+1:=by
 unfold P05;cases c04 w;·show 0<=_;omega
 simp_all[cT,E01,l0a]
def G0f(w:List Int):E06 (P05 w) ⟨#[]⟩ = !c04 w:=by
 unfold P05;cases c04 w;·rw[(zF),F01];rfl
 simp_all[cT,F01,q0B]
theorem d08(w:List Int)(f:w.length<=140737488355328):∀(d k fuel:Nat) (acc:List UInt8),k+d=w.length->d<fuel->acc.length+d<=140737488355328 ->
  d8 w fuel (B acc) (k:Int)=some (bif c04 (w.drop k)then .inr (B (acc++(w.drop k).map chL))else .inl (B []))
 |d,k,0,acc,c,hf,b=>by omega
 |0,k,fuel+1,acc,c,hf,b=>by
  simp_all[d8.eq_2,if_neg,J1,c04]
 |d+1,k,fuel+1,acc,c,hf,b=>by
  have e:k<w.length:=by omega
  have a:=V3 e
  generalize w[k]=x at a
  have next:=d08 w f d (k+1) fuel (acc ++ [chL x]) (by omega) (by omega) (by grind)
  rw[L1 a,d8.eq_2,if_pos (by simp;omega),E2 a,oB,k0t,oB]
  simp only[c04]
  cases hlx:c08 x with
  |false=>rfl
  |true =>
   rw[if_neg (by simp),oB,F0r x hlx,oB,F0 (by rw[E01];simp),oB,F0 (by grind[E01,List.length_singleton]),oB,
    F0f,G2 e (by omega:w.length<=9223372036854775807),next]
   simp
def C07(w:List Int)(a:w.length<=140737488355):z00 w=some (P05 w):=by
 unfold z00;have h:=d08 w oM w.length 0 U0 [] oM (F1 oM) oG;rw[show((0:Nat):Int)=0 from rfl,(dZ),(nA)]at h;rw[show(⟨#[]⟩:BA)=B [] from rfl,h,oB];unfold P05;cases c04 w;·rfl
 rw[(cT),V0,show(B []:BA)=⟨#[]⟩ from rfl,F01];cases w<;>rfl
theorem e08(w:List Int)(f:w.length<=140737488355328):∀(d k fuel:Nat) (acc:List UInt8),k+d=w.length->d<fuel->acc.length+d<=140737488355328 ->
  g8 w fuel (B acc) (k:Int)=some (bif c04 (w.drop k)then .inr (B (acc++(w.drop k).map chL))else .inl (B []))
 |d,k,0,acc,c,hf,b=>by omega
 |0,k,fuel+1,acc,c,hf,b=>by
  simp_all[g8.eq_2,if_neg,J1,c04]
 |d+1,k,fuel+1,acc,c,hf,b=>by
  have e:k<w.length:=by omega
  have a:=V3 e
  generalize w[k]=x at a
  have next:=e08 w f d (k+1) fuel (acc ++ [chL x]) (by omega) (by omega) (by grind)
  rw[L1 a,g8.eq_2,if_pos (by simp;omega),E2 a,oB,Z0g,oB]
  simp only[c04]
  cases hlx:c08 x with
  |false=>simp_all[cond_false,F0,E01,oB,F01]
  |true =>
   rw[cond_true,F0 (by rw[E01];simp),oB,F01,if_neg (by simp),F0 (by grind[E01,List.length_singleton]),oB,
    F0f,G2 e (by omega:w.length<=9223372036854775807),next]
   simp
def b0b(w:List Int)(a:w.length<=140737488355):S01 w=some (P05 w):=by
 unfold S01;by_cases h0:w.length=0;·have:w = []:=List.length_eq_zero_iff.1 h0;subst this;rfl
 have h:=e08 w oM w.length 0 U0 [] oM (F1 oM) oG;rw[show((0:Nat):Int)=0 from rfl,(dZ),(nA)]at h;rw[iE oG,show(⟨#[]⟩:BA)=B [] from rfl,h,oB];unfold P05;cases c04 w;·rfl
 cases w with
 |nil=>simp at h0
 |cons x r=>rfl
def B06(a:UInt8):List (List UInt8)->List UInt8
 | []=>[]
 |x::r=>a::x++B06 a r
def c0b(a:UInt8):List (List UInt8)->List UInt8
 | []=>[]
 |x::r=>x++B06 a r
def R04:List (List Int)->Bool
 | []=>true
 |w::r=>c04 w&&R04 r
def Q09(ws:List (List Int)):BA:=bif R04 ws then(match ws with
 | []=>B [110,111,110,101]
 |w::r=>B (c0b 44 ((w::r).map wl)))else B []
def wsz:List (List Int)->Nat
 | []=>0
 |w::r=>w.length+2+wsz r
theorem f0i:∀ ws:List (List Int),(B06 44 (ws.map wl)).length<=wsz ws
 | []=>by simp[B06,wsz]
 |w::r=>by
  have:=f0i r
  have:=l0a w
  grind[B06,wsz,List.length_cons,List.length_append]
def n0p{w:List Int}:∀ {ws:List (List Int)},w∈ws->w.length<=wsz ws
 |x::r,h=>by
  rcases mE.1 h with rfl|h;·simp only[wsz];omega
  have:=n0p h;simp only[wsz];omega
theorem a0h:∀ ws:List (List Int),ws.length<=wsz ws
 | []=>by simp
 |w::r=>by have:=a0h r;grind[wsz,List.length_cons]
theorem j07(ws:List (List Int))(g:wsz ws<=140737488):∀(d k fuel:Nat) (acc:List UInt8),k+d=ws.length->d<fuel->0<k->acc.length+wsz (ws.drop k)<=140737488355328 ->
  G4 ws fuel (B acc) (k:Int)=some (bif R04 (ws.drop k)then .inr (B (acc++B06 44 ((ws.drop k).map wl)))else .inl (B []))
 |d,k,0,acc,c,hf,h0,a=>by omega
 |0,k,fuel+1,acc,c,hf,h0,a=>by
  simp_all[G4.eq_2,if_neg,J1,R04,B06]
 |d+1,k,fuel+1,acc,c,hf,h0,a=>by
  have e:k<ws.length:=by omega
  have b:=V3 e
  have i:=a0h ws
  have h:=n0p (List.mem_of_getElem? b)
  generalize ws[k]=x at b h
  rw[L1 b]at a ⊢
  simp only[wsz]at a
  have j:=l0a x
  have next:=j07 ws g d (k+1) fuel (acc ++ [44]++wl x) (by omega) (by omega) (by omega) (by grind)
  rw[G4.eq_2,if_pos (by simp;omega),if_pos (by simp;omega),F0 (by grind[E01]),oB,E2 b,oB,C07 x (by omega),oB,
   F0 (by grind[j0d]),oB,G0f]
  simp only[R04]
  cases hlx:c04 x with
  |false=>rfl
  |true =>
   have f:P05 x=B (wl x):=by grind[P05]
   rw[if_neg (by simp),f,show(⟨#[44]⟩:ByteArray)=B [44] from rfl,F0f,F0 (by grind[E01,List.length_append,List.length_singleton]),oB,F0f,
    G2 e (by omega:ws.length<=9223372036854775807),next]
   simp[B06]
theorem b0h(ws:List (List Int))(b:wsz ws<=140737488):L02 ws=some (Q09 ws):=by
 unfold L02 Q09
 cases ws with
 |nil=>rw[show U0=(U0-1)+1 from rfl,G4.eq_2,if_neg (by simp),oB,V0,if_pos (G0a.2 rfl)];rfl
 |cons x r =>
  have d:=l0a x
  have c:wsz r<=140737488:=by grind[wsz]
  have e:x.length<=140737488:=by grind[wsz]
  have next:=j07 (x::r) b r.length 1 (U0-1) (wl x) (by grind) (by grind[a0h,U0]) (by omega) (by grind)
  rw[show U0=(U0-1)+1 from rfl,G4.eq_2,if_pos (by simp),if_neg (by simp),t0f (x:=x) rfl,oB,C07 x (by omega),oB,
   F0 (by grind[j0d]),oB,G0f]
  simp only[R04]
  cases hlx:c04 x with
  |false=>rfl
  |true =>
   have a:P05 x=B (wl x):=by grind[P05]
   rw[if_neg (by simp),a,show(⟨#[]⟩:ByteArray)=B [] from rfl,F0f,List.nil_append,F0 (by grind[E01,List.length_nil]),oB,
    show IntKind.i64.wrap (0+1)=((1:Nat):Int) by decide,next]
   simp only[List.drop_succ_cons,List.drop_zero,Bool.true_and,oB]
   cases R04 r with
   |false=>rfl
   |true =>
    rw[cond_true,V0,show(B []:ByteArray)=⟨#[]⟩ from rfl,F01]
    have:(wl x++B06 44 (List.map wl r)).isEmpty=false:=by cases x<;>rfl
    rw[this]
    rfl
def k07(ws:List (List Int))(g:wsz ws<=140737488):∀(d k fuel:Nat) (acc:List BA),k+d=ws.length->d<fuel->acc.length=k -> w7 ws fuel (k:Int) acc=some (bif R04 (ws.drop k)then .inr (acc++(ws.drop k).map λw=>B (wl w))else .inl (B []))
 |d,k,0,acc,c,hf,b=>oM
 |0,k,fuel+1,acc,c,hf,b=>by simp_all[w7.eq_2,iE,J1,R04]
 |d+1,k,fuel+1,acc,c,hf,b=>by
  have e:k<ws.length:=oM;have a:=V3 e;have i:=a0h ws;have h:=n0p (mG a);generalize ws[k]=x at a h;have next:=k07 ws g d (k+1) fuel (acc ++ [B (wl x)]) oM oM oG;rw[L1 a,w7.eq_2,iP (by simp;omega),E2 a,oB,b0b x oM,oB,
   F0 (by grind[j0d]),oB,G0f]
  simp only[R04];cases hlx:c04 x;·rfl
  have f:P05 x=B (wl x):=by grind[P05]
  rw[iE oS,f,F0 oG,oB,G2 e (by omega:ws.length<=9223372036854775807),next];simp
def bsz:List (List UInt8)->Nat
 | []=>0
 |x::r=>x.length+1+bsz r
theorem o0p:∀ xs:List (List UInt8),xs.length<=bsz xs
 | []=>by simp
 |w::r=>by have:=o0p r;grind[bsz,List.length_cons]
theorem a0c(b:UInt8)(xs:List (List UInt8))(g:bsz xs<=140737488355328):∀(d k fuel:Nat) (acc:List UInt8),k+d=xs.length->d<fuel->acc.length+bsz (xs.drop k)<=140737488355328 ->
  B01 (xs.map B) (B [b]) fuel (B acc) (k:Int)=some (B (acc++B06 b (xs.drop k)))
 |d,k,0,acc,c,hf,a=>by omega
 |0,k,fuel+1,acc,c,hf,a=>by
  simp_all[B01.eq_2,if_neg,J1,B06]
 |d+1,k,fuel+1,acc,c,hf,a=>by
  have e:k<xs.length:=by omega
  have f:=V3 e
  have h:=o0p xs
  generalize xs[k]=x at f
  rw[L1 f]at a ⊢
  simp only[bsz]at a
  have next:=a0c b xs g d (k+1) fuel (acc ++ [b]++x) (by omega) (by omega) (by grind)
  rw[B01.eq_2,if_pos (by simp;omega),E2 (x:=B x) (by grind),oB,F0 (by grind[E01,List.length_singleton]),oB,F0f,
   F0 (by grind[E01,List.length_append,List.length_singleton]),oB,F0f,G2 e (by omega:xs.length<=9223372036854775807),next]
  simp[B06]
def c0h(a:UInt8)(e:BA):List (List UInt8)->BA
 | []=>e
 |x::r=>B (c0b a (x::r))
def p0p(a:UInt8)(e:BA)(xs:List (List UInt8))(c:bsz xs<=140737488355328):u04 (xs.map B) (B [a]) e=some (c0h a e xs):=by
 unfold u04;cases xs with
 |nil=>rfl
 |cons x r =>
  simp only[bsz]at c;have d:=o0p r;have h:=a0c a r oM r.length 0 U0 x oM (F1 oM) oG;rw[show((0:Nat):Int)=0 from rfl,(dZ)]at h;rw[iE (by simp;omega),t0f (x:=B x) rfl,oB,U07,iP (by simp;omega),oB];have b:(List.drop (1:Int).toNat (List.take ((((x::r).map B).length:Nat):Int).toNat ((x::r).map B)))=r.map B:=by rw[(iN),List.take_length];rfl
  rw[b,h];rfl
theorem g0y:∀ ws:List (List Int),bsz (ws.map wl)<=wsz ws
 | []=>by simp[bsz,wsz]
 |w::r=>by have:=g0y r;grind[l0a,bsz,wsz]
theorem q0p(ws:List (List Int)):(Q09 ws).size<=wsz ws+4:=by
 unfold Q09
 cases R04 ws with
 |false=>show 0<=_;omega
 |true =>
  cases ws with
  |nil=>show 4<=_;omega
  |cons w r =>
   simp only[cond_true]
   rw[E01]
   have:=f0i r
   grind[l0a,c0b,wsz,List.length_append]
def d0h(ws:List (List Int))(b:wsz ws<=140737488):M02 ws=some (Q09 ws):=by
 unfold M02;have c:=a0h ws;have h:=k07 ws b ws.length 0 U0 [] oM (F1 oM) rfl;rw[show((0:Nat):Int)=0 from rfl,(dZ),(nA)]at h;rw[h,oB];have a:=q0p ws;unfold Q09 at a ⊢;cases hall:R04 ws;·rfl
 rw[hall]at a;rw[(cT),V0,show(ws.map λw=>B (wl w))=(ws.map wl).map B by simp,show(⟨#[44]⟩:BA)=B [44] from rfl,p0p 44 _ _ (by grind[g0y]),oB];cases ws with
 |nil=>rfl
 |cons w r =>simp only[cT,List.map_cons,c0h]at a ⊢;rw[F0 oM,oB]
theorem a0w(n:Int):(B0r n).size<=21:=by
 grind[B0r,u0k,List.length_nil,E01,List.length_cons]
theorem R0u:∀ ws:List (List Int),wsz ws=tot ws+2*ws.length
 | []=>rfl
 |w::r=>by have:=R0u r;grind[wsz,tot,List.length_cons]
def fI(n:Int):List UInt8:=if n=0 then [48]else if n<0 then 45::w0e 20 n.natAbs []else w0e 20 n.natAbs []
theorem m0a(n:Int):B0r n=B (fI n):=by grind[B0r,fI]
theorem w03(n:Int):(fI n).length<=21:=by have:=a0w n;grind[m0a,E01]
def b0A(n:Int):(fI n).isEmpty=false:=by
 unfold fI;split;·rfl
 split;·rfl
 rw[l0e];have:0<(i0d 20 n.natAbs).length:=by simp only[i0d];rw[iE oM];simp
 cases h:((i0d 20 n.natAbs).reverse.map (λx=>UInt8.ofNat x.toNat) ++ [])with
 |nil =>simp_all
 |cons x r=>rfl
def t09:List Q0->List UInt8
 | []=>[]
 |e::r=>32::fI e.1 ++ [chL e.2.1]++fI e.2.2++t09 r
def K0A(e:Q0):Prop:=c08 e.2.1/\I0 e.1/\I0 e.2.2
def A0l{g:B0}(h:W0 g):∀ e∈g.2.2,K0A e:=λe f=>by simp only[W0,aE,dE]at h;obtain⟨k,i⟩:=List.getElem?_of_mem f;have a:=I0o h.1.1.1 k (Nat.zero_le _) oG;rw[W0d i]at a;simp only[Bool.or_eq_false_iff,Bool.not_eq_false']at a;have b:=a.1;have c:=h.1.1.2;have d:=h.1.2;simp only[l09,inR,aE,dE]at b c d;have j:i64.wrap (g.2.1-1)=g.2.1-1:=w64 oM oM;rw[j]at b;refine⟨?_,⟨oM,oM⟩,⟨oM,oM⟩⟩;simp only[c08,inR,aE,Bool.not_eq_true',beq_eq_false_iff_ne,dE];omega
def s0m(x:Int)(a:c08 x):A00 x=some (B [chL x]):=by grind[Z0g]
def n0a(g:B0):List UInt8:=fI g.1 ++ [32]++fI g.2.1++t09 g.2.2
def m0e(g:B0):BA:=bif W0 g then B (n0a g)else B []
def l07(es:List Q0)(h:∀ e∈es,K0A e)(p:es.length<=1000):∀(d k fuel:Nat) (acc:List UInt8),k+d=es.length->d<fuel->acc.length<=100+44*k -> z7 es fuel (B acc) (k:Int)=some (B (acc++t09 (es.drop k)))
 |d,k,0,acc,j,hf,g=>oM
 |0,k,fuel+1,acc,j,hf,g=>by simp_all[z7.eq_2,iE,J1,t09]
 |d+1,k,fuel+1,acc,j,hf,g=>by
  have l:k<es.length:=oM;have a:=V3 l;have i:=h _ (mG a);generalize es[k]=e at a i;obtain⟨b,f,c⟩:=e;obtain⟨m,n,o⟩:=i;simp only at m n o;have q:=w03 b;have s:=w03 c;have next:=l07 es h p d (k+1) fuel (acc ++ [32]++fI b ++ [chL f]++fI c) oM oM oG;rw[L1 a,z7.eq_2,iP (by simp;omega),E2 a,oB];simp only[Q00 b n,Q00 c o,F0r f m,m0a,show(⟨#[32]⟩:BA)=B [32] from rfl,F0f,oB,E01];rw[F0 oG,oB,F0 oM,oB,F0 oG,oB,F0 oS,oB,
   F0 oG,oB,F0 oM,oB,F0 oG,oB,
   G2 l (by omega:es.length<=9223372036854775807),next]
  simp[t09]
def e0h(g:B0)(c:g.2.2.length<=140737488355328):N02 g=some (m0e g):=by
 have d:=H9 g c;obtain⟨r,n,es⟩:=g;unfold N02 m0e;simp only[d,oB];cases h:W0 (r,n,es);·rfl
 have b:=A0l h;have h':=h;simp only[W0,inR,aE,dE]at h';have f:=w03 r;have e:=w03 n;have a:=l07 es b oM es.length 0 U0 (fI r ++ [32]++fI n) oM (by unfold U0;omega) oG;rw[show((0:Nat):Int)=0 from rfl,(dZ)]at a;rw[iE oS,Q00 r ⟨oM,oM⟩,Q00 n ⟨oM,oM⟩];simp only[m0a,show(⟨#[32]⟩:BA)=B [32] from rfl,F0f,oB,E01];rw[F0 oM,oB,F0 oG,oB,F0 oM,oB,F0 oG,oB,a];rfl
def m07(es:List Q0)(h:∀ e∈es,K0A e)(p:es.length<=1000):∀(d k fuel:Nat) (acc:List UInt8),k+d=es.length->d<fuel->acc.length<=100+44*k -> A7 es fuel (B acc) (k:Int)=some (B (acc++t09 (es.drop k)))
 |d,k,0,acc,j,hf,g=>oM
 |0,k,fuel+1,acc,j,hf,g=>by simp_all[A7.eq_2,iE,J1,t09]
 |d+1,k,fuel+1,acc,j,hf,g=>by
  have l:k<es.length:=oM;have a:=V3 l;have i:=h _ (mG a);generalize es[k]=e at a i;obtain⟨b,f,c⟩:=e;obtain⟨m,n,o⟩:=i;simp only at m n o;have q:=w03 b;have s:=w03 c;have next:=m07 es h p d (k+1) fuel (acc ++ [32]++fI b ++ [chL f]++fI c) oM oM oG;rw[L1 a,A7.eq_2,iP (by simp;omega),E2 a,oB];simp only[a02 b n,a02 c o,s0m f m,m0a,show(⟨#[32]⟩:BA)=B [32] from rfl,F0f,oB,E01];rw[F0 oG,oB,F0 oM,oB,F0 oG,oB,F0 oS,oB,
   F0 oG,oB,F0 oM,oB,F0 oG,oB,
   G2 l (by omega:es.length<=9223372036854775807),next]
  simp[t09]
def f0h(g:B0)(c:g.2.2.length<=140737488355328):P02 g=some (m0e g):=by
 have d:=k01 g c;obtain⟨r,n,es⟩:=g;unfold P02 m0e;simp only[d,oB];cases h:W0 (r,n,es);·rfl
 have b:=A0l h;have h':=h;simp only[W0,inR,aE,dE]at h';have f:=w03 r;have e:=w03 n;have a:=m07 es b oM es.length 0 U0 (fI r ++ [32]++fI n) oM (by unfold U0;omega) oG;rw[show((0:Nat):Int)=0 from rfl,(dZ)]at a;rw[iE oS,a02 r ⟨oM,oM⟩,a02 n ⟨oM,oM⟩];simp only[m0a,show(⟨#[32]⟩:BA)=B [32] from rfl,F0f,oB,E01];rw[F0 oM,oB,F0 oG,oB,F0 oM,oB,F0 oG,oB,a];rfl
def k0d(w:List Int):Prop:=∀ x∈w,I0 x
def r0B:BA:=⟨#[110,111,110,101]⟩
def n0e(a:List Int):BA:=c0h 32 r0B (a.map fI)
def r0p:List Int->List UInt8
 | []=>[110,111,110,101]
 |k::r=>c0b 32 ((k::r).map fI)
def l0d(a:List Int):n0e a=B (r0p a):=by cases a<;>rfl
theorem l0t:∀ a:List Int,bsz (a.map fI)<=22*a.length
 | []=>by simp[bsz]
 |k::r=>by
  have:=l0t r
  grind[w03,bsz,List.length_cons]
theorem G0r:∀ xs:List (List UInt8),(B06 32 xs).length=bsz xs
 | []=>rfl
 |x::r=>by
  have:=G0r r
  grind[B06,bsz,List.length_cons,List.length_append]
theorem g0h(a:List Int):(r0p a).length<=4+22*a.length:=by
 cases a with
 |nil=>simp[r0p]
 |cons k r =>
  have b:=G0r (r.map fI)
  have c:=l0t r
  have d:=w03 k
  grind[r0p,c0b,List.length_append,List.length_cons]
def j0z(a:List Int):(r0p a).isEmpty=false:=by
 cases a with
 |nil=>rfl
 |cons k r =>have:=b0A k;simp_all[r0p,List.map_cons,c0b,fI]
def C06(a:List Int)(c:k0d a)(i:a.length<=1073741824):∀(d k fuel:Nat) (acc:List UInt8),k+d=a.length->d<fuel->0<k->acc.length<=22*k -> U3 a fuel (B acc) (k:Int)=some (B (acc++B06 32 ((a.drop k).map fI)))
 |d,k,0,acc,f,hf,h0,e=>oM
 |0,k,fuel+1,acc,f,hf,h0,e=>by simp_all[U3.eq_2,iE,J1,B06]
 |d+1,k,fuel+1,acc,f,hf,h0,e=>by
  have g:k<a.length:=oM;have b:=V3 g;have h:=c _ (mG b);generalize a[k]=x at b h;have j:=w03 x;have next:=C06 a c i d (k+1) fuel (acc ++ [32]++fI x) oM oM oM oG;rw[L1 b,U3.eq_2,iP (by simp;omega),iP (by simp;omega)];simp only[Q00 x h,m0a,show(⟨#[32]⟩:BA)=B [32] from rfl,F0f,oB,E01,E2 b];rw[F0 oG,oB,F0 oM,oB,F0 oG,oB,
   G2 g (by omega:a.length<=9223372036854775807),next]
  simp[B06]
theorem x0e(a:List Int)(b:k0d a)(c:a.length<=1073741824):C01 a=some (n0e a):=by
 unfold C01
 cases a with
 |nil=>rw[show U0=(U0-1)+1 from rfl,U3.eq_2,if_neg (by simp),oB,if_pos (G0a.2 rfl)];rfl
 |cons x r =>
  have d:=b x mS
  have e:=w03 x
  have next:=C06 (x::r) b c r.length 1 (U0-1) (fI x) (by grind) (by grind[List.length_cons,U0]) (by omega) (by omega)
  rw[show U0=(U0-1)+1 from rfl,U3.eq_2,if_pos (by simp),if_neg (by simp),t0f (x:=x) rfl]
  simp only[Q00 x d,m0a,show(⟨#[]⟩:ByteArray)=B [] from rfl,F0f,oB,E01,List.nil_append]
  rw[F0 (by omega),oB,F0 (by grind),oB,show IntKind.i64.wrap (0+1)=((1:Nat):Int) by decide,next,oB,show(B []:ByteArray)=⟨#[]⟩ from rfl,F01]
  have:=j0z (x::r)
  simp only[r0p,List.map_cons,c0b]at this
  simp only[List.drop_succ_cons,List.drop_zero]
  rw[this]
  rfl
def D06(a:List Int)(c:k0d a)(i:a.length<=1073741824):∀(d k fuel:Nat) (acc:List BA),k+d=a.length->d<fuel->acc.length=k -> W5 a fuel (k:Int) acc=some (acc++(a.drop k).map λx=>B (fI x))
 |d,k,0,acc,f,hf,e=>oM
 |0,k,fuel+1,acc,f,hf,e=>by simp_all[W5.eq_2,iE,J1]
 |d+1,k,fuel+1,acc,f,hf,e=>by
  have g:k<a.length:=oM;have b:=V3 g;have h:=c _ (mG b);generalize a[k]=x at b h;have j:=w03 x;have next:=D06 a c i d (k+1) fuel (acc ++ [B (fI x)]) oM oM oG;rw[L1 b,W5.eq_2,iP (by simp;omega),E2 b,oB,a02 x h,oB,m0a,
   F0 (by rw[E01];omega),oB,F0 oG,oB,G2 g (by omega:a.length<=9223372036854775807),next]
  simp
def y0e(a:List Int)(b:k0d a)(c:a.length<=1073741824):D01 a=some (n0e a):=by
 unfold D01;have h:=D06 a b c a.length 0 U0 [] oM (F1 oM) rfl;have d:=l0t a;rw[show((0:Nat):Int)=0 from rfl,(dZ),(nA)]at h;rw[h,oB,show(a.map λw=>B (fI w))=(a.map fI).map B by simp,show(⟨#[32]⟩:BA)=B [32] from rfl,p0p 32 _ _ oM,oB,
  show c0h 32 ⟨#[110,111,110,101]⟩ (a.map fI)=n0e a from rfl,l0d,F0 (by grind[g0h,E01])]
 rfl
def cwL(k:Int):List UInt8:=if k=1 then [105,110]else if k=2 then [111,117,116]else if k=3 then [115,97,109,101]else if k=4 then [99,111,110,106,117,103,97,116,101]else if k=5 then [102,114,101,101]else if k=6 then [105,110,100,101,120]else []
def h08(k:Int):A02 k=some (B (cwL k)):=by
 unfold A02;rw[H03,oB];cases h:inR 1 6 k
 ·have : ¬ (1<=k/\k<=6):=by grind[inR]
  have e:cwL k = []:=by unfold cwL;rw[iE oM,iE oM,iE oM,iE oM,iE oM,iE oM]
  rw[e];rfl
 simp only[inR,aE,dE]at h;have:k=1∨k=2∨k=3∨k=4∨k=5∨k=6:=oM;rcases this with rfl|rfl|rfl|rfl|rfl|rfl<;>rfl
def b0c(k:Int):B02 k=some (B (cwL k)):=h08 k
theorem M0j(k:Int):(cwL k).length<=9:=by
 unfold cwL;repeat' split
 all_goals simp
theorem B0l:∀ es:List Q0,(t09 es).length<=44*es.length
 | []=>by simp[t09]
 |e::r=>by
  have:=B0l r
  grind[w03,t09,List.length_append,List.length_cons,List.length_nil]
theorem D07{g:B0}(h:W0 g=true):(n0a g).length<=6000:=by
 simp only[W0,Bool.and_eq_true,decide_eq_true_eq]at h
 grind[B0l,w03,n0a,List.length_append,List.length_singleton]
def b0w(g:B0):(n0a g).isEmpty=false:=by simp_all[b0A,n0a,fI]
def o0e(c:L2):Bool := !(cwL c.1).isEmpty&&O2 c.2.1 c.2.2.1&&O1 c.2.1 c.2.2.2.1&&W0 c.2.2.2.2.2.1
def g0i(ws:List (List Int)):List UInt8:=match ws with
 | []=>[110,111,110,101]
 |w::r=>c0b 44 ((w::r).map wl)
def C0l(c:L2):List UInt8:=c0b 32 [cwL c.1,fI c.2.1,g0i c.2.2.1,wl c.2.2.2.1,[98,121],r0p c.2.2.2.2.1,[97,110,100],n0a c.2.2.2.2.2.1,[97,110,100],fI c.2.2.2.2.2.2]
def F08(c:L2):BA:=bif o0e c then B (C0l c)else B []
structure D0l (c:L2):Prop where
 ws:c.2.2.1.length<=140737488355328/\Y8 c.2.2.1
 w:c.2.2.2.1.length<=140737488355328
 ks:k0d c.2.2.2.2.1/\c.2.2.2.2.1.length<=1073741824
 g:c.2.2.2.2.2.1.2.2.length<=140737488355328
 r:I0 c.2.1
 n:I0 c.2.2.2.2.2.2
theorem a0j{r:Int}{w:List Int}(h:O1 r w):c04 w:=by
 have:∀ v:List Int,(∀ x∈v,c08 x)->c04 v:=by
  intro v;induction v with
  |nil=>intro _;rfl
  |cons x t g =>simp_all[c04,aE,List.mem_cons_self,mC]
 refine this w λx b=>?_;obtain⟨i,a⟩:=List.getElem?_of_mem b;obtain⟨c,_,d,e,f⟩:=I0i h a;simp only[c08,inR,aE,Bool.not_eq_true',beq_eq_false_iff_ne,dE];omega
def Y0e{r:Int}:∀ {ws:List (List Int)},E0g r ws->R04 ws
 | [],_=>rfl
 |w::l,h=>by simp only[E0g,aE]at h;simp only[R04,aE];exact⟨a0j h.1,Y0e h.2⟩
def h0i{r:Int}{ws:List (List Int)}(h:O2 r ws):Q09 ws=B (g0i ws)/\wsz ws<=60:=by simp only[O2,aE,dE]at h;refine⟨?_,by rw[R0u];omega⟩;unfold Q09;rw[Y0e h.1.2];cases ws<;>rfl
def E0l{r:Int}{w:List Int}(h:O1 r w):P05 w=B (wl w)/\w.length<=24:=by have a:=h;simp only[O1,aE,dE]at a;grind[P05,a0j]
theorem H0f{ws:List (List Int)}(h:wsz ws<=60):(g0i ws).length<=64:=by
 cases ws with
 |nil=>simp[g0i]
 |cons w r =>
  have a:=f0i r
  have b:=l0a w
  grind[wsz,g0i,c0b,List.length_append]
def h0h(c:L2)(hf:D0l c):O02 c=some (F08 c):=by
 obtain⟨a,r,ws,w,o,g,n⟩:=c;obtain⟨⟨f,f2⟩,f3,⟨i,j⟩,k,l,m⟩:=hf;obtain⟨d,b,es⟩:=g;simp only at f f2 f3 i j k l m;unfold O02;have t:=e0h (d,b,es) k;simp only[t,h08,oB,i09 r ws f f2,h03 r w f3];have x:=M0j a;have C:=w03 r;have A:=w03 n;have z:=g0h o;rw[F0 (by rw[E01];omega),oB];unfold F08 o0e m0e;simp only;cases hcw:(cwL a).isEmpty with
 |true =>
  have e:(bif W0 (d,b,es)then B (n0a (d,b,es))else B []).size<=9223372036854775807:=by
   cases h:W0 (d,b,es);·show 0<=_;omega
   have:=D07 h;rw[(cT),E01];omega
  rw[F0 e];simp only[F01,hcw,bT,M1,oB,cT,Bool.false_and,zF,if_true]
 |false =>
 cases hws:O2 r ws with
 |false =>
  have e:(bif W0 (d,b,es)then B (n0a (d,b,es))else B []).size<=9223372036854775807:=by
   cases h:W0 (d,b,es);·show 0<=_;omega
   have:=D07 h;rw[(cT),E01];omega
  rw[F0 e];simp only[F01,hcw,bT,bF,G1,M1,oB,cT,Bool.false_and,Bool.and_false,zF,if_true]
 |true =>
 cases hw:O1 r w with
 |false =>
  have e:(bif W0 (d,b,es)then B (n0a (d,b,es))else B []).size<=9223372036854775807:=by
   cases h:W0 (d,b,es);·show 0<=_;omega
   have:=D07 h;rw[(cT),E01];omega
  rw[F0 e];simp only[F01,hcw,bT,bF,G1,M1,oB,cT,Bool.false_and,Bool.and_false,Bool.and_true,zF,if_true]
 |true =>
 cases e:W0 (d,b,es)with
 |false =>rw[F0 (by show 0<=_;omega)];simp only[F01,hcw,bT,bF,G1,M1,oB,cT,Bool.false_and,Bool.and_false,Bool.and_true,zF,List.isEmpty_nil,if_true]
 |true =>
 obtain⟨p,q⟩:=h0i hws;obtain⟨s,v⟩:=E0l hw;have y:=D07 e;have E:=H0f q;have D:=l0a w;have u:=b0w (d,b,es);rw[F0 (by rw[cT,E01];omega)];simp only[F01,hcw,u,bT,bF,G1,M1,oB,cT,Bool.false_and,Bool.and_false,Bool.and_true,zF,fT,if_false];simp only[Q00 r l,Q00 n m,b0h ws oM,C07 w oM,x0e o i j,p,s,m0a,l0d,oB,show(⟨#[32]⟩:BA)=B [32] from rfl,
  show(⟨#[32,98,121,32]⟩:BA)=B [32,98,121,32] from rfl,show(⟨#[32,97,110,100,32]⟩:BA)=B [32,97,110,100,32] from rfl,F0f,E01]
 iterate 20 (first|rw[F0 (by(try simp only[lA,lC,lN]);omega),oB]|skip)
 refine congrArg some (congrArg B ?_);simp[C0l,c0b,B06]
def i0h(c:L2)(hf:D0l c):Q02 c=some (F08 c):=by
 obtain⟨a,r,ws,w,f,g,n⟩:=c;obtain⟨⟨i,f2⟩,f3,⟨j,k⟩,e,l,m⟩:=hf;obtain⟨d,b,es⟩:=g;simp only at i f2 f3 j k e l m;unfold Q02;have s:=f0h (d,b,es) e;have t:=k01 (d,b,es) e;have x:=M0j a;have C:=w03 r;have A:=w03 n;have z:=g0h f;have u:(grd ((B (cwL a)).size<=9223372036854775807))=some ():=F0 (by rw[E01];omega);simp only[b0c,oB,k09 r ws i f2,i03 r w f3,t,u];unfold F08 o0e;simp only;cases hcw:(cwL a).isEmpty with
 |true=>simp only[F01,hcw,bT,M1,oB,cT,Bool.false_and,zF,if_true]
 |false =>
 cases hws:O2 r ws with
 |false=>simp only[F01,hcw,bT,bF,G1,M1,oB,cT,Bool.false_and,Bool.and_false,zF,if_true]
 |true =>
 cases hw:O1 r w with
 |false=>simp only[F01,hcw,bT,bF,G1,M1,oB,cT,Bool.false_and,Bool.and_false,Bool.and_true,zF,if_true]
 |true =>
 cases hg:W0 (d,b,es)with
 |false=>simp only[F01,hcw,bT,bF,G1,M1,oB,cT,Bool.false_and,Bool.and_false,Bool.and_true,zF,if_true]
 |true =>
 obtain⟨o,p⟩:=h0i hws;obtain⟨q,v⟩:=E0l hw;have y:=D07 hg;have E:=H0f p;have D:=l0a w;simp only[F01,hcw,bT,bF,G1,M1,oB,cT,Bool.false_and,Bool.and_false,Bool.and_true,zF,fT,if_false];simp only[a02 r l,a02 n m,d0h ws oM,b0b w oM,y0e f j k,s,m0e,hg,cT,o,q,m0a,l0d,oB,E01];iterate 7 (first|rw[F0 oM,oB]|skip)
 have h:=p0p 32 ⟨#[]⟩ [cwL a,fI r,g0i ws,wl w,[98,121],r0p f,[97,110,100],n0a (d,b,es),[97,110,100],fI n] (by simp only[bsz,lC,lN];omega);simp only[List.map_cons,List.map_nil]at h;rw[show(⟨#[32]⟩:BA)=B [32] from rfl,show(⟨#[98,121]⟩:BA)=B [98,121] from rfl,show(⟨#[97,110,100]⟩:BA)=B [97,110,100] from rfl,h,oB];unfold c0h;rw[F0 (by rw[E01];simp only[c0b,B06,lA,lC,lN];omega)];rfl
def m0t{c:L2}(h:o0e c):(C0l c).length<=7000+22*c.2.2.2.2.1.length:=by simp only[o0e,aE]at h;obtain⟨b,a⟩:=h0i h.1.1.2;obtain⟨d,e⟩:=E0l h.1.2;have g:=D07 h.2;have m:=H0f a;have l:=l0a c.2.2.2.1;have f:=M0j c.1;have k:=w03 c.2.1;have j:=w03 c.2.2.2.2.2.2;have i:=g0h c.2.2.2.2.1;simp only[C0l,c0b,B06,lA,lC,lN];omega
theorem h0y{g:B0}(a:W0 g):(m03 g).2.2.length<=120:=T0h (m01 40 (H02 a))
def k0z{r:Int}{ws:List (List Int)}:(O3 r ws).1.2.2.length<=120:=by grind[O3,O2,h0y,B07]
def S0B(g:B0)(w:List Int):(Y06 g w).1.2.2.length<=120:=by unfold Y06;cases D1 g&&(O1 g.1 w && !S4 g w);all_goals grind[o8,X06,h0y,K0j]
def s0B(g:B0)(w:List Int):(p05 g w).1.2.2.length<=120:=by
 unfold p05;cases h:D1 g&&O1 g.1 w;·simp
 rw[(aE)]at h;cases decide (((w.length:Nat):Int)=0)
 ·cases (T1 g 0 w 0).2;·simp
  obtain⟨_,a,_⟩:=V05 h.1;exact h0y (r00 (Y1 (y02 h.1)) (u:=0) (v:=0) (w:=w) ⟨iR _,oM⟩ ⟨iR _,oM⟩ h.2)
 grind[V05]
def smC(m:Nat)(c:L2):Prop:=I0 c.2.1/\(c.2.2.1.length<=3/\u0f c.2.2.1)/\c.2.2.2.1.length<=400/\(k0d c.2.2.2.2.1/\c.2.2.2.2.1.length<=m)/\c.2.2.2.2.2.1.2.2.length<=120/\I0 c.2.2.2.2.2.2
def smC.len{m:Nat}{c:L2}(h:smC m c):W0g c:=by obtain⟨_,⟨d,a⟩,e,_,f,_⟩:=h;exact⟨oM,λw b=>by have:=(a w b).2;omega,oM,oM⟩
def smC.cp{c:L2}(h:smC 401 c):p0B c:=by obtain⟨_,⟨e,a⟩,f,b,g,_⟩:=h;have:=b.2;exact⟨⟨oM,λw d=>by have:=(a w d).2;omega⟩,oM,oM,oM⟩
def smC.fit{c:L2}(h:smC 401 c):D0l c:=by obtain⟨h0,⟨f,b⟩,g,a,i,d⟩:=h;exact⟨⟨oM,λw e=>by have:=(b w e).2;omega⟩,oM,⟨a.1,by have:=a.2;omega⟩,oM,h0,d⟩
def E07{a:Type}{P:a->Prop}{b:Bool}{x y:a}(c:b->P x)(d:P y):P (bif b then x else y):=by grind
def S0u(k:Int){r:Int}{l:List (List Int)}{w:List Int}(q:I0 r)(j:l.length<=3/\u0f l)(s:w.length<=400):smC 400 (A01 k r l w).1:=by
 have z:smC 400 u08.1:=⟨oD,⟨oD,λ_ h=>nomatch h⟩,oD,⟨λ_ h=>(nomatch h),oD⟩,oD,oD⟩;have d:∀(p:List Int) (g:B0) (n:Int),(k0d p/\p.length<=400)->g.2.2.length<=120->I0 n->smC 400 (k,r,l,w,p,g,n):=λp g n o i m=>⟨q,j,s,o,i,m⟩;have e:k0d []/\([]:List Int).length<=400:=⟨λ_ h=>(nomatch h),oD⟩;unfold A01;refine E07 (P:=λc:L2×Bool=>smC 400 c.1) (λf=>?_) z;rw[(aE)]at f;refine E07 (P:=λc:L2×Bool=>smC 400 c.1) (λ_=>?_) ?_;·refine E07 (P:=λc:L2×Bool=>smC 400 c.1) (λ_=>?_) z;obtain⟨a,b⟩:=A0r (y02 (h0d f.1).1) w;exact d _ _ _ ⟨b,oM⟩ k0z oD
 refine E07 (P:=λc:L2×Bool=>smC 400 c.1) (λ_=>E07 (P:=λc:L2×Bool=>smC 400 c.1) (λ_=>d _ _ _ e (S0B _ _) oD) z) ?_;refine E07 (P:=λc:L2×Bool=>smC 400 c.1) (λ_=>E07 (P:=λc:L2×Bool=>smC 400 c.1) (λ_=>d _ _ _ e (s0B _ _) oD) z) ?_;refine E07 (P:=λc:L2×Bool=>smC 400 c.1) (λ_=>E07 (P:=λc:L2×Bool=>smC 400 c.1) (λ_=>d _ _ _ e (P09 _ _) oD) z) ?_;refine E07 (P:=λc:L2×Bool=>smC 400 c.1) (λ_=>E07 (P:=λc:L2×Bool=>smC 400 c.1) (λ_=>d _ _ _ e k0z (h0p _)) z) ?_;exact E07 (P:=λc:L2×Bool=>smC 400 c.1) (λ_=>E07 (P:=λc:L2×Bool=>smC 400 c.1) (λ_=>d _ _ _ e k0z (n0l _)) z) z
def Dr4(bs:List Int)(o:Option (Int×Int×K1×J0×(Int×Int))):Prop:=∃ k r l w q,o=some (k,r,l,w,q)/\I0 k/\(1<=r/\r<=3)/\(l.length<=3/\u0f l)/\w.length<=400/\okQ bs q
def Drw.b4{a:Type}{bs:List Int}{m:Option (a×(Int×Int))}{p:a->Prop}{k:a×(Int×Int)->Option (Int×Int×K1×J0×(Int×Int))}(h:Drw bs m p)(d:∀ x q,p x->okQ bs q->Dr4 bs (k (x,q))):Dr4 bs (m.bind k):=by obtain⟨x,q,rfl,b,c⟩:=h;exact d x q b c
def Dr4.grd{bs:List Int}{p:Prop}[Decidable p]{k:Unit->Option (Int×Int×K1×J0×(Int×Int))}(h:p)(a:Dr4 bs (k ())):Dr4 bs ((grd p).bind k):=by grind[F0]
theorem c0A{bs:List Int}{q:Int×Int}(i:okQ bs q):Dr4 bs (d04 bs q):=by
 unfold d04
 refine(C08 i (by decide) (by decide)).b4 λk G N f=>Dr4.grd ⟨by omega,by omega⟩ ((W0m f (by decide) (by decide)).b4 λr H g h=>?_)
 have g:1<=r/\r<=3:=(by decide:∀ x∈([1,2,2,2,3]:List Int),1<=x/\x<=3) r g
 refine Dr4.grd ⟨by omega,by omega⟩ ((f0u h (by omega) (by omega)).b4 λl Q d z=>(c0x z (by omega) (by omega) (by decide) (by decide)).b4 λw R O A=>?_)
 have I:∀(v:List Int) (q:Int×Int),v.length<=400->okQ bs q->Dr4 bs ((G9 bs q 16).bind λx=>match x with
   |(J,n)=>if J=true then(E4 bs n 9).bind λy=>match y with
    |(o,K)=>(grd (I0 o)).bind λ_=>some (IntKind.i64.wrap (o-1),r,l,v,K)
    else some (IntKind.i64.wrap (1+k),r,l,v,n)):=λv q m i=>by
  refine(H0o i (by decide) (by decide)).b4 λb G _ f=>?_
  simp only
  split
  ·refine(C08 f (by decide) (by decide)).b4 λy H P h=>Dr4.grd ⟨by omega,by omega⟩ ?_
   exact⟨_,_,_,_,_,rfl,O0 _,g,⟨d.2,d.1⟩,m,h⟩
  ·exact⟨_,_,_,_,_,rfl,O0 _,g,⟨d.2,d.1⟩,m,f⟩
 simp only
 by_cases c:0<l.length
 ·have j:decide (((l.length:Nat):Int)>0)=true:=by grind
  rw[if_pos j]
  refine(H0o A (by decide) (by decide)).b4 λb S _ C=>?_
  simp only[j,cond_true]
  split
  ·obtain⟨a,D,t⟩:=D0A (l:=l) (x:=0) (by omega) (by omega)
   have F:IntKind.i64.wrap (((l.length:Nat):Int)-1)=((l.length:Nat):Int)-1:=w64 (by omega) (by have:=d.2;omega)
   obtain⟨e,E,u⟩:=D0A (l:=l) (x:=((l.length:Nat):Int)-1) (by omega) (by omega)
   obtain⟨p,L⟩:=d.1 a D
   obtain⟨s,M⟩:=d.1 e E
   rw[F,t,oB,u,oB,t08 a e p s (by omega),oB]
   refine I _ _ ?_ C
   grind[N06,List.length_nil,List.length_append,List.length_reverse]
  grind
 grind
def L0A{bs:List Int}{q:Int×Int}(c:okQ bs q):Drw bs (a07 bs q) λg=>g.2.2.length<=120:=by unfold a07;refine(W0m c oD oD).bind λr i a d=>?_;have a:1<=r/\r<=3:=(by decide:∀ x∈([1,2,2,2,2,3]:List Int),1<=x/\x<=3) r a;refine .grd ⟨oM,oM⟩ ((f0u d oM oM).bind λws j b e=>?_);have f:=b.2;simp only[j0e r ws oM (λw h=>by have:=(b.1 w h).2;omega),oB];exact⟨_,_,rfl,k0z,e⟩
def s0p{bs:List Int}{q:Int×Int}(v:okQ bs q):Drw bs (b02 bs q) (smC 401):=by
 obtain⟨k,r,l,w,D,o,u,A,j,z,p⟩:=c0A v;have m:I0 r:=⟨oM,oM⟩;unfold b02;simp only[o,oB,F0 u,F0 m];rw[z0l k r l w oM (λx a=>by have:=(j.2 x a).2;omega) (λx a=>by have:=(j.2 x a).2;omega) oM,oB];have n:=S0u k m j z;generalize A01 k r l w=c at n;obtain⟨⟨G,H,I,J,K,⟨L,M,N⟩,O⟩,b⟩:=c;obtain⟨s1,s2,d,e,h,i⟩:=n;simp only at s1 s2 d e h i;refine(C08 p oD oD).bind λy E C f => .grd ⟨oM,oM⟩ ?_;simp only;split;·exact⟨_,_,rfl,⟨s1,s2,d,⟨e.1,oG⟩,h,O0 _⟩,f⟩
 split
 ·refine .grd oG ?_;exact⟨_,_,rfl,⟨s1,s2,d,⟨λx a=>by
   rcases List.mem_append.1 a with a|a;·exact e.1 x a
   simp only[List.mem_singleton]at a;subst a;decide,oG⟩,h,i⟩,f⟩
 split;·exact(L0A f).bind λg F t s=>⟨_,_,rfl,⟨s1,s2,d,⟨e.1,oG⟩,t,i⟩,s⟩
 exact⟨_,_,rfl,⟨s1,s2,d,⟨e.1,oG⟩,h,i⟩,f⟩
theorem lEW(a b:List Int):∀(f:Nat) (k:Int),E5 a b f k=D5 a b f k
 |0,k=>rfl
 |f+1,k=>by rw[E5.eq_2,D5.eq_2];simp only[lEW a b f]
theorem t0B:W6=V6:=by grind[W6,V6,lEW]
theorem lEL(a b:K1):∀(f:Nat) (k:Int),R6 a b f k=Y3 a b f k
 |0,k=>rfl
 |f+1,k=>by rw[R6.eq_2,Y3.eq_2];simp only[lEL a b f,t0B]
theorem T0B:W00=i8:=by grind[W00,i8,lEL]
def u0B(a b:K1)(i:a.length=b.length)(j:a.length<=1048576)(h:∀ w∈a,w.length<=1048576):∀(d k fuel:Nat),k+d=a.length->d<fuel -> Y3 a b fuel (k:Int)=some (if a.drop k=b.drop k then .inr ()else .inl false)
 |d,k,0,g,hf=>oM
 |0,k,fuel+1,g,hf=>by rw[Y3.eq_2,iE (by simp;omega),J1 oM,J1 oM,iP rfl]
 |d+1,k,fuel+1,g,hf=>by have c:k<a.length:=oM;have e:=V3 c;have f:=V3 (show k<b.length by omega);have l:=h _ (List.getElem_mem c);generalize a[k]=x at e l;generalize b[k]=y at f;rw[Y3.eq_2,iP (by simp;omega),E2 e,oB,E2 f,oB,F05 oM,oB,G2 c oM,u0B a b i j h d (k+1) fuel oM oM,L1 e,L1 f];grind[eqW]
def v0B(a b:K1)(d:a.length<=1048576)(f:∀ w∈a,w.length<=1048576):i8 a b=some (decide (a=b)):=by
 unfold i8;by_cases c:a.length=b.length;·rw[iE (by simp[c]),show(0:Int)=((0:Nat):Int) from rfl,u0B a b c d f a.length 0 U0 oM (F1 oM)];simp only[dZ,oB];by_cases e:a=b<;>simp[e,Y2,V0]
 rw[iP (by simp;omega)];have:a≠b:=λe=>c (by rw[e]);simp[this]
def l0z{a:Type}(b:Bool)(v d:a):chk b (some v) d=some (bif b then v else d):=by cases b<;>rfl
def i0y(a b:L2)(h:smC 401 a):G8 a b=some (decide (a=b)):=by obtain⟨A,C,e,f,g,⟨i,j,k⟩,D⟩:=a;obtain⟨E,F,l,m,b4,⟨n,o,p⟩,G⟩:=b;obtain⟨_,⟨v,c⟩,x,d,y,_⟩:=h;simp only at v c x d y;have q:=v0B e l oM (λw z=>by have:=(c w z).2;omega);have s:=F05 (a:=f) (b:=m) oM;have t:=F05 (a:=g) (b:=b4) (by have:=d.2;omega);have u:=K08 (i,j,k) (n,o,p) (by simp only;omega);simp only[G8,q,s,t,u,l0z,oB,eqW,O06];congr 1;grind
def w0B(a b:L2)(h:smC 401 a):R02 a b=some (decide (a=b)):=by rw[←i0y a b h];have j:=h.2.2.2.2.1;obtain⟨k,l,m,n,o,⟨c,d,e⟩,p⟩:=a;obtain⟨q,s,t,u,b4,⟨f,g,i⟩,v⟩:=b;simp only at j;have w:=K08 (c,d,e) (f,g,i) (by simp only;omega);grind[Z0d,G8,R02,T0B,t0B]
def smN(x:U0d):Prop:=x.2.length<=100/\∀ c∈x.2,smC 401 c
def smN.len{x:U0d}(h:smN x):g0z x:=⟨by have:=h.1;omega,λc a=>(h.2 c a).len⟩
structure Iso (t c:B0) (P:Int->Int) (n:Nat):Prop where
 rank:c.1=t.1
 nt:t.2.1=(n:Int)
 nc:c.2.1=(n:Int)
 ft:H0 t=true
 fc:H0 c=true
 rng:∀ x:Int,0<=x->x<(n:Int)->0<=P x/\P x<(n:Int)
 inj:∀ x y:Int,0<=x->x<(n:Int)->0<=y->y<(n:Int)->P x=P y->x=y
 mem:∀ e',e'∈c.2.2↔∃ e∈t.2.2,e'=(P e.1,e.2.1,P e.2.2)
def Iso.inE{t c:B0}{P:Int->Int}{n:Nat}(a:Iso t c P n){e:Q0}(b:e∈t.2.2):(0<=e.1/\e.1<(n:Int))/\(0<=e.2.2/\e.2.2<(n:Int)):=by have:=(P0 a.ft).1 e b;rw[a.nt]at this;grind
def Iso.comp{a b c:B0}{P Q:Int->Int}{n:Nat}(d:Iso a b P n)(u:Iso b c Q n):Iso a c (λx=>Q (P x)) n where
 rank:=by rw[u.rank,d.rank]
 nt:=d.nt
 nc:=u.nc
 ft:=d.ft
 fc:=u.fc
 rng:=λx h0 g=>u.rng _ (d.rng x h0 g).1 (d.rng x h0 g).2
 inj:=λx y h0 g i j h=>d.inj x y h0 g i j (u.inj _ _ (d.rng x h0 g).1 (d.rng x h0 g).2 (d.rng y i j).1 (d.rng y i j).2 h)
 mem:=λl=>by
  rw[u.mem]
  constructor
  ·rintro⟨e,k,rfl⟩
   obtain⟨f,hf,rfl⟩:=(d.mem e).1 k
   exact⟨f,hf,rfl⟩
  ·rintro⟨f,hf,rfl⟩
   exact⟨_,(d.mem _).2 ⟨f,hf,rfl⟩,rfl⟩
theorem j0y{t:B0}(hf:H0 t=true){o:List Int}(b:o.Nodup)(a:inV t.2.1.toNat o)(m:∀ x:Int,0<=x->x<t.2.1->x∈o):
  Iso t (A6 t o) (getI (plc t.2.1.toNat o)) t.2.1.toNat/\(∀(i:Nat) (v:Int),o[i]?=some v->getI (plc t.2.1.toNat o) v=(i:Int)):=by
 have C:=Y1 hf
 obtain⟨z,D,E,F⟩:=P0 hf
 have q:=I9 _ _ b a
 obtain⟨n,s⟩:∃ n:Nat,t.2.1=(n:Int):=⟨t.2.1.toNat,by omega⟩
 have c:t.2.1.toNat=n:=by omega
 rw[c]at a q ⊢
 have u:o.length=n:=by
  have:=a0p n o λi g=>m _ (by omega) (by omega)
  omega
 have l:∀(i:Nat) (v:Int),o[i]?=some v->getI (plc n o) v=(i:Int):=λi v g=>W0c a b g
 have f:∀ x:Int,0<=x->x<(n:Int)->0<=getI (plc n o) x/\getI (plc n o) x<(n:Int):=λx h0 d=>by
  grind[List.getElem?_of_mem,List.getElem?_eq_some_iff]
 have w:pE (plc n o) t.2.2=t.2.2.map λe=>(getI (plc n o) e.1,e.2.1,getI (plc n o) e.2.2):=W0h _ _ λe p=>by
  have:=z e p
  grind
 refine⟨⟨rfl,s,by show((o.length:Nat):Int)=_;rw[u],hf,f05 hf (by rw[c];exact a) b (by omega) (by omega),f,λx y h0 d k A h=>S0g a b h0 k (f x h0 d).1 h,λj=>?_⟩,l⟩
 show j∈H4 X0 [] (pE (plc t.2.1.toNat o) t.2.2)↔_
 rw[c,w,O4 Q3]
 grind
def Iso.next{t c:B0}{P:Int->Int}{n:Nat}(d:Iso t c P n)(v x:Int)(h0:0<=v)(k:v<(n:Int)): (S0 t v x = -1/\S0 c (P v) x = -1)∨((0<=S0 t v x/\S0 t v x<(n:Int))/\S0 c (P v) x=P (S0 t v x)):=by
 rcases r04 t v x with⟨h,p⟩|h
 ·left;refine⟨h,?_⟩;rcases r04 c (P v) x with⟨i,o⟩|i;·exact i
  exfalso;obtain⟨l,m,j⟩:=U2.1 i;obtain⟨e,f,rfl⟩:=(d.mem l).1 m;have g:=d.inE f;have:∃ y,y∈w01 v x t.2.2:=by
   rcases j with⟨a,b,c,_⟩|⟨a,b,c,_⟩;·exact⟨_,U2.2 ⟨e,f,.inl ⟨a,b,d.inj _ _ g.1.1 g.1.2 h0 k c,rfl⟩⟩⟩
   exact⟨_,U2.2 ⟨e,f,.inr ⟨a,b,d.inj _ _ g.2.1 g.2.2 h0 k c,rfl⟩⟩⟩
  grind
 right;generalize S0 t v x=y at h;obtain⟨e,f,j⟩:=U2.1 h;have g:=d.inE f;rcases j with⟨a,b,c,rfl⟩|⟨a,b,c,rfl⟩;·exact⟨g.2,K07 d.fc (U2.2 ⟨_,(d.mem _).2 ⟨e,f,rfl⟩,.inl ⟨a,b,by show P e.1=P v;rw[c],rfl⟩⟩)⟩
 exact⟨g.1,K07 d.fc (U2.2 ⟨_,(d.mem _).2 ⟨e,f,rfl⟩,.inr ⟨a,b,by show P e.2.2=P v;rw[c],rfl⟩⟩)⟩
def Iso.order{t c:B0}{P:Int->Int}{n:Nat}(b:Iso t c P n)(A:P 0=0):l3 c=(l3 t).map P:=by
 have s:∀ u:List Int,gud n u->∀ x∈u,0<=x/\x<(n:Int):=λu d x j=>by have:=d.2 x j;omega
 have G:inG (t.1,(n:Int),t.2.2):=by intro e D;have:=(P0 b.ft).1 e D;rw[b.nt]at this;exact this
 have F:(t.1,(n:Int),t.2.2)=t:=by rw[←b.nt]
 have C:∀(u:List Int) (y z:Int),gud n u->(y = -1/\z = -1)∨((0<=y/\y<(n:Int))/\z=P y)->f0a (u.map P) z=(f0a u y).map P:=λu y z d h=>by
  unfold f0a;rcases h with⟨rfl,rfl⟩|⟨⟨h0,k⟩,rfl⟩;·rw[iE oM,iE oM]
  have o:P y∈u.map P↔y∈u:=by
   constructor;·intro h;obtain⟨x,j,e⟩:=List.mem_map.1 h;have:=s u d x j;rw[←b.inj x y this.1 this.2 h0 k e];exact j
   grind
  by_cases c:y∈u;·rw[iE λq=>q.2 (o.2 c),iE λq=>q.2 c]
  rw[iP ⟨(b.rng y h0 k).1,λq=>c (o.1 q)⟩,iP ⟨h0,c⟩];simp
 have E:∀(v:Int),0<=v->v<(n:Int)->∀(g u:List Int),gud n u->h04 c (P v) g (u.map P)=(h04 t v g u).map P:=λv h0 k g=>by
  induction g with
  |nil=>intro u d;rfl
  |cons x l p =>
   intro u d;have j:S0 t v x = -1∨(0<=S0 t v x/\S0 t v x<(n:Int)):=by rcases b.next v x h0 k with⟨a,_⟩|⟨a,_⟩;all_goals grind
   rw[h04,h04,C u _ _ d (b.next v x h0 k),p _ (G0q d j)]
 have w:∀(f i:Nat) (u:List Int) (g:List Int),gud n u->Q9 c g f i (u.map P)=(Q9 t g f i u).map P:=λf=>by
  induction f with
  |zero=>intro i u g d;rfl
  |succ f p =>
   intro i u g d;unfold Q9;rw[List.getElem?_map];cases e:u[i]? with
   |none=>rfl
   |some v =>have H:=s u d v (mG e);grind[gud,h04,v07]
 obtain⟨_,_,I,_⟩:=P0 b.ft;have m:=w (n+1) 0 [0] (Y5 t.1.toNat 1) ⟨oS,λx j=>oG⟩;rw[List.map_cons,List.map_nil,A]at m;show Q9 c (Y5 c.1.toNat 1) (c.2.1.toNat+1) 0 [0]=(Q9 t (Y5 t.1.toNat 1) (t.2.1.toNat+1) 0 [0]).map P;rw[b.rank,b.nc,b.nt,(iN)];exact m
def Iso.canon{t c:B0}{P:Int->Int}{n:Nat}(a:Iso t c P n)(h:P 0=0)(j:∀ x:Int,0<=x->x<(n:Int)->x∈l3 t):R3 c=R3 t:=by
 have m:=a.order h;obtain⟨⟨s,k⟩,d⟩:=z05 a.ft;obtain⟨⟨u,l⟩,_⟩:=z05 a.fc;rw[a.nt,(iN)]at k;rw[a.nc,(iN)]at l;have g:∀ x:Int,0<=x->x<(n:Int)->getI (plc n (l3 c)) (P x)=getI (plc n (l3 t)) x/\0<=getI (plc n (l3 t)) x:=λx h0 d=>by obtain⟨i,v⟩:=List.getElem?_of_mem (j x h0 d);grind[l3,W0c]
 unfold R3 A6;rw[a.nt,a.nc,(iN),a.rank,show(l3 c).length=(l3 t).length by rw[m,List.length_map]];refine congrArg (λz=>(t.1,_,z)) (C0b Q3 (s03 Q3 _ _ .nil) (s03 Q3 _ _ .nil) λq=>?_);have o:pE (plc n (l3 t)) t.2.2=t.2.2.map λe=>(getI (plc n (l3 t)) e.1,e.2.1,getI (plc n (l3 t)) e.2.2):=W0h _ _ λe b=>by have:=a.inE b;grind
 have p:pE (plc n (l3 c)) c.2.2=c.2.2.map λe=>(getI (plc n (l3 c)) e.1,e.2.1,getI (plc n (l3 c)) e.2.2):=W0h _ _ λe b=>by obtain⟨f,hf,rfl⟩:=(a.mem e).1 b;have:=a.inE hf;grind
 rw[O4 Q3,O4 Q3,o,p];simp only[List.not_mem_nil,false_or,List.mem_map];constructor;·rintro⟨e,b,rfl⟩;obtain⟨f,hf,rfl⟩:=(a.mem e).1 b;have:=a.inE hf;grind
 rintro⟨f,hf,rfl⟩;have:=a.inE hf;exact⟨_,(a.mem _).2 ⟨f,hf,rfl⟩,by rw[(g f.1 this.1.1 this.1.2).1,(g f.2.2 this.2.1 this.2.2).1]⟩
def Iso.perm{t c:B0}{P:Int->Int}{n:Nat}(d:Iso t c P n):c.2.2.Perm (t.2.2.map λe=>(P e.1,e.2.1,P e.2.2)):=by
 have k:=M08 (B05 (Y1 d.ft));have l:=M08 (B05 (Y1 d.fc));have p:(t.2.2.map λe=>((P e.1,e.2.1,P e.2.2):Q0)).Nodup:=by rw[List.Nodup,List.pairwise_map];refine List.Pairwise.imp_of_mem (λ{a b} m o h e=>h ?_) k;have f:=d.inE m;have g:=d.inE o;simp only[Prod.mk.injEq]at e;have i:=d.inj _ _ f.1.1 f.1.2 g.1.1 g.1.2 e.1;have j:=d.inj _ _ f.2.1 f.2.2 g.2.1 g.2.2 e.2.2;obtain⟨s,u,v⟩:=a;obtain⟨w,x,f2⟩:=b;simp only at i j e;rw[i,j,e.2.1]
 refine(List.perm_ext_iff_of_nodup l p).2 λq=>?_;rw[d.mem,List.mem_map];grind
def Iso.len{t c:B0}{P:Int->Int}{n:Nat}(s:Iso t c P n):c.2.2.length=t.2.2.length:=by rw[s.perm.length_eq,List.length_map]
def Iso.rch{t c:B0}{P:Int->Int}{n:Nat}(d:Iso t c P n){a x:Int}(h:Rch t.2.2 a x):Rch c.2.2 (P a) (P x) :=
 Rch.sub (P:=λx=>Rch c.2.2 (P a) (P x)) .base (λe b=>Rch.closed (P e.1,e.2.1,P e.2.2) ((d.mem _).2 ⟨e,b,rfl⟩)) h
def Iso.onto{t c:B0}{P:Int->Int}{n:Nat}(f:Iso t c P n){y:Int}(h0:0<=y)(g:y<(n:Int)):∃ x:Int,(0<=x/\x<(n:Int))/\P x=y:=by
 let L:List Int:=(List.range n).map λi:Nat=>P (i:Int)
 have k:L.Nodup:=by rw[List.Nodup,List.pairwise_map];refine List.Pairwise.imp_of_mem (λ{a b} p q h e=>h ?_) List.nodup_range;have:=f.inj _ _ oM oG oM oG e;omega
 have m:inV n L:=λz d=>by obtain⟨i,l,rfl⟩:=List.mem_map.1 d;have:=List.mem_range.1 l;exact f.rng _ oM oM
 have s:y∈L:=by
  refine Classical.byContradiction λj=>?_;have o:=I9 n (y::L) (List.nodup_cons.2 ⟨j,k⟩) λz d=>by
   rcases mE.1 d with rfl|d;·exact⟨h0,g⟩
   exact m z d
  grind
 grind
def Rch.tr{es:List Q0}{a b c:Int}(h:Rch es a b)(k:Rch es b c):Rch es a c:=Rch.sub (P:=λx=>Rch es a x) h Rch.closed k
theorem F0l{g:B0}(h:D1 g):R3 g=g/\J9 g=none:=by unfold D1 O06 at h;simp only[aE,dE,Option.isNone_iff_eq_none]at h;exact⟨h.2.2,h.2.1⟩
def k0y{g:B0}(h:D1 g){v:Int}(h0:1<=v)(b:v<g.2.1):2<=Z02 v g.2.2/\Rch g.2.2 0 v:=by have a:=F0b (F0l h).2 v.toNat oM oM;unfold N0a at a;rw[show((v.toNat:Nat):Int)=v by omega]at a;simp only[Bool.or_eq_false_iff,Bool.not_eq_false',dE,decide_eq_false_iff_not]at a;exact⟨oM,(Q06 _ _ _).1 a.2⟩
def H0r{g:B0}(h:D1 g){v:Int}(h0:0<=v)(a:v<g.2.1):Rch g.2.2 0 v:=by
 by_cases c:v=0;·rw[c];exact .base
 exact(k0y h oM a).2
def K0n{g:B0}{v:Int}(h0:0<=v):∀ x:Int,0<=x->x<g.2.1->x∈s08 g v:=λx a b=>by
 unfold s08;by_cases c:x=v;·rw[c];exact mS
 refine mC _ ?_;have:=Y0h v.toNat g.2.1.toNat 0 x.toNat (Nat.zero_le _) oM oM;rw[show((x.toNat:Nat):Int)=x by omega]at this;exact this
def M0A{g:B0}(hf:H0 g){v:Int}(a:0<=v/\v<g.2.1):∃ P,Iso g (A6 g (s08 g v)) P g.2.1.toNat/\P v=0:=by obtain⟨b,c,f⟩:=Y0c hf a;obtain⟨e,d⟩:=j0y hf c b (K0n a.1);exact⟨_,e,d 0 v rfl⟩
end Go.Proofs.YthkpbcnhdhfifaaGreat
