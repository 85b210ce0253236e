/- Texts of the claim, joined: Plain laws: powers of a word inside a subgroup and others. -/
import Derived.Test.YthakcafglempaaaGreatPart36
import Derived.Test.YthakcafglempaaaGreatPart37
import Derived.Test.YthakcafglempaaaGreatPart25
import Derived.Test.YthakcafglempaaaGreatPart35
import Derived.Test.YthakcafglempaaaGreatPart34
import Derived.Test.YthakcafglempaaaGreatAfcr
namespace Go.Proofs.YthakcafglempaaaGreat
set_option linter.all false
open Go.H
open IntKind (i64)
def M0y:∀(n:Nat) (l:List Int),rdP l->l≠[]->(ccA n l).1≠[]
 |0,l,h,h0=>h0
 |n+1,l,h,h0=>by
  by_cases c:2<=l.length/\l.headD 0 = -(l.getLastD 0);·obtain⟨a,m,b,rfl,d,f,g⟩:=z0z c.1;have i:=c.2;rw[d,f]at i;unfold ccA;rw[iP c];simp only[g];refine M0y n m (x0z (P:=[a]) (Q:=[b]) (by simpa using h)) λe=>?_;subst e;exact h [] a b [] rfl oM
  rw[V0f c];exact h0
def pwA(g:j0)(c:List Int)(s:Int):Nat->Int->Int->Int
 |0,_,_=>0
 |d+1,v,k=>if(L2 g v c).2<c.length then 0 else if(L2 g v c).1=s then k else pwA g c s d (L2 g v c).1 (k+1)
def s07(g:j0)(w:List Int):Int :=
 bif w.isEmpty then 1 else(bif decide ((L2 g 0 (n04 w).2).2<(n04 w).2.length)then 0 else pwA g (n04 w).1 (L2 g 0 (n04 w).2).1 g.2.1.toNat (L2 g 0 (n04 w).2).1 1)
def O0w(g:j0)(c:List Int)(s:Int):∀(d:Nat) (v k:Int),0<=k->0<=pwA g c s d v k/\pwA g c s d v k<=k+d
 |0,v,k,h=>by simp only[pwA];omega
 |d+1,v,k,h=>by
  have:=O0w g c s d (L2 g v c).1 (k+1) oM;unfold pwA;split;·omega
  split<;>omega
def P0w{g:j0}(a:0<=g.2.1/\g.2.1<=40)(w:List Int):0<=s07 g w/\s07 g w<=1000:=by
 have:=O0w g (n04 w).1 (L2 g 0 (n04 w).2).1 g.2.1.toNat (L2 g 0 (n04 w).2).1 1 oM;unfold s07;cases w.isEmpty
 ·cases decide ((L2 g 0 (n04 w).2).2<(n04 w).2.length);·simp only[zF];omega
  show(0:Int)<=0/\(0:Int)<=1000;omega
 show(0:Int)<=1/\(1:Int)<=1000;omega
def Q0w{g:j0}(e:K0 g)(c:List Int)(h:∀ x∈c,I3 x)(p:c.length<=1000)(b:Int):∀(d k fuel:Nat) (v:Int),(k:Int)+d=g.2.1+1->d<fuel->(0<=v/\v<g.2.1) -> (z7 g.2.1 g.1 g.2.2 c b (fuel+1) v true (k:Int)).bind (λl=>w9 l λ_=>some 0)=some (pwA g c b d v (k:Int))
 |0,k,fuel,v,i,hf,a=>by rw[z7.eq_2,iE (by simp only[dF (show ¬ (k:Int)<=g.2.1 by omega),zF];decide)];rfl
 |d+1,k,0,v,i,hf,a=>oM
 |d+1,k,fuel+1,v,i,hf,a=>by
  obtain⟨j,s,q,t⟩:=W0 e;have m:=u0n g e v a c h oM;have n:=h05 j q.2 c v ⟨oM,oM⟩;have o:=Q08 j c v a;rw[z7.eq_2,iP (by simp only[dT (show(k:Int)<=g.2.1 by omega),cT]),show(g.1,g.2.1,g.2.2)=g from rfl,m,oB,pwA];have f:i64.wrap ((k:Int)+1)=((k+1:Nat):Int):=by rw[w64 oM oM];omega
  by_cases c1:(L2 g v c).2<c.length;·simp only[dT c1,cT,iP c1,zF,f];rw[C0 (show H0 (-1) from⟨oM,oM⟩),oB,iE oD,z7.eq_2,iE (by cases decide (((k+1:Nat):Int)<=g.2.1)<;>decide)];rfl
  simp only[dF c1,cT,iE c1,zF,f];rw[C0 n,oB];by_cases c2:(L2 g v c).1=b;·rw[iP (by rw[c2];simp),iP c2];rfl
  rw[iE (by simp[c2]),iE c2,Q0w e c h p b d (k+1) fuel _ oM oM o,show((k+1:Nat):Int)=(k:Int)+1 by omega]
def R0w{g:j0}(i:K0 g)(c:List Int)(f:∀ x∈c,I3 x)(q:c.length<=1000)(a:Int):∀(d k fuel:Nat) (v:Int),(k:Int)+d=g.2.1+1->d<fuel->(0<=v/\v<g.2.1) -> (d00 g.2.1 g.1 g.2.2 c a (fuel+1) v (k:Int)).bind (λl=>w9 l λ_=>some 0)=some (pwA g c a d v (k:Int))
 |0,k,fuel,v,h,hf,b=>by rw[d00.eq_2,iE (by simp only[dE];omega)];rfl
 |d+1,k,0,v,h,hf,b=>oM
 |d+1,k,fuel+1,v,h,hf,b=>by
  obtain⟨e,t,j,u⟩:=W0 i;have n:=v0j g e j.2 oM v c f oM;have o:=h05 e j.2 c v ⟨oM,oM⟩;have p:=Q08 e c v b;have s:=g05 g c v;have m:i64.wrap ((k:Int)+1)=((k+1:Nat):Int):=by rw[w64 oM oM];omega
  rw[d00.eq_2,iP (by simp only[dE];omega),show(g.1,g.2.1,g.2.2)=g from rfl,n,oB,pwA];simp only[m];rw[C0 o,oB,C0 (show H0 (((L2 g v c).2:Nat):Int) from⟨oM,oM⟩),oB];by_cases c1:(L2 g v c).2<c.length;·rw[iP (by simp only[dE];omega),iP c1];rfl
  rw[iE (by simp only[dE];omega),iE c1];by_cases c2:(L2 g v c).1=a;·rw[iP (by simp only[dE];exact c2),iP c2];rfl
  rw[iE (by simp only[dE];exact c2),iE c2,R0w i c f q a d (k+1) fuel _ oM oM p,show((k+1:Nat):Int)=(k:Int)+1 by omega]
def X0n{r:Int}{w:List Int}(h:J1 r w):sm r w:=λx a=>((V7 h).2 x a).2
def Y0n{r:Int}{w:List Int}(h:J1 r w):r<=3:=by simp only[J1,aE,dE,inR]at h;omega
def w0t{r:Int}{w:List Int}(a:J1 r w):sm r (n04 w).1/\sm r (n04 w).2/\(n04 w).1.length<=24/\(n04 w).2.length<=24/\(w≠[]->(n04 w).1≠[]):=by obtain⟨wl,e⟩:=V7 a;have c:=X0n a;unfold n04;rw[T03 a];have b:=X0x (n:=(A6 [] w).length) c;have d:=v0t (A6 [] w).length w;refine⟨b.1,b.2,oM,oM,λh=>M0y _ _ ?_ h⟩;have:=y0z (L0w (Y0n a) (F0i w [] (λx h=>by cases h) c) (N08 w [] rfl));rwa [T03 a]at this
def L0u{g:j0}(t:K1 g){w:List Int}(d:J1 g.1 w):n03 g w=some (s07 g w):=by
 have hf:=G2 t;obtain⟨v,F,C,G⟩:=W0 hf;obtain⟨wl,E⟩:=V7 d;obtain⟨s1,s2,H,I,D⟩:=w0t d;have n:=K8 w (λx j=>(E x j).1.1) oM;rw[T03 d]at n;have o:=h0c g oM;rw[t]at o;have f:=y03 g.1 w oM;rw[d]at f;have A:=M0w (Y0n d) (X0n d) oM;have nm:∀ {l:List Int},sm g.1 l->∀ x∈l,I3 x:=λh x j=>by have:=h x j;exact⟨⟨oM,oM⟩,oM⟩
 have z:(0:Int)<=0/\(0:Int)<g.2.1:=⟨iR _,oM⟩;have p:=u0n g hf 0 z (n04 w).2 (nm s2) oM;have i:=h05 v C.2 (n04 w).2 0 ⟨oM,oM⟩;have u:=Q08 v (n04 w).2 0 z;have s:=Q0w hf (n04 w).1 (nm s1) oM (L2 g 0 (n04 w).2).1 g.2.1.toNat 1 9223372036854775807 (L2 g 0 (n04 w).2).1 oM oM u;have k:(n04 w).1.length=0↔w = []:=⟨λh=>Classical.byContradiction λc=>D c (List.eq_nil_of_length_eq_zero h),λh=>by subst h;rfl⟩;unfold s07;generalize n04 w=q at *;obtain⟨y,e⟩:=q;obtain⟨a,b,c⟩:=g;simp only at f p i u s k ⊢;unfold n03;simp only[n,o,oB,bT,bF,H1,f,zF,fT,if_false,A,p];by_cases c0:w = []
 ·subst c0;have m:=k.2 rfl;rw[m];cases decide ((L2 (a,b,c) 0 e).2<e.length);·simp only[zF];rw[C0 i];rfl
  simp only[cT];rw[C0 (show H0 (-1) from⟨oM,oM⟩)];rfl
 have m : ¬ y.length=0:=λh=>c0 (k.1 h);rw[show w.isEmpty=false by cases w with|nil=>exact absurd rfl c0|cons x r=>rfl];by_cases c1:(L2 (a,b,c) 0 e).2<e.length;·simp only[dT c1,cT,zF];rw[C0 (show H0 (-1) from⟨oM,oM⟩),oB,iE (by simp only[dE];omega),show P0=9223372036854775807+1 from rfl,z7.eq_2,iE (by cases decide ((1:Int)<=b)<;>decide)];rfl
 simp only[dF c1,zF];rw[C0 i,oB,iE (by simp only[dE];omega)];exact s
def M0u{g:j0}(p:K1 g){w:List Int}(d:J1 g.1 w):o03 g w=some (s07 g w):=by
 have hf:=G2 p;obtain⟨i,D,t,E⟩:=W0 hf;obtain⟨wl,H⟩:=V7 d;obtain⟨s1,s2,F,A,G⟩:=w0t d;have j:=U0a w oM;rw[T03 d]at j;have k:=q00 g oM;rw[p]at k;have e:=U00 g.1 w oM;rw[d]at e;have u:=N0w (Y0n d) (X0n d) oM;have nm:∀ {l:List Int},sm g.1 l->∀ x∈l,I3 x:=λh x y=>by have:=h x y;exact⟨⟨oM,oM⟩,oM⟩
 have z:(0:Int)<=0/\(0:Int)<g.2.1:=⟨iR _,oM⟩;have m:=v0j g i t.2 oM 0 (n04 w).2 (nm s2) oM;have n:=h05 i t.2 (n04 w).2 0 ⟨oM,oM⟩;have v:=g05 g (n04 w).2 0;have s:=Q08 i (n04 w).2 0 z;have o:=R0w hf (n04 w).1 (nm s1) oM (L2 g 0 (n04 w).2).1 g.2.1.toNat 1 9223372036854775807 (L2 g 0 (n04 w).2).1 oM oM s;unfold s07;generalize n04 w=q at *;obtain⟨C,f⟩:=q;obtain⟨a,b,c⟩:=g;simp only at e m n s v o A ⊢;unfold o03;simp only[j,k,oB,bT,bF,H1,e,zF,fT,if_false];cases w with
 |nil=>rfl
 |cons x r =>
  rw[iE (by simp only[lC,dE];omega),u];simp only[oB,m,List.isEmpty_cons,zF];rw[C0 n,oB,C0 (show H0 (((L2 (a,b,c) 0 f).2:Nat):Int) from⟨oM,oM⟩),oB];by_cases c1:(L2 (a,b,c) 0 f).2<f.length;·rw[iP (by simp only[dE];omega),dT c1];rfl
  rw[iE (by simp only[dE];omega),dF c1];exact o
set_option maxRecDepth 10000
def G0i{g:j0}{w:List Int}(h:(z02 g w).2):U07 (z02 g w).1:=by
 unfold z02 at h ⊢;cases c:(K1 g&&(J1 g.1 w && !o9 g w));·rw[c]at h;cases h
 rw[c]at h;simp only[cT]at h ⊢;cases c1:(e04 g w).2;·rw[c1]at h;cases h
 rw[c1]at h;simp only[cT]at h ⊢;cases c2:(P06 (e04 g w).1).2;·rw[c2]at h;cases h
 obtain⟨_,a,b,d⟩:=U0n c2;rw[d];have:=D0w a b;unfold z07 at this;simp only[cT];unfold q06;rw[I0n (m0c a b)];exact this
def byT(S:j0×Bool):List UInt8:=bif S.2 then [111,117,116,32,98,121,32,105,110,100,101,120,32]++fI S.1.2.1 else [111,117,116]
def pwT(n:Int)(s:List UInt8):List UInt8:=if n>0 then s ++ [32,112,111,119,101,114,32]++fI n else s
def E03(g:j0)(w:List Int):BA :=
 bif K1 g&&J1 g.1 w then(bif(W03 g w).2 then B ([105,110,32,97,115,32]++S0g (W03 g w).1)else B (pwT (s07 g w) (byT (z02 g w))))else B []
theorem bs3:(⟨#[111,117,116]⟩:BA)=B [111,117,116]:=rfl
def c0h(g:j0)(v:g.2.2.length<=1099511627776)(w:List Int)(q:w.length<=140737488355328):s00 g w=some (E03 g w):=by
 have e:=h0c g oM;have d:=y03 g.1 w q;have k:=J0u g v w q;unfold E03;cases hc:K1 g;·rw[hc]at e;obtain⟨a,b,c⟩:=g;unfold s00;simp only[e,oB,bF,bT,O1,cT,if_true,Bool.false_and,zF]
 rw[hc]at e;cases hwd:J1 g.1 w;·rw[hwd]at d;obtain⟨a,b,c⟩:=g;simp only at d;unfold s00;simp only[e,oB,bF,bT,H1,d,zF,if_true,Bool.true_and]
 rw[hwd]at d;have hf:=G2 hc;obtain⟨F,G,H,I⟩:=W0 hf;obtain⟨wl,J⟩:=V7 hwd;have t:=d0q hc hwd;obtain⟨A,C⟩:=R08 hf w;have m:=L0u hc hwd;have E:=P0w (g:=g) ⟨oM,oM⟩ w;have f:=E07 (W03 g w).1 C oM;rw[m07]at f;have u:=K08 (W03 g w).1;have p:(z02 g w).2->1<=(z02 g w).1.2.1/\(z02 g w).1.2.1<=40:=λh=>(W0 (G2 (j0k (G0i h)))).2.2.1;have i:=w8 (s07 g w) ⟨oM,oM⟩;have D:=Q00 (s07 g w);have f2:=Q00 (z02 g w).1.2.1;have s:(z02 g w).2->_:=λh=>w8 (z02 g w).1.2.1 ⟨by have:=p h;omega,by have:=p h;omega⟩;have o:H0 (s07 g w):=⟨oM,oM⟩;generalize W03 g w=R at *;obtain⟨l,ok⟩:=R;obtain⟨a,b,c⟩:=g;simp only at d f u A;unfold s00;simp only[e,oB,bT,bF,H1,d,zF,fT,if_false,t,Bool.true_and,cT];cases ok
 ·generalize z02 (a,b,c) w=S at *;generalize s07 (a,b,c) w=n at *;obtain⟨⟨x,y,z⟩,ok⟩:=S;unfold byT pwT;cases ok
  ·simp only[fT,if_false,k,oB,bs3,show(⟨#[32,112,111,119,101,114,32]⟩:BA)=B [32,112,111,119,101,114,32] from rfl,F08,C4,n06,m,i,lA,lC,lN,zF];rw[C0 o,oB];by_cases c:n>0;·rw[iP (by simpa using c),iP c,C0 oM,oB,C0 oM,oB,C0 oM,oB]
   rw[iE (by simpa using c),iE c]
  have j:=s rfl;simp only at j f2;simp only[fT,if_false,k,oB,if_true,bs3,show(⟨#[32,98,121,32,105,110,100,101,120,32]⟩:BA)=B [32,98,121,32,105,110,100,101,120,32] from rfl,show(⟨#[32,112,111,119,101,114,32]⟩:BA)=B [32,112,111,119,101,114,32] from rfl,F08,C4,j,n06,m,i,lA,lC,lN,cT,zF];rw[C0 oM,oB,C0 oM,oB,C0 oM,oB,C0 o,oB];by_cases c:n>0;·rw[iP (by simpa using c),iP c,C0 oM,oB,C0 oM,oB,C0 oM,oB];simp only[List.append_assoc,List.cons_append,nA]
  rw[iE (by simpa using c),iE c];simp only[List.append_assoc,List.cons_append,nA]
 simp only[if_true,f,oB,show(⟨#[105,110,32,97,115,32]⟩:BA)=B [105,110,32,97,115,32] from rfl,F08,C4,lC,lN,cT];rw[C0 oM,oB,C0 oM,oB]
def d0h(g:j0)(G:g.2.2.length<=1099511627776)(w:List Int)(v:w.length<=140737488355328):Y8 g w=some (E03 g w):=by
 have f:=q00 g oM;have e:=U00 g.1 w v;have p:=K0u g G w v;unfold E03;cases hc:K1 g;·rw[hc]at f;obtain⟨a,b,c⟩:=g;unfold Y8;simp only[f,oB,bF,bT,O1,cT,if_true,Bool.false_and,zF]
 rw[hc]at f;cases hwd:J1 g.1 w;·rw[hwd]at e;obtain⟨a,b,c⟩:=g;simp only at e;unfold Y8;simp only[f,oB,bF,bT,H1,e,zF,if_true,Bool.true_and]
 rw[hwd]at e;have hf:=G2 hc;obtain⟨O,P,Q,T⟩:=W0 hf;obtain⟨wl,U⟩:=V7 hwd;have D:=e0q hc hwd;obtain⟨J,K⟩:=R08 hf w;have q:=M0u hc hwd;have M:=P0w (g:=g) ⟨oM,oM⟩ w;have i:=F07 (W03 g w).1 K oM;rw[m07]at i;have E:=K08 (W03 g w).1;have k:(z02 g w).2->1<=(z02 g w).1.2.1/\(z02 g w).1.2.1<=40:=λh=>(W0 (G2 (j0k (G0i h)))).2.2.1;have F:(z02 g w).2->k03 (z02 g w).1=some (z02 g w).1.2.1:=λh=>by rw[g0l _ (by have:=(W0 (G2 (j0k (G0i h)))).2.2.2;omega)];unfold f08;rw[G0i h];rfl
 have m:=A9 (s07 g w) ⟨oM,oM⟩;have L:=Q00 (s07 g w);have f2:=Q00 (z02 g w).1.2.1;have C:(z02 g w).2->_:=λh=>A9 (z02 g w).1.2.1 ⟨by have:=k h;omega,by have:=k h;omega⟩;have s:H0 (s07 g w):=⟨oM,oM⟩;generalize W03 g w=R at *;obtain⟨l,ok⟩:=R;obtain⟨a,b,c⟩:=g;simp only at e i E J;unfold Y8;simp only[f,oB,bT,bF,H1,e,zF,fT,if_false,D,Bool.true_and,cT];cases ok
 ·generalize z02 (a,b,c) w=S at *;generalize s07 (a,b,c) w=n at *;obtain⟨⟨x,y,z⟩,ok⟩:=S;unfold byT pwT;have u:=λ(d:List UInt8) (N:d.length<=1000)=>Z0n [d,[112,111,119,101,114],fI n] oS (by simp only[bsz,lC,lN];omega);cases ok
  ·have j:=u [111,117,116] oD;simp only[fT,if_false,p,oB,bs3,C4,n06,q,m,zF];rw[C0 s,oB];by_cases c:n>0;·rw[iP (by simpa using c),iP c,C0 oM,oB,show ∀ d,[B d,(⟨#[112,111,119,101,114]⟩:BA),B (fI n)] = [d,[112,111,119,101,114],fI n].map B from λd=>rfl,j,oB,C0 (by rw[C4];simp only[K03,T00,lA,lC,lN];omega),oB];simp[K03,T00]
   rw[iE (by simpa using c),iE c]
  have o:=C rfl;have A:=F rfl;have I:=k rfl;simp only at o f2 A I;have t:=Z0n [[111,117,116],[98,121,32,105,110,100,101,120],fI y] oS (by simp only[bsz,lC,lN];omega);have j:=u ([111,117,116,32,98,121,32,105,110,100,101,120,32]++fI y) (by simp only[lA,lC,lN];omega);rw[show K03 32 [[111,117,116],[98,121,32,105,110,100,101,120],fI y] = [111,117,116,32,98,121,32,105,110,100,101,120,32]++fI y by simp[K03,T00]]at t;simp only[fT,if_false,p,oB,if_true,A,o,n06,C4,q,m,cT,zF];rw[C0 (show H0 y from⟨oM,oM⟩),oB,C0 oM,oB,bs3,show [B [111,117,116],(⟨#[98,121,32,105,110,100,101,120]⟩:BA),B (fI y)] = [[111,117,116],[98,121,32,105,110,100,101,120],fI y].map B from rfl,t,oB,C0 (by rw[C4];simp only[lA,lC,lN];omega),oB,C0 s,oB];by_cases c:n>0;·rw[iP (by simpa using c),iP c,C0 oM,oB,show ∀ d,[B d,(⟨#[112,111,119,101,114]⟩:BA),B (fI n)] = [d,[112,111,119,101,114],fI n].map B from λd=>rfl,j,oB,C0 (by rw[C4];simp only[K03,T00,lA,lC,lN];omega),oB];simp[K03,T00]
  rw[iE (by simpa using c),iE c]
 have H:=Z0n [[105,110,32,97,115],S0g l] oS (by simp only[bsz,lC,lN];omega);simp only[if_true,i,oB,C4];rw[C0 oM,oB,show [(⟨#[105,110,32,97,115]⟩:BA),B (S0g l)] = [[105,110,32,97,115],S0g l].map B from rfl,H,oB,C0 (by rw[C4];simp only[K03,T00,lA,lC,lN];omega),oB];simp[K03,T00]
def W0f(c:j6)(hf:B0p c):P00 c=some (S07 c):=by
 obtain⟨a,r,ws,w,ks,g,n⟩:=c;obtain⟨⟨f,f2⟩,f3,⟨i,j⟩,k,l,m⟩:=hf;obtain⟨d,b,es⟩:=g;simp only at f f2 f3 i j k l m;unfold P00;have s:=F0f (d,b,es) k;simp only[s,e0b,oB,S0b r ws f f2,y03 r w f3];have v:=H0n a;have A:=Q00 r;have z:=Q00 n;have y:=K08 ks;rw[C0 (by rw[C4];omega),oB];unfold S07 H0f U0c;simp only;cases hcw:(cwL a).isEmpty with
 |true =>
  have e:(bif X0 (d,b,es)then B (C09 (d,b,es))else B []).size<=9223372036854775807:=by
   cases h:X0 (d,b,es);·show 0<=_;omega
   have:=O06 h;rw[(cT),C4];omega
  rw[C0 e];simp only[e01,hcw,bT,O1,oB,cT,Bool.false_and,zF,if_true]
 |false =>
 cases hws:j2 r ws with
 |false =>
  have e:(bif X0 (d,b,es)then B (C09 (d,b,es))else B []).size<=9223372036854775807:=by
   cases h:X0 (d,b,es);·show 0<=_;omega
   have:=O06 h;rw[(cT),C4];omega
  rw[C0 e];simp only[e01,hcw,bT,bF,H1,O1,oB,cT,Bool.false_and,Bool.and_false,zF,if_true]
 |true =>
 cases hw:J1 r w with
 |false =>
  have e:(bif X0 (d,b,es)then B (C09 (d,b,es))else B []).size<=9223372036854775807:=by
   cases h:X0 (d,b,es);·show 0<=_;omega
   have:=O06 h;rw[(cT),C4];omega
  rw[C0 e];simp only[e01,hcw,bT,bF,H1,O1,oB,cT,Bool.false_and,Bool.and_false,Bool.and_true,zF,if_true]
 |true =>
 cases e:X0 (d,b,es)with
 |false =>rw[C0 (by show 0<=_;omega)];simp only[e01,hcw,bT,bF,H1,O1,oB,cT,Bool.false_and,Bool.and_false,Bool.and_true,zF,List.isEmpty_nil,if_true]
 |true =>
 obtain⟨o,p⟩:=W05 hws;obtain⟨q,u⟩:=V0j hw;have x:=O06 e;have D:=R0a p;have C:=x07 w;have t:=j0u (d,b,es);rw[C0 (by rw[cT,C4];omega)];simp only[e01,hcw,t,bT,bF,H1,O1,oB,cT,Bool.false_and,Bool.and_false,Bool.and_true,zF,fT,if_false];simp only[w8 r l,w8 n m,h06 ws oM,M04 w oM,E07 ks i j,o,q,n06,m07,oB,show(⟨#[32]⟩:BA)=B [32] from rfl,
  show(⟨#[32,98,121,32]⟩:BA)=B [32,98,121,32] from rfl,show(⟨#[32,97,110,100,32]⟩:BA)=B [32,97,110,100,32] from rfl,F08,C4]
 iterate 20 (first|rw[C0 (by(try simp only[lA,lC,lN]);omega),oB]|skip)
 refine congrArg some (congrArg B ?_);simp[u0r,K03,T00]
def X0f(c:j6)(hf:B0p c):k02 c=some (S07 c):=by
 obtain⟨a,r,ws,w,ks,g,n⟩:=c;obtain⟨⟨f,f2⟩,f3,⟨i,j⟩,e,k,l⟩:=hf;obtain⟨d,b,es⟩:=g;simp only at f f2 f3 i j e k l;unfold k02;have q:=G0f (d,b,es) e;have s:=Z00 (d,b,es) e;have v:=H0n a;have A:=Q00 r;have z:=Q00 n;have y:=K08 ks;have t:(grd ((B (cwL a)).size<=9223372036854775807))=some ():=C0 (by rw[C4];omega);simp only[X0h,oB,g06 r ws f f2,U00 r w f3,s,t];unfold S07 H0f;simp only;cases hcw:(cwL a).isEmpty with
 |true=>simp only[e01,hcw,bT,O1,oB,cT,Bool.false_and,zF,if_true]
 |false =>
 cases hws:j2 r ws with
 |false=>simp only[e01,hcw,bT,bF,H1,O1,oB,cT,Bool.false_and,Bool.and_false,zF,if_true]
 |true =>
 cases hw:J1 r w with
 |false=>simp only[e01,hcw,bT,bF,H1,O1,oB,cT,Bool.false_and,Bool.and_false,Bool.and_true,zF,if_true]
 |true =>
 cases hg:X0 (d,b,es)with
 |false=>simp only[e01,hcw,bT,bF,H1,O1,oB,cT,Bool.false_and,Bool.and_false,Bool.and_true,zF,if_true]
 |true =>
 obtain⟨m,o⟩:=W05 hws;obtain⟨p,u⟩:=V0j hw;have x:=O06 hg;have D:=R0a o;have C:=x07 w;simp only[e01,hcw,bT,bF,H1,O1,oB,cT,Bool.false_and,Bool.and_false,Bool.and_true,zF,fT,if_false];simp only[A9 r k,A9 n l,q0f ws oM,M06 w oM,F07 ks i j,q,U0c,hg,cT,m,p,n06,m07,oB,C4];iterate 7 (first|rw[C0 oM,oB]|skip)
 have h:=y0i 32 ⟨#[]⟩ [cwL a,fI r,Y3 ws,wl w,[98,121],S0g ks,[97,110,100],C09 (d,b,es),[97,110,100],fI n] (by simp only[bsz,lC,lN];omega);simp only[List.map_cons,List.map_nil]at h;rw[show(⟨#[32]⟩:BA)=B [32] from rfl,show(⟨#[98,121]⟩:BA)=B [98,121] from rfl,show(⟨#[97,110,100]⟩:BA)=B [97,110,100] from rfl,h,oB];unfold Q0c;rw[C0 (by rw[C4];simp only[K03,T00,lA,lC,lN];omega)];rfl
def nt: ¬ (false):=oD
theorem gi0{b:Type}(a:b)(l:List b):gi (a::l) 0=some a:=rfl
theorem gi1{c:Type}(a b:c)(l:List c):gi (a::b::l) 1=some b:=rfl
theorem gi2{d:Type}(a b c:d)(l:List d):gi (a::b::c::l) 2=some c:=rfl
theorem gi3{e:Type}(a b c d:e)(l:List e):gi (a::b::c::d::l) 3=some d:=rfl
def swN{c:Type}{a b:List UInt8}{x y:c}(h:a≠b):(if M7 (B a) (B b)=true then x else y)=y:=iE (by rw[sq,dF h];decide)
def swP{b:Type}{a:List UInt8}{x y:b}:(if M7 (B a) (B a)=true then x else y)=x:=iP (by rw[sq];exact dT rfl)
def swC{c:Type}{a b:List UInt8}{p:Bool}{x y:c}(h:a≠b):(if(bif M7 (B a) (B b)then p else false)=true then x else y)=y:=iE (by rw[sq,dF h,(zF)];decide)
def p2:L03 (B [50])=some (2,true):=by decide +kernel
theorem nl2:h04 2=some ((2,[]),true):=rfl
theorem nn2:F03 2=some ((2,[]),true):=rfl
def Y0x{a:BA}(p2:L03 a=some (2,true)):Y1 (false,(0,[]),0,[]) [B [114,97,110,107],a]=some (B [111,107],true,(2,[]),2,[]):=by unfold Y1;show(gi [B [114,97,110,107],a] 0).bind _=_;rw[gi0,oB,show(⟨#[114,97,110,107]⟩:BA)=B [114,97,110,107] from rfl,sq,iP (by exact rfl),gi1,oB,p2,oB];show((grd (H0 2)).bind _)=_;rw[C0 oD,oB,nl2,oB];show(if true=true then _ else _)=_;rw[iP rfl,nn2];rfl
def A0z:Y1 (false,(0,[]),0,[]) [B [114,97,110,107],B [50]]=some (B [111,107],true,(2,[]),2,[]):=Y0x p2
def N0y{es:T5}{n:Int}{cl:o01}{nm b a:BA}{q:Bool×E3×T3}(h:l9 (true,(2,es),n,cl) [B [108,101,116],nm,b]=some (a,q))(c:a.size<=1000): Y1 (true,(2,es),n,cl) [B [108,101,116],nm,b]=some (a,q):=by obtain⟨d,⟨e,f⟩,g,i⟩:=q;unfold Y1;show(gi _ 0).bind _=_;rw[gi0,oB,swC oD,oB,swC oD,iE (by exact nt),oB,swP,h,oB];show(grd (a.size<=_)).bind _=_;rw[C0 oM];rfl
def B0z{es:T5}{n:Int}{cl:o01}{a b c:BA}(h:y00 (true,(2,es),n,cl) (B [115,97,109,101]) a b=some c)(d:c.size<=1000): Y1 (true,(2,es),n,cl) [B [115,97,109,101],a,b]=some (c,true,(2,es),n,cl):=by unfold Y1;show(gi _ 0).bind _=_;rw[gi0,oB,swC oD,oB,swC oD,iE (by exact nt),oB,swN oD,swN oD,swN oD,swN oD,swN oD,swN oD,swN oD,swN oD,swN oD,swN oD,swP,iP (by exact rfl),oB,gi1,oB,gi2,oB,h,oB,C0 oM];rfl
def F0A{es:T5}{n:Int}{cl:o01}{nm b a:BA}{g:j0}{w:List Int}(c:j00 (2,es) nm=some (g,true))(d:J9 2 b=some (w,true))(e:Y8 g w=some a)(f:a.size<=9223372036854775807): Y1 (true,(2,es),n,cl) [B [105,115],nm,b]=some (a,true,(2,es),n,cl):=by obtain⟨h,i,j⟩:=g;unfold Y1;show(gi _ 0).bind _=_;rw[gi0,oB,swC oD,oB,swC oD,iE (by exact nt),oB,swN oD,swN oD,swN oD,swN oD,swN oD,swN oD,swN oD,swN oD,swN oD,swP,iP (by exact rfl),gi1,oB,c,oB];show(gi _ 2).bind _=_;rw[gi2,oB,d,oB];show(if(bif true then true else false)=true then _ else _)=_;rw[iP (by exact rfl),e,oB,C0 f];rfl
def x0t{es:T5}{n:Int}{cl:o01}{a b c d:BA}{q:Bool×E3×T3}(h:e00 (true,(2,es),n,cl) a b c=some (d,q))(e:d.size<=9223372036854775807): Y1 (true,(2,es),n,cl) [B [99,108,97,105,109],a,b,c]=some (d,q):=by obtain⟨f,⟨g,i⟩,j,k⟩:=q;unfold Y1;show(gi _ 0).bind _=_;rw[gi0,oB,swC oD,oB,swC oD,iE (by exact nt),oB,swN oD,swN oD,swN oD,swN oD,swN oD,swN oD,swN oD,swN oD,swN oD,swN oD,swN oD,swN oD,swN oD,swN oD,swN oD,swP,iP (by exact rfl),gi1,oB,gi2,oB,gi3,oB,h,oB];show(grd (d.size<=_)).bind _=_;rw[C0 e];rfl
def y0t{es:T5}{n:Int}{cl:o01}{t:List UInt8}(b:E2 ((cl.length:Nat):Int)=some (B t))(d:t.length<=100)(c:R7 (n,cl)=some true): Y1 (true,(2,es),n,cl) [B [110,111,116,101,115]]=some (B (t ++ [32,121,101,115]),true,(2,es),n,cl):=by have a:=Z0n [t,[121,101,115]] oS (by simp[bsz];omega);simp only[List.map_cons,List.map_nil]at a;unfold Y1;show(gi _ 0).bind _=_;rw[gi0,oB,swC oD,oB,swC oD,iE (by exact nt),oB,swN oD,swN oD,swN oD,swN oD,swN oD,swN oD,swN oD,swN oD,swN oD,swN oD,swN oD,swN oD,swN oD,swN oD,swN oD,swN oD,swP,iP (by exact rfl),b,oB,C0 (by rw[C4];omega),oB,c,oB,show i06 true=some (B [121,101,115]) from rfl,oB,C0 oD,oB,a,oB,C0 (by rw[C4];simp[K03,T00];omega)];rfl
def O0y{es b:T5}{n:Int}{cl:o01}{nm:BA}{l:List (List Int)}(a:j2 2 l)(c:K7 l)(h:l≠[])(i:(Y3 l).length<=1000000) (g:G00 (2,es) nm (D2 2 l).1=some ((2,b),true)):l9 (true,(2,es),n,cl) [B [108,101,116],nm,B (Y3 l)]=some (B [111,107],true,(2,b),n,cl):=by
 have d:=K0f a c h i;have e:=X0g 2 l (by have:=(r02 a).2.1;omega) c;have f:(D2 2 l).2:=by unfold D2;rw[a];rfl
 generalize D2 2 l=q at *;obtain⟨⟨j,k,m⟩,ok⟩:=q;cases f;unfold l9;simp only[gi0,gi1,gi2,oB,sq,d,e,g];rw[iP (by exact rfl),iE (by exact nt),iP (by first|exact rfl|trivial)];rfl
def nmH:I08 (B [104]):=oD
def nmK:I08 (B [107]):=oD
def G0A{g:j0}(b:K1 g)(c:g.1=2):G00 (2,[]) (B [104]) g=some ((2,[(B [104],g)]),true):=by obtain⟨o,p,q⟩:=g0c b;have d:=R0s (2,[]) ⟨oS,λe a=>by cases a⟩;have f:=d0b (2,[]) ⟨oS,λe a=>by cases a⟩;have h:=P0a (B [104]) oD;have i:=q00 g oM;have j:=N00 g oM;have k:=s0r (2,[]) (B [104]) oS;obtain⟨l,m,n⟩:=g;simp only at c;subst c;unfold G00;simp only[d,f,h,i,j,k,nmH,b,show k07 (2,[])=true from rfl,show B09 (2,[]) (B [104])=none from rfl,oB,bT,bF,H1,zF,decide_true];rw[iE (by exact nt),C0 oD,oB,iE (by exact nt),iE (by exact nt),show P0=(P0-1)+1 from rfl,Z8.eq_2];simp only[lN,Int.natCast_zero,show decide ((0:Int)<0)=false from rfl,O1,oB,zF,fT,if_false];rw[C0 oS,oB,S7.eq_2,iE (by exact nt)];rfl
def H0A:X0o (B [104]) (B [107]):=by unfold X0o;rw[ByteArray.toList_eq,ByteArray.toList_eq];decide
def I0A{g x:j0}(h:K1 g)(t:g.1=2)(i:K1 x)(j:x.1=2):G00 (2,[(B [104],g)]) (B [107]) x=some ((2,[(B [104],g),(B [107],x)]),true):=by
 obtain⟨A,C,D⟩:=g0c h;obtain⟨y,p2,z⟩:=g0c i;have f:∀ e∈[((B [104],g):K0a)],e=(B [104],g):=λe d=>List.mem_singleton.1 d;have k:=R0s (2,[(B [104],g)]) ⟨oS,λe d=>by rw[f e d];exact⟨by show(B [104]).size<=_;decide,by simp only;omega⟩⟩;have l:=d0b (2,[(B [104],g)]) ⟨oS,λe d=>by rw[f e d];exact⟨by show(B [104]).size<=_;decide,by simp only;omega⟩⟩;have m:=P0a (B [107]) oD;have n:=q00 x oM;have o:=N00 x oM;have p:=s0r (2,[(B [104],g)]) (B [107]) oS;have s:k07 (2,[(B [104],g)]):=by unfold k07;simp[okL,C0x,nmH,h,t,inR]
 have q:B09 (2,[(B [104],g)]) (B [107])=none:=by unfold B09;simp[fnd,sq]
 obtain⟨u,v,w⟩:=x;simp only at j;subst j;unfold G00;simp only[k,l,m,n,o,p,nmK,i,s,q,oB,bT,bF,H1,zF,decide_true];rw[iE (by exact nt),C0 oD,oB,iE (by exact nt),iE oS,show P0=(P0-2)+1+1 from rfl,Z8.eq_2];obtain⟨a,b,c⟩:=g;simp only[lC,lN,show decide ((0:Int)<((0+1:Nat):Int))=true from rfl,H1,gi0,oB,cT,H0A,if_true,show i64.wrap (0+1)=1 from oD];rw[Z8.eq_2];simp only[lC,lN,show decide ((1:Int)<((0+1:Nat):Int))=false from rfl,O1,oB,zF,fT,if_false];rw[C0 oS,oB,S7.eq_2,iE (by exact nt)];rfl
def lk1{g x:j0}(b:g.2.2.length<=120)(c:x.2.2.length<=120):j00 (2,[(B [104],g),(B [107],x)]) (B [104])=some (g,true):=by
 rw[P0f _ _ ⟨oS,λe a=>by
  simp only[mE,List.not_mem_nil,or_false]at a;rcases a with rfl|rfl;·exact⟨by show(B [104]).size<=_;decide,by simp only;omega⟩
  exact⟨by show(B [107]).size<=_;decide,by simp only;omega⟩⟩]
 simp[O0f,B09,fnd,sq]
def lk2{g x:j0}(b:g.2.2.length<=120)(c:x.2.2.length<=120):j00 (2,[(B [104],g),(B [107],x)]) (B [107])=some (x,true):=by
 rw[P0f _ _ ⟨oS,λe a=>by
  simp only[mE,List.not_mem_nil,or_false]at a;rcases a with rfl|rfl;·exact⟨by show(B [104]).size<=_;decide,by simp only;omega⟩
  exact⟨by show(B [107]).size<=_;decide,by simp only;omega⟩⟩]
 simp[O0f,B09,fnd,sq]
def C0z{g:j0}(d:g.2.2.length<=120){n:Int}{cl:o01}:y00 (true,(2,[(B [104],g),(B [107],g)]),n,cl) (B [115,97,109,101]) (B [104]) (B [107])=some (B [121,101,115]):=by have e:=lk1 d d;have f:=lk2 d d;have h:=O0g g g oM;have i:V0b g g:=dT rfl;obtain⟨a,b,c⟩:=g;unfold y00;simp only[e,f,oB,sq];rw[iE (by exact nt),iP (by exact rfl),h,i];rfl
def j0A:I2 (B [105,110]) P0 0 1=some 1:=by
 have a:E5 1=some (B [105,110]):=rfl;have b:E5 2=some (B [111,117,116]):=rfl;have c:E5 3=some (B [115,97,109,101]):=rfl;have d:E5 4=some (B [99,111,110,106,117,103,97,116,101]):=rfl;have e:E5 5=some (B [102,114,101,101]):=rfl;have f:E5 6=some (B [105,110,100,101,120]):=rfl;rw[show P0=(P0-7)+1+1+1+1+1+1+1 from rfl];rw[I2.eq_2,iP (by exact rfl),a,oB,C0 oD,oB,sq,iP (by exact rfl),show i64.wrap (1+1)=2 from oD,
  I2.eq_2,iP (by exact rfl),b,oB,C0 oD,oB,sq,iE (by exact nt),show i64.wrap (2+1)=3 from oD,
  I2.eq_2,iP (by exact rfl),c,oB,C0 oD,oB,sq,iE (by exact nt),show i64.wrap (3+1)=4 from oD,
  I2.eq_2,iP (by exact rfl),d,oB,C0 oD,oB,sq,iE (by exact nt),show i64.wrap (4+1)=5 from oD,
  I2.eq_2,iP (by exact rfl),e,oB,C0 oD,oB,sq,iE (by exact nt),show i64.wrap (5+1)=6 from oD,
  I2.eq_2,iP (by exact rfl),f,oB,C0 oD,oB,sq,iE (by exact nt),show i64.wrap (6+1)=7 from oD,
  I2.eq_2,iE (by exact nt)]
def Z0x{es:T5}{l:List (List Int)}{w:List Int}(a:j2 2 l)(b:K7 l)(j:∀ x∈l,x.length<=1000)(u:l≠[])(y:(Y3 l).length<=1000000)(d:J1 2 w){t:List UInt8}(k:S07 (I7 1 2 l w).1=B t)(F:t.length<=1000000): e00 (true,(2,es),2,[]) (B [105,110]) (B (Y3 l)) (B (wl w))=some (bif o9 (D2 2 l).1 w then(B t,true,(2,es),2,[(I7 1 2 l w).1])else(B [110,111],true,(2,es),2,[])):=by
 have D:=(r02 a).2.1;have H:=(V7 d).1;have m:=K0f a b u y;have n:=c0c d oD;have o:=D0A 2 l w oM (λx f=>by have:=j x f;omega) b oM;have e:(D2 2 l).2:=by unfold D2;rw[a];rfl
 obtain⟨i,E⟩:=W0a e;obtain⟨I,J,K⟩:=g0c i;have h:I7 1 2 l w=bif o9 (D2 2 l).1 w then((1,2,l,w,(W03 (D2 2 l).1 w).1,(D2 2 l).1,0),true)else S08:=by unfold I7;rw[e,d];unfold W03;cases o9 (D2 2 l).1 w<;>rfl
 unfold e00;simp only[m,n,oB,bT,zF,j0A,o];rw[iE (by exact nt)];cases hl:o9 (D2 2 l).1 w;·rw[h,hl];rfl
 have s:=I0y e a d hl;have v:=R08 (G2 i) w;have p:R6 (1,2,l,w,(W03 (D2 2 l).1 w).1,(D2 2 l).1,0)=some true:=by rw[g0A 2 l w _ _ 0 oM b oM oM];exact congrArg some s
 have q:=E0A (r:=2) oD (c:=(1,2,l,w,(W03 (D2 2 l).1 w).1,(D2 2 l).1,0)) rfl ⟨⟨by simp only;omega,λx f=>by have:=j x f;omega⟩,by simp only;omega,by simp only;omega,by simp only;omega⟩ p;have g:=X0f (1,2,l,w,(W03 (D2 2 l).1 w).1,(D2 2 l).1,0) ⟨⟨by simp only;omega,b⟩,by simp only;omega,⟨v.2,by simp only;omega⟩,by simp only;omega,c64 (x:=2) oD oD,c64 (x:=0) oD oD⟩;rw[h,hl,(cT)]at k ⊢;rw[k]at g;generalize D2 2 l=G at *;obtain⟨⟨z,A,C⟩,ok⟩:=G;simp only[cT,oB,bT,fT,if_false,q,g];rw[C0 (by rw[C4];omega)];rfl
def lns(L M W:List UInt8):List (List UInt8):=[[114,97,110,107,32,50],[108,101,116,32,104,32]++L,[108,101,116,32,107,32]++M,[115,97,109,101,32,104,32,107],[105,115,32,104,32]++W,[99,108,97,105,109,32,105,110,32]++L++32::W,[110,111,116,101,115]]
def scr(L M W:List UInt8):List UInt8:=[114,97,110,107,32,50]++10::([108,101,116,32,104,32]++L++10::([108,101,116,32,107,32]++M++10::([115,97,109,101,32,104,32,107]++10::([105,115,32,104,32]++W++10::([99,108,97,105,109,32,105,110,32]++L++32::W++10::([110,111,116,101,115]++10 :: []))))))
def Txt(L:List UInt8):Prop:=(∀ b∈L,44<=b.toNat)/\L.length<=100
def Txt.no{L:List UInt8}(h:Txt L){c:UInt8}(b:c.toNat<44):c ∉ L:=λa=>by have:=h.1 c a;omega
def nb{c:UInt8}{a b:List UInt8}(d:c ∉ a)(e:c ∉ b):c ∉ a++b:=λh=>(List.mem_append.1 h).elim d e
def nc{c x:UInt8}{b:List UInt8}(a:c≠x)(d:c ∉ b):c ∉ x::b:=λh=>(mE.1 h).elim a d
def a0y{L a b:List UInt8}(f:Txt L)(g:Txt a)(h:Txt b):T07 10 [] (scr L a b)=lns L a b ++ [[]]:=by have d:=f.no (c:=10) oD;have i:=g.no (c:=10) oD;have e:=h.no (c:=10) oD;unfold scr;rw[K00 [] _ oD,K00 [] _ (nb oD d),K00 [] _ (nb oD i),K00 [] _ oD,K00 [] _ (nb oD e),K00 [] _ (nb (nb oD d) (nc oD e)),K00 [] _ oD];rfl
def V07{a:List (List UInt8)}{k fuel:Nat}{l out:List UInt8}{q c:Bool×E3×T3}{b:List UInt8}(d:a[k]?=some l)(g:l≠[])(h:l.length<=1000000)(i:a.length<=100) (e:Y1 q ((T07 32 [] l).map B)=some (B b,c)) (j:out.length<=100000000) (m:b.length<=100000000) : A5 (a.map B) (fuel+1) (k:Int) (B out) q=A5 (a.map B) fuel ((k+1:Nat):Int) (B (out++b ++ [10])) c:=by obtain⟨t,⟨u,v⟩,w,x⟩:=q;obtain⟨n,⟨o,p2⟩,p,s⟩:=c;have f:=(gI.1 d).1;rw[A5.eq_2,iP (by simp;omega),U1 (show(a.map B)[k]?=some (B l) by rw[List.getElem?_map,d];rfl),oB,show(⟨#[]⟩:BA)=B [] from rfl,sq,dF g,iP (show(!false)=true from rfl),show(32:Int)=(((32:UInt8).toNat:Nat):Int) from rfl,W0v l 32 h,oB,e,oB];simp only;rw[C0 (by rw[C4];omega),oB,C0 (by rw[C4,C4];omega),oB,F08,show(⟨#[10]⟩:BA)=B [10] from rfl,C0 (by rw[C4,C4,lA,lS];omega),oB,F08,Z1 f oM]
def S0w{a:List (List UInt8)}{fuel:Nat}{out:List UInt8}{q:Bool×E3×T3}:A5 (a.map B) (fuel+1) ((a.length:Nat):Int) (B out) q=some (B out):=by obtain⟨b,⟨c,d⟩,e,f⟩:=q;rw[A5.eq_2,iE oS]
def w0q(mem:List UInt8)(b:Bool)(t:List UInt8):List UInt8:=[111,107,10,111,107,10,111,107,10,121,101,115,10]++mem ++ [10]++(bif b then t ++ [10,49,32,121,101,115,10]else [110,111,10,48,32,121,101,115,10])
def D0z{l m:List (List Int)}{w:List Int}{mem t:List UInt8}(b:j2 2 l)(J:j2 2 m)(g:J1 2 w)(y:l≠[])(R:m≠[])(z:∀ x∈l,x.length<=1000)(S:∀ x∈m,x.length<=1000) (d:Txt (Y3 l)) (i:Txt (Y3 m)) (k:Txt (wl w)) (e:(D2 2 m).1=(D2 2 l).1) (O:E03 (D2 2 l).1 w=B mem) (ad:mem.length<=1000000) (P:S07 (I7 1 2 l w).1=B t) (Q:t.length<=1000000) : a9 (B (scr (Y3 l) (Y3 m) (wl w)))=some (B (w0q mem (o9 (D2 2 l).1 w) t)):=by
 have ws:K7 l:=λx u=>by have:=z x u;omega
 have U:K7 m:=λx u=>by have:=S x u;omega
 have s2:∀ {l:List (List Int)},j2 2 l->(D2 2 l).2:=λh=>by unfold D2;rw[h];rfl
 obtain⟨f,s⟩:=W0a (s2 b);have q:=v0q (r:=2) (ws:=l);have ag:=(V7 g).1;have F:=N0y (O0y (es:=[]) (n:=2) (cl:=[]) b ws y (by have:=d.2;omega) (G0A f s)) oD;have G:=N0y (O0y (n:=2) (cl:=[]) J U R (by have:=i.2;omega) (by rw[e];exact I0A f s f s)) oD;have H:=B0z (C0z (n:=2) (cl:=[]) q) oD;have I:=F0A (n:=2) (cl:=[]) (lk1 q q) (c0c g oD) ((d0h (D2 2 l).1 oM w oM).trans (congrArg some O)) (by rw[C4];omega);have j:=Z0x (es:=[(B [104],(D2 2 l).1),(B [107],(D2 2 l).1)]) b ws z y (by have:=d.2;omega) g P Q;have A:=d.no (c:=32) oD;have T:=i.no (c:=32) oD;have C:=k.no (c:=32) oD;have V:T07 32 [] [114,97,110,107,32,50] = [[114,97,110,107],[50]]:=oD;have W:T07 32 [] ([108,101,116,32,104,32]++Y3 l) = [[108,101,116],[104],Y3 l]:=by rw[show [108,101,116,32,104,32]++Y3 l = [108,101,116]++32::([104]++32::Y3 l) from rfl,K00 [] _ oD,K00 [] _ oD,a0a [] A];rfl
 have X:T07 32 [] ([108,101,116,32,107,32]++Y3 m) = [[108,101,116],[107],Y3 m]:=by rw[show [108,101,116,32,107,32]++Y3 m = [108,101,116]++32::([107]++32::Y3 m) from rfl,K00 [] _ oD,K00 [] _ oD,a0a [] T];rfl
 have Y:T07 32 [] [115,97,109,101,32,104,32,107] = [[115,97,109,101],[104],[107]]:=oD;have Z:T07 32 [] ([105,115,32,104,32]++wl w) = [[105,115],[104],wl w]:=by rw[show [105,115,32,104,32]++wl w = [105,115]++32::([104]++32::wl w) from rfl,K00 [] _ oD,K00 [] _ oD,a0a [] C];rfl
 have D:T07 32 [] ([99,108,97,105,109,32,105,110,32]++Y3 l++32::wl w) = [[99,108,97,105,109],[105,110],Y3 l,wl w]:=by rw[show [99,108,97,105,109,32,105,110,32]++Y3 l++32::wl w = [99,108,97,105,109]++32::([105,110]++32::(Y3 l++32::wl w)) from rfl,K00 [] _ oD,K00 [] _ oD,K00 [] _ A,a0a [] C];rfl
 have E:T07 32 [] [110,111,116,101,115] = [[110,111,116,101,115]]:=oD;have af:(scr (Y3 l) (Y3 m) (wl w)).length<=3000:=by have:=d.2;have:=i.2;have:=k.2;simp only[scr,lA,lC,lN];omega
 have aa:=d.2;have ab:=i.2;have ac:=k.2;unfold a9;rw[C4,dF oM,(zF),show(⟨#[]⟩:BA)=B [] from rfl,sq,dF (by simp[scr]),iE oD,show(10:Int)=(((10:UInt8).toNat:Nat):Int) from rfl,W0v _ _ oM,oB,a0y d i k];have a:(lns (Y3 l) (Y3 m) (wl w)).length<=100:=by show 7<=100;decide
 have N:i64.wrap (((List.map B (lns (Y3 l) (Y3 m) (wl w) ++ [([]:List UInt8)])).length:Int)-1)=7:=by rw[List.length_map];show i64.wrap ((8:Int)-1)=7;decide
 have L:gi (List.map B (lns (Y3 l) (Y3 m) (wl w) ++ [([]:List UInt8)])) 7=some (B []):=rfl;have K:b05 (List.map B (lns (Y3 l) (Y3 m) (wl w) ++ [([]:List UInt8)])) 0 7=some (List.map B (lns (Y3 l) (Y3 m) (wl w))):=rfl;rw[N,L,oB,swP,K,oB,iE (by rw[List.length_map];exact nt)];rw[show(0:Int)=((0:Nat):Int) from rfl,show P0=(P0-8)+1+1+1+1+1+1+1+1 from rfl];rw[V07 (l:=[114,97,110,107,32,50]) rfl oS oD a (by rw[V];exact A0z) oD oD];rw[V07 (l:=[108,101,116,32,104,32]++Y3 l) rfl oS (by simp;omega) a (by rw[W];exact F) oD oD];rw[V07 (l:=[108,101,116,32,107,32]++Y3 m) rfl oS (by simp;omega) a (by rw[X];exact G) oD oD];rw[V07 (l:=[115,97,109,101,32,104,32,107]) rfl oS oD a (by rw[Y];exact H) oD oD];rw[V07 (l:=[105,115,32,104,32]++wl w) rfl oS (by simp;omega) a (by rw[Z];exact I) oD oM];cases hb:o9 (D2 2 l).1 w;·rw[hb]at j;have o:=x0t j oD;have p:=y0t (es:=[(B [104],(D2 2 l).1),(B [107],(D2 2 l).1)]) (n:=2) (cl:=[]) (t:=[48]) oD oD (J0y 2 oD);rw[V07 (l:=[99,108,97,105,109,32,105,110,32]++Y3 l++32::wl w) rfl oS (by simp;omega) a (by rw[D];exact o) (by simp;omega) oD];rw[V07 (l:=[110,111,116,101,115]) rfl oS oD a (by rw[E];exact p) (by simp;omega) oD];rw[show((6+1:Nat):Int)=(((lns (Y3 l) (Y3 m) (wl w)).length:Nat):Int) from rfl,S0w,oB];refine congrArg (λx=>some (B x)) ?_;simp[w0q]
 rw[hb]at j;have ae:=R08 (G2 f) w;obtain⟨ah,ai,aj⟩:=g0c f;have v:(I7 1 2 l w).1=(1,2,l,w,(W03 (D2 2 l).1 w).1,(D2 2 l).1,0):=by unfold I7;rw[s2 b,g];unfold W03;rw[hb];rfl
 have M:R6 (I7 1 2 l w).1=some true:=by rw[v,g0A 2 l w _ _ 0 (by have:=(r02 b).2.1;omega) ws oM oM];exact congrArg some (I0y (s2 b) b g hb)
 have o:=x0t j (by rw[C4];omega);have p:=y0t (es:=[(B [104],(D2 2 l).1),(B [107],(D2 2 l).1)]) (n:=2) (cl:=[(I7 1 2 l w).1]) (t:=[49]) (by show E2 1=_;decide) oD (h0A oD (by rw[v]) M);rw[V07 (l:=[99,108,97,105,109,32,105,110,32]++Y3 l++32::wl w) rfl oS (by simp;omega) a (by rw[D];exact o) (by simp;omega) oM];rw[V07 (l:=[110,111,116,101,115]) rfl oS oD a (by rw[E];exact p) (by simp;omega) oD];rw[show((6+1:Nat):Int)=(((lns (Y3 l) (Y3 m) (wl w)).length:Nat):Int) from rfl,S0w,oB];refine congrArg (λx=>some (B x)) ?_;simp[w0q]
def a0o{t:j0}(j:K0 t):∀(ws:List (List Int)) {x:j0} {g:Int->Int},X0 x->(∀ w∈ws,J1 x.1 w)->V0a x t g->g 0=0->(∀ w∈ws,o9 t w)->∃ b,V0a (G07 ws x) t b/\b 0=0
 | [],x,g,d,i,m,c,f=>⟨g,m,c⟩
 |w::r,x,g,d,i,m,c,f=>by
  obtain⟨l,n,o,p⟩:=Y2 d;cases h:(V1 x 0 w 0).2
  ·have e:(V1 x 0 w 0).1=x:=by
    unfold V1 at h ⊢;cases hc:(!w.isEmpty&&decide (x.2.1+(w.length:Int)-1<=40)&&decide (x.2.2.length+w.length<=120));·rfl
    rw[hc]at h;cases h
   show ∃ b,V0a (G07 r (V1 x 0 w 0).1) t b/\b 0=0;rw[e];exact a0o j r d (λu a=>i u (mC _ a)) m c λu a=>f u (mC _ a)
  obtain⟨b,k,e⟩:=u0w d oM oM h j m (by rw[c];exact(R04 _ _).1 (f w mS));exact a0o j r (X06 d ⟨iR _,oM⟩ ⟨iR _,oM⟩ (i w mS)) (λu a=>by rw[o06];exact i u (mC _ a)) k (by rw[e 0 oM,c]) λu a=>f u (mC _ a)
def z0t{r:Int}{ws:List (List Int)}(h:j2 r ws){t:j0}(a:K0 t)(u:∀ w∈ws,o9 t w):∃ f,Mor (D2 r ws).1 t f:=by obtain⟨y,C,z⟩:=r02 h;have b:=P08 h;have D:=W0 a;obtain⟨g,m,p⟩:=a0o a ws (x:=(r,1,[])) (g:=id) (Y0c y) z ⟨λv h0 d=>⟨h0,by show v<_;have d:v<1:=d;omega⟩,λe s=>nomatch s⟩ rfl u;obtain⟨q,i⟩:=R0h b;have hf:=t04 b;obtain⟨k,n,e⟩:=i.uni t g a m;have A:=(Y2 b).2.2.1;have j:=e 0 (iR _) oM;rw[i.base,p]at j;obtain⟨l,c,o,_⟩:=s0w hf;have H:=c.hom.comp (n.hom a) c.fc;unfold D2;rw[h];exact⟨_,by show k (l 0)=0;rw[o,j],H.rng,H.step⟩
def x0q{g:j0}{a b:List Int}(h:rdw g 0 a=some 0)(k:rdw g 0 b=some 0):rdw g 0 (a++b)=some 0:=by rw[a0d,h];exact k
def h0d{r:Int}{w:List Int}(h:J1 r w):Lw w:=λx a=>⟨((V7 h).2 x a).1,((V7 h).2 x a).2.1⟩
def y0q{g:j0}(hf:K0 g){w:List Int}(a:Lw w)(h:rdw g 0 w=some 0):o9 g (A6 [] w).reverse=true :=
 (R04 _ _).2 (H0x hf (λx b=>(a x b).1.1) h)
def T0w{r:Int}{a b:List Int}(g:j2 r [a,b])(i:j2 r [(A6 [] (a++b)).reverse,inv b]):(D2 r [(A6 [] (a++b)).reverse,inv b]).1=(D2 r [a,b]).1:=by
 obtain⟨K,_,y⟩:=r02 g;obtain⟨_,_,J⟩:=r02 i;have t:=y a oS;have A:=y b oS;have n:=h0d t;have d:=h0d A;have p:∀ {l:List (List Int)},j2 r l->(D2 r l).2:=λh=>by unfold D2;rw[h];rfl
 obtain⟨o,H⟩:=W0a (p g);obtain⟨cB,I⟩:=W0a (p i);have fA:=G2 o;have j:=G2 cB;have m:=λw c=>(R04 _ _).1 (D0m g w c);have s:=λw c=>(R04 _ _).1 (D0m i w c);have E:=s (A6 [] (a++b)).reverse oS;have v:=s (inv b) oS;have D:Lw (A6 [] (a++b)).reverse:=h0d (J _ oS);have e:(A6 [] ((A6 [] (a++b)).reverse++inv b)).reverse=a:=by
  have z:Eqv ((A6 [] (a++b)).reverse++inv b) (a++(b++inv b)):=by rw[←List.append_assoc];exact(k0t (n.app d)).app (Eqv.refl d.inv)
  have q:=z.trans ((Eqv.refl n).app (C0i d));rw[List.append_nil]at q;rw[q.e [] rfl Lw.nil,T03 t]
 have C:inv (inv b)=b:=by unfold inv;rw[List.map_reverse,List.reverse_reverse,List.map_map];refine(List.map_congr_left λx u=>?_).trans (List.map_id _);have G:I3 (ng x):=(d.inv (ng x) (List.mem_reverse.2 (List.mem_map.2 ⟨x,u,rfl⟩))).1;show ng (ng x)=x;rw[B04 G,B04 (d x u).1,Int.neg_neg]
 obtain⟨f,F⟩:=z0t g j λw c=>by
  simp only[mE,List.not_mem_nil,or_false]at c;rcases c with rfl|rfl;·have h:=y0q j (D.app d.inv) (x0q E v);rw[e]at h;exact h
  have:=O0n j (inv w) 0 0 d.inv.nm (iR _) v;rw[C]at this;exact(R04 _ _).2 this
 obtain⟨k,mk⟩:=z0t i fA λw c=>by
  simp only[mE,List.not_mem_nil,or_false]at c;rcases c with rfl|rfl;·exact y0q fA (n.app d) (x0q (m a oS) (m b oS))
  exact(R04 _ _).2 (O0n fA b 0 0 d.nm (iR _) (m b oS))
 exact v0z cB o (H.trans I.symm) mk F
def byt(bs:List Int):Prop:=∀ x∈bs,0<=x/\x<256
def k0A{bs:List Int}(d:bs.length<=1048576)(h:byt bs){i:Int}(h0:0<=i)(b:i<=1000):∃ v,g08 bs i=some v/\0<=v/\v<256:=by
 unfold g08;by_cases c:i<((bs.length:Nat):Int);·rw[iP (by simpa using c)];obtain⟨y,a,e⟩:=B0A h0 c;have:=h y a;refine⟨y,?_,this.1,this.2⟩;rw[e,oB,w64 oM oM]
 rw[iE (by simpa using c),C0 oD,oB,w64 (x:=i*37) oM oM,w64 (x:=((bs.length:Nat):Int)*11) oM oM,w64 oM oM];exact⟨_,rfl,Int.tmod_nonneg _ oM,Int.tmod_lt_of_pos _ oD⟩
def U0w{bs:List Int}(b:bs.length<=1048576)(h:byt bs){from_ r most:Int}(h0:0<=from_)(p:from_<=100)(t:1<=r/\r<=100)(s:0<=most/\most<=100):∀(d k fuel:Nat) (acc:List Int),(k+d:Int)=most->d<fuel->acc.length=k->u0q r acc -> ∃ w,k00 bs from_ most r fuel (k:Int) acc=some w/\u0q r w/\(w.length:Int)<=most
 |d,k,0,acc,q,hf,_,_=>oM
 |d,k,fuel+1,acc,q,hf,E,j=>by
  obtain⟨v,e,G,H⟩:=k0A b h (i:=from_) h0 oM;have F:Int.tmod v (most+1)<most+1:=Int.tmod_lt_of_pos _ oM;rw[k00.eq_2,e,oB,C0 (show H0 v from⟨oM,oM⟩),oB,w64 (x:=most+1) oM oM,C0 oM,oB];by_cases c:(k:Int)<Int.tmod v (most+1)
  ·rw[iP (by simpa using c)];have D:0<d:=oM;obtain⟨d,rfl⟩:∃ n,d=n+1:=⟨d-1,oM⟩;rw[w64 (x:=from_+1) oM oM,w64 (x:=from_+1+(k:Int)) oM oM];obtain⟨y,o,A,I⟩:=k0A b h (i:=from_+1+(k:Int)) oM oM;have J:0<=Int.tmod y r:=Int.tmod_nonneg _ A;have K:Int.tmod y r<r:=Int.tmod_lt_of_pos _ oM;have f:i64.wrap (1+Int.tmod y r)=1+Int.tmod y r:=w64 oM oM;have l:i64.wrap (0-i64.wrap (1+Int.tmod y r)) = -(1+Int.tmod y r):=by rw[f,w64 oM oM];omega
   rw[o,oB,C0 (show H0 y from⟨oM,oM⟩),oB,C0 (show r≠0 by omega),oB,C0 oD,oB,C0 oD,oB,l,f,w64 (x:=(k:Int)+1) oM oM];have m:(k:Int)+1=((k+1:Nat):Int):=oM;have g:∀ z:Int,(z≠0 /\ -r<=z/\z<=r)->∃ w,((grd ((acc.length + [z].length)*8<=140737488355328)).bind λ_=>k00 bs from_ most r fuel ((k:Int)+1) (acc ++ [z]))=some w/\u0q r w/\(w.length:Int)<=most:=λz C=>by
    rw[C0 (by simp only[lS];omega),oB,m];refine U0w b h h0 p t s d (k+1) fuel (acc ++ [z]) oM oM (by simp;omega) λu a=>?_;rcases List.mem_append.1 a with a|a;·exact j u a
    rw[List.mem_singleton.1 a];exact C
   split;·exact g _ oM
   exact g _ oM
  rw[iE (by simpa using c)];exact⟨acc,rfl,j,oM⟩
def b0o{bs:List Int}(f:bs.length<=1048576)(h:byt bs){from_ r most:Int}(h0:0<=from_)(c:from_<=100)(i:1<=r/\r<=100)(a:0<=most/\most<=100):∃ u:List Int,F04 bs from_ r most=some (A6 [] u).reverse/\u0q r u/\(u.length:Int)<=most:=by
 obtain⟨d,rfl⟩:=Int.eq_ofNat_of_zero_le a.1;obtain⟨w,e,b,g⟩:=U0w f h h0 c i a d 0 P0 [] oM (j1 oM) rfl λz j=>by cases j
 refine⟨w,?_,b,g⟩;have e:k00 bs from_ (d:Int) r P0 0 []=some w:=e;unfold F04;rw[e,oB,K8 w (b.all oM) oM,oB]
def H0k{u:List Int}(e:u0q 2 u)(g:(u.length:Int)<=4):J1 2 (A6 [] u).reverse/\(A6 [] u).reverse.length<=4:=by
 have d:=j05 u [];have b:∀ y∈A6 [] u,y≠0 /\ -2<=y/\y<=2:=V0n u [] (λy f=>by cases f) e;have c:(A6 [] u).reverse.length<=4:=by rw[List.length_reverse];simp only[lN]at d;omega
 refine⟨W0n oD oM (λx a=>b x (List.mem_reverse.1 a)) (v0k (λx a=>?_) ?_),c⟩;·have:=b x (List.mem_reverse.1 a);exact⟨⟨⟨oM,oM⟩,oM⟩,this.1⟩
 rw[List.reverse_reverse];exact N08 u [] rfl
def V0w{r:Int}{w:List Int}(h:J1 r w)(e:1<=r/\r<=3):J1 r (inv w):=by
 obtain⟨wl,g⟩:=V7 h;have b:=h0d h;have c:Red w.reverse:=by rw[show w.reverse=A6 [] w by rw[←List.reverse_reverse (A6 [] w),T03 h]];exact N08 w [] rfl
 refine W0n e (by rw[S0a];exact wl) (λy f=>?_) (v0k b.inv ?_);·obtain⟨a,d,rfl⟩:=List.mem_map.1 (List.mem_reverse.1 f);have:=g a d;rw[B04 this.1];omega
 rw[K0x];exact e0w _ b c
def z0q:∀ {ws:List (List Int)},(∀ w∈ws,i00 w)->∀ b∈T00 44 (ws.map wl),44<=b.toNat
 | [],_,b,a=>by cases a
 |w::r,h,b,a=>by
  rcases List.mem_append.1 (show b∈(44::wl w)++T00 44 (r.map wl) from a)with a|a
  ·rcases mE.1 a with rfl|a;·decide
   have:=d0c (h w mS) b a;omega
  exact z0q (λv c=>h v (mC _ c)) b a
def F0m{r:Int}{ws:List (List Int)}(h:j2 r ws)(d:ws≠[]):Txt (Y3 ws):=by
 obtain⟨i,g,c⟩:=r02 h;obtain⟨_,f⟩:=W05 h;refine⟨?_,by have:=R0a f;omega⟩;cases ws with
 |nil=>exact absurd rfl d
 |cons w r =>
  intro b a;rcases List.mem_append.1 (show b∈wl w++T00 44 (r.map wl) from a)with a|a;·have:=d0c (y04 (c w mS)) b a;omega
  exact z0q (λv e=>y04 (c v (mC _ e))) b a
def W0w{r:Int}{w:List Int}(h:J1 r w):Txt (wl w):=by have:=x07 w;have:=(V7 h).1;exact⟨λb a=>by have:=d0c (y04 h) b a;omega,oM⟩
def b0y{g:j0}(a:K1 g){w:List Int}(f:w.length<=24):∃ mem,E03 g w=B mem/\mem.length<=1000:=by
 have b:=(R08 (G2 a) w).1;have c:=K08 (W03 g w).1;have d:=Q00 (s07 g w);have e:=Q00 (z02 g w).1.2.1;unfold E03;cases (K1 g&&J1 g.1 w);·exact⟨[],rfl,oS⟩
 cases (W03 g w).2;·refine⟨_,rfl,?_⟩;unfold pwT byT;cases (z02 g w).2<;>simp only[cT,zF]<;>split<;>simp only[lA,lC,lN]<;>omega
 exact⟨_,rfl,by simp only[lA,lC,lN];omega⟩
def G0m{r:Int}{l:List (List Int)}{w ks:List Int}{g:j0}{k n:Int}(e:ks.length<=24):∃ t,S07 (k,r,l,w,ks,g,n)=B t/\t.length<=100000:=by
 unfold S07;cases h:H0f (k,r,l,w,ks,g,n);·exact⟨[],rfl,oS⟩
 refine⟨_,rfl,?_⟩;simp only[H0f,aE]at h;obtain⟨⟨⟨d,a⟩,b⟩,c⟩:=h;have f:=H0n k;have i:=Q00 r;have j:=Q00 n;have m:=R0a (W05 a).2;have o:=x07 w;have p:=(V7 b).1;have q:=K08 ks;have s:=O06 c;simp only[u0r,K03,T00,lA,lC,lN];omega
def A0q(mem:List UInt8)(b:Bool)(t:List UInt8):(w0q mem b t).length<=mem.length+t.length+100:=by unfold w0q;cases b<;>simp only[cT,zF,lA,lC,lN]<;>omega
def c0y(bs:List Int)(K:byt bs):x01 bs=some true:=by
 unfold x01;by_cases hb:((bs.length:Nat):Int)>1048576;·rw[show T08 bs=some true from congrArg some (dT hb)];rfl
 have J:bs.length<=1048576:=oM;rw[show T08 bs=some false from congrArg some (dF hb),oB,iE oD];obtain⟨u,Z,ak,ar⟩:=b0o J K (from_:=0) (r:=2) (most:=4) oD oD oD oD;obtain⟨v,ev,al,au⟩:=b0o J K (from_:=10) (r:=2) (most:=4) oD oD oD oD;obtain⟨z,aa,am,av⟩:=b0o J K (from_:=20) (r:=2) (most:=4) oD oD oD oD;rw[Z,oB,ev,oB,aa,oB];obtain⟨I,aw⟩:=H0k ak ar;obtain⟨F,ax⟩:=H0k al au;obtain⟨C,aD⟩:=H0k am av;generalize (A6 [] u).reverse=a at *;generalize (A6 [] v).reverse=b at *;generalize (A6 [] z).reverse=w at *;have an:=h0d I;have ao:=h0d F;have L:J1 2 (A6 [] (a++b)).reverse/\(A6 [] (a++b)).reverse.length<=8:=by
  have ai:=j05 (a++b) [];have T:∀ y∈A6 [] (a++b),y≠0 /\ -2<=y/\y<=2:=V0n (a++b) [] (λy e=>by cases e) λy e=>by
   rcases List.mem_append.1 e with e|e;·exact((V7 I).2 y e).2
   exact((V7 F).2 y e).2
  have ag:(A6 [] (a++b)).reverse.length<=8:=by rw[List.length_reverse];simp only[lN,lA]at ai;omega
  refine⟨W0n oD oM (λx c=>T x (List.mem_reverse.1 c)) (v0k (λx c=>?_) ?_),ag⟩;·have:=T x (List.mem_reverse.1 c);exact⟨⟨⟨oM,oM⟩,oM⟩,this.1⟩
  rw[List.reverse_reverse];exact N08 _ [] rfl
 have ah:=V0w F oD;have m:j2 2 [a,b]:=by unfold j2;rw[show inR 1 3 2=true from rfl,show g0b 2 [a,b]=true by simp[g0b,I,F],dT (show [a,b].length<=6 by simp),dT (show tot [a,b]<40 by simp only[tot];omega)];rfl
 have q:j2 2 [(A6 [] (a++b)).reverse,inv b]:=by have:=L.2;unfold j2;rw[show inR 1 3 2=true from rfl,show g0b 2 [(A6 [] (a++b)).reverse,inv b]=true by simp[g0b,L.1,ah],dT (show [(A6 [] (a++b)).reverse,inv b].length<=6 by simp),dT (show tot [(A6 [] (a++b)).reverse,inv b]<40 by simp only[tot,S0a];omega)];rfl
 have H:=T0w m q;have D:∀ x∈[a,b],x.length<=1000:=λx c=>by simp only[mE,List.not_mem_nil,or_false]at c;rcases c with rfl|rfl<;>omega
 have ap:∀ x∈[(A6 [] (a++b)).reverse,inv b],x.length<=1000:=λx c=>by
  simp only[mE,List.not_mem_nil,or_false]at c;rcases c with rfl|rfl;·have:=L.2;omega
  rw[S0a];omega
 have ab:=n0d a b (λx c=>(an x c).1.1) (λx c=>(ao x c).1.1) oM;have ac:=e0a b oM;have f2:=q0m 2 [a,b] oS λx c=>by have:=D x c;omega
 have f3:=(h06 [a,b] (by have:=(W05 m).2;omega)).trans (congrArg some (W05 m).1);have O:=(h06 [(A6 [] (a++b)).reverse,inv b] (by have:=(W05 q).2;omega)).trans (congrArg some (W05 q).1);have P:=(M04 w oM).trans (congrArg some (V0j C).1);have h:=C0A 2 [a,b] w oS (λx c=>by have:=D x c;omega) (λx c=>by have:=D x c;omega) oM;have R:(D2 2 [a,b]).2:=by unfold D2;rw[m];rfl
 obtain⟨A,U⟩:=W0a R;have S:=v0q (r:=2) (ws:=[a,b]);obtain⟨mem,E,aB⟩:=b0y A (w:=w) oM;have Q:=(c0h (D2 2 [a,b]).1 oM w oM).trans (congrArg some E);have i:=O08 A C;have N:=R08 (G2 A) w;obtain⟨t,o,aq⟩:=G0m (r:=2) (l:=[a,b]) (w:=w) (ks:=(W03 (D2 2 [a,b]).1 w).1) (g:=(D2 2 [a,b]).1) (k:=1) (n:=0) oM;have d:I7 1 2 [a,b] w=bif o9 (D2 2 [a,b]).1 w then((1,2,[a,b],w,(W03 (D2 2 [a,b]).1 w).1,(D2 2 [a,b]).1,0),true)else S08:=by unfold I7;rw[R,C];unfold W03;cases o9 (D2 2 [a,b]).1 w<;>rfl
 obtain⟨f,p,aC⟩:∃ f,S07 (I7 1 2 [a,b] w).1=B f/\f.length<=100000:=by
  rw[d];cases o9 (D2 2 [a,b]).1 w;·exact G0m oS
  exact⟨t,o,aq⟩
 have V:=F0m m oS;have W:=F0m q oS;have X:=W0w C;have M:=D0z m q C oS oS D ap V W X H E oM p oM;have j:a9 (⟨(((((((((([114,97,110,107,32,50,10,108,101,116,32,104,32]++Y3 [a,b]) ++ [10,108,101,116,32,107,32])++Y3 [(A6 [] (a++b)).reverse,inv b]) ++ [10,115,97,109,101,32,104,32,107,10,105,115,32,104,32])++wl w) ++ [10,99,108,97,105,109,32,105,110,32])++Y3 [a,b]) ++ [32])++wl w) ++ [10,110,111,116,101,115,10]).toArray⟩)=some (B (w0q mem (o9 (D2 2 [a,b]).1 w) f)):=by rw[←M];refine congrArg (λx=>a9 (B x)) ?_;simp[scr]
 have ay:=V.2;have az:=W.2;have aA:=X.2;rw[gi0,oB,gi1,oB,ab,oB,oB,ac,oB,oB,f2,oB];have s:o9 (D2 2 [a,b]).1 w->P00 (1,2,[a,b],w,(W03 (D2 2 [a,b]).1 w).1,(D2 2 [a,b]).1,0)=some (B t):=λ_ =>
  (W0f (1,2,[a,b],w,(W03 (D2 2 [a,b]).1 w).1,(D2 2 [a,b]).1,0) ⟨⟨oS,λx c=>by have:=D x c;omega⟩,by simp only;omega,⟨N.2,by simp only;omega⟩,by simp only;omega,c64 (x:=2) oD oD,c64 (x:=0) oD oD⟩).trans (congrArg some o)
 cases hlp:o9 (D2 2 [a,b]).1 w
 ·rw[hlp]at j i d;rw[d]at h;clear o p d s M H A U S E N;generalize D2 2 [a,b]=G at *;obtain⟨⟨ad,ae,af⟩,ok⟩:=G;simp only[zF,S08]at h;simp only[f3,O,P,h,Q,oB,F08,C4];iterate 22 (first|rw[C0 (by(try simp only[lA,lC,lN]);omega),oB]|skip)
  have aj:=A0q mem false f;simp only[fT,if_false,j,oB,sq,i];iterate 2 (first|rw[C0 (by(try simp only[C4,lA,lC,lN]);omega),oB]|skip)
  try simp only[j,oB,sq,i]
  try rw[C0 (by rw[C4];omega),oB]
  rw[dT (by simp[w0q]),H1,oB];rfl
 have s:=s hlp;have Y:f=t:=by rw[d,hlp,(cT),o]at p;exact(congrArg (λx:BA=>x.data.toList) p).symm
 subst Y;rw[hlp]at j i d;rw[d]at h;clear o p d M H A U S E N;generalize D2 2 [a,b]=G at *;obtain⟨⟨ad,ae,af⟩,ok⟩:=G;simp only[cT]at h;simp only[f3,O,P,h,Q,s,oB,F08,C4];iterate 24 (first|rw[C0 (by(try simp only[lA,lC,lN]);omega),oB]|skip)
 have aj:=A0q mem true f;simp only[if_true,j,s,oB,sq,i,F08,C4];iterate 4 (first|rw[C0 (by(try simp only[C4,lA,lC,lN]);omega),oB]|skip)
 try simp only[j,oB,sq,i]
 try rw[C0 (by rw[C4];omega),oB]
 rw[dT (by simp[w0q]),H1,oB];rfl
end Go.Proofs.YthakcafglempaaaGreat
