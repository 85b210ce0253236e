/- Texts of the claim, joined: Plain laws: the subgroup of a list of words; whether words g and others. -/
import Derived.Test.YthkpbcnhdhfifaaGreatPart32
import Derived.Test.YthkpbcnhdhfifaaGreatPart23
import Derived.Test.YthkpbcnhdhfifaaGreatPart29
import Derived.Test.YthkpbcnhdhfifaaGreatPart21
import Derived.Test.YthkpbcnhdhfifaaGreatH36
import Derived.Test.YthkpbcnhdhfifaaGreatPart22
namespace Go.Proofs.YthkpbcnhdhfifaaGreat
set_option linter.all false
open Go.H
open IntKind (i64)
def m03(g:B0):B0:=R3 (i0a (N8 g).1)
def a0d{g:B0}(a:W0 g):R7 g=some (m03 g):=by obtain⟨e,f,h,i⟩:=P2 a;have b:=U0e g oM;have hf:=H02 a;obtain⟨v,c⟩:=c0l (Y1 hf);have d:=S0c (i0a (N8 g).1) (m01 40 hf);grind[m03,R7,N8,i0a]
def b0d{g:B0}(a:W0 g):S7 g=some (m03 g):=by obtain⟨e,f,h,i⟩:=P2 a;have b:=V0e g oM;have hf:=H02 a;obtain⟨v,c⟩:=N0i (Y1 hf);have d:=R0c (i0a (N8 g).1) (m01 40 hf);grind[m03,S7,N8,i0a]
def O3(r:Int)(ws:List (List Int)):B0×Bool:=bif O2 r ws then(m03 (a08 ws (r,1,[])),true)else((0,0,[]),false)
theorem B07{r:Int}{ws:List (List Int)}(h:O2 r ws):W0 (a08 ws (r,1,[])):=by obtain⟨b,a,c⟩:=x07 h;grind[O0i,e0e]
def j0e(r:Int)(ws:List (List Int))(b:ws.length<=140737488355328)(c:Y8 ws):t9 r ws=some (O3 r ws):=by have a:=Y0o r ws b c;have d:O2 r ws->_:=λh=>a0d (B07 h);unfold t9 O3;unfold R0a at a;grind
def z0n(r:Int)(ws:List (List Int))(b:ws.length<=140737488355328)(c:Y8 ws):R01 r ws=some (O3 r ws):=by have a:=Z0o r ws b c;have d:O2 r ws->_:=λh=>b0d (B07 h);unfold R01 O3;unfold R0a at a;grind
def m05(g:B0)(ws:List (List Int)):Bool:=D1 g&&((O3 g.1 ws).2&&O06 g (O3 g.1 ws).1)
def A0n(g:B0)(h:g.2.2.length<=140737488355328)(ws:List (List Int))(i:ws.length<=140737488355328)(j:Y8 ws):H6 g ws=some (m05 g ws):=by have e:=j0e g.1 ws i j;have d:=j04 g h;have f:=K08 g (O3 g.1 ws).1 oM;unfold m05;obtain⟨a,b,c⟩:=g;simp only at *;unfold H6;generalize O3 a ws=q at *;obtain⟨⟨x,y,z⟩,k⟩:=q;simp only[e,oB];cases k<;>cases hc:D1 (a,b,c)<;>rw[hc]at d<;>simp[d,f,G1,M1]
def B0n(g:B0)(h:g.2.2.length<=140737488355328)(ws:List (List Int))(i:ws.length<=140737488355328)(j:Y8 ws):I6 g ws=some (m05 g ws):=by have e:=z0n g.1 ws i j;have d:=l01 g h;have f:=Z0d g (O3 g.1 ws).1 oM;unfold m05;obtain⟨a,b,c⟩:=g;simp only at *;unfold I6;generalize O3 a ws=q at *;obtain⟨⟨x,y,z⟩,k⟩:=q;cases k<;>cases hc:D1 (a,b,c)<;>rw[hc]at d<;>simp[e,d,f,G1,M1]
def c0d{r:Int}{g:B0}{w:List Int}(c:D1 g)(a:O1 r w):Z01 g w=some (S4 g w):=by have hf:=V1 c;obtain⟨i,j,k,l⟩:=P0 hf;obtain⟨wl,e⟩:=w00 a;have b:=L0b w oM;rw[U06 a]at b;have f:=F0u hf (λx d=>(e x d).1) oM;have h:=l01 g oM;simp_all[Z01,oB,G1,cT]
def G0u{r:Int}{g:B0}(b:D1 g)(ws:List (List Int))(j:∀ w∈ws,O1 r w)(l:ws.length<=1099511627776):∀(d k fuel:Nat),k+d=ws.length->d<fuel -> r7 ws g.1 g.2.1 g.2.2 fuel (k:Int)=some (bif(ws.drop k).all λw=>S4 g w then .inr ()else .inl false)
 |d,k,0,c,f=>oM
 |0,k,fuel+1,c,f=>by simp_all[r7.eq_2,iE,dE,J1]
 |d+1,k,fuel+1,c,f=>by have h:k<ws.length:=oM;have a:=V3 h;have i:=j _ (mG a);have e:=L1 a;generalize ws[k]=w at a i e;have m:=G0u b ws j l d (k+1) fuel oM oM;rw[r7.eq_2,iP oG,E2 a,oB,show(g.1,g.2.1,g.2.2)=g from rfl,g05 b i,oB,G2 h oM,m,e,List.all_cons];cases S4 g w<;>rfl
def X0s{r:Int}{g:B0}(a:D1 g)(ws:List (List Int))(c:∀ w∈ws,O1 r w)(b:ws.length<=1099511627776):J02 g ws=some (ws.all λw=>S4 g w):=by obtain⟨f,h,i,j⟩:=P0 (V1 a);have d:=j04 g oM;have e:=G0u a ws c b ws.length 0 U0 oM (F1 oM);grind[J02,S4,T9]
def Y0s{r:Int}{g:B0}(a:D1 g)(ws:List (List Int))(c:∀ w∈ws,O1 r w)(b:ws.length<=1099511627776):a01 g ws=some (ws.all λw=>S4 g w):=by
 obtain⟨d,e,f,i⟩:=P0 (V1 a);rw[q0m g oM ws (λw h=>by grind[w00]) b];unfold j0a;rw[a,Bool.true_and];have:∀ l:List (List Int),(∀ w∈l,O1 r w)->(l.all λw=>S4 g (Z8 [] w).reverse)=l.all λw=>S4 g w:=by grind[U06,List.mem_cons_self,mC]
 rw[this ws c]
def E05(g:B0)(v:Int):B0×Bool:=bif H0 g&&inR 0 (g.2.1-1) v then(o6 g v,true)else(g,false)
def X0i(g:B0)(h:g.2.2.length<=1099511627776)(v:Int):M9 g v=some (E05 g v):=by
 unfold E05;cases hf:H0 g;·have d:=N6 g oM;have e:=Z00 g oM;rw[hf]at d;obtain⟨a,b,c⟩:=g;unfold M9;simp only[d,oB,bF,bT,M1,cT,if_true,e,Bool.false_and,zF]
 cases hv:inR 0 (g.2.1-1) v;·obtain⟨i,j,f,k⟩:=P0 hf;have d:=N6 g oM;have e:=Z00 g oM;rw[hf]at d;obtain⟨a,b,c⟩:=g;simp only at hv f;unfold M9;simp only[d,oB,bF,bT,G1,H03,w64 (show -9223372036854775808<=b-1 by omega) (show b-1<=9223372036854775807 by omega),hv,zF,if_true,e,Bool.true_and]
 exact U0s hf (by simp only[inR,aE,dE]at hv;omega)
def Y0i(g:B0)(i:g.2.2.length<=1099511627776)(v:Int):N00 g v=some (E05 g v):=by
 unfold E05;cases hf:H0 g;·have d:=v00 g oM;have e:=G02 g oM;rw[hf]at d;obtain⟨a,b,c⟩:=g;unfold N00;simp only[d,oB,bF,bT,M1,cT,if_true,e,Bool.false_and,zF]
 cases hv:inR 0 (g.2.1-1) v;·obtain⟨j,k,h,l⟩:=P0 hf;have d:=v00 g oM;have e:=G02 g oM;have f:=J0A g (Y1 hf) v;rw[hf]at d;rw[hv]at f;obtain⟨a,b,c⟩:=g;simp only at hv h;unfold N00;simp only[d,oB,bF,bT,G1,f,zF,if_true,e,Bool.true_and]
 exact V0s hf (by simp only[inR,aE,dE]at hv;omega)
theorem M0b(g:B0):∀(w:List Int) (v:Int),A2 g v (w.take (A2 g v w).2)=A2 g v w
 | [],v=>rfl
 |x::w,v=>by
  have a:=M0b g w (S0 g v x);by_cases c:S0 g v x<0;·simp_all[A2,iP]
  have e:A2 g v (x::w)=((A2 g (S0 g v x) w).1,(A2 g (S0 g v x) w).2+1):=by rw[A2,iE c]
  rw[e,List.take_succ_cons,A2,iE c,a]
def b08{g:B0}(a:inG g):∀(w:List Int) (v:Int),(0<=v/\v<g.2.1)->0<=(A2 g v w).1/\(A2 g v w).1<g.2.1
 | [],v,h=>h
 |x::w,v,h=>by
  unfold A2;split;·exact h
  rename_i c;have b:=B03 a v x;refine b08 a w _ ?_;rcases b with e|e<;>omega
def b0i{b a:Int}{w:List Int}:∀ {d k:Nat},(∀ i,k<=i->i<k+d->g09 b a w i=false)->m06 b a w d k
 |0,k,h=>rfl
 |d+1,k,h=>by unfold m06;rw[h k (Nat.le_refl _) oM,b0i λi c e=>h i oM oM];rfl
def V0a{r:Int}{w:List Int}(h:O1 r w)(n:Nat):O1 r (w.drop n):=by
 simp only[O1,aE,dE]at h ⊢;refine⟨⟨h.1.1,oG⟩,b0i λi b c=>?_⟩;have a:=V0d h.2 (n+i) (Nat.zero_le _) oG;unfold g09 at a ⊢;rw[List.getElem?_drop,List.getElem?_drop];cases hw:w[n+i]? with
 |none=>rw[hw]at a;exact a
 |some x =>grind
def G3(g:B0)(w:List Int):B0×Bool :=
 bif D1 g&&O1 g.1 w then
  (bif decide ((A2 g 0 w).2<w.length)then
   (bif(M2 g).2 then
    (bif(T1 (M2 g).1 (A2 g 0 w).1 (w.drop (A2 g 0 w).2) g.2.1).2 then E05 (T1 (M2 g).1 (A2 g 0 w).1 (w.drop (A2 g 0 w).2) g.2.1).1 g.2.1 else((0,0,[]),false))
   else((0,0,[]),false))
  else E05 g (A2 g 0 w).1)
 else((0,0,[]),false)
def C0n{g:B0}(f:inG g)(j:g.2.1<=40)(e:g.2.2.length<=1099511627776)(w:List Int)(l:∀ x∈w,C3 x)(n:w.length<=140737488355328):∀(d k fuel:Nat) (v:Int),k+d=w.length->d<fuel -> Z7 w g.1 g.2.1 g.2.2 fuel v (k:Int)=some (bif decide ((A2 g v (w.drop k)).2<d)then .inl (((k+(A2 g v (w.drop k)).2:Nat):Int))else .inr ())
 |d,k,0,v,b,hf=>oM
 |0,k,fuel+1,v,b,hf=>by simp_all[Z7.eq_2,iE,dE,J1]
 |d+1,k,fuel+1,v,b,hf=>by
  have i:k<w.length:=oM;have a:=V3 i;have m:=l _ (mG a);have c:=L1 a;generalize w[k]=x at a m c;rw[Z7.eq_2,iP oG,E2 a,oB,show(g.1,g.2.1,g.2.2)=g from rfl,m04 g v x m e,oB,F0 (V02 f j v x),oB,c];unfold A2;by_cases h:S0 g v x<0;·grind
  rw[iE (by simpa using h),iE h,G2 i oM,C0n f j e w l n d (k+1) fuel _ oM oM];simp only[Nat.add_lt_add_iff_right];rw[show k+1+(A2 g (S0 g v x) (w.drop (k+1))).2=k+((A2 g (S0 g v x) (w.drop (k+1))).2+1) by omega]
def D0n{g:B0}(hf:H0 g){v:Int}(f:0<=v/\v<g.2.1){w:List Int}(i:∀ x∈w,C3 x)(a:w.length<=140737488355328):P01 g v w=some (((A2 g v w).2:Nat):Int):=by
 obtain⟨j,l,b,m⟩:=P0 hf;have d:=N6 g oM;have h:=C0n j b.2 oM w i a w.length 0 U0 v oM (F1 a);rw[show((0:Nat):Int)=0 from rfl,(dZ),Nat.zero_add]at h;have k:=k03 g w v;obtain⟨r,n,es⟩:=g;simp only at f b h;have e:inR 0 (n-1) v:=by simp only[inR,aE,dE];omega
 unfold P01;simp only[d,hf,oB,bT,bF,G1,H03,w64 (show -9223372036854775808<=n-1 by omega) (show n-1<=9223372036854775807 by omega),e,zF,fT,if_false,h];by_cases c:(A2 (r,n,es) v w).2<w.length;·rw[dT c];rfl
 rw[dF c,show(A2 (r,n,es) v w).2=w.length by omega];rfl
theorem n03{g:B0}(h:(M2 g).2):M2 g=((g.1,g.2.1+1,g.2.2),true)/\g.2.1<40:=by grind[M2]
def B0f(g:B0)(D:g.2.2.length<=140737488355328)(w:List Int)(G:w.length<=140737488355328):D4 g w=some (G3 g w):=by
 have d:=j04 g D;have e:=h03 g.1 w G;unfold G3;cases hc:D1 g;·rw[hc]at d;obtain⟨a,b,c⟩:=g;unfold D4;simp only[d,oB,bF,bT,M1,cT,if_true,Bool.false_and,zF]
 cases hwd:O1 g.1 w;·rw[hc]at d;rw[hwd]at e;obtain⟨a,b,c⟩:=g;simp only at e;unfold D4;simp only[d,oB,bF,bT,G1,e,zF,if_true,Bool.true_and]
 have hf:=V1 hc;have p:=Y1 hf;obtain⟨t,M,H,N⟩:=P0 hf;obtain⟨wl,I⟩:=w00 hwd;have s:∀ x∈w,C3 x:=λx j=>(I x j).1;have z:(0:Int)<=0/\(0:Int)<g.2.1:=⟨iR _,oM⟩;have l:=D0n hf z s oM;have i:=k03 g w 0;have f:=B0s g hf 0 z (w.take (A2 g 0 w).2) (λx j=>s x (List.mem_of_mem_take j)) oG;rw[M0b,List.length_take,show min (A2 g 0 w).2 w.length=(A2 g 0 w).2 by omega,dF (Nat.lt_irrefl _)]at f;have m:=X07 t H.2 w 0 ⟨oM,oM⟩;have J:=Z00 g oM;have o:=O0a (xs:=w) (k:=(A2 g 0 w).2) i;have A:=n04 (xs:=w) (k:=(A2 g 0 w).2) i;have K:=Y0b p;have C:=b08 t w 0 z;have E:=X0i g oM (A2 g 0 w).1;have q:=Y01 p;have y:(M2 g).2->_:=λh=>g0a (g:=(M2 g).1) (u:=(A2 g 0 w).1) (v:=g.2.1) (w:=w.drop (A2 g 0 w).2) q (by grind[n03]) (by grind[n03]) (by simp_all[n03,V0a]);have L:=O09 q (A2 g 0 w).1 (w.drop (A2 g 0 w).2) g.2.1;have F:=X0i (T1 (M2 g).1 (A2 g 0 w).1 (w.drop (A2 g 0 w).2) g.2.1).1 oM g.2.1;rw[hc]at d;rw[hwd]at e;generalize A2 g 0 w=R at *;obtain⟨v,n⟩:=R;obtain⟨a,b,c⟩:=g;simp only at e l f m o A i C E F y ⊢;unfold D4;simp only[d,oB,bT,bF,G1,e,zF,fT,if_false,l,Bool.true_and,cT];rw[F0 (show I0 ((n:Nat):Int) from⟨oM,oM⟩),oB,o,oB,f];simp only[zF,oB];rw[F0 m];grind
def l0l(g:B0)(H:g.2.2.length<=140737488355328)(w:List Int)(I:w.length<=140737488355328):U4 g w=some (G3 g w):=by
 have d:=l01 g H;have e:=i03 g.1 w I;unfold G3;cases hc:D1 g;·rw[hc]at d;obtain⟨a,b,c⟩:=g;unfold U4;simp only[d,oB,bF,bT,M1,cT,if_true,Bool.false_and,zF]
 cases hwd:O1 g.1 w;·rw[hc]at d;rw[hwd]at e;obtain⟨a,b,c⟩:=g;simp only at e;unfold U4;simp only[d,oB,bF,bT,G1,e,zF,if_true,Bool.true_and]
 have hf:=V1 hc;have t:=Y1 hf;obtain⟨j,E,l,P⟩:=P0 hf;obtain⟨wl,M⟩:=w00 hwd;have J:∀ x∈w,C3 x:=λx K=>(M x K).1;have z:(0:Int)<=0/\(0:Int)<g.2.1:=⟨iR _,oM⟩;have p:=K0o g j l.2 oM 0 w J oM;have C:=k03 g w 0;have f:=X07 j l.2 w 0 ⟨oM,oM⟩;have s:=n04 (xs:=w) (k:=(A2 g 0 w).2) C;have F:=Z0b t;have G:=b08 j w 0 z;have D:=Y0i g oM (A2 g 0 w).1;have A:=Y01 t;have m:(M2 g).2->_:=λh=>h0a (g:=(M2 g).1) (u:=(A2 g 0 w).1) (v:=g.2.1) (w:=w.drop (A2 g 0 w).2) A (by grind[n03]) (by grind[n03]) (by simp_all[n03,V0a]);have N:=O09 A (A2 g 0 w).1 (w.drop (A2 g 0 w).2) g.2.1;have i:=Y0i (T1 (M2 g).1 (A2 g 0 w).1 (w.drop (A2 g 0 w).2) g.2.1).1 oM g.2.1;rw[hc]at d;rw[hwd]at e;generalize A2 g 0 w=R at *;obtain⟨v,n⟩:=R;obtain⟨a,b,c⟩:=g;simp only at e p f s C G D i m ⊢;unfold U4 u03;simp only[d,oB,bT,bF,G1,e,zF,fT,if_false,p,Bool.true_and,cT];rw[F0 f,oB,F0 (show I0 ((n:Nat):Int) from⟨oM,oM⟩),oB];by_cases c1:n<w.length
 ·rw[iE oG,dT c1,F];simp only[oB,cT];cases hok:(M2 (a,b,c)).2;·generalize M2 (a,b,c)=q at *;simp_all[bF,if_true,oB,F0,I0]
  have o:=m hok;generalize M2 (a,b,c)=q at *;obtain⟨⟨x,y,z⟩,O⟩:=q;simp only at hok o i;subst hok;simp only[bT,fT,if_false,s,oB,o,cT];generalize T1 (x,y,z) v (w.drop n) b=E at *;obtain⟨⟨Q,S,T⟩,L⟩:=E;cases L;·simp_all[bF,if_true,oB,F0,I0]
  simp only at l;simp only[bT,fT,if_false,cT,oB]at i ⊢;grind[F0,I0]
 rw[iP oG,dF c1];simp only[oB,bT,fT,if_false,zF];rw[F0 f,oB,D];rfl
def i02(g:B0):Int:=bif D1 g then(g.2.2.length:Int)-g.2.1+1 else -1
def h0p(g:B0):I0 (i02 g):=by
 unfold i02;cases hc:D1 g;·exact⟨by rw[(zF)];omega,by rw[(zF)];omega⟩
 obtain⟨a,b,c,d⟩:=P0 (V1 hc);exact⟨by rw[(cT)];omega,by rw[(cT)];omega⟩
def C0f(g:B0)(e:g.2.2.length<=140737488355328):o01 g=some (i02 g)/\I0 (i02 g):=by
 have d:=j04 g e;unfold i02;cases hc:D1 g;·rw[hc]at d;obtain⟨a,b,c⟩:=g;unfold o01;simp only[d,oB,bF,if_true,zF];exact⟨trivial,⟨oM,oM⟩⟩
 obtain⟨i,j,f,h⟩:=P0 (V1 hc);rw[hc]at d;obtain⟨a,b,c⟩:=g;simp only at f h;unfold o01;simp only[d,oB,bT,fT,if_false,cT];rw[w64 (x:=((c.length:Nat):Int)-b) oM oM,w64 oM oM];exact⟨rfl,⟨oM,oM⟩⟩
def m0l(g:B0)(e:g.2.2.length<=140737488355328):v03 g=some (i02 g):=by
 have d:=l01 g e;unfold i02;cases hc:D1 g;·simp_all[v03,oB,bF,if_true,zF]
 obtain⟨i,j,f,h⟩:=P0 (V1 hc);rw[hc]at d;obtain⟨a,b,c⟩:=g;simp only at f h;unfold v03;simp only[d,oB,bT,fT,if_false,cT];rw[w64 (x:=((c.length:Nat):Int)-b) oM oM,w64 oM oM]
def c01(g:B0):Int:=bif t04 g then g.2.1 else -1
def n0l(g:B0):I0 (c01 g):=by
 unfold c01;cases hc:t04 g;·exact⟨by rw[(zF)];omega,by rw[(zF)];omega⟩
 obtain⟨a,b,c,d⟩:=P0 (V1 (n0r hc));exact⟨by rw[(cT)];omega,by rw[(cT)];omega⟩
def k0a(g:B0)(f:g.2.2.length<=140737488355328):K02 g=some (c01 g)/\I0 (c01 g):=by
 have d:=l0r g f;have e:t04 g->_:=λh=>P0 (V1 (n0r h));unfold c01;obtain⟨a,b,c⟩:=g;unfold K02;cases hc:t04 (a,b,c);·rw[hc]at d;simp only[d,oB,bF,if_true,zF];exact⟨trivial,⟨oM,oM⟩⟩
 rw[hc]at d;obtain⟨j,k,i,l⟩:=e hc;simp only at i;simp only[d,oB,bT,fT,if_false,cT];exact⟨trivial,⟨oM,oM⟩⟩
def W0e(g:B0)(d:g.2.2.length<=140737488355328):V03 g=some (c01 g):=by have e:=m0r g d;unfold c01;obtain⟨a,b,c⟩:=g;unfold V03;grind
def exO(bs:List (List Int))(k:Int):Option (List Int):=if 0<k/\k<=(bs.length:Int)then some (bs.getD (k.toNat-1) [])else if k<0 /\ -(bs.length:Int)<=k then some (inv (bs.getD ((-k).toNat-1) []))else none
def exP(bs:List (List Int))(k:Int):List Int:=(exO bs k).getD []
def W0a(bs:List (List Int))(l:List Int):List Int:=(Z8 [] ((l.take 200).flatMap (exP bs))).reverse
def BOk(bs:List (List Int)):Prop:=(∀ w∈bs,(∀ x∈w,C3 x)/\w.length<=1000)/\bs.length<=1000
def W06{bs:List (List Int)}{k:Nat}(h:k<bs.length):bs.getD k []∈bs:=by grind
theorem f0z{bs:List (List Int)}(h:BOk bs){k:Int}{w:List Int}(e:exO bs k=some w):w.length<=1000/\∀ x∈w,I0 x:=by
 unfold exO at e;split at e;·rename_i c;have a:=W06 (bs:=bs) (k:=k.toNat-1) oM;simp only[Option.some.injEq]at e;rw[←e];exact⟨(h.1 _ a).2,λx b=>((h.1 _ a).1 x b).1⟩
 split at e;·rename_i c;have a:=W06 (bs:=bs) (k:=(-k).toNat-1) oM;simp only[Option.some.injEq]at e;rw[←e];exact⟨by rw[J07];exact(h.1 _ a).2,λx b=>(H0j (h.1 _ a).1 x b).1⟩
 cases e
def H0u{bs:List (List Int)}(h:BOk bs)(k:Int):(exP bs k).length<=1000/\∀ x∈exP bs k,I0 x:=by grind[exP,exO,f0z]
theorem I0j{bs:List (List Int)}{k:Nat}(h:k<bs.length):gi bs (k:Int)=some (bs.getD k []):=by
 grind[E2,List.getElem?_eq_getElem]
theorem g03{bs:List (List Int)}(h:BOk bs):∀ l:List Int,(l.flatMap (exP bs)).length<=1000*l.length/\∀ x∈l.flatMap (exP bs),I0 x
 | []=>⟨oS,λx a=>by cases a⟩
 |k::r=>by have b:=H0u h k;have c:=g03 h r;grind
def M0x{bs:List (List Int)}(h:BOk bs)(l:List Int):∀(d k fuel:Nat) (acc:List Int),k+d=(l.take 200).length->d<fuel->acc.length<=1000*k ->
  Y6 l bs fuel (k:Int) acc=some (acc++((l.take 200).drop k).flatMap (exP bs))
 |d,k,0,acc,b,hf,g=>by omega
 |0,k,fuel+1,acc,b,hf,g=>by
  rw[List.length_take]at b
  have e:(bif(decide ((k:Int)<((l.length:Nat):Int)))then(decide ((k:Int)<200))else false)=false:=by
   grind
  rw[Y6.eq_2,e,iE (by simp),List.drop_eq_nil_of_le (by grind)];simp
 |d+1,k,fuel+1,acc,b,hf,g=>by
  have s:k<(l.take 200).length:=by omega
  rw[List.length_take]at b
  have n:k<l.length:=by omega
  have p:=h.2
  have j:=V3 n
  have i:(l.take 200).drop k=l[k]::(l.take 200).drop (k+1):=L1 (by grind)
  generalize l[k]=x at j i
  have t:=H0u h x
  have a:=λm q=>M0x h l d (k+1) fuel m (by grind) (by omega) q
  have e:(bif(decide ((k:Int)<((l.length:Nat):Int)))then(decide ((k:Int)<200))else false)=true:=by
   grind
  rw[Y6.eq_2,e,iP rfl,i,List.flatMap_cons]
  simp only[E2 j,oB,G2 (show k<1000 by omega) (show(1000:Nat)<=9223372036854775807 by omega)]
  unfold exP exO
  by_cases c1:0<x
  ·rw[dT (show x>0 from c1)]
   simp only[G1,oB,cT]
   by_cases c2:x<=(bs.length:Int)
   ·have f:=W06 (bs:=bs) (k:=x.toNat-1) (by omega)
    have o:=(h.1 _ f).2
    have c:gi bs (i64.wrap (x-1))=some (bs.getD (x.toNat-1) []):=by
     grind[w64,I0j]
    rw[iP (by simpa using c2),iP ⟨c1,c2⟩,c,oB,F0 (by omega),oB,a _ (by grind)]
    simp only[Option.getD_some,List.append_assoc]
    rfl
   ·rw[iE (by simpa using c2),dF (show ¬ x<0 by omega)]
    simp only[M1,oB,zF]
    rw[iE (by simp),iE (λq=>c2 q.2),iE (λq=>by omega),a _ (by omega)]
    simp only[Option.getD_none,nA]
    rfl
  ·rw[dF (show ¬ x>0 from c1)]
   simp only[M1,oB,zF]
   rw[iE (by simp),iE (λq=>c1 q.1)]
   by_cases c3:x<0
   ·rw[dT c3]
    simp only[G1,oB,cT]
    rw[w64 (x:=0-((bs.length:Nat):Int)) (by omega) (by omega)]
    by_cases c2 : -(bs.length:Int)<=x
    ·have f:=W06 (bs:=bs) (k:=(-x).toNat-1) (by omega)
     have o:=(h.1 _ f).2
     have c:gi bs (i64.wrap ((i64.wrap (0-x))-1))=some (bs.getD ((-x).toNat-1) []):=by
      grind[w64,I0j]
     rw[iP (by grind),iP ⟨c3,c2⟩,c,oB,y05 _ (by omega),oB,F0 (by rw[J07];omega),oB,a _ (by rw[lA,J07];omega)]
     simp only[Option.getD_some,List.append_assoc]
     rfl
    ·rw[iE (by grind),iE (λq=>c2 q.2),a _ (by omega)]
     simp only[Option.getD_none,nA]
     rfl
   ·rw[dF c3]
    simp only[M1,oB,zF]
    rw[iE (by simp),iE (λq=>c3 q.1),a _ (by omega)]
    simp only[Option.getD_none,nA]
    rfl
def U0v{bs:List (List Int)}(h:BOk bs)(l:List Int):F04 bs l=some (W0a bs l):=by have a:=M0x h l (l.take 200).length 0 U0 [] oM (F1 oG) oS;rw[show((0:Nat):Int)=0 from rfl,(dZ),(nA)]at a;have b:=g03 h (l.take 200);have d:(l.take 200).length<=200:=oG;unfold F04 W0a;rw[a,oB,E00 _ (λx c=>b.2 x c) oM];rfl
theorem E0n:∀(ws:List (List Int)) (s:List Int),O0v s ws=Z8 s ws.flatten
 | [],s=>rfl
 |w::r,s=>by rw[O0v,E0n r,List.flatten_cons,K0a]
theorem d0d(bs:List (List Int)):∀ l:List Int,(l.filterMap (exO bs)).flatten=l.flatMap (exP bs)
 | []=>rfl
 |k::r=>by rw[List.flatMap_cons,←d0d bs r,List.filterMap_cons];grind[exP,exO]
theorem F0n:∀ ws:List (List Int),b0p ws=ws.flatten.length
 | []=>rfl
 |w::r=>by rw[b0p,F0n r,List.flatten_cons,(lA)]
def N0x{bs:List (List Int)}(h:BOk bs)(l:List Int)(n:l.length<=200):∀(d k fuel:Nat) (acc:List (List Int)),k+d=l.length->d<fuel->acc.length<=k -> Z6 l bs fuel (k:Int) acc=some (acc++(l.drop k).filterMap (exO bs))
 |d,k,0,acc,f,hf,e=>oM
 |0,k,fuel+1,acc,f,hf,e=>by simp_all[Z6.eq_2,iE,dE,J1]
 |d+1,k,fuel+1,acc,f,hf,e=>by
  have m:k<l.length:=oM;have o:=h.2;have b:=V3 m;have g:=L1 b;generalize l[k]=x at b g;have c:=λj q=>N0x h l n d (k+1) fuel j oM oM q;rw[Z6.eq_2,iP oG,g,List.filterMap_cons];simp only[E2 b,oB,G2 (show k<1000 by omega) (show(1000:Nat)<=9223372036854775807 by omega),y04,w64 (x:=0-((bs.length:Nat):Int)) oM oM];unfold exO;by_cases c1:0<x/\x<=(bs.length:Int)
  ·have i:=W06 (bs:=bs) (k:=x.toNat-1) oM;have a:gi bs (i64.wrap (x-1))=some (bs.getD (x.toNat-1) []):=by grind[w64,I0j]
   rw[iP (show inR 1 ((bs.length:Nat):Int) x=true by simp only[inR,aE,dE];omega),iP c1,a,oB,F0 (by simp;omega),oB,c _ (by simp;omega)];simp only[List.append_assoc];rfl
  rw[iE (show ¬ inR 1 ((bs.length:Nat):Int) x=true by simp only[inR,aE,dE];omega),iE c1];by_cases c2:x<0 /\ -(bs.length:Int)<=x
  ·have i:=W06 (bs:=bs) (k:=(-x).toNat-1) oM;have p:=(h.1 _ i).2;have a:gi bs (i64.wrap ((i64.wrap (0-x))-1))=some (bs.getD ((-x).toNat-1) []):=by grind[w64,I0j]
   rw[iP (show inR (0-((bs.length:Nat):Int)) (-1) x=true by simp only[inR,aE,dE];omega),iP c2,a,oB,u07 _ oM,oB,F0 (by simp;omega),oB,c _ (by simp;omega)];simp only[List.append_assoc];rfl
  rw[iE (show ¬ inR (0-((bs.length:Nat):Int)) (-1) x=true by simp only[inR,aE,dE];omega),iE c2,c _ oM];rfl
def V0v{bs:List (List Int)}(h:BOk bs)(l:List Int):G04 bs l=some (W0a bs l):=by
 have a:(l.take 200).length<=200:=oG;have b:=N0x h (l.take 200) a (l.take 200).length 0 U0 [] oM (F1 oM) oS;rw[show((0:Nat):Int)=0 from rfl,(dZ),(nA)]at b;have e:=g03 h (l.take 200);have d:U07 l 0 (if 200<((l.length:Nat):Int)then 200 else((l.length:Nat):Int))=some (l.take 200):=by
  by_cases c:200<((l.length:Nat):Int);·rw[iP c];grind[O0a]
  rw[iE c,O0a (Nat.le_refl _),List.take_of_length_le (Nat.le_refl _),List.take_of_length_le oM]
 have f:((l.take 200).filterMap (exO bs)).length<=200:=Nat.le_trans (List.length_filterMap_le _ _) a;unfold G04 W0a;grind[L07,F0n,d0d,E0n]
def G0n{g:B0}(h:g.2.2.length<=120)(v:Int):(E05 g v).1.2.2.length<=120:=by
 unfold E05;cases hf:H0 g;·simpa using h
 cases hv:inR 0 (g.2.1-1) v;·simpa using h
 simp only[Bool.and_self,cT];exact(V05 (U0a hf (by simp only[inR,aE,dE]at hv;omega))).1
theorem P09(g:B0)(w:List Int):(G3 g w).1.2.2.length<=120:=by
 unfold G3;cases hc:D1 g;·simp
 have a:=Y1 (V1 hc);have b:=(V05 hc).1;cases O1 g.1 w;·simp
 simp only[Bool.and_self,cT];cases decide ((A2 g 0 w).2<w.length);·simp_all[zF,G0n]
 simp only[cT];cases (M2 g).2;·simp
 simp only[cT];have c:=O09 (Y01 a) (A2 g 0 w).1 (w.drop (A2 g 0 w).2) g.2.1;cases (T1 (M2 g).1 (A2 g 0 w).1 (w.drop (A2 g 0 w).2) g.2.1).2;·simp
 simp_all[cT,G0n]
def y00(k r:Int)(ws:List (List Int))(w pf:List Int)(g:B0)(n:Int):Bool :=
 bif O2 r ws&&(O1 r w&&(decide (g.1=r)&&D1 g))then
  (if k=1 then m05 g ws&&eqW (W0a (U6 g) pf) w
  else if k=2 then(ws.all λv=>S4 g v) && !(S4 g w)
  else if k=3 then m05 g ws&&S4 g w
  else if k=4 then(G3 g (inv w)).2&&m05 (G3 g (inv w)).1 ws
  else if k=5 then m05 g ws&&(decide (i02 g=((ws.length:Nat):Int))&&decide (n=((ws.length:Nat):Int)))
  else if k=6 then m05 g ws&&(decide (c01 g=n)&&decide (n>0))
  else false)
 else false
def N9(c:L2):Bool:=y00 c.1 c.2.1 c.2.2.1 c.2.2.2.1 c.2.2.2.2.1 c.2.2.2.2.2.1 c.2.2.2.2.2.2
theorem J0u{bs:List (List Int)}(h:BOk bs)(l:List Int):(W0a bs l).length<=200000:=by
 have a:=g03 h (l.take 200)
 have b:=N06 ((l.take 200).flatMap (exP bs)) []
 grind[W0a,List.length_reverse,List.length_take,List.length_nil]
def H0n{g:B0}(a:D1 g):BOk (U6 g):=by have h:=L0x a;exact⟨λw b=>⟨(h.1 w b).1,oG⟩,by have:=h.2;omega⟩
def i0p(k r:Int)(ws:List (List Int))(w pf:List Int)(g:B0)(n:Int)(f:ws.length<=140737488355328)(h:Y8 ws)(m:w.length<=140737488355328)(d:g.2.2.length<=140737488355328): Q01 (k,r,ws,w,pf,g,n)=some (y00 k r ws w pf g n):=by
 have u:=i09 r ws f h;have A:=h03 r w m;have C:=j04 g d;have e:=A0n g d ws f h;have E:=B0f g d (inv w) (by rw[J07];exact m);have F:=A0n (G3 g (inv w)).1 (by grind[P09,inv]) ws f h;have j:=C0f g d;have l:=k0a g d;unfold y00;obtain⟨a,b,c⟩:=g;unfold Q01;simp only[u,oB];cases hA:O2 r ws;·simp only[bF,bT,M1,oB,cT,if_true,Bool.false_and,zF]
 simp only[bT,bF,G1,A,oB,zF];cases hW:O1 r w;·simp only[bF,bT,M1,oB,cT,if_true,Bool.false_and,Bool.and_false,zF]
 simp only[bT,zF];by_cases hr:a=r
 ·subst hr;simp only[decide_true,bT,bF,G1,C,oB,zF];cases hc:D1 (a,b,c);·grind
  obtain⟨K,J,H⟩:=x07 hA;have G:=H0n hc;have o:=J0x hc;have p:=U0v G pf;have s:=F05 (a:=W0a (U6 (a,b,c)) pf) (b:=w) (by grind[J0u]);have t:=X0s hc ws H oM;have i:=g05 hc hW;have D:=y05 w (by have:=(w00 hW).1;omega);simp only[bT,fT,if_false,Bool.and_self,cT];by_cases k1:k=1;·rw[iP (dT k1),iP k1,e,oB];cases m05 (a,b,c) ws<;>simp[G1,M1,o,p,s]
  rw[iE (by simpa using k1),iE k1];by_cases k2:k=2;·rw[iP (dT k2),iP k2,t,oB];cases (ws.all λv=>S4 (a,b,c) v)<;>simp[G1,M1,i]
  rw[iE (by simpa using k2),iE k2];by_cases k3:k=3;·rw[iP (dT k3),iP k3,e,oB];cases m05 (a,b,c) ws<;>simp[G1,M1,i]
  rw[iE (by simpa using k3),iE k3];by_cases k4:k=4;·rw[iP (dT k4),iP k4,D,oB,E,oB];generalize G3 (a,b,c) (inv w)=q at *;obtain⟨⟨x,y,z⟩,I⟩:=q;cases I<;>simp[G1,M1,F]
  rw[iE (by simpa using k4),iE k4];by_cases k5:k=5
  ·rw[iP (dT k5),iP k5,e,oB];cases m05 (a,b,c) ws;·simp only[M1,oB,zF,Bool.false_and];grind[F0,I0]
   simp only[G1,j.1,oB,cT,Bool.true_and];rw[F0 j.2,oB];cases decide (i02 (a,b,c)=((ws.length:Nat):Int))<;>rfl
  rw[iE (by simpa using k5),iE k5];by_cases k6:k=6
  ·rw[iP (dT k6),iP k6,e,oB];cases m05 (a,b,c) ws;·simp only[M1,oB,zF,Bool.false_and];grind[F0,I0]
   simp only[G1,l.1,oB,cT,Bool.true_and];rw[F0 l.2,oB];cases decide (c01 (a,b,c)=n)<;>rfl
  rw[iE (by simpa using k6),iE k6]
 simp only[dF hr,bF,bT,M1,oB,cT,if_true,Bool.false_and,Bool.and_false,zF]
def j0p(k r:Int)(ws:List (List Int))(w pf:List Int)(g:B0)(n:Int)(f:ws.length<=140737488355328)(h:Y8 ws)(j:w.length<=140737488355328)(d:g.2.2.length<=140737488355328): w9 (k,r,ws,w,pf,g,n)=some (y00 k r ws w pf g n):=by
 have s:=k09 r ws f h;have t:=i03 r w j;have u:=l01 g d;have e:=B0n g d ws f h;have C:=l0l g d (inv w) (by rw[J07];exact j);have D:=B0n (G3 g (inv w)).1 (by grind[P09,inv]) ws f h;have E:=m0l g d;have F:=h0p g;have G:=W0e g d;have H:=n0l g;unfold y00;obtain⟨a,b,c⟩:=g;unfold w9;simp only[s,oB];cases hA:O2 r ws;·simp only[bF,bT,M1,oB,cT,if_true,Bool.false_and,zF]
 simp only[bT,bF,G1,t,oB,zF];cases hW:O1 r w;·simp only[bF,bT,M1,oB,cT,if_true,Bool.false_and,Bool.and_false,zF]
 simp only[bT,bF,G1,u,oB,zF];cases hc:D1 (a,b,c);·grind
 simp only[bT,zF];by_cases hr:a=r
 ·subst hr;obtain⟨M,L,J⟩:=x07 hA;have I:=H0n hc;have l:=d0z hc;have m:=V0v I pf;have o:=c0i (a:=W0a (U6 (a,b,c)) pf) (b:=w) (by grind[J0u]);have p:=Y0s hc ws J oM;have i:=c0d hc hW;have A:=u07 w (by have:=(w00 hW).1;omega);simp only[decide_true,bT,fT,if_false,Bool.and_self,cT];by_cases k1:k=1;·rw[iP (dT k1),iP k1,e,oB];cases m05 (a,b,c) ws<;>simp[G1,M1,l,m,o]
  rw[iE (by simpa using k1),iE k1];by_cases k2:k=2;·rw[iP (dT k2),iP k2,p,oB];cases (ws.all λv=>S4 (a,b,c) v)<;>simp[G1,M1,i]
  rw[iE (by simpa using k2),iE k2];by_cases k3:k=3;·rw[iP (dT k3),iP k3,e,oB];cases m05 (a,b,c) ws<;>simp[G1,M1,i]
  rw[iE (by simpa using k3),iE k3];by_cases k4:k=4;·rw[iP (dT k4),iP k4,A,oB,C,oB];generalize G3 (a,b,c) (inv w)=q at *;obtain⟨⟨x,y,z⟩,K⟩:=q;cases K<;>simp[G1,M1,D]
  rw[iE (by simpa using k4),iE k4];by_cases k5:k=5
  ·rw[iP (dT k5),iP k5,e,oB];cases m05 (a,b,c) ws;·simp only[M1,oB,zF,Bool.false_and];grind[F0,I0]
   simp only[G1,E,oB,cT,Bool.true_and];rw[F0 F,oB];cases decide (i02 (a,b,c)=((ws.length:Nat):Int))<;>rfl
  rw[iE (by simpa using k5),iE k5];by_cases k6:k=6
  ·rw[iP (dT k6),iP k6,e,oB];cases m05 (a,b,c) ws;·simp only[M1,oB,zF,Bool.false_and];grind[F0,I0]
   simp only[cT,Bool.true_and];by_cases c6:n>0;·simp only[dT c6,G1,G,oB,cT,Bool.and_true];rw[F0 H,oB]
   simp only[dF c6,M1,oB,zF,Bool.and_false];grind[F0,I0]
  rw[iE (by simpa using k6),iE k6]
 grind
def W0g(c:L2):Prop:=c.2.2.1.length<=140737488355328/\Y8 c.2.2.1/\c.2.2.2.1.length<=140737488355328/\c.2.2.2.2.2.1.2.2.length<=140737488355328
def d0i(c:L2)(h:W0g c):Q01 c=some (N9 c):=i0p c.1 c.2.1 c.2.2.1 c.2.2.2.1 c.2.2.2.2.1 c.2.2.2.2.2.1 c.2.2.2.2.2.2 h.1 h.2.1 h.2.2.1 h.2.2.2
def X0a(c:L2)(h:W0g c):w9 c=some (N9 c):=j0p c.1 c.2.1 c.2.2.1 c.2.2.2.1 c.2.2.2.2.1 c.2.2.2.2.2.1 c.2.2.2.2.2.2 h.1 h.2.1 h.2.2.1 h.2.2.2
def g0z(x:U0d):Prop:=x.2.length<=1048576/\∀ c∈x.2,W0g c
def P0x(l:List (List Int))(h:l.length<=1099511627776)(g:∀ w∈l,w.length<=17592186044416):∀(d k fuel:Nat) (acc:List (List Int)),k+d=l.length->d<fuel->acc.length<=k -> j00 l fuel (k:Int) acc=some (acc++l.drop k)
 |d,k,0,acc,c,hf,b=>oM
 |0,k,fuel+1,acc,c,hf,b=>by rw[j00.eq_2,iE oG,J1 oM,List.append_nil]
 |d+1,k,fuel+1,acc,c,hf,b=>by
  have f:k<l.length:=oM;have a:=V3 f;have i:=g _ (mG a);have e:=L1 a;generalize l[k]=w at a i e;rw[j00.eq_2,iP oG,E2 a,oB,F0 oG,oB,F0 oG,oB,G2 f oM,
   P0x l h g d (k+1) fuel _ oM oM oG,e,(nA),List.append_assoc];rfl
def Q0x(l:List (List Int))(a:l.length<=1099511627776)(b:∀ w∈l,w.length<=17592186044416):W03 l=some l:=by have h:=P0x l a b l.length 0 U0 [] oM (F1 oM) oS;grind[W03]
theorem R0z{a:List Int}(b:a.length<=17592186044416):K9 a=some a:=by grind[K9,F0]
def o0B(l:List (List Int))(i:l.length<=1099511627776)(g:∀ w∈l,w.length<=17592186044416):∀(d k fuel:Nat) (acc:List (List Int)),k+d=l.length->d<fuel->acc.length<=k -> E8 l fuel (k:Int) acc=some (acc++l.drop k)
 |d,k,0,acc,c,hf,b=>oM
 |0,k,fuel+1,acc,c,hf,b=>by rw[E8.eq_2,iE oG,J1 oM,List.append_nil]
 |d+1,k,fuel+1,acc,c,hf,b=>by
  have f:k<l.length:=oM;have a:=V3 f;have h:=g _ (mG a);have e:=L1 a;generalize l[k]=w at a h e;rw[E8.eq_2,iP oG,E2 a,oB,R0z h,oB,F0 oG,oB,G2 f oM,
   o0B l i g d (k+1) fuel _ oM oM oG,e,List.append_assoc];rfl
def Q0B(l:List (List Int))(a:l.length<=1099511627776)(b:∀ w∈l,w.length<=17592186044416):X03 l=some l:=by have h:=o0B l a b l.length 0 U0 [] oM (F1 oM) oS;rw[show((0:Nat):Int)=0 from rfl,(dZ),(nA)]at h;unfold X03;rw[F0 oM,oB];grind
def p0B(c:L2):Prop:=(c.2.2.1.length<=1099511627776/\∀ w∈c.2.2.1,w.length<=1099511627776)/\c.2.2.2.1.length<=1099511627776/\c.2.2.2.2.1.length<=1099511627776/\c.2.2.2.2.2.1.2.2.length<=1099511627776
def R0x(c:L2)(h:p0B c):n05 c=some c:=by obtain⟨⟨f,g⟩,i,j,l⟩:=h;have d:=Q0x _ f λw m=>Nat.le_trans (g w m) oD;have e:=Z00 _ l;obtain⟨k,r,ws,w,p,⟨a,b,es⟩,n⟩:=c;simp only at i j d e;unfold n05;simp only[d,e,oB,nA,lN];rw[F0 oM,oB,F0 oM,oB]
def X0e(g:B0):Prop:=∀ v,Rch g.2.2 0 v->∀ x∈Y5 g.1.toNat 1,∃ z,z∈w01 v x g.2.2
theorem e0i{g:B0}(b:inG g)(h0:0<g.2.1){v:Int}(h:Rch g.2.2 0 v):0<=v/\v<g.2.1:=by have:=Rch.sub (es:=g.2.2) (v:=0) (P:=λv=>v=0∨(0<=v/\v<g.2.1)) (.inl rfl) (λe a=>⟨λ_ => .inr (b e a).2.1,λ_ => .inr (b e a).1⟩) h;grind
def r0r{es:List Q0}{v x z:Int}(h:Rch es 0 v)(a:z∈w01 v x es):Rch es 0 z:=by obtain⟨e,c,b⟩:=U2.1 a;grind[Rch.closed]
def Z0s{P:List Int}{a:Q0}:∀ {es:List Q0},a∈pE P es↔∃ e∈es,(0<=getI P e.1/\0<=getI P e.2.2)/\a=(getI P e.1,e.2.1,getI P e.2.2)
 | []=>by simp[pE]
 |e::r=>by
  unfold pE;by_cases c:0<=getI P e.1/\0<=getI P e.2.2;·rw[dT c.1,dT c.2];simp only[Bool.and_self,cT,mE,Z0s (es:=r),exists_eq_or_imp];grind
  have:(decide (0<=getI P e.1)&&decide (0<=getI P e.2.2))=false:=by grind
  rw[this];simp only[zF,mE,Z0s (es:=r),exists_eq_or_imp];grind
def I0n{g:B0}(n:inG g)(h0:0<g.2.1){o:List Int}(u:inV g.2.1.toNat o)(s:o.Nodup)(H:∃ t,o=0::t)(I:∀ v,Rch g.2.2 0 v->v∈o)(hf:X0e g):X0e (A6 g o):=by
 obtain⟨t,rfl⟩:=H;have C:getI (plc g.2.1.toNat (0::t)) 0=0:=W0c u s (i:=0) rfl;have k:∀ v,Rch g.2.2 0 v->0<=getI (plc g.2.1.toNat (0::t)) v:=λv c=>by grind[List.getElem?_of_mem,W0c]
 have p:∀ f,f∈(A6 g (0::t)).2.2↔∃ e∈g.2.2,(0<=getI (plc g.2.1.toNat (0::t)) e.1/\0<=getI (plc g.2.1.toNat (0::t)) e.2.2)/\f=(getI (plc g.2.1.toNat (0::t)) e.1,e.2.1,getI (plc g.2.1.toNat (0::t)) e.2.2):=λf=>by show f∈H4 X0 [] (pE _ g.2.2)↔_;rw[O4 Q3,←Z0s];simp
 have J:=λ{x y:Int} q G l m=>S0g (x:=x) (y:=y) u s q G l m;generalize getI (plc g.2.1.toNat (0::t))=P at *;have back:∀ d,Rch (A6 g (0::t)).2.2 0 d->∃ v,Rch g.2.2 0 v/\d=P v:=λd h=>by
  refine Rch.sub (P:=λd=>∃ v,Rch g.2.2 0 v/\d=P v) ⟨0,.base,C.symm⟩ (λf D=>?_) h;obtain⟨e,j,⟨L,M⟩,rfl⟩:=(p f).1 D;have K:=n e j;constructor;·rintro⟨v,c,m⟩;have F:=e0i n h0 c;grind[Rch.closed]
  rintro⟨v,c,m⟩;have F:=e0i n h0 c;grind[Rch.closed]
 intro d E x q;obtain⟨v,c,rfl⟩:=back d E;obtain⟨z,A⟩:=hf v c x q;have w:=r0r c A;refine⟨P z,U2.2 ?_⟩;obtain⟨e,j,l⟩:=U2.1 A;rcases l with⟨a,b,rfl,rfl⟩|⟨a,b,rfl,rfl⟩;·exact⟨(P e.1,e.2.1,P e.2.2),(p _).2 ⟨e,j,⟨k _ c,k _ w⟩,rfl⟩,.inl ⟨a,b,rfl,rfl⟩⟩
 exact⟨(P e.1,e.2.1,P e.2.2),(p _).2 ⟨e,j,⟨k _ w,k _ c⟩,rfl⟩,.inr ⟨a,b,rfl,rfl⟩⟩
def a0t(v:Int):List Q0->Nat
 | []=>0
 |e::r=>(if e.1=v then 1 else 0)+a0t v r
def b0t(v:Int):List Q0->Nat
 | []=>0
 |e::r=>(if e.2.2=v then 1 else 0)+b0t v r
def o0l(v:Int):∀ es,Z02 v es=a0t v es+b0t v es
 | []=>rfl
 |e::r=>by have:=o0l v r;grind[Z02,g08,a0t,b0t]
theorem s0r{v:Int}:∀ {es:List Q0} {e:Q0},e∈es->e.1=v->1<=a0t v es
 |x::r,e,h,a=>by
  rcases mE.1 h with rfl|h;·simp_all[a0t,iP]
  have:=s0r h a;simp only[a0t];omega
theorem t0r{v:Int}:∀ {es:List Q0} {e:Q0},e∈es->e.2.2=v->1<=b0t v es
 |x::r,e,h,a=>by
  rcases mE.1 h with rfl|h;·simp_all[b0t,iP]
  have:=t0r h a;simp only[b0t];omega
def S0x{g:B0}(l:1<=g.1)(hf:X0e g){v:Int}(b:Rch g.2.2 0 v):2<=Z02 v g.2.2:=by
 have a:=p09 g.1.toNat 1 1 (Nat.le_refl _) oM;obtain⟨z,f⟩:=hf v b 1 a.1;obtain⟨y,c⟩:=hf v b (-1) a.2;obtain⟨e,k,h⟩:=U2.1 f;obtain⟨d,j,i⟩:=U2.1 c;rw[o0l];have s1:1<=a0t v g.2.2:=by grind[s0r]
 grind[s2,b0t,t0r]
def u0r{a:Nat->Bool}:∀ {d v k:Nat},lf a d v=some k->a k
 |0,v,k,h=>nomatch h
 |d+1,v,k,h=>by
  unfold lf at h;cases hb:a v;·rw[hb]at h;exact u0r h
  grind
def h0z(k d:Nat)(a:1<=k):∃ t,wo k (d+1) 0=0::t:=by unfold wo;rw[iE oM];exact⟨_,rfl⟩
theorem p0l:∀(d:Nat) {g:B0},H0 g=true->X0e g->X0e (T8 d g)
 |0,g,h,hf=>hf
 |d+1,g,h,hf=>by
  unfold T8
  cases e:J9 g with
  |none=>exact hf
  |some k =>
   obtain⟨i,t,u,w⟩:=P0 h
   obtain⟨b,o,j,l⟩:=L08 (Y1 h) e
   have p:=d0e e
   refine p0l d (f05 h b (T06 _ _ _) j l) (I0n i (by omega) b (T06 _ _ _) ?_ (λv f=>?_) hf)
   ·obtain⟨n,q⟩:∃ n,g.2.1.toNat=n+1:=⟨g.2.1.toNat-1,by omega⟩
    simp_all[h0z]
   ·have s:=e0i i (by omega) f
    have:=Y0h k g.2.1.toNat 0 v.toNat (by omega) (by omega) (λc=>by
     have a:=u0r e
     have m:(k:Int)=v:=by omega
     unfold N0a at a
     rw[m,Bool.or_eq_true]at a
     rcases a with a|a
     ·have:=S0x (by omega) hf f
      grind
     grind[I0s,Q06,decide_eq_true])
    rwa [show((v.toNat:Nat):Int)=v by omega]at this
def W0v{g:B0}(h:H0 g)(hf:X0e g):X0e (S03 g):=by
 have b:=m01 40 h;have i:J9 (T8 40 g)=none:=by obtain⟨c,d,e,f⟩:=P0 h;grind[o09,Y1]
 obtain⟨c,d,e,f⟩:=P0 b;obtain⟨a,j⟩:=z05 b;show X0e (A6 (T8 40 g) (l3 (T8 40 g)));refine I0n c oM a.2 a.1 (q09 _) (λv k=>?_) (p0l 40 h hf);grind[e0i,S0a]
def q0l{g:B0}{v:Int}:∀(a:List Int),(∀ x∈a,0<=S0 g v x)->p08 g v a = []
 | [],_=>rfl
 |x::a,h=>by unfold p08;have:=h x mS;rw[dF (show ¬ S0 g v x<0 by omega),q0l a λy b=>h y (mC _ b)];rfl
def r0l{g:B0}:∀(d k:Nat),(∀ v:Nat,k<=v->v<k+d->∀ x∈Y5 g.1.toNat 1,0<=S0 g (v:Int) x)->N09 g d k = []
 |0,k,h=>rfl
 |d+1,k,h=>by unfold N09;rw[q0l _ (h k (Nat.le_refl _) oM),r0l d (k+1) λv a b=>h v oM oM];rfl
def T0x{g:B0}(h:H0 g)(hf:X0e g):t04 (S03 g):=by
 have e:=f0e h;have a:=V1 e;have f:=W0v h hf;obtain⟨k,o,p,q⟩:=P0 a;have i:J9 (S03 g)=none:=by simp_all[D1,aE,Option.isNone_iff_eq_none]
 have n:L01 (S03 g) = []:=by
  unfold L01;refine r0l _ 0 λv l m x j=>?_;have b:Rch (S03 g).2.2 0 (v:Int):=by
   by_cases c:v=0;·subst c;exact .base
   have:=F0b i v oM oM;unfold N0a at this;simp only[Bool.or_eq_false_iff,Bool.not_eq_false',dE]at this;exact(Q06 _ _ _).1 this.2
  obtain⟨z,d⟩:=f _ b x j;rw[K07 a d];exact(e0i k oM (r0r b d)).1
 grind[t04]
def X05(g:B0)(l:Int):Nat->Nat->List Int
 |0,_=>[]
 |d+1,k=>if S0 g (k:Int) l<0 then(k:Int)::X05 g l d (k+1)else X05 g l d (k+1)
def g0j(g:B0)(l:Int):Nat->Nat->List Int
 |0,_=>[]
 |d+1,k=>if S0 g (k:Int) l<0 then g0j g l d (k+1)else(k:Int)::g0j g l d (k+1)
theorem X0g(g:B0)(l:Int):∀ d k,(X05 g l d k).length+(g0j g l d k).length=d
 |0,k=>rfl
 |d+1,k=>by have:=X0g g l d (k+1);unfold X05 g0j;split<;>simp only[lC]<;>omega
theorem Y0a{g:B0}{l v:Int}:∀ {d k:Nat},v∈X05 g l d k↔∃ a:Nat,v=(a:Int)/\(k<=a/\a<k+d)/\S0 g v l<0
 |0,k=>⟨(λh=>by cases h),λ⟨a,_,h,_⟩=>oM⟩
 |d+1,k=>by have b:=Y0a (g:=g) (l:=l) (v:=v) (d:=d) (k:=k+1);grind[X05,absurd]
theorem Z0a{g:B0}{l v:Int}:∀ {d k:Nat},v∈g0j g l d k↔∃ a:Nat,v=(a:Int)/\(k<=a/\a<k+d)/\0<=S0 g v l
 |0,k=>⟨(λh=>by cases h),λ⟨a,_,h,_⟩=>oM⟩
 |d+1,k=>by have b:=Z0a (g:=g) (l:=l) (v:=v) (d:=d) (k:=k+1);grind[g0j]
theorem D0f(g:B0)(l:Int):∀ d k,(X05 g l d k).Nodup
 |0,k=>List.nodup_nil
 |d+1,k=>by
  unfold X05;split;·refine List.nodup_cons.2 ⟨λh=>?_,D0f g l d (k+1)⟩;grind[Y0a]
  exact D0f g l d (k+1)
def E0f(g:B0)(l:Int):∀ d k,(g0j g l d k).Nodup
 |0,k=>List.nodup_nil
 |d+1,k=>by
  unfold g0j;split;·exact E0f g l d (k+1)
  refine List.nodup_cons.2 ⟨λh=>?_,E0f g l d (k+1)⟩;grind[Z0a]
def K0u:∀ {a b:List Int},a.Nodup->(∀ x∈a,x∈b)->a.length<=b.length
 | [],b,_,_=>Nat.zero_le _
 |x::a,b,g,h=>by obtain⟨d,f⟩:=List.nodup_cons.1 g;have i:=h x mS;have:=K0u (b:=b.erase x) f λy c=>(List.mem_erase_of_ne (λe=>d (by rw[←e];exact c))).2 (h y (mC _ c));grind
def U0x{g:B0}(hf:H0 g)(l:Int):(g0j g l g.2.1.toNat 0).length<=(g0j g (-l) g.2.1.toNat 0).length:=by
 obtain⟨m,u,w,x⟩:=P0 hf;have h:((g0j g l g.2.1.toNat 0).map λv=>S0 g v l).Nodup:=by rw[List.Nodup,List.pairwise_map];refine List.Pairwise.imp_of_mem (λ{a b} f d s e=>?_) (E0f g l g.2.1.toNat 0);obtain⟨_,_,_,c⟩:=Z0a.1 f;obtain⟨_,_,_,q⟩:=Z0a.1 d;have n:=I00 hf rfl c;grind[I00]
 have:=K0u (b:=g0j g (-l) g.2.1.toNat 0) h λy k=>by obtain⟨v,j,rfl⟩:=List.mem_map.1 k;obtain⟨t,o,p,c⟩:=Z0a.1 j;have d:=I00 hf rfl c;have i:=B03 m v l;refine Z0a.2 ⟨(S0 g v l).toNat,oM,?_,by rw[d];omega⟩;rcases i with e|e<;>omega
 rwa [List.length_map]at this
theorem J0j{g:B0}(hf:H0 g)(l:Int):(X05 g l g.2.1.toNat 0).length=(X05 g (-l) g.2.1.toNat 0).length:=by have b:=U0x hf l;have a:=U0x hf (-l);rw[Int.neg_neg]at a;grind[X0g]
def r0m(l:Int):List Int->List Int->List Q0
 |a::A,b::B=>(a,l,b)::r0m l A B
 |_,_=>[]
theorem Y0g(l:Int):∀(A B:List Int),A.length=B.length->(r0m l A B).length=A.length
 | [],[],_=>rfl
 |a::A,b::B,h=>by simp only[r0m,lC,Y0g l A B (by simpa using h)]
 | [],b::B,h=>by simp at h
 |a::A,[],h=>by simp at h
def e0d(l:Int):∀(A B:List Int) (i:Nat) (a b:Int),A[i]?=some a->B[i]?=some b->(r0m l A B)[i]?=some (a,l,b)
 |x::A,y::B,0,a,b,c,d=>by grind[r0m]
 |x::A,y::B,i+1,a,b,c,d=>by simp at c d;simpa [r0m] using e0d l A B i a b c d
 | [],B,i,a,b,c,d=>by simp at c
 |x::A,[],i,a,b,c,d=>by simp at d
def v0r(l:Int):∀(A B:List Int) (e:Q0),e∈r0m l A B->e.2.1=l/\∃ i:Nat,A[i]?=some e.1/\B[i]?=some e.2.2
 |a::A,b::B,e,h=>by
  rcases mE.1 h with rfl|h;·exact⟨rfl,0,rfl,rfl⟩
  obtain⟨c,i,d,f⟩:=v0r l A B e h;exact⟨c,i+1,by simpa using d,by simpa using f⟩
 | [],B,e,h=>by cases B<;>cases h
 |a::A,[],e,h=>by cases h
def k0p(g:B0)(l:Int):List Q0:=r0m l (X05 g l g.2.1.toNat 0) (X05 g (-l) g.2.1.toNat 0)
def nwA(g:B0):Nat->Nat->List Q0
 |0,_=>[]
 |d+1,l=>k0p g (l:Int)++nwA g d (l+1)
def L0u{g:B0}{e:Q0}:∀ {d l:Nat},e∈nwA g d l↔∃ j:Nat,(l<=j/\j<l+d)/\e∈k0p g (j:Int)
 |0,l=>⟨(λh=>by cases h),λ⟨j,h,_⟩=>oM⟩
 |d+1,l=>by rw[nwA,List.mem_append,L0u (d:=d) (l:=l+1)];grind
def s0l{g:B0}(hf:H0 g)(l:Int):(k0p g l).length<=40:=by obtain⟨a,b,c,d⟩:=P0 hf;have:=X0g g l g.2.1.toNat 0;grind[k0p,Y0g,J0j]
def M0u{g:B0}(hf:H0 g):∀ d l,(nwA g d l).length<=40*d
 |0,l=>Nat.zero_le _
 |d+1,l=>by have a:=s0l hf (l:Int);have b:=M0u hf d (l+1);rw[nwA,(lA)];omega
def a04(g:B0):B0:=(g.1,g.2.1,H4 X0 g.2.2 (nwA g g.1.toNat 1))
def X06(g:B0):B0×Bool:=bif H0 g&&decide (g.2.1*g.1<=120)then(a04 g,true)else((0,0,[]),false)
def t0l{d:Type}(c:d->d->Int):∀(a b l:List d),H4 c l (a++b)=H4 c (H4 c l a) b
 | [],b,l=>rfl
 |x::a,b,l=>t0l c a b (D02 c x l)
def S0z(A B:List Int)(l r n:Int)(k:A.length=B.length)(m:A.length<=1000):∀(d i fuel:Nat) (es:List Q0),i+d=A.length->d<fuel->es.length+d<=100000 -> Q5 A B l fuel (i:Int) r n es=some (r,n,H4 X0 es ((r0m l A B).drop i))
 |d,i,0,es,f,hf,g=>oM
 |0,i,fuel+1,es,f,hf,g=>by rw[Q5.eq_2,oB,F0 oM,oB,iE oG,J1 (by grind[Y0g])];rfl
 |d+1,i,fuel+1,es,f,hf,g=>by have h:i<A.length:=oM;have c:=V3 h;have e:=V3 (show i<B.length by omega);generalize A[i]=a at c;generalize B[i]=b at e;have p:=e0d l A B i a b c e;have j:=r02 [(a,l,b)] es;have o:H4 X0 es [(a,l,b)]=D02 X0 (a,l,b) es:=rfl;rw[o]at j;simp only[lC,lN]at j;have q:=S0z A B l r n k m d (i+1) fuel (D02 X0 (a,l,b) es) oM oM oM;rw[Q5.eq_2,oB,F0 oM,oB,iP oG,E2 c,oB,E2 e,oB,D08 _ _ oM,oB,G2 h oM,q,L1 p];rfl
def T0z(A B:List Int)(l r n:Int)(j:A.length=B.length)(k:A.length<=1000):∀(d i fuel:Nat) (es:List Q0),i+d=A.length->d<fuel->es.length+d<=100000 -> T5 A.length A B l fuel (i:Int) r n es=some (r,n,es++(r0m l A B).drop i)
 |d,i,0,es,f,hf,g=>oM
 |0,i,fuel+1,es,f,hf,g=>by simp_all[T5.eq_2,iE,dE,J1,Y0g]
 |d+1,i,fuel+1,es,f,hf,g=>by have h:i<A.length:=oM;have c:=V3 h;have e:=V3 (show i<B.length by omega);generalize A[i]=a at c;generalize B[i]=b at e;have m:=e0d l A B i a b c e;have o:=T0z A B l r n j k d (i+1) fuel (es ++ [(a,l,b)]) oM oM (by simp;omega);rw[T5.eq_2,iP oG,E2 c,oB,E2 e,oB,oB,F0 (by simp;omega),oB,G2 h oM,o,L1 m];simp
def U0z{g:B0}(i:H0 g){l:Int}(n : -3<=l/\l<=3):∀(d k fuel:Nat) (a b:List Int),k+d=g.2.1.toNat->d<fuel->a.length<=k->b.length<=k -> S3 g.2.1 g.1 g.2.2 l fuel (k:Int) a b=some (a++X05 g l d k,b++X05 g (-l) d k)
 |d,k,0,a,b,h,hf,c,e=>oM
 |0,k,fuel+1,a,b,h,hf,c,e=>by rw[S3.eq_2,iE oG];simp[X05]
 |d+1,k,fuel+1,a,b,h,hf,c,e=>by
  obtain⟨j,u,m,v⟩:=P0 i;have s:=m04 g (k:Int) l ⟨⟨oM,oM⟩,oM⟩ oM;have t:=m04 g (k:Int) (-l) ⟨⟨oM,oM⟩,oM⟩ oM;have p:=V02 j m.2 (k:Int) l;have q:=V02 j m.2 (k:Int) (-l);have f:=λa b c e=>U0z i n d (k+1) fuel a b oM oM c e;have o:i64.wrap ((k:Int)+1)=((k+1:Nat):Int):=by rw[w64 oM oM];omega
  rw[S3.eq_2,iP oG];simp only[show(g.1,g.2.1,g.2.2)=g from rfl,show i64.wrap (0-l) = -l by grind[w64],s,t,oB,F0 p,F0 q,o];unfold X05;by_cases c1:S0 g (k:Int) l<0<;>by_cases c2:S0 g (k:Int) (-l)<0;·rw[iP (dT c1),iP c1,iP c2,iP (dT c2),F0 (by simp;omega),oB,F0 (by simp;omega),oB,f _ _ (by simp;omega) (by simp;omega)];simp
  ·rw[iP (dT c1),iP c1,iE c2,iE (by simpa using c2),F0 (by simp;omega),oB,f _ _ (by simp;omega) oM];simp
  ·rw[iE (by simpa using c1),iE c1,iP c2,iP (dT c2),F0 (by simp;omega),oB,f _ _ oM (by simp;omega)];simp
  grind
def V0z{g:B0}(i:H0 g){l:Int}(n : -3<=l/\l<=3):∀(d k fuel:Nat) (a b:List Int),k+d=g.2.1.toNat->d<fuel->a.length<=k->b.length<=k -> T3 g.2.1 g.1 g.2.2 l fuel (k:Int) a b=some (a++X05 g l d k,b++X05 g (-l) d k)
 |d,k,0,a,b,h,hf,c,e=>oM
 |0,k,fuel+1,a,b,h,hf,c,e=>by rw[T3.eq_2,iE oG];simp[X05]
 |d+1,k,fuel+1,a,b,h,hf,c,e=>by
  obtain⟨j,u,m,v⟩:=P0 i;have s:=a05 g (k:Int) l ⟨⟨oM,oM⟩,oM⟩ oM;have t:=a05 g (k:Int) (-l) ⟨⟨oM,oM⟩,oM⟩ oM;have p:=V02 j m.2 (k:Int) l;have q:=V02 j m.2 (k:Int) (-l);have f:=λa b c e=>V0z i n d (k+1) fuel a b oM oM c e;have o:i64.wrap ((k:Int)+1)=((k+1:Nat):Int):=by grind[w64]
  rw[T3.eq_2,iP oG];simp only[show(g.1,g.2.1,g.2.2)=g from rfl,show i64.wrap (0-l) = -l by grind[w64],s,t,oB,F0 p,F0 q,o];unfold X05;by_cases c1:S0 g (k:Int) l<0<;>by_cases c2:S0 g (k:Int) (-l)<0;·rw[iP (dT c1),iP c1,iP c2,iP (dT c2),F0 (by simp;omega),oB,F0 (by simp;omega),oB,f _ _ (by simp;omega) (by simp;omega)];simp
  ·rw[iP (dT c1),iP c1,iE c2,iE (by simpa using c2),F0 (by simp;omega),oB,f _ _ (by simp;omega) oM];simp
  ·rw[iE (by simpa using c1),iE c1,iP c2,iP (dT c2),F0 (by simp;omega),oB,f _ _ oM (by simp;omega)];simp
  grind
def W0z{g:B0}(a:H0 g)(c b:Int):∀(d l fuel:Nat) (es:List Q0),l+d=g.1.toNat+1->1<=l->d<fuel->es.length+40*d<=10000 -> R5 g.1 g.2.1 g.2.2 fuel (l:Int) c b es=some (c,b,H4 X0 es (nwA g d l))
 |d,l,0,es,i,h,hf,j=>oM
 |0,l,fuel+1,es,i,h,hf,j=>by rw[R5.eq_2,iE oG];rfl
 |d+1,l,fuel+1,es,i,h,hf,j=>by obtain⟨p,q,s,t⟩:=P0 a;have f:=U0z a (l:=(l:Int)) oM g.2.1.toNat 0 U0 [] [] oM (F1 oM) oS oS;rw[show((0:Nat):Int)=0 from rfl,(nA),(nA)]at f;have m:=X0g g (l:Int) g.2.1.toNat 0;have e:=S0z (X05 g (l:Int) g.2.1.toNat 0) (X05 g (-(l:Int)) g.2.1.toNat 0) (l:Int) c b (J0j a _) oM (X05 g (l:Int) g.2.1.toNat 0).length 0 U0 es oM (F1 oM) oM;rw[show((0:Nat):Int)=0 from rfl,(dZ)]at e;have n:=s0l a (l:Int);have o:=r02 (k0p g (l:Int)) es;have k:=W0z a c b d (l+1) fuel (H4 X0 es (k0p g (l:Int))) oM oM oM oM;rw[R5.eq_2,iP oG,f,oB];simp only;rw[e,oB,G2 (show l<1000 by omega) oM,nwA,t0l];exact k
def X0z{g:B0}(a:H0 g)(c b:Int):∀(d l fuel:Nat) (es:List Q0),l+d=g.1.toNat+1->1<=l->d<fuel->es.length+40*d<=10000 -> U5 g.1 g.2.1 g.2.2 fuel (l:Int) c b es=some (c,b,es++nwA g d l)
 |d,l,0,es,i,h,hf,j=>oM
 |0,l,fuel+1,es,i,h,hf,j=>by rw[U5.eq_2,iE oG];simp[nwA]
 |d+1,l,fuel+1,es,i,h,hf,j=>by obtain⟨o,p,q,s⟩:=P0 a;have f:=V0z a (l:=(l:Int)) oM g.2.1.toNat 0 U0 [] [] oM (F1 oM) oS oS;rw[show((0:Nat):Int)=0 from rfl,(nA),(nA)]at f;have m:=X0g g (l:Int) g.2.1.toNat 0;have e:=T0z (X05 g (l:Int) g.2.1.toNat 0) (X05 g (-(l:Int)) g.2.1.toNat 0) (l:Int) c b (J0j a _) oM (X05 g (l:Int) g.2.1.toNat 0).length 0 U0 es oM (F1 oM) oM;rw[show((0:Nat):Int)=0 from rfl,(dZ)]at e;have n:=s0l a (l:Int);have k:=X0z a c b d (l+1) fuel (es++k0p g (l:Int)) oM oM oM oG;rw[U5.eq_2,iP oG,f,oB];simp only;rw[oB,F0 oM,oB,e,oB,G2 (show l<1000 by omega) oM,nwA,←List.append_assoc];exact k
def V0x{n r:Int}(a:1<=n/\n<=40)(b:1<=r/\r<=3):i64.wrap (n*r)=n*r:=by have:r=1∨r=2∨r=3:=oM;rcases this with rfl|rfl|rfl<;>exact w64 oM oM
def c0t(g:B0)(k:g.2.2.length<=1099511627776):k00 g=some (X06 g):=by
 have d:=N6 g oM;have j:=Z00 g oM;unfold X06;cases hf:H0 g;·rw[hf]at d;obtain⟨a,b,c⟩:=g;unfold k00;grind
 rw[hf]at d;obtain⟨l,f,h,m⟩:=P0 hf;have e:=W0z hf g.1 g.2.1 g.1.toNat 1 U0 g.2.2 oM oM (F1 oM) oM;rw[show((1:Nat):Int)=1 from rfl]at e;have i:=V0x h f;unfold a04;obtain⟨a,b,c⟩:=g;simp only at i e f h ⊢;unfold k00;grind
def d0t(g:B0)(l:g.2.2.length<=1099511627776):m00 g=some (X06 g):=by
 have d:=v00 g oM;have k:=G02 g oM;unfold X06;cases hf:H0 g;·rw[hf]at d;obtain⟨a,b,c⟩:=g;unfold m00;grind
 rw[hf]at d;obtain⟨n,h,i,o⟩:=P0 hf;have e:=X0z hf g.1 g.2.1 g.1.toNat 1 U0 g.2.2 oM oM (F1 oM) oM;rw[show((1:Nat):Int)=1 from rfl]at e;have j:=V0x i h;have m:=M0u hf g.1.toNat 1;have f:=P0c (g.2.2++nwA g g.1.toNat 1) oG;rw[Y0k (B05 (Y1 hf))]at f;unfold a04;obtain⟨a,b,c⟩:=g;simp only at j e h i f ⊢;unfold m00;grind
def s09{g:B0}{e:Q0}:e∈(a04 g).2.2↔e∈g.2.2∨∃ j:Nat,(1<=j/\j<1+g.1.toNat)/\e∈k0p g (j:Int):=by unfold a04;simp only;rw[O4 Q3,L0u]
def a0b{g:B0}{c:Nat}{e:Q0}(h:e∈k0p g (c:Int)):e.2.1=(c:Int)/\(∃ i:Nat,(X05 g (c:Int) g.2.1.toNat 0)[i]?=some e.1/\(X05 g (-(c:Int)) g.2.1.toNat 0)[i]?=some e.2.2) /\ ((0<=e.1/\e.1.toNat<g.2.1.toNat)/\S0 g e.1 (c:Int)<0)/\((0<=e.2.2/\e.2.2.toNat<g.2.1.toNat)/\S0 g e.2.2 (-(c:Int))<0):=by obtain⟨p,i,d,f⟩:=v0r _ _ _ _ h;obtain⟨a,j,k,l⟩:=Y0a.1 (mG d);obtain⟨b,m,n,o⟩:=Y0a.1 (mG f);grind
theorem W0x{l:List Int}(h:l.Nodup){i a:Nat}{x:Int}(b:l[i]?=some x)(c:l[a]?=some x):i=a:=by
 grind[List.getElem?_eq_some_iff,Nat.lt_trichotomy,absurd,List.pairwise_iff_getElem]
theorem X0x{a b:Q0}(c:a.1=b.1)(d:a.2.1=b.2.1)(e:a.2.2=b.2.2):a=b:=by obtain⟨f,g,h⟩:=a;obtain⟨i,j,k⟩:=b;simp only at c d e;rw[c,d,e]
theorem N0u{g:B0}(hf:H0 g){a b:Q0}(c:a∈(a04 g).2.2)(d:b∈(a04 g).2.2)(o:a.2.1=b.2.1)(p:a.1=b.1∨a.2.2=b.2.2):a=b:=by
 obtain⟨h,v,w,z⟩:=P0 hf;rcases s09.1 c with c|⟨i,m,c⟩<;>rcases s09.1 d with d|⟨q,n,d⟩;·have e:=D9 hf c;have l:=D9 hf d;grind
 ·have e:=D9 hf c;have k:=h a c;obtain⟨f,_,f3,j⟩:=a0b d;grind
 ·have e:=D9 hf d;have k:=h b d;obtain⟨f,_,f3,j⟩:=a0b c;grind
 obtain⟨f,⟨x,f2,f3⟩,_,_⟩:=a0b c;obtain⟨s,⟨y,t,u⟩,_,_⟩:=a0b d;grind[W0x,D0f,X0x,oJ]
def l0p{g:B0}(hf:H0 g):inG (a04 g):=λe a=>by
 obtain⟨b,h,j,k⟩:=P0 hf;rcases s09.1 a with a|⟨i,f,a⟩;·exact b e a
 obtain⟨c,_,f3,d⟩:=a0b a;show(0<=e.1/\e.1<g.2.1)/\(0<=e.2.2/\e.2.2<g.2.1)/\1<=e.2.1/\e.2.1<=g.1;omega
def w0r{g:B0}(hf:H0 g):Asc X0 (a04 g).2.2:=s03 Q3 _ _ (B05 (Y1 hf))
def Y0x{g:B0}(hf:H0 g)(l:g.2.1*g.1<=120):(a04 g).2.2.length<=120:=by
 obtain⟨q,s,t,u⟩:=P0 hf;have d:=l0p hf;have m:=M08 (w0r hf);have k:((a04 g).2.2.map λe=>e.1*g.1+(e.2.1-1)).Nodup:=by rw[List.Nodup,List.pairwise_map];refine List.Pairwise.imp_of_mem (λ{a b} h i p e=>?_) m;have f:(0<=a.1/\a.1<g.2.1)/\(0<=a.2.2/\a.2.2<g.2.1)/\1<=a.2.1/\a.2.1<=g.1:=d a h;have o:(0<=b.1/\b.1<g.2.1)/\(0<=b.2.2/\b.2.2<g.2.1)/\1<=b.2.1/\b.2.1<=g.1:=d b i;have c:g.1=1∨g.1=2∨g.1=3:=oM;grind[N0u]
 have:=I9 120 _ k λx n=>by obtain⟨e,j,rfl⟩:=List.mem_map.1 n;have f:(0<=e.1/\e.1<g.2.1)/\(0<=e.2.2/\e.2.2<g.2.1)/\1<=e.2.1/\e.2.1<=g.1:=d e j;have c:g.1=1∨g.1=2∨g.1=3:=oM;rcases c with c|c|c<;>rw[c]at l f ⊢<;>omega
 rwa [List.length_map]at this
def f0d{g:B0}(hf:H0 g)(e:g.2.1*g.1<=120):H0 (a04 g):=by
 obtain⟨l,f,h,m⟩:=P0 hf;have d:W0 (a04 g):=(O03 _).2 ⟨l0p hf,f,h,Y0x hf e,w0r hf⟩;refine(w07 d).2 λa i b j k=>?_;unfold F06;cases c:(decide (a.2.1=b.2.1)&&(decide (a.1=b.1) || decide (a.2.2=b.2.2)));·rfl
 simp only[aE,Bool.or_eq_true,dE]at c;grind[absurd,N0u]
def X0v{g:B0}(hf:H0 g):X0e (a04 g):=λv o x f=>by
 obtain⟨w,y,z,A⟩:=P0 hf;have s:0<=v/\v<g.2.1:=e0i (l0p hf) (show(0:Int)<g.2.1 by omega) o;have f:x∈Y5 g.1.toNat 1:=f;obtain⟨a,t,u,p⟩:=Q0a _ _ _ f;have up:∀ e∈g.2.2,e∈(a04 g).2.2:=λe c=>s09.2 (.inl c);rcases r04 g v x with⟨h,_⟩|h
 ·have m:x=(a:Int)∨x = -(a:Int):=p;have q:=J0j hf (a:Int);rcases m with rfl|rfl;·have d:v∈X05 g (a:Int) g.2.1.toNat 0:=Y0a.2 ⟨v.toNat,oM,oM,oM⟩;obtain⟨i,b⟩:=List.getElem?_of_mem d;have n:=(gI.1 b).1;have l:=V3 (show i<(X05 g (-(a:Int)) g.2.1.toNat 0).length by omega);exact⟨_,U2.2 ⟨(v,(a:Int),_),s09.2 (.inr ⟨a,oM,mG (e0d _ _ _ i _ _ b l)⟩),.inl ⟨oM,rfl,rfl,rfl⟩⟩⟩
  have d:v∈X05 g (-(a:Int)) g.2.1.toNat 0:=Y0a.2 ⟨v.toNat,oM,oM,oM⟩;obtain⟨i,b⟩:=List.getElem?_of_mem d;have n:=(gI.1 b).1;have k:=V3 (show i<(X05 g (a:Int) g.2.1.toNat 0).length by omega);exact⟨_,U2.2 ⟨(_,(a:Int),v),s09.2 (.inr ⟨a,oM,mG (e0d _ _ _ i _ _ k b)⟩),.inr ⟨oM,oS,rfl,rfl⟩⟩⟩
 obtain⟨e,c,j⟩:=U2.1 h;exact⟨_,U2.2 ⟨e,up e c,j⟩⟩
def Z0x{g:B0}(hf:H0 g)(a:g.2.1*g.1<=120):t04 (S03 (a04 g)):=T0x (f0d hf a) (X0v hf)
def o8(g:B0)(w:List Int):B0×Bool :=
 bif decide ((A2 g 0 w).2<w.length)then
  (bif(M2 g).2 then T1 (M2 g).1 (A2 g 0 w).1 (w.drop (A2 g 0 w).2) g.2.1 else((0,0,[]),false))
 else(g,true)
def e0t{g:B0}(hf:H0 g){w:List Int}(C:O1 g.1 w):o05 g w=some (o8 g w):=by
 unfold o8;have m:=Y1 hf;obtain⟨p,G,D,H⟩:=P0 hf;obtain⟨wl,E⟩:=w00 C;have o:∀ x∈w,C3 x:=λx f=>(E x f).1;have z:(0:Int)<=0/\(0:Int)<g.2.1:=⟨iR _,oM⟩;have i:=D0n hf z o oM;have e:=k03 g w 0;have d:=B0s g hf 0 z (w.take (A2 g 0 w).2) (λx f=>o x (List.mem_of_mem_take f)) oG;rw[M0b,List.length_take,show min (A2 g 0 w).2 w.length=(A2 g 0 w).2 by omega,dF (Nat.lt_irrefl _)]at d;have j:=X07 p D.2 w 0 ⟨oM,oM⟩;have F:=Z00 g oM;have l:=O0a (xs:=w) (k:=(A2 g 0 w).2) e;have s:=n04 (xs:=w) (k:=(A2 g 0 w).2) e;have t:=Y0b m;have A:=b08 p w 0 z;have y:=Y01 m;have q:(M2 g).2->_:=λh=>g0a (g:=(M2 g).1) (u:=(A2 g 0 w).1) (v:=g.2.1) (w:=w.drop (A2 g 0 w).2) y (by grind[n03]) (by grind[n03]) (by simp_all[n03,V0a]);generalize A2 g 0 w=R at *;obtain⟨v,n⟩:=R;obtain⟨a,b,c⟩:=g;simp only at i d j l s e A q ⊢;unfold o05;simp only[i,oB];rw[F0 (show I0 ((n:Nat):Int) from⟨oM,oM⟩),oB];by_cases c1:n<w.length;·rw[iE oG,dT c1,l,oB,d];simp only[zF,oB];rw[F0 j,oB,t];grind
 grind
def f0t{g:B0}(hf:H0 g){w:List Int}(s:O1 g.1 w): ∃ v:Int,I0 v/\u03 g w=some (bif(o8 g w).2 then((o8 g w).1,v,true)else((0,0,[]),0,false)):=by
 unfold o8;have j:=Y1 hf;obtain⟨d,D,e,E⟩:=P0 hf;obtain⟨wl,A⟩:=w00 s;have t:∀ x∈w,C3 x:=λx y=>(A x y).1;have z:(0:Int)<=0/\(0:Int)<g.2.1:=⟨iR _,oM⟩;have f:=K0o g d e.2 oM 0 w t oM;have l:=k03 g w 0;have i:=X07 d e.2 w 0 ⟨oM,oM⟩;have o:=n04 (xs:=w) (k:=(A2 g 0 w).2) l;have C:=Z0b j;have q:=b08 d w 0 z;have p:=Y01 j;have m:(M2 g).2->_:=λh=>h0a (g:=(M2 g).1) (u:=(A2 g 0 w).1) (v:=g.2.1) (w:=w.drop (A2 g 0 w).2) p (by grind[n03]) (by rw[(n03 h).1];simp only;omega) (by simp_all[n03,V0a]);generalize A2 g 0 w=R at *;obtain⟨v,n⟩:=R;obtain⟨a,b,c⟩:=g;simp only at f i o l q m e ⊢;unfold u03;simp only[f,oB];rw[F0 i,oB,F0 (show I0 ((n:Nat):Int) from⟨oM,oM⟩),oB];by_cases c1:n<w.length;·refine⟨b,⟨oM,oM⟩,?_⟩;grind
 grind
def Y06(g:B0)(w:List Int):B0×Bool :=
 bif D1 g&&(O1 g.1 w && !S4 g w)then
  (bif(o8 g w).2 then(bif(X06 (o8 g w).1).2 then(m03 (X06 (o8 g w).1).1,true)else((0,0,[]),false))else((0,0,[]),false))
 else((0,0,[]),false)
theorem x0r{g:B0}(hf:H0 g)(w:List Int):(o8 g w).1.2.2.length<=120:=by have a:=Y1 hf;obtain⟨b,c,d,e⟩:=P0 hf;have h:=O09 (Y01 a) (A2 g 0 w).1 (w.drop (A2 g 0 w).2) g.2.1;unfold o8;grind
theorem K0j{g:B0}(h:(X06 g).2):W0 (X06 g).1/\H0 g/\g.2.1*g.1<=120/\X06 g=(a04 g,true):=by
 unfold X06 at h ⊢;cases c:(H0 g&&decide (g.2.1*g.1<=120));·rw[c]at h;cases h
 simp_all[aE,dE,Y1,f0d]
def Y0v(g:B0)(n:g.2.2.length<=1099511627776)(w:List Int)(l:w.length<=140737488355328):a9 g w=some (Y06 g w):=by
 have h0:=Z00 g oM;have e:=j04 g oM;have d:=h03 g.1 w l;unfold Y06;cases hc:D1 g;·rw[hc]at e;obtain⟨a,b,c⟩:=g;unfold a9 l00;grind
 rw[hc]at e;have hf:=V1 hc;cases hwd:O1 g.1 w;·rw[hwd]at d;obtain⟨a,b,c⟩:=g;simp only at d;unfold a9 l00;simp only[h0,e,oB,bT,bF,lS,zF];rw[iE oS,show U0=9223372036854775807+1 from rfl,S5.eq_2,iP oS,show gi [w] 0=some w from rfl];simp only[oB,d,bF,bT,M1,cT,if_true,Y2,Bool.false_and,Bool.and_false,zF]
 rw[hwd]at d;have f:=g05 (r:=g.1) hc hwd;have i:=e0t hf hwd;have j:=c0t (o8 g w).1 (by grind[x0r]);have k:(X06 (o8 g w).1).2->_:=λh=>a0d (K0j h).1;obtain⟨a,b,c⟩:=g;simp only at d;unfold a9 l00;simp only[h0,e,oB,bT,bF,lS,zF];rw[iE oS,show U0=9223372036854775806+1+1 from rfl,S5.eq_2,iP oS,show gi [w] 0=some w from rfl];simp only[oB,d,bF,bT,G1,zF,f,Bool.true_and];cases S4 (a,b,c) w
 ·simp only[fT,if_false,i,oB,bF,cT];generalize o8 (a,b,c) w=q at *;obtain⟨⟨x,y,z⟩,m⟩:=q;cases m;·rfl
  simp only[bT,fT,if_false,cT];rw[S5.eq_2,iE (by rw[show i64.wrap (0+1)=1 by decide];simp)];simp only[oB,V0]at j k ⊢;grind
 rfl
def Z0v(g:B0)(o:g.2.2.length<=1099511627776)(w:List Int)(m:w.length<=140737488355328):b9 g w=some (Y06 g w):=by
 have e:=l01 g oM;have d:=i03 g.1 w m;unfold Y06;cases hc:D1 g;·rw[hc]at e;obtain⟨a,b,c⟩:=g;unfold b9 n00;grind
 rw[hc]at e;have hf:=V1 hc;cases hwd:O1 g.1 w;·rw[hwd]at d;obtain⟨a,b,c⟩:=g;simp only at d;unfold b9 n00;simp only[e,oB,bT,bF,lS,zF];rw[iE oS,show U0=9223372036854775807+1 from rfl,V5.eq_2,iP oS,show gi [w] 0=some w from rfl];simp only[oB,d,bF,bT,M1,cT,if_true,Y2,Bool.false_and,Bool.and_false,zF]
 rw[hwd]at d;have f:=f0r (r:=g.1) hc hwd;obtain⟨v,l,i⟩:=f0t hf hwd;have j:=d0t (o8 g w).1 (by grind[x0r]);have k:(X06 (o8 g w).1).2->_:=λh=>b0d (K0j h).1;obtain⟨a,b,c⟩:=g;simp only at d;unfold b9 n00;simp only[e,oB,bT,bF,lS,zF];rw[iE oS,show U0=9223372036854775806+1+1 from rfl,V5.eq_2,iP oS,show gi [w] 0=some w from rfl];simp only[oB,d,bF,bT,G1,zF,f,Bool.true_and];cases S4 (a,b,c) w
 ·simp only[fT,if_false,bF,cT];rw[V5.eq_2,iE (by rw[show i64.wrap (0+1)=1 by decide];simp)];simp only[oB,V0];rw[I7.eq_2,iP oS,show gi [w] 0=some w from rfl];simp only[oB,i];generalize o8 (a,b,c) w=q at *;obtain⟨⟨x,y,z⟩,n⟩:=q;cases n;·simp only[zF];rw[F0 (show I0 0 from⟨oM,oM⟩)];rfl
  simp only[cT];rw[F0 l];simp only[oB,bT,fT,if_false];rw[I7.eq_2,iE (by rw[show i64.wrap (0+1)=1 by decide];simp)];simp only[oB,V0]at j k ⊢;grind
 rfl
def Lw(w:List Int):Prop:=∀ x∈w,C3 x/\x≠0
def Lw.app{a b:List Int}(h:Lw a)(k:Lw b):Lw (a++b):=λx c=>(List.mem_append.1 c).elim (h x) (k x)
def Lw.nil:Lw []:=λx a=>by cases a
def Lw.one{x:Int}(h:C3 x)(h0:x≠0):Lw [x]:=λy a=>oG
def Lw.nm{a:List Int}(h:Lw a):∀ x∈a,C3 x:=λx b=>(h x b).1
def Lw.inv{a:List Int}(h:Lw a):Lw (inv a):=λx b=>by unfold Go.Proofs.YthkpbcnhdhfifaaGreat.inv at b;obtain⟨y,c,rfl⟩:=List.mem_map.1 (List.mem_reverse.1 b);have:=h y c;simp_all[i05,s04]
def Lw.red{a w:List Int}(b:Lw a)(c:Lw w):Lw (Z8 a w):=λx d=>(V0g w a d).elim (b x) (c x)
structure Eqv (a b:List Int):Prop where
 l:Lw a
 r:Lw b
 e:∀ s,Red s=true->Lw s->Z8 s a=Z8 s b
theorem Eqv.refl{a:List Int}(h:Lw a):Eqv a a:=⟨h,h,λ_ _ _=>rfl⟩
def Eqv.symm{a b:List Int}(h:Eqv a b):Eqv b a:=⟨h.r,h.l,λd c k=>(h.e d c k).symm⟩
def Eqv.trans{a b c:List Int}(h:Eqv a b)(k:Eqv b c):Eqv a c:=⟨h.l,k.r,λf d n=>(h.e f d n).trans (k.e f d n)⟩
def Eqv.app{a b c d:List Int}(h:Eqv a b)(k:Eqv c d):Eqv (a++c) (b++d) :=
 ⟨h.l.app k.l,h.r.app k.r,λg f n=>by rw[K0a,K0a,h.e g f n,k.e _ (J0a _ _ f) (n.red h.r)]⟩
def h0w{a:List Int}(j:Red a)(i:Lw a){x:Int}(f:C3 x)(h0:x≠0):j8 (j8 a x) (ng x)=a:=by
 have e:=i05 f;have l:N05 x (ng x):=(j05 f h0).2 e;cases a with
 |nil =>simp_all[j8,ng,cT,if_true]
 |cons m t =>
  have b:=i m mS;by_cases c:x = -m
  ·have g:N05 m x:=(j05 b.1 b.2).2 c;have d:j8 (m::t) x=t:=by simp_all[j8,cT,if_true]
   rw[d,e,c,show -(-m)=m by omega];cases t with
   |nil=>rfl
   |cons k r =>simp only[Red,aE,Bool.not_eq_true']at j;simp_all[j8,zF,fT,if_false]
  have g:N05 m x=false:=Bool.eq_false_iff.2 λh=>c ((j05 b.1 b.2).1 h);have d:j8 (m::t) x=x::m::t:=by simp_all[j8,zF,fT,if_false]
  simp_all[j8,cT,if_true]
def Y0u{x:Int}(a:C3 x)(h0:x≠0):Eqv ([x] ++ [ng x]) [] :=
 ⟨(Lw.one a h0).app (by simp_all[i05,Lw.one,s04]),Lw.nil,λd c b=>h0w c b a h0⟩
def l0h:∀ {a:List Int},Lw a->Eqv (a++inv a) []
 | [],h=>Eqv.refl Lw.nil
 |x::a,h=>by have b:=h x mS;have d:Lw a:=λy f=>h y (mC _ f);have g:=l0h d;have c:=((Eqv.refl (Lw.one b.1 b.2)).app (g.app (Eqv.refl (Lw.one (x:=ng x) (by simp_all[i05,s04]) (by rw[i05 b.1];omega)))));rw[j0r];have e:x::a++(inv a ++ [ng x]) = [x]++(a++inv a ++ [ng x]):=oS;rw[e];exact c.trans (Y0u b.1 b.2)
def m0h{a:List Int}(h:Lw a):Eqv (inv a++a) []:=by have:=l0h h.inv;rwa [U0g h.nm]at this
def Lw.flat{φ:Int->List Int}:∀ {l:List Int},(∀ x∈l,Lw (φ x))->Lw (l.flatMap φ)
 |l,h=>λy a=>by obtain⟨x,b,a⟩:=List.mem_flatMap.1 a;exact h x b y a
def N0l{φ:Int->List Int}(g:∀ x,C3 x->x≠0->Lw (φ x)/\φ (ng x)=inv (φ x)):∀(l a:List Int),Lw a->Lw l->Eqv ((Z8 a l).reverse.flatMap φ) (a.reverse.flatMap φ++l.flatMap φ)
 | [],a,f,_=>by show Eqv (a.reverse.flatMap φ) (a.reverse.flatMap φ ++ []);rw[List.append_nil];exact Eqv.refl (Lw.flat λx i=>(g x (f x (List.mem_reverse.1 i)).1 (f x (List.mem_reverse.1 i)).2).1)
 |x::l,a,f,o=>by
  have i:=o x mS;have p:Lw l:=λy b=>o y (mC _ b);have u:Lw (j8 a x):=λy b=>(v0n b).elim (f y) (λe=>by rw[e];exact i);have z:=N0l g l (j8 a x) u p;have hf:∀ {w:List Int},Lw w->Lw (w.flatMap φ):=λ{w} h=>Lw.flat λy b=>(g y (h y b).1 (h y b).2).1;have s:∀ {w:List Int},Lw w->Lw w.reverse:=λ{w} h y b=>h y (List.mem_reverse.1 b);have A:Eqv ((j8 a x).reverse.flatMap φ) (a.reverse.flatMap φ++φ x):=by
   cases a with
   |nil =>show Eqv ([x].flatMap φ) (φ x);grind[Eqv.refl]
   |cons m t =>
    have d:=f m mS;have v:Lw t:=λy b=>f y (mC _ b);by_cases c:x = -m
    ·have q:N05 m x:=(j05 d.1 d.2).2 c;have j:j8 (m::t) x=t:=by simp_all[j8,cT,if_true]
     rw[j,c,←i05 d.1,(g m d.1 d.2).2,List.reverse_cons,List.flatMap_append,List.append_assoc];simp only[List.flatMap_cons,List.flatMap_nil,List.append_nil];have k:=(Eqv.refl (hf (s v))).app (l0h (g m d.1 d.2).1);rw[List.append_nil]at k;exact k.symm
    have q:N05 m x=false:=Bool.eq_false_iff.2 λh=>c ((j05 d.1 d.2).1 h);have j:j8 (m::t) x=x::m::t:=by simp_all[j8,zF,fT,if_false]
    rw[j,List.reverse_cons,List.flatMap_append];grind[Eqv.refl]
  have n:=A.app (Eqv.refl (hf p));rw[List.append_assoc]at n;rw[List.flatMap_cons];exact z.trans n
def v0p{a:List Int}(h:Lw a):Eqv (Z8 [] a).reverse a:=by have:=N0l (φ:=λx=>[x]) (λx b h0=>⟨Lw.one b h0,rfl⟩) a [] Lw.nil h;simpa using this
end Go.Proofs.YthkpbcnhdhfifaaGreat
