/- Texts of the claim, joined: Plain laws: the spec's tree, extra edges and basis are the c and others. -/
import Derived.Test.YthakcafglempaaaGreatPart35
import Derived.Test.YthakcafglempaaaGreatPart24
import Derived.Test.YthakcafglempaaaGreatPart25
import Derived.Test.YthakcafglempaaaGreatPart23
import Derived.Test.YthakcafglempaaaGreatH36
import Derived.Test.YthakcafglempaaaGreatPart32
namespace Go.Proofs.YthakcafglempaaaGreat
set_option linter.all false
open Go.H
open IntKind (i64)
def M0h{c:Type}(b:c->c->Int)(x:c):∀(a l:List c),L4 b l (a ++ [x])=a02 b x (L4 b l a)
 | [],l=>rfl
 |y::a,l=>by show L4 b (a02 b y l) (a ++ [x])=a02 b x (L4 b (a02 b y l) a);exact M0h b x a _
def tEW(g:j0)(W:List (Option (List Int)))(v:Int):O0:=stp (Q0 g v (-(L0h (gtD (O00 W v))))) (L0h (gtD (O00 W v))) v
def W0g(g:j0)(s:Tr8):List O0:=L4 V0 [] (s.2.tail.map (tEW g s.1))
def u0u{g:j0}(hf:K0 g){p:Int}{n:Nat}(C:g.2.1=(n:Int)){b:Tr8}(h:TOk g p n b){v x:Int}(f:v∈b.2)(c:0<=Q0 g v x/\Q0 g v x ∉ b.2): W0g g (trS g v x b)=a02 V0 (stp v x (Q0 g v x)) (W0g g b)/\(trS g v x b).2=b.2 ++ [Q0 g v x]:=by
 obtain⟨w,F,G,H⟩:=W0 hf;have E:Q0 g v x<(n:Int):=by rcases i04 w v x with e|e<;>omega
 unfold trS;rw[iP c];obtain⟨a,u⟩:=b;obtain⟨d,j⟩:=c;simp only at j f;refine⟨?_,rfl⟩;have s:=h.ok.len;simp only at s;have k:=λ(z:Int) (i:0<=z)=>a03 (A:=a) (y:=some ((O00 a v).getD [] ++ [x])) d oM i;have D:u≠[]:=λe=>by rw[e]at f;cases f
 have q:(u ++ [Q0 g v x]).tail=u.tail ++ [Q0 g v x]:=by grind
 unfold W0g;simp only;rw[q,List.map_append,List.map_singleton,M0h];have m:tEW g (a.set (Q0 g v x).toNat (some ((O00 a v).getD [] ++ [x]))) (Q0 g v x)=stp v x (Q0 g v x):=by unfold tEW;rw[k _ d,iP rfl];show stp (Q0 g (Q0 g v x) (-(L0h ((O00 a v).getD [] ++ [x])))) (L0h ((O00 a v).getD [] ++ [x])) (Q0 g v x)=_;rw[b0d,d04 hf rfl d]
 have o:u.tail.map (tEW g (a.set (Q0 g v x).toNat (some ((O00 a v).getD [] ++ [x]))))=u.tail.map (tEW g a):=by refine List.map_congr_left λz i=>?_;have l:=List.mem_of_mem_tail i;have t:=h.gd.2 z l;unfold tEW;rw[k z t.1,iE λe=>j (by rw[←e];exact l)]
 rw[m,o]
def g0w(g:j0)(v x:Int)(s:Tr8)(c : ¬ (0<=Q0 g v x/\Q0 g v x ∉ s.2)):trS g v x s=s:=by unfold trS;rw[iE c]
theorem h0w(g:j0)(s:Tr8):(W0g g s).length<=s.2.length:=by
 unfold W0g
 grind[O01,tEW,List.length_map,List.length_tail,List.length_nil]
def d0t{g:j0}(hf:K0 g)(p:Int){n:Nat}(m:g.2.1=(n:Int))(b:List Int)(z:∀ x∈b,x∈U7 g.1.toNat 1)(H:b.length<=1000000)(i:Nat)(v:Int):∀(d k fuel:Nat) (a:Tr8),TOk g p n a->a.2[i]?=some v->k+d=b.length->d<fuel -> y7 b (i:Int) g.1 g.2.1 g.2.2 fuel (W0g g a) (k:Int) a.2=some (W0g g (e0k g v (b.drop k) a),(e0k g v (b.drop k) a).2)
 |d,k,0,a,e,f,q,hf=>oM
 |0,k,fuel+1,a,e,f,q,hf=>by rw[y7.eq_2,iE oG,D1 oM];rfl
 |d+1,k,fuel+1,a,e,u,q,M=>by
  obtain⟨A,Q,K,R⟩:=W0 hf;have w:k<b.length:=oM;have j:=V3 w;have o:=z _ (mG j);have s:=I1 j;generalize b[k]=x at j o s;have l:=g0a oM o;have N:=A01 n a.2 e.gd.1 e.gd.2;have O:=i04 A v x;have f:=mG u;have I:=e.add hf m f o;obtain⟨t,L⟩:=L0n g v x a;have J:=d0t hf p m b z H i v d (k+1) fuel (trS g v x a) I oG oM oM;have P:=h0w g a;rw[y7.eq_2,iP oG,s,e0k,←J];simp only[U1 u,U1 j,oB,show(g.1,g.2.1,g.2.2)=g from rfl,D05 g v x l.1 oM,C0 (N02 A K.2 v x),Z1 w (show b.length<=9223372036854775807 by omega)];by_cases c:0<=Q0 g v x/\Q0 g v x ∉ a.2
  ·obtain⟨D,E⟩:=u0u hf m e f c;rw[D,E];have F:decide (Q0 g v x<0)=false:=dF oM;have G:gi (a.2 ++ [Q0 g v x]) (i:Int)=some v:=U1 oG;rw[F];simp only[bF,H1,S0c a.2 _ (show a.2.length<=9223372036854775807 by omega),dF c.2,oB,zF,fT,if_false,G];rw[C0 (by simp;omega),oB];generalize Q0 g v x=y at *;by_cases cx:x>0;·rw[iP (by simpa using cx),R07 _ _ oM,oB];unfold stp;rw[iE oM]
   rw[iE (by simpa using cx),R07 _ _ oM,oB,b0b l.1.1 l.1.2];unfold stp;rw[iP (by have:=l.2.1;omega)]
  rw[g0w g v x a c];by_cases c1:0<=Q0 g v x;·have C:Q0 g v x∈a.2:=Classical.byContradiction λh=>c ⟨c1,h⟩;rw[show decide (Q0 g v x<0)=false from dF oM];simp only[bF,H1,S0c a.2 _ (show a.2.length<=9223372036854775807 by omega),dT C,oB,zF,if_true]
  rw[show decide (Q0 g v x<0)=true from dT oM];simp only[bT,O1,oB,cT,if_true]
def e0t{g:j0}(hf:K0 g)(p:Int){n:Nat}(d:g.2.1=(n:Int)):∀(f i fuel:Nat) (a:Tr8),TOk g p n a->i<=a.2.length->n+1<=i+f->f<fuel -> R00 (U7 g.1.toNat 1) g.1 g.2.1 g.2.2 fuel (W0g g a) (i:Int) a.2=some (W0g g (m09 g (U7 g.1.toNat 1) f i a),(m09 g (U7 g.1.toNat 1) f i a).2)
 |f,i,0,a,b,j,h,hf=>oM
 |0,i,fuel+1,a,b,j,h,hf=>by have:=A01 n a.2 b.gd.1 b.gd.2;omega
 |f+1,i,fuel+1,a,b,j,h,l=>by
  obtain⟨q,s,u,w⟩:=W0 hf;have m:=A01 n a.2 b.gd.1 b.gd.2;rw[R00.eq_2,oB,C0 oM,oB];by_cases hk:i<a.2.length;·have c:=V3 hk;generalize a.2[i]=v at c;have k:=mG c;have h0:=d0t hf p d (U7 g.1.toNat 1) (λx c=>c) (by rw[i05];omega) i v (U7 g.1.toNat 1).length 0 P0 a b c oM (j1 (by rw[i05];omega));rw[show((0:Nat):Int)=0 from rfl,(dZ)]at h0;obtain⟨t,e⟩:=V0p g v (U7 g.1.toNat 1) a;have o:=e0t hf p d f (i+1) fuel _ (b.inn hf d _ k λx c=>c) oG oM oM;rw[iP (by simpa using hk),h0,oB];grind[Z1,m09]
  simp_all[List.getElem?_eq_none,iE,m09]
def v0u{g:j0}(hf:K0 g):C04 g=some (O02 g):=by
 obtain⟨j,k,l,m⟩:=W0 hf;have f:g.2.1=((g.2.1.toNat:Nat):Int):=oM;have h0:=e0t hf 0 f (g.2.1.toNat+1) 0 P0 _ (V0g g (N:=g.2.1.toNat) ⟨iR _,oM⟩) oS oM (j1 oM);have h:=O0v g.1.toNat oM;rw[show((g.1.toNat:Nat):Int)=g.1 by omega]at h;have i:=g02 g oM;have d:W0g g (m09 g (U7 g.1.toNat 1) (g.2.1.toNat+1) 0 ((List.replicate g.2.1.toNat none).set (0:Int).toNat (some []),[0]))=O02 g:=by show W0g g (q0e g 0)=_;unfold W0g O02;rw[L0f];rfl
 rw[d]at h0;have e:W0g g ((List.replicate g.2.1.toNat none).set (0:Int).toNat (some []),[0]) = []:=rfl;rw[e,show((0:Nat):Int)=0 from rfl]at h0;obtain⟨a,b,c⟩:=g;simp only at *;unfold C04;grind
def z0y(a es:List O0)(j:Nat){e:O0}(o:es[j]?=some e)(w:a.length<=1000):∀(d k fuel:Nat) (b:Bool),k+d=a.length->d<fuel -> F7 a es (j:Int) fuel b (k:Int)=some (b || decide (e∈a.drop k))
 |d,k,0,b,m,hf=>oM
 |0,k,fuel+1,b,m,hf=>by simp_all[F7.eq_2,iE,dE,D1]
 |d+1,k,fuel+1,b,m,z=>by
  have p:k<a.length:=oM;have f:=V3 p;have n:=I1 f;generalize a[k]=t at f n;have x:=λv=>z0y a es j o w d (k+1) fuel v oM oM;obtain⟨q,s,u⟩:=t;obtain⟨g,i,l⟩:=e;rw[F7.eq_2,iP oG,n,Z1 p oM];cases b
  ·simp only[bF,H1,U1 f,U1 o,oB,zF,x,Bool.false_or];by_cases c:(q,s,u)=(g,i,l);·rw[c];simp[eqE]
   have y : ¬ (g,i,l)=(q,s,u):=λh=>c h.symm;simp_all[eqE,dF,Bool.false_or,mE,false_or]
  simp_all[bT,O1,oB,cT,Bool.true_or]
def a0q{g:j0}(hf:K0 g)(a:List O0)(f:a.length<=1000):∀(d k fuel:Nat) (acc:List O0),k+d=g.2.2.length->d<fuel->acc.length<=k -> D6 g.2.2 g.1 g.2.1 a fuel (k:Int) acc=some (acc++(g.2.2.drop k).filter λe => !decide (e∈a))
 |d,k,0,acc,j,s,i=>oM
 |0,k,fuel+1,acc,j,s,i=>by rw[D6.eq_2,show decide ((k:Int)<((g.2.2.length:Nat):Int))=false from dF oM,D1 oM];simp only[O1,oB,zF,fT,if_false,List.filter_nil,List.append_nil]
 |d+1,k,fuel+1,acc,j,u,i=>by
  obtain⟨w,x,y,z⟩:=W0 hf;have m:k<g.2.2.length:=oM;have b:=V3 m;have l:=I1 b;generalize g.2.2[k]=e at b l;have t:=g02 g oM;have v:=λn h=>a0q hf a f d (k+1) fuel n oM oM h;have h0:=z0y a g.2.2 k b f a.length 0 P0 false oM (j1 oM);rw[show((0:Nat):Int)=0 from rfl,(dZ),Bool.false_or]at h0;obtain⟨o,p,q⟩:=e;rw[D6.eq_2,show decide ((k:Int)<((g.2.2.length:Nat):Int))=true from dT oM];simp only[H1,show(g.1,g.2.1,g.2.2)=g from rfl,t,hf,oB,cT,if_true,h0,U1 b,Z1 m (show g.2.2.length<=9223372036854775807 by omega),l,List.filter_cons];by_cases c:(o,p,q)∈a;·grind
  simp only[dF c,bF,if_true];grind[C0]
def i0w{g:j0}(hf:K0 g):w02 g=some (C6 g):=by obtain⟨d,e,f,h⟩:=W0 hf;have a:=v0u hf;have b:=n0m hf;have c:=a0q hf (O02 g) oM g.2.2.length 0 P0 [] oM (j1 oM) oS;grind[C6,w02]
def h0c(g:j0)(a:g.2.2.length<=140737488355328):O6 g=some (K1 g):=by grind[D0f,O6,J02,bind]
def q06(g:j0):j0:=N3 (e0c (P9 g).1)
def N0h{g:j0}(a:X0 g):T01 g=some (q06 g):=by obtain⟨e,f,h,i⟩:=Y2 a;have b:=a0l g oM;have hf:=t04 a;obtain⟨v,c⟩:=y0r (A3 hf);have d:=G0h (e0c (P9 g).1) (C03 40 hf);grind[q06,T01,P9,e0c]
def O0h{g:j0}(a:X0 g):U01 g=some (q06 g):=by obtain⟨e,f,h,i⟩:=Y2 a;have b:=b0l g oM;have hf:=t04 a;obtain⟨v,c⟩:=I0p (A3 hf);have d:=F0h (e0c (P9 g).1) (C03 40 hf);grind[q06,U01,P9,e0c]
def D2(r:Int)(ws:List (List Int)):j0×Bool:=bif j2 r ws then(q06 (G07 ws (r,1,[])),true)else((0,0,[]),false)
theorem P08{r:Int}{ws:List (List Int)}(h:j2 r ws):X0 (G07 ws (r,1,[])):=by obtain⟨b,a,c⟩:=r02 h;grind[I0h,Y0c]
def q0m(r:Int)(ws:List (List Int))(b:ws.length<=140737488355328)(c:K7 ws):w01 r ws=some (D2 r ws):=by have a:=J0n r ws b c;have d:j2 r ws->_:=λh=>N0h (P08 h);unfold w01 D2;unfold b0a at a;grind
def X0g(r:Int)(ws:List (List Int))(b:ws.length<=140737488355328)(c:K7 ws):r00 r ws=some (D2 r ws):=by have a:=K0n r ws b c;have d:j2 r ws->_:=λh=>O0h (P08 h);unfold r00 D2;unfold b0a at a;grind
def Q0f(g:j0)(ws:List (List Int)):Bool:=K1 g&&((D2 g.1 ws).2&&V0b g (D2 g.1 ws).1)
def w0u(g:j0)(h:g.2.2.length<=140737488355328)(ws:List (List Int))(i:ws.length<=140737488355328)(j:K7 ws):G01 g ws=some (Q0f g ws):=by have e:=X0g g.1 ws i j;have d:=q00 g h;have f:=O0g g (D2 g.1 ws).1 oM;unfold Q0f;obtain⟨a,b,c⟩:=g;simp only at *;unfold G01;generalize D2 a ws=q at *;obtain⟨⟨x,y,z⟩,ok⟩:=q;cases ok<;>cases hc:K1 (a,b,c)<;>rw[hc]at d<;>simp[e,d,f,H1,O1]
def l0k{r:Int}{g:j0}{w:List Int}(c:K1 g)(a:J1 r w):V03 g w=some (o9 g w):=by have hf:=G2 c;obtain⟨i,j,k,l⟩:=W0 hf;obtain⟨wl,e⟩:=V7 a;have b:=U0a w oM;rw[T03 a]at b;have f:=L0x hf (λx d=>(e x d).1) oM;have h:=q00 g oM;simp_all[V03,oB,H1,cT]
def f0t(g:j0)(v:Int):j0×Bool:=bif K0 g&&inR 0 (g.2.1-1) v then(s0z g v,true)else(g,false)
theorem m0k(g:j0):∀(w:List Int) (v:Int),L2 g v (w.take (L2 g v w).2)=L2 g v w
 | [],v=>rfl
 |x::w,v=>by
  have a:=m0k g w (Q0 g v x);by_cases c:Q0 g v x<0;·simp_all[L2,iP]
  have e:L2 g v (x::w)=((L2 g (Q0 g v x) w).1,(L2 g (Q0 g v x) w).2+1):=by rw[L2,iE c]
  rw[e,List.take_succ_cons,L2,iE c,a]
def Q08{g:j0}(a:inG g):∀(w:List Int) (v:Int),(0<=v/\v<g.2.1)->0<=(L2 g v w).1/\(L2 g v w).1<g.2.1
 | [],v,h=>h
 |x::w,v,h=>by
  unfold L2;split;·exact h
  rename_i c;have b:=i04 a v x;refine Q08 a w _ ?_;rcases b with e|e<;>omega
def Y0g{b a:Int}{w:List Int}:∀ {d k:Nat},(∀ i,k<=i->i<k+d->C08 b a w i=false)->z05 b a w d k
 |0,k,h=>rfl
 |d+1,k,h=>by unfold z05;rw[h k (Nat.le_refl _) oM,Y0g λi c e=>h i oM oM];rfl
def r0m{r:Int}{w:List Int}(h:J1 r w)(n:Nat):J1 r (w.drop n):=by
 simp only[J1,aE,dE]at h ⊢;refine⟨⟨h.1.1,oG⟩,Y0g λi b c=>?_⟩;have a:=O0c h.2 (n+i) (Nat.zero_le _) oG;unfold C08 at a ⊢;rw[List.getElem?_drop,List.getElem?_drop];cases hw:w[n+i]? with
 |none=>rw[hw]at a;exact a
 |some x =>grind
def d0d(g:j0)(w:List Int):j0×Bool :=
 bif K1 g&&J1 g.1 w then
  (bif decide ((L2 g 0 w).2<w.length)then
   (bif(t6 g).2 then
    (bif(V1 (t6 g).1 (L2 g 0 w).1 (w.drop (L2 g 0 w).2) g.2.1).2 then f0t (V1 (t6 g).1 (L2 g 0 w).1 (w.drop (L2 g 0 w).2) g.2.1).1 g.2.1 else((0,0,[]),false))
   else((0,0,[]),false))
  else f0t g (L2 g 0 w).1)
 else((0,0,[]),false)
def s0m{g:j0}(f:inG g)(j:g.2.1<=40)(e:g.2.2.length<=1099511627776)(w:List Int)(l:∀ x∈w,I3 x)(n:w.length<=140737488355328):∀(d k fuel:Nat) (v:Int),k+d=w.length->d<fuel -> G7 w g.1 g.2.1 g.2.2 fuel v (k:Int)=some (bif decide ((L2 g v (w.drop k)).2<d)then .inl (((k+(L2 g v (w.drop k)).2:Nat):Int))else .inr ())
 |d,k,0,v,b,hf=>oM
 |0,k,fuel+1,v,b,hf=>by simp_all[G7.eq_2,iE,dE,D1]
 |d+1,k,fuel+1,v,b,hf=>by
  have i:k<w.length:=oM;have a:=V3 i;have m:=l _ (mG a);have c:=I1 a;generalize w[k]=x at a m c;rw[G7.eq_2,iP oG,U1 a,oB,show(g.1,g.2.1,g.2.2)=g from rfl,D05 g v x m e,oB,C0 (N02 f j v x),oB,c];unfold L2;by_cases h:Q0 g v x<0;·grind
  rw[iE (by simpa using h),iE h,Z1 i oM,s0m f j e w l n d (k+1) fuel _ oM oM];simp only[Nat.add_lt_add_iff_right];rw[show k+1+(L2 g (Q0 g v x) (w.drop (k+1))).2=k+((L2 g (Q0 g v x) (w.drop (k+1))).2+1) by omega]
def x0u{g:j0}(hf:K0 g){v:Int}(f:0<=v/\v<g.2.1){w:List Int}(i:∀ x∈w,I3 x)(a:w.length<=140737488355328):x02 g v w=some (((L2 g v w).2:Nat):Int):=by
 obtain⟨j,l,b,m⟩:=W0 hf;have d:=g02 g oM;have h:=s0m j b.2 oM w i a w.length 0 P0 v oM (j1 a);rw[show((0:Nat):Int)=0 from rfl,(dZ),Nat.zero_add]at h;have k:=g05 g w v;obtain⟨r,n,es⟩:=g;simp only at f b h;have e:inR 0 (n-1) v:=by simp only[inR,aE,dE];omega
 unfold x02;simp only[d,hf,oB,bT,bF,H1,A05,w64 (show -9223372036854775808<=n-1 by omega) (show n-1<=9223372036854775807 by omega),e,zF,fT,if_false,h];by_cases c:(L2 (r,n,es) v w).2<w.length;·rw[dT c];rfl
 rw[dF c,show(L2 (r,n,es) v w).2=w.length by omega];rfl
theorem e0d{g:j0}(h:(t6 g).2):t6 g=((g.1,g.2.1+1,g.2.2),true)/\g.2.1<40:=by grind[t6]
def n0k(g:j0):Int:=bif K1 g then(g.2.2.length:Int)-g.2.1+1 else -1
def f08(g:j0):Int:=bif U07 g then g.2.1 else -1
def g0l(g:j0)(d:g.2.2.length<=140737488355328):k03 g=some (f08 g):=by have e:=Z0p g d;unfold f08;obtain⟨a,b,c⟩:=g;unfold k03;grind
def Z05(e:O0):List O0->Nat->Option Nat
 | [],_=>none
 |x::l,k=>if e=x then some k else Z05 e l (k+1)
def o0k{e:O0}:∀ {l:List O0} {k i:Nat},Z05 e l k=some i->i<k+l.length
 | [],k,i,h=>by cases h
 |x::l,k,i,h=>by
  unfold Z05 at h;split at h;·cases h;simp
  have:=o0k h;grind
def sgK(x:Int)(k:Nat):Int:=if 0<x then(k:Int)+1 else -(k:Int)-1
def N0e(x v n:Int):List O0->Nat->List Int
 | [],_=>[]
 |e::l,k=>if stp v x n=e then sgK x k::N0e x v n l (k+1)else N0e x v n l (k+1)
theorem b0q{x v n:Int}:∀ {l:List O0} {k:Nat},stp v x n ∉ l->N0e x v n l k = []
 | [],k,h=>rfl
 |e::l,k,h=>by unfold N0e;rw[iE λc=>h oG];exact b0q λc=>h (mC _ c)
def t0m{x v n:Int}:∀ {l:List O0} {k:Nat},l.Nodup->N0e x v n l k=(Z05 (stp v x n) l k).toList.map (sgK x)
 | [],k,h=>rfl
 |e::l,k,h=>by
  obtain⟨b,a⟩:=List.nodup_cons.1 h;unfold N0e Z05;split;·grind[b0q]
  exact t0m a
def rwL(g:j0)(E:List O0):Int->List Int->List Int
 |_,[]=>[]
 |v,x::w=>(Z05 (stp v x (Q0 g v x)) E 0).toList.map (sgK x)++rwL g E (Q0 g v x) w
def g0t{a:Type}(o:Option a):o.toList.length<=1:=by cases o<;>simp
theorem B0i(g:j0)(a:List O0):∀(w:List Int) (v:Int),(rwL g a v w).length<=w.length
 | [],v=>Nat.le_refl _
 |x::w,v=>by
  have b:=B0i g a w (Q0 g v x)
  have c:=g0t (Z05 (stp v x (Q0 g v x)) a 0)
  grind[rwL,List.length_append,List.length_map,List.length_cons]
def P0n(g:j0)(a:List O0)(c:a.length<=1000):∀(w:List Int) (v:Int),∀ y∈rwL g a v w,-1000<=y/\y<=1000
 | [],v,y,h=>by cases h
 |x::w,v,y,h=>by
  unfold rwL at h;rcases List.mem_append.1 h with h|h;·obtain⟨k,b,rfl⟩:=List.mem_map.1 h;have b:=o0k (Option.mem_toList.1 b);unfold sgK;split<;>omega
  exact P0n g a c w _ y h
def k0w(w:List Int)(i:Nat)(x:Int)(m:w[i]?=some x)(g:I3 x)(h0:x≠0)(v n:Int)(f:List O0)(y:f.length<=1000):∀(d k fuel:Nat) (acc:List Int),k+d=f.length->d<fuel->acc.length<=100000+k -> Z4 f w (i:Int) v n fuel (k:Int) acc=some (acc++N0e x v n (f.drop k) k)
 |d,k,0,acc,p,hf,o=>oM
 |0,k,fuel+1,acc,p,hf,o=>by simp_all[Z4.eq_2,iE,dE,D1,N0e]
 |d+1,k,fuel+1,acc,p,hf,o=>by
  have z:k<f.length:=oM;have l:=V3 z;have q:=I1 l;generalize f[k]=e at l q;have A:=λs h=>k0w w i x m g h0 v n f y d (k+1) fuel s oM oM h;have t:=w64 (show -9223372036854775808<=(k:Int)+1 by omega) oM;have u:i64.wrap (i64.wrap (0-(k:Int))-1) = -(k:Int)-1:=by grind[w64]
  obtain⟨a,b,c⟩:=e;rw[Z4.eq_2,iP oG,U1 m,oB,q,N0e];simp only[U1 l,t,u,chk,b0b g.1 g.2];unfold stp sgK;by_cases hp:0<x
  ·have j : ¬ x<0:=oM;simp only[dT (show x>0 from hp),dF j,iP hp,iE j,cT,zF,oB,fT,if_false];by_cases c1:(v,x,n)=(a,b,c);·rw[iP ((j06 _ _).2 c1.symm),iP c1,C0 oG,oB];grind
   rw[iE λh=>c1 ((j06 _ _).1 h).symm,iE c1];grind
  have j:x<0:=oM;simp only[dF (show ¬ x>0 from hp),dT j,iE hp,iP j,cT,zF,oB,fT,if_false,U1 m,b0b g.1 g.2];by_cases c1:(n,-x,v)=(a,b,c);·rw[iP ((j06 _ _).2 c1.symm),iP c1,C0 oG,oB];grind
  rw[iE λh=>c1 ((j06 _ _).1 h).symm,iE c1];grind
def l0w{g:j0}(m:K0 g)(w:List Int)(o:∀ x∈w,I3 x/\x≠0)(p:w.length<=1000)(a:List O0)(f:a.length<=1000)(h:a.Nodup):∀(d k fuel:Nat) (v:Int) (acc:List Int),k+d=w.length->d<fuel->acc.length<=k -> p8 w g.1 g.2.1 g.2.2 a fuel v (k:Int) acc=some (acc++rwL g a v (w.drop k))
 |d,k,0,v,acc,j,hf,i=>oM
 |0,k,fuel+1,v,acc,j,hf,i=>by simp_all[p8.eq_2,iE,dE,D1,rwL]
 |d+1,k,fuel+1,v,acc,j,hf,i=>by
  obtain⟨q,u,s,y⟩:=W0 m;have n:k<w.length:=oM;have b:=V3 n;obtain⟨c,h0⟩:=o _ (mG b);have l:=I1 b;generalize w[k]=x at b c h0 l;have e:=k0w w k x b c h0 v (Q0 g v x) a f a.length 0 P0 acc oM (j1 oM) oM;rw[show((0:Nat):Int)=0 from rfl,(dZ),t0m h]at e;have t:=g0t (Z05 (stp v x (Q0 g v x)) a 0);rw[p8.eq_2,iP oG,U1 b,oB,show(g.1,g.2.1,g.2.2)=g from rfl,D05 g v x c oM,oB,C0 (N02 q s.2 v x),oB,e,oB,Z1 n oM,
   l0w m w o p a f h d (k+1) fuel _ _ oM oM oG,l,rwL,List.append_assoc]
def c0q(es:List O0)(e:O0)(o:es.length<=1000):∀(d k fuel:Nat),k+d=es.length->d<fuel -> L1 es e.1 e.2.1 e.2.2 fuel (k:Int)=some (match Z05 e (es.drop k) k with|some i => .inl (i:Int)|none => .inr ())
 |d,k,0,f,hf=>oM
 |0,k,fuel+1,f,hf=>by rw[L1.eq_2,iE oG,D1 oM];rfl
 |d+1,k,fuel+1,f,hf=>by
  have j:k<es.length:=oM;have a:=V3 j;have g:=I1 a;generalize es[k]=b at a g;obtain⟨l,m,n⟩:=b;rw[L1.eq_2,iP oG,U1 a,oB,g,Z05];simp only[show(e.1,e.2.1,e.2.2)=e from rfl];by_cases c:e=(l,m,n);·rw[iP ((j06 _ _).2 c),iP c]
  rw[iE λh=>c ((j06 _ _).1 h),iE c,Z1 j oM];exact c0q es e o d (k+1) fuel oM oM
def M0x(es:List O0)(e:O0)(d:es.length<=1000):O2 es e=some (match Z05 e es 0 with|some i=>(i:Int)|none => -1):=by have h:=c0q es e d es.length 0 P0 oM (j1 oM);rw[show((0:Nat):Int)=0 from rfl,(dZ)]at h;obtain⟨a,b,c⟩:=e;unfold O2;simp only at h ⊢;rw[h,oB];cases Z05 (a,b,c) es 0<;>rfl
def A0y{g:j0}(s:K0 g)(w:List Int)(u:∀ x∈w,I3 x/\x≠0)(D:w.length<=1000)(f:List O0)(n:f.length<=1000):∀(d k fuel:Nat) (v:Int) (acc:List Int),k+d=w.length->d<fuel->acc.length<=k -> g6 w g.1 g.2.1 g.2.2 f fuel v (k:Int) acc=some (acc++rwL g f v (w.drop k))
 |d,k,0,v,acc,p,hf,o=>oM
 |0,k,fuel+1,v,acc,p,hf,o=>by simp_all[g6.eq_2,iE,dE,D1,rwL]
 |d+1,k,fuel+1,v,acc,p,hf,o=>by
  obtain⟨F,I,G,J⟩:=W0 s;have t:k<w.length:=oM;have j:=V3 t;obtain⟨l,h0⟩:=u _ (mG j);have q:=I1 j;generalize w[k]=x at j l h0 q;have C:=M0x f (stp v x (Q0 g v x)) n;have E:=E0n v x (Q0 g v x) l;have m:=λy h=>A0y s w u D f n d (k+1) fuel (Q0 g v x) y oM oM h;rw[g6.eq_2,iP oG,U1 j,oB,show(g.1,g.2.1,g.2.2)=g from rfl,r04 g v x l oM,oB,C0 (N02 F G.2 v x),oB,E,oB,Z1 t oM,q,rwL];generalize stp v x (Q0 g v x)=e at *;obtain⟨a,b,c⟩:=e;simp only[C];cases hfe:Z05 (a,b,c) f 0 with
  |none =>simp only[oB];rw[C0 (show H0 (-1) from⟨oM,oM⟩),oB,iE oS,m acc oM];simp
  |some i =>
   have H:=o0k hfe;have z:=w64 (show -9223372036854775808<=(i:Int)+1 by omega) oM;have A:i64.wrap (i64.wrap (0-(i:Int))-1) = -(i:Int)-1:=by grind[w64]
   simp only[oB,z,A];rw[C0 (show H0 (i:Int) from⟨oM,oM⟩),oB,iP oG];simp only[Option.toList_some,List.map_cons,List.map_nil];unfold sgK;by_cases hp:0<x;·rw[iP oG,iP hp,C0 oG,oB,m _ oG,List.append_assoc]
   rw[iE oG,iE hp,C0 oG,oB,m _ oG,List.append_assoc]
def W03(g:j0)(w:List Int):List Int×Bool:=bif o9 g w then((A6 [] (rwL g (C6 g) 0 w)).reverse,true)else([],false)
theorem f0d{g:j0}(hf:K0 g):(C6 g).length<=120/\(C6 g).Nodup:=by obtain⟨b,c,d,f⟩:=W0 hf;have a:=List.length_filter_le (λe => !decide (e∈O02 g)) g.2.2;exact⟨by unfold C6;omega,(d0a (T05 (A3 hf))).filter _⟩
def R08{g:j0}(hf:K0 g)(w:List Int):(W03 g w).1.length<=w.length/\∀ y∈(W03 g w).1,H0 y:=by
 have b:=B0i g (C6 g) w 0;have c:=j05 (rwL g (C6 g) 0 w) [];have a:=P0n g (C6 g) (by grind[f0d]) w 0;unfold W03;cases o9 g w;·grind
 refine⟨oG,λy h=>?_⟩;rcases N0f _ _ (List.mem_reverse.1 h)with h|h;·cases h
 have:=a y h;exact⟨oM,oM⟩
def d0q{g:j0}(h:K1 g){w:List Int}(e:J1 g.1 w):V01 g w=some (W03 g w):=by have hf:=G2 h;obtain⟨s,t,u,v⟩:=W0 hf;obtain⟨wl,f⟩:=V7 e;have j:=K8 w (λx d=>(f x d).1.1) oM;rw[T03 e]at j;have n:=O08 (r:=g.1) h e;have o:=i0w hf;obtain⟨m,i⟩:=f0d hf;have k:=l0w hf w (λx d=>⟨(f x d).1,(f x d).2.1⟩) oM (C6 g) oM i w.length 0 P0 0 [] oM (j1 oM) oS;rw[show((0:Nat):Int)=0 from rfl,(dZ),(nA)]at k;have p:=B0i g (C6 g) w 0;have q:=K8 (rwL g (C6 g) 0 w) (λy l=>by have:=P0n g (C6 g) oM w 0 y l;exact⟨oM,oM⟩) oM;unfold W03;obtain⟨a,b,c⟩:=g;unfold V01;grind
def e0q{g:j0}(i:K1 g){w:List Int}(e:J1 g.1 w):W01 g w=some (W03 g w):=by
 have hf:=G2 i;obtain⟨q,s,t,u⟩:=W0 hf;obtain⟨wl,k⟩:=V7 e;have f:=U0a w oM;rw[T03 e]at f;have l:=l0k (r:=g.1) i e;have m:=Z0s hf;obtain⟨n,o⟩:=f0d hf;have d:=A0y hf w (λx j=>⟨(k x j).1,(k x j).2.1⟩) oM (C6 g) oM w.length 0 P0 0 [] oM (j1 oM) oS;rw[show((0:Nat):Int)=0 from rfl,(dZ),(nA)]at d;have p:=B0i g (C6 g) w 0;have h:=k05 [rwL g (C6 g) 0 w] oS (by simp only[e0l];omega);unfold W03;obtain⟨a,b,c⟩:=g;unfold W01;simp only[f,l,m,d,oB]at d h ⊢;cases o9 (a,b,c) w;·rfl
 simp only[bT,fT,if_false,cT,d,h,oB];rfl
def exO(bs:List (List Int))(k:Int):Option (List Int):=if 0<k/\k<=(bs.length:Int)then some (bs.getD (k.toNat-1) [])else if k<0 /\ -(bs.length:Int)<=k then some (inv (bs.getD ((-k).toNat-1) []))else none
def exP(bs:List (List Int))(k:Int):List Int:=(exO bs k).getD []
def P0h(bs:List (List Int))(l:List Int):List Int:=(A6 [] ((l.take 200).flatMap (exP bs))).reverse
def BOk(bs:List (List Int)):Prop:=(∀ w∈bs,(∀ x∈w,I3 x)/\w.length<=1000)/\bs.length<=1000
def h0a{bs:List (List Int)}{k:Nat}(h:k<bs.length):bs.getD k []∈bs:=by grind
theorem N0x{bs:List (List Int)}(h:BOk bs){k:Int}{w:List Int}(e:exO bs k=some w):w.length<=1000/\∀ x∈w,H0 x:=by
 unfold exO at e;split at e;·rename_i c;have a:=h0a (bs:=bs) (k:=k.toNat-1) oM;simp only[Option.some.injEq]at e;rw[←e];exact⟨(h.1 _ a).2,λx b=>((h.1 _ a).1 x b).1⟩
 split at e;·rename_i c;have a:=h0a (bs:=bs) (k:=(-k).toNat-1) oM;simp only[Option.some.injEq]at e;rw[←e];exact⟨by rw[S0a];exact(h.1 _ a).2,λx b=>(c0t (h.1 _ a).1 x b).1⟩
 cases e
def O0x{bs:List (List Int)}(h:BOk bs)(k:Int):(exP bs k).length<=1000/\∀ x∈exP bs k,H0 x:=by grind[exP,exO,N0x]
theorem h0t{bs:List (List Int)}{k:Nat}(h:k<bs.length):gi bs (k:Int)=some (bs.getD k []):=by
 grind[U1,List.getElem?_eq_getElem]
theorem S02{bs:List (List Int)}(h:BOk bs):∀ l:List Int,(l.flatMap (exP bs)).length<=1000*l.length/\∀ x∈l.flatMap (exP bs),H0 x
 | []=>⟨oS,λx a=>by cases a⟩
 |k::r=>by have b:=O0x h k;have c:=S02 h r;grind
theorem u0m:∀(ws:List (List Int)) (s:List Int),q0u s ws=A6 s ws.flatten
 | [],s=>rfl
 |w::r,s=>by rw[q0u,u0m r,List.flatten_cons,f0c]
theorem i0c(bs:List (List Int)):∀ l:List Int,(l.filterMap (exO bs)).flatten=l.flatMap (exP bs)
 | []=>rfl
 |k::r=>by rw[List.flatMap_cons,←i0c bs r,List.filterMap_cons];grind[exP,exO]
theorem v0m:∀ ws:List (List Int),e0l ws=ws.flatten.length
 | []=>rfl
 |w::r=>by rw[e0l,v0m r,List.flatten_cons,(lA)]
def m0w{bs:List (List Int)}(h:BOk bs)(l:List Int)(n:l.length<=200):∀(d k fuel:Nat) (acc:List (List Int)),k+d=l.length->d<fuel->acc.length<=k -> Q6 l bs fuel (k:Int) acc=some (acc++(l.drop k).filterMap (exO bs))
 |d,k,0,acc,f,hf,e=>oM
 |0,k,fuel+1,acc,f,hf,e=>by simp_all[Q6.eq_2,iE,dE,D1]
 |d+1,k,fuel+1,acc,f,hf,e=>by
  have m:k<l.length:=oM;have o:=h.2;have b:=V3 m;have g:=I1 b;generalize l[k]=x at b g;have c:=λj q=>m0w h l n d (k+1) fuel j oM oM q;rw[Q6.eq_2,iP oG,g,List.filterMap_cons];simp only[U1 b,oB,Z1 (show k<1000 by omega) (show(1000:Nat)<=9223372036854775807 by omega),d02,w64 (x:=0-((bs.length:Nat):Int)) oM oM];unfold exO;by_cases c1:0<x/\x<=(bs.length:Int)
  ·have i:=h0a (bs:=bs) (k:=x.toNat-1) oM;have a:gi bs (i64.wrap (x-1))=some (bs.getD (x.toNat-1) []):=by grind[w64,h0t]
   rw[iP (show inR 1 ((bs.length:Nat):Int) x=true by simp only[inR,aE,dE];omega),iP c1,a,oB,C0 (by simp;omega),oB,c _ (by simp;omega)];simp only[List.append_assoc];rfl
  rw[iE (show ¬ inR 1 ((bs.length:Nat):Int) x=true by simp only[inR,aE,dE];omega),iE c1];by_cases c2:x<0 /\ -(bs.length:Int)<=x
  ·have i:=h0a (bs:=bs) (k:=(-x).toNat-1) oM;have p:=(h.1 _ i).2;have a:gi bs (i64.wrap ((i64.wrap (0-x))-1))=some (bs.getD ((-x).toNat-1) []):=by grind[w64,h0t]
   rw[iP (show inR (0-((bs.length:Nat):Int)) (-1) x=true by simp only[inR,aE,dE];omega),iP c2,a,oB,f0a _ oM,oB,C0 (by simp;omega),oB,c _ (by simp;omega)];simp only[List.append_assoc];rfl
  rw[iE (show ¬ inR (0-((bs.length:Nat):Int)) (-1) x=true by simp only[inR,aE,dE];omega),iE c2,c _ oM];rfl
def y0u{bs:List (List Int)}(h:BOk bs)(l:List Int):U03 bs l=some (P0h bs l):=by
 have a:(l.take 200).length<=200:=oG;have b:=m0w h (l.take 200) a (l.take 200).length 0 P0 [] oM (j1 oM) oS;rw[show((0:Nat):Int)=0 from rfl,(dZ),(nA)]at b;have e:=S02 h (l.take 200);have d:b05 l 0 (if 200<((l.length:Nat):Int)then 200 else((l.length:Nat):Int))=some (l.take 200):=by
  by_cases c:200<((l.length:Nat):Int);·rw[iP c];grind[Z0b]
  rw[iE c,Z0b (Nat.le_refl _),List.take_of_length_le (Nat.le_refl _),List.take_of_length_le oM]
 have f:((l.take 200).filterMap (exO bs)).length<=200:=Nat.le_trans (List.length_filterMap_le _ _) a;unfold U03 P0h;grind[k05,v0m,i0c,u0m]
def j0c(k r:Int)(ws:List (List Int))(w a:List Int)(g:j0)(n:Int):Bool :=
 bif j2 r ws&&(J1 r w&&(decide (g.1=r)&&K1 g))then
  (if k=1 then Q0f g ws&&eqW (P0h (a01 g) a) w
  else if k=2 then(ws.all λv=>o9 g v) && !(o9 g w)
  else if k=3 then Q0f g ws&&o9 g w
  else if k=4 then(d0d g (inv w)).2&&Q0f (d0d g (inv w)).1 ws
  else if k=5 then Q0f g ws&&(decide (n0k g=((ws.length:Nat):Int))&&decide (n=((ws.length:Nat):Int)))
  else if k=6 then Q0f g ws&&(decide (f08 g=n)&&decide (n>0))
  else false)
 else false
def Q0n(c:j6):Bool:=j0c c.1 c.2.1 c.2.2.1 c.2.2.2.1 c.2.2.2.2.1 c.2.2.2.2.2.1 c.2.2.2.2.2.2
theorem P0x{bs:List (List Int)}(h:BOk bs)(l:List Int):(P0h bs l).length<=200000:=by
 have a:=S02 h (l.take 200)
 have b:=j05 ((l.take 200).flatMap (exP bs)) []
 grind[P0h,List.length_reverse,List.length_take,List.length_nil]
def z0u{g:j0}(a:K1 g):BOk (a01 g):=by have h:=j0w a;exact⟨λw b=>⟨(h.1 w b).1,oG⟩,by have:=h.2;omega⟩
def Lw(w:List Int):Prop:=∀ x∈w,I3 x/\x≠0
def Lw.app{a b:List Int}(h:Lw a)(k:Lw b):Lw (a++b):=λx c=>(List.mem_append.1 c).elim (h x) (k x)
def Lw.nil:Lw []:=λx a=>by cases a
def Lw.one{x:Int}(h:I3 x)(h0:x≠0):Lw [x]:=λy a=>oG
def Lw.nm{a:List Int}(h:Lw a):∀ x∈a,I3 x:=λx b=>(h x b).1
def Lw.inv{a:List Int}(h:Lw a):Lw (inv a):=λx b=>by unfold Go.Proofs.YthakcafglempaaaGreat.inv at b;obtain⟨y,c,rfl⟩:=List.mem_map.1 (List.mem_reverse.1 b);have:=h y c;simp_all[B04,D03]
def Lw.red{a w:List Int}(b:Lw a)(c:Lw w):Lw (A6 a w):=λx d=>(N0f w a d).elim (b x) (c x)
structure Eqv (a b:List Int):Prop where
 l:Lw a
 r:Lw b
 e:∀ s,Red s=true->Lw s->A6 s a=A6 s b
theorem Eqv.refl{a:List Int}(h:Lw a):Eqv a a:=⟨h,h,λ_ _ _=>rfl⟩
def Eqv.symm{a b:List Int}(h:Eqv a b):Eqv b a:=⟨h.r,h.l,λd c k=>(h.e d c k).symm⟩
def Eqv.trans{a b c:List Int}(h:Eqv a b)(k:Eqv b c):Eqv a c:=⟨h.l,k.r,λf d n=>(h.e f d n).trans (k.e f d n)⟩
def Eqv.app{a b c d:List Int}(h:Eqv a b)(k:Eqv c d):Eqv (a++c) (b++d) :=
 ⟨h.l.app k.l,h.r.app k.r,λg f n=>by rw[f0c,f0c,h.e g f n,k.e _ (N08 _ _ f) (n.red h.r)]⟩
def A0u{a:List Int}(j:Red a)(i:Lw a){x:Int}(f:I3 x)(h0:x≠0):A7 (A7 a x) (ng x)=a:=by
 have e:=B04 f;have l:Q04 x (ng x):=(q07 f h0).2 e;cases a with
 |nil =>simp_all[A7,ng,cT,if_true]
 |cons m t =>
  have b:=i m mS;by_cases c:x = -m
  ·have g:Q04 m x:=(q07 b.1 b.2).2 c;have d:A7 (m::t) x=t:=by simp_all[A7,cT,if_true]
   rw[d,e,c,show -(-m)=m by omega];cases t with
   |nil=>rfl
   |cons k r =>simp only[Red,aE,Bool.not_eq_true']at j;simp_all[A7,zF,fT,if_false]
  have g:Q04 m x=false:=Bool.eq_false_iff.2 λh=>c ((q07 b.1 b.2).1 h);have d:A7 (m::t) x=x::m::t:=by simp_all[A7,zF,fT,if_false]
  simp_all[A7,cT,if_true]
def j0t{x:Int}(a:I3 x)(h0:x≠0):Eqv ([x] ++ [ng x]) [] :=
 ⟨(Lw.one a h0).app (by simp_all[B04,Lw.one,D03]),Lw.nil,λd c b=>A0u c b a h0⟩
def C0i:∀ {a:List Int},Lw a->Eqv (a++inv a) []
 | [],h=>Eqv.refl Lw.nil
 |x::a,h=>by have b:=h x mS;have d:Lw a:=λy f=>h y (mC _ f);have g:=C0i d;have c:=((Eqv.refl (Lw.one b.1 b.2)).app (g.app (Eqv.refl (Lw.one (x:=ng x) (by simp_all[B04,D03]) (by rw[B04 b.1];omega)))));rw[X0p];have e:x::a++(inv a ++ [ng x]) = [x]++(a++inv a ++ [ng x]):=oS;rw[e];exact c.trans (j0t b.1 b.2)
def p0k{a:List Int}(h:Lw a):Eqv (inv a++a) []:=by have:=C0i h.inv;rwa [b0t h.nm]at this
def Lw.flat{φ:Int->List Int}:∀ {l:List Int},(∀ x∈l,Lw (φ x))->Lw (l.flatMap φ)
 |l,h=>λy a=>by obtain⟨x,b,a⟩:=List.mem_flatMap.1 a;exact h x b y a
def q0k{φ:Int->List Int}(g:∀ x,I3 x->x≠0->Lw (φ x)/\φ (ng x)=inv (φ x)):∀(l a:List Int),Lw a->Lw l->Eqv ((A6 a l).reverse.flatMap φ) (a.reverse.flatMap φ++l.flatMap φ)
 | [],a,f,_=>by show Eqv (a.reverse.flatMap φ) (a.reverse.flatMap φ ++ []);rw[List.append_nil];exact Eqv.refl (Lw.flat λx i=>(g x (f x (List.mem_reverse.1 i)).1 (f x (List.mem_reverse.1 i)).2).1)
 |x::l,a,f,o=>by
  have i:=o x mS;have p:Lw l:=λy b=>o y (mC _ b);have u:Lw (A7 a x):=λy b=>(o0m b).elim (f y) (λe=>by rw[e];exact i);have z:=q0k g l (A7 a x) u p;have hf:∀ {w:List Int},Lw w->Lw (w.flatMap φ):=λ{w} h=>Lw.flat λy b=>(g y (h y b).1 (h y b).2).1;have s:∀ {w:List Int},Lw w->Lw w.reverse:=λ{w} h y b=>h y (List.mem_reverse.1 b);have A:Eqv ((A7 a x).reverse.flatMap φ) (a.reverse.flatMap φ++φ x):=by
   cases a with
   |nil =>show Eqv ([x].flatMap φ) (φ x);grind[Eqv.refl]
   |cons m t =>
    have d:=f m mS;have v:Lw t:=λy b=>f y (mC _ b);by_cases c:x = -m
    ·have q:Q04 m x:=(q07 d.1 d.2).2 c;have j:A7 (m::t) x=t:=by simp_all[A7,cT,if_true]
     rw[j,c,←B04 d.1,(g m d.1 d.2).2,List.reverse_cons,List.flatMap_append,List.append_assoc];simp only[List.flatMap_cons,List.flatMap_nil,List.append_nil];have k:=(Eqv.refl (hf (s v))).app (C0i (g m d.1 d.2).1);rw[List.append_nil]at k;exact k.symm
    have q:Q04 m x=false:=Bool.eq_false_iff.2 λh=>c ((q07 d.1 d.2).1 h);have j:A7 (m::t) x=x::m::t:=by simp_all[A7,zF,fT,if_false]
    rw[j,List.reverse_cons,List.flatMap_append];grind[Eqv.refl]
  have n:=A.app (Eqv.refl (hf p));rw[List.append_assoc]at n;rw[List.flatMap_cons];exact z.trans n
def k0t{a:List Int}(h:Lw a):Eqv (A6 [] a).reverse a:=by have:=q0k (φ:=λx=>[x]) (λx b h0=>⟨Lw.one b h0,rfl⟩) a [] Lw.nil h;simpa using this
def Q0x{bs:List (List Int)}(a:∀ w∈bs,Lw w){k:Int}(b:I3 k):exP bs (ng k)=inv (exP bs k):=by
 rw[B04 b];have c:∀ n:Nat,n<bs.length->inv (inv (bs.getD n []))=bs.getD n []:=λn h=>b0t (a _ (h0a h)).nm;unfold exP exO;by_cases c1:0<k/\k<=(bs.length:Int);·grind
 by_cases c2:k<0 /\ -(bs.length:Int)<=k;·grind
 rw[iE oM,iE oM,iE c1,iE c2];rfl
def n0w{bs:List (List Int)}(a:∀ w∈bs,Lw w)(k:Int):Lw (exP bs k):=by
 unfold exP exO;by_cases c1:0<k/\k<=(bs.length:Int);·grind
 by_cases c2:k<0 /\ -(bs.length:Int)<=k;·rw[iE c1,iP c2];exact(a _ (h0a oM)).inv
 simp_all[iE,Lw.nil]
theorem f0q{g:j0}(b:K1 g){v:Int}(h0:0<=v)(a:v<g.2.1):Lw (tw g 0 v):=r0e b h0 a
def R0x{g:j0}(hf:K0 g){e:O0}(a:e∈g.2.2):Lw [e.2.1]:=by have b:=(W0 hf).1 e a;have c:=(W0 hf).2.1;exact Lw.one ⟨⟨oM,oM⟩,oM⟩ oM
def B0y{g:j0}(a:K1 g){e:O0}(c:e∈g.2.2):Lw (bw g e):=by have b:=(W0 (G2 a)).1 e c;exact((f0q a b.1.1 b.1.2).app (R0x (G2 a) c)).app (f0q a b.2.1.1 b.2.1.2).inv
def r0k{g:j0}(a:K1 g):∀ w∈a01 g,Lw w:=λw c=>by obtain⟨e,b,rfl⟩:=List.mem_map.1 c;exact λx d=>(Lw.nil.red (B0y a (c0d.1 b).1)) x (List.mem_reverse.1 d)
def g0q{e:O0}:∀ {l:List O0} {k i:Nat},Z05 e l k=some i->k<=i/\l[i-k]?=some e
 | [],k,i,h=>by cases h
 |x::l,k,i,h=>by
  unfold Z05 at h;split at h;·grind
  obtain⟨a,b⟩:=g0q h;grind
def w0m{e:O0}:∀ {l:List O0} {k:Nat},Z05 e l k=none->e ∉ l
 | [],k,h=>oS
 |x::l,k,h=>by
  unfold Z05 at h;split at h;·cases h
  rename_i c;intro b;rcases mE.1 b with a|a;·exact c a
  exact w0m h a
def S0x{g:j0}(i:K1 g){v x n:Int}(G:0<=v/\v<g.2.1)(m:I3 x)(h0:x≠0)(j:Q0 g v x=n)(w:0<=n): Eqv (tw g 0 v ++ [x]) (((Z05 (stp v x n) (C6 g) 0).toList.map (sgK x)).flatMap (exP (a01 g))++tw g 0 n):=by
 have hf:=G2 i;have S:n<g.2.1:=by rw[←j];rw[←j]at w;rcases i04 (W0 hf).1 v x with e|e<;>omega
 obtain⟨_,e,P,A,_⟩:=S04 (g:=g) (v:=v) (x:=x) (by rw[j];exact w);rw[j]at A;have R:stp v x n∈g.2.2:=by rw[←A];exact P
 have p:=f0q i G.1 G.2;have d:=f0q i w S;have o:=Lw.one m h0;have T:Lw [-x]:=Lw.one (D03 m) oM;have back:Eqv ([-x] ++ [x]) []:=by have:=j0t (D03 m) (show -x≠0 by omega);rwa [B04 (D03 m),show -(-x)=x by omega]at this
 cases hk:Z05 (stp v x n) (C6 g) 0 with
 |none =>
  have O:stp v x n∈O02 g:=by have:=w0m hk;grind[stp,O02,absurd,c0d]
  obtain⟨z,Z,q,Y,l,X,U,I,J⟩:=(r0u hf).1 O;show Eqv (tw g 0 v ++ [x]) ([]++tw g 0 n);rw[(nA)];rcases s0u J with⟨K,y,s⟩|⟨K,y,s⟩;·grind[Eqv.refl]
  rw[y,s,I,show l = -x by omega,List.append_assoc];rw[s]at d;have f:=(Eqv.refl d).app back;rwa [List.append_nil]at f
 |some k =>
  obtain⟨_,F⟩:=g0q hk;rw[Nat.sub_zero]at F;have W:k<(C6 g).length:=(gI.1 F).1;have E:(a01 g).getD k []=(A6 [] (bw g (stp v x n))).reverse:=by grind[a01]
  have V:(a01 g).length=(C6 g).length:=List.length_map ..;have Q:=B0y i R;have a:=k0t Q;show Eqv (tw g 0 v ++ [x]) (([sgK x k]:List Int).flatMap (exP (a01 g))++tw g 0 n);simp only[List.flatMap_cons,List.flatMap_nil,List.append_nil];by_cases c:0<x
  ·have t:exP (a01 g) (sgK x k)=(A6 [] (bw g (stp v x n))).reverse:=by unfold sgK exP exO;rw[iP c,iP oM,←E,show((k:Int)+1).toNat-1=k by omega];rfl
   rw[t];have u:bw g (stp v x n)=tw g 0 v ++ [x]++inv (tw g 0 n):=by unfold bw stp;rw[iE oM]
   rw[u]at a ⊢;have f:=a.app (Eqv.refl d);have h:=(Eqv.refl (p.app o)).app (p0k d);rw[List.append_nil,←List.append_assoc]at h;exact(f.trans h).symm
  have t:exP (a01 g) (sgK x k)=inv (A6 [] (bw g (stp v x n))).reverse:=by unfold sgK exP exO;rw[iE c,iE oM,iP oM,←E,show(-(-(k:Int)-1)).toNat-1=k by omega];rfl
  rw[t];have u:bw g (stp v x n)=tw g 0 n ++ [-x]++inv (tw g 0 v):=by unfold bw stp;rw[iP oM]
  rw[u]at a ⊢;generalize (A6 [] (tw g 0 n ++ [-x]++inv (tw g 0 v))).reverse=b at a;have H:=a.l;have f:=a.app (Eqv.refl (p.app o));have h:=(Eqv.refl d).app ((Eqv.refl T).app ((p0k p).app (Eqv.refl o)));have C:=(Eqv.refl d).app back;rw[List.append_nil]at C;have M:Eqv (b++(tw g 0 v ++ [x])) (tw g 0 n):=by refine f.trans ?_;have L:tw g 0 n ++ [-x]++inv (tw g 0 v)++(tw g 0 v ++ [x])=tw g 0 n++([-x]++(inv (tw g 0 v)++tw g 0 v ++ [x])):=oS;rw[L];exact h.trans C
  have N:=(Eqv.refl H.inv).app M;have D:=(p0k H).app (Eqv.refl (p.app o));rw[List.append_assoc,(nA)]at D;exact D.symm.trans N
def l0t{g:j0}(a:K1 g):∀(w:List Int) (v u:Int),0<=v->v<g.2.1->Lw w->rdw g v w=some u -> Eqv (tw g 0 v++w) ((rwL g (C6 g) v w).flatMap (exP (a01 g))++tw g 0 u)
 | [],v,u,h0,b,_,h=>by obtain rfl:=oJ h;show Eqv (tw g 0 v ++ []) ([]++tw g 0 v);grind[Eqv.refl,f0q]
 |x::w,v,u,h0,b,f,h=>by
  unfold rdw at h;by_cases c:Q0 g v x<0;·grind
  rw[iE c]at h;have j:=f x mS;have i:Lw w:=λy o=>f y (mC _ o);have l:Q0 g v x<g.2.1:=by rcases i04 (W0 (G2 a)).1 v x with e|e<;>omega
  have p:=l0t a w _ u oM l i h;have m:=S0x a ⟨h0,b⟩ j.1 j.2 (n:=Q0 g v x) rfl oM;unfold rwL;rw[List.flatMap_append,List.append_assoc];have d:=m.app (Eqv.refl i);rw[List.append_assoc,List.append_assoc]at d;have k:Lw (((Z05 (stp v x (Q0 g v x)) (C6 g) 0).toList.map (sgK x)).flatMap (exP (a01 g))):=Lw.flat λy _=>n0w (r0k a) y;exact d.trans ((Eqv.refl k).app p)
def t0z(g:j0)(a:List O0)(d:a.length<=1000):∀(w:List Int) (v:Int),Lw (rwL g a v w):=λw v x b=>by
 have c:=P0n g a d w v x b;refine⟨⟨⟨oM,oM⟩,oM⟩,?_⟩;clear c;induction w generalizing v with
 |nil=>cases b
 |cons y w e =>grind[rwL,sgK]
def u0z{g:j0}(a:K1 g){w:List Int}(f:J1 g.1 w)(h:o9 g w):P0h (a01 g) (W03 g w).1=w:=by
 have hf:=G2 a;obtain⟨o,q,s,t⟩:=W0 hf;obtain⟨wl,i⟩:=V7 f;have k:Lw w:=λx b=>⟨(i x b).1,(i x b).2.1⟩;have n:=(f0d hf).1;have l:tw g 0 0 = []:=(d08 hf (p:=0) ⟨oM,oM⟩).z;have c:=l0t a w 0 0 (iR _) oM k ((R04 _ _).1 h);rw[l,(nA),List.append_nil]at c;have d:=q0k (φ:=exP (a01 g)) (λx b h0=>⟨n0w (r0k a) x,Q0x (r0k a) b⟩) (rwL g (C6 g) 0 w) [] Lw.nil (t0z g _ oM w 0);rw[List.reverse_nil,List.flatMap_nil,(nA)]at d;have j:=(d.trans c.symm).e [] rfl Lw.nil;have m:=(R08 hf w).1;have e:(W03 g w).1=(A6 [] (rwL g (C6 g) 0 w)).reverse:=by grind[W03]
 unfold P0h;rw[List.take_of_length_le oM,e,j,T03 f]
structure Iso (t c:j0) (P:Int->Int) (n:Nat):Prop where
 rank:c.1=t.1
 nt:t.2.1=(n:Int)
 nc:c.2.1=(n:Int)
 ft:K0 t=true
 fc:K0 c=true
 rng:∀ x:Int,0<=x->x<(n:Int)->0<=P x/\P x<(n:Int)
 inj:∀ x y:Int,0<=x->x<(n:Int)->0<=y->y<(n:Int)->P x=P y->x=y
 mem:∀ e',e'∈c.2.2↔∃ e∈t.2.2,e'=(P e.1,e.2.1,P e.2.2)
def Iso.inE{t c:j0}{P:Int->Int}{n:Nat}(a:Iso t c P n){e:O0}(b:e∈t.2.2):(0<=e.1/\e.1<(n:Int))/\(0<=e.2.2/\e.2.2<(n:Int)):=by have:=(W0 a.ft).1 e b;rw[a.nt]at this;grind
def Iso.comp{a b c:j0}{P Q:Int->Int}{n:Nat}(d:Iso a b P n)(u:Iso b c Q n):Iso a c (λx=>Q (P x)) n where
 rank:=by rw[u.rank,d.rank]
 nt:=d.nt
 nc:=u.nc
 ft:=d.ft
 fc:=u.fc
 rng:=λx h0 g=>u.rng _ (d.rng x h0 g).1 (d.rng x h0 g).2
 inj:=λx y h0 g i j h=>d.inj x y h0 g i j (u.inj _ _ (d.rng x h0 g).1 (d.rng x h0 g).2 (d.rng y i j).1 (d.rng y i j).2 h)
 mem:=λl=>by
  rw[u.mem]
  constructor
  ·rintro⟨e,k,rfl⟩
   obtain⟨f,hf,rfl⟩:=(d.mem e).1 k
   exact⟨f,hf,rfl⟩
  ·rintro⟨f,hf,rfl⟩
   exact⟨_,(d.mem _).2 ⟨f,hf,rfl⟩,rfl⟩
def Iso.next{t c:j0}{P:Int->Int}{n:Nat}(d:Iso t c P n)(v x:Int)(h0:0<=v)(k:v<(n:Int)): (Q0 t v x = -1/\Q0 c (P v) x = -1)∨((0<=Q0 t v x/\Q0 t v x<(n:Int))/\Q0 c (P v) x=P (Q0 t v x)):=by
 rcases z04 t v x with⟨h,p⟩|h
 ·left;refine⟨h,?_⟩;rcases z04 c (P v) x with⟨i,o⟩|i;·exact i
  exfalso;obtain⟨l,m,j⟩:=V2.1 i;obtain⟨e,f,rfl⟩:=(d.mem l).1 m;have g:=d.inE f;have:∃ y,y∈j01 v x t.2.2:=by
   rcases j with⟨a,b,c,_⟩|⟨a,b,c,_⟩;·exact⟨_,V2.2 ⟨e,f,.inl ⟨a,b,d.inj _ _ g.1.1 g.1.2 h0 k c,rfl⟩⟩⟩
   exact⟨_,V2.2 ⟨e,f,.inr ⟨a,b,d.inj _ _ g.2.1 g.2.2 h0 k c,rfl⟩⟩⟩
  grind
 right;generalize Q0 t v x=y at h;obtain⟨e,f,j⟩:=V2.1 h;have g:=d.inE f;rcases j with⟨a,b,c,rfl⟩|⟨a,b,c,rfl⟩;·exact⟨g.2,Y06 d.fc (V2.2 ⟨_,(d.mem _).2 ⟨e,f,rfl⟩,.inl ⟨a,b,by show P e.1=P v;rw[c],rfl⟩⟩)⟩
 exact⟨g.1,Y06 d.fc (V2.2 ⟨_,(d.mem _).2 ⟨e,f,rfl⟩,.inr ⟨a,b,by show P e.2.2=P v;rw[c],rfl⟩⟩)⟩
def Iso.order{t c:j0}{P:Int->Int}{n:Nat}(b:Iso t c P n)(A:P 0=0):Q2 c=(Q2 t).map P:=by
 have s:∀ u:List Int,gud n u->∀ x∈u,0<=x/\x<(n:Int):=λu d x j=>by have:=d.2 x j;omega
 have G:inG (t.1,(n:Int),t.2.2):=by intro e D;have:=(W0 b.ft).1 e D;rw[b.nt]at this;exact this
 have F:(t.1,(n:Int),t.2.2)=t:=by rw[←b.nt]
 have C:∀(u:List Int) (y z:Int),gud n u->(y = -1/\z = -1)∨((0<=y/\y<(n:Int))/\z=P y)->A09 (u.map P) z=(A09 u y).map P:=λu y z d h=>by
  unfold A09;rcases h with⟨rfl,rfl⟩|⟨⟨h0,k⟩,rfl⟩;·rw[iE oM,iE oM]
  have o:P y∈u.map P↔y∈u:=by
   constructor;·intro h;obtain⟨x,j,e⟩:=List.mem_map.1 h;have:=s u d x j;rw[←b.inj x y this.1 this.2 h0 k e];exact j
   grind
  by_cases c:y∈u;·rw[iE λq=>q.2 (o.2 c),iE λq=>q.2 c]
  rw[iP ⟨(b.rng y h0 k).1,λq=>c (o.1 q)⟩,iP ⟨h0,c⟩];simp
 have E:∀(v:Int),0<=v->v<(n:Int)->∀(g u:List Int),gud n u->t03 c (P v) g (u.map P)=(t03 t v g u).map P:=λv h0 k g=>by
  induction g with
  |nil=>intro u d;rfl
  |cons x l p =>
   intro u d;have j:Q0 t v x = -1∨(0<=Q0 t v x/\Q0 t v x<(n:Int)):=by rcases b.next v x h0 k with⟨a,_⟩|⟨a,_⟩;all_goals grind
   rw[t03,t03,C u _ _ d (b.next v x h0 k),p _ (n0p d j)]
 have w:∀(f i:Nat) (u:List Int) (g:List Int),gud n u->E9 c g f i (u.map P)=(E9 t g f i u).map P:=λf=>by
  induction f with
  |zero=>intro i u g d;rfl
  |succ f p =>
   intro i u g d;unfold E9;rw[List.getElem?_map];cases e:u[i]? with
   |none=>rfl
   |some v =>have H:=s u d v (mG e);grind[gud,t03,N06]
 obtain⟨_,_,I,_⟩:=W0 b.ft;have m:=w (n+1) 0 [0] (U7 t.1.toNat 1) ⟨oS,λx j=>oG⟩;rw[List.map_cons,List.map_nil,A]at m;show E9 c (U7 c.1.toNat 1) (c.2.1.toNat+1) 0 [0]=(E9 t (U7 t.1.toNat 1) (t.2.1.toNat+1) 0 [0]).map P;rw[b.rank,b.nc,b.nt,(iN)];exact m
def Iso.canon{t c:j0}{P:Int->Int}{n:Nat}(a:Iso t c P n)(h:P 0=0)(j:∀ x:Int,0<=x->x<(n:Int)->x∈Q2 t):N3 c=N3 t:=by
 have m:=a.order h;obtain⟨⟨s,k⟩,d⟩:=N04 a.ft;obtain⟨⟨u,l⟩,_⟩:=N04 a.fc;rw[a.nt,(iN)]at k;rw[a.nc,(iN)]at l;have g:∀ x:Int,0<=x->x<(n:Int)->getI (plc n (Q2 c)) (P x)=getI (plc n (Q2 t)) x/\0<=getI (plc n (Q2 t)) x:=λx h0 d=>by obtain⟨i,v⟩:=List.getElem?_of_mem (j x h0 d);grind[Q2,p0e]
 unfold N3 L7;rw[a.nt,a.nc,(iN),a.rank,show(Q2 c).length=(Q2 t).length by rw[m,List.length_map]];refine congrArg (λz=>(t.1,_,z)) (M0a j4 (I02 j4 _ _ .nil) (I02 j4 _ _ .nil) λq=>?_);have o:pE (plc n (Q2 t)) t.2.2=t.2.2.map λe=>(getI (plc n (Q2 t)) e.1,e.2.1,getI (plc n (Q2 t)) e.2.2):=c0k _ _ λe b=>by have:=a.inE b;grind
 have p:pE (plc n (Q2 c)) c.2.2=c.2.2.map λe=>(getI (plc n (Q2 c)) e.1,e.2.1,getI (plc n (Q2 c)) e.2.2):=c0k _ _ λe b=>by obtain⟨f,hf,rfl⟩:=(a.mem e).1 b;have:=a.inE hf;grind
 rw[C5 j4,C5 j4,o,p];simp only[List.not_mem_nil,false_or,List.mem_map];constructor;·rintro⟨e,b,rfl⟩;obtain⟨f,hf,rfl⟩:=(a.mem e).1 b;have:=a.inE hf;grind
 rintro⟨f,hf,rfl⟩;have:=a.inE hf;exact⟨_,(a.mem _).2 ⟨f,hf,rfl⟩,by rw[(g f.1 this.1.1 this.1.2).1,(g f.2.2 this.2.1 this.2.2).1]⟩
def Iso.perm{t c:j0}{P:Int->Int}{n:Nat}(d:Iso t c P n):c.2.2.Perm (t.2.2.map λe=>(P e.1,e.2.1,P e.2.2)):=by
 have k:=d0a (T05 (A3 d.ft));have l:=d0a (T05 (A3 d.fc));have p:(t.2.2.map λe=>((P e.1,e.2.1,P e.2.2):O0)).Nodup:=by rw[List.Nodup,List.pairwise_map];refine List.Pairwise.imp_of_mem (λ{a b} m o h e=>h ?_) k;have f:=d.inE m;have g:=d.inE o;simp only[Prod.mk.injEq]at e;have i:=d.inj _ _ f.1.1 f.1.2 g.1.1 g.1.2 e.1;have j:=d.inj _ _ f.2.1 f.2.2 g.2.1 g.2.2 e.2.2;obtain⟨s,u,v⟩:=a;obtain⟨w,x,f2⟩:=b;simp only at i j e;rw[i,j,e.2.1]
 refine(List.perm_ext_iff_of_nodup l p).2 λq=>?_;rw[d.mem,List.mem_map];grind
def Iso.len{t c:j0}{P:Int->Int}{n:Nat}(s:Iso t c P n):c.2.2.length=t.2.2.length:=by rw[s.perm.length_eq,List.length_map]
def Iso.rch{t c:j0}{P:Int->Int}{n:Nat}(d:Iso t c P n){a x:Int}(h:Rch t.2.2 a x):Rch c.2.2 (P a) (P x) :=
 Rch.sub (P:=λx=>Rch c.2.2 (P a) (P x)) .base (λe b=>Rch.closed (P e.1,e.2.1,P e.2.2) ((d.mem _).2 ⟨e,b,rfl⟩)) h
def Iso.onto{t c:j0}{P:Int->Int}{n:Nat}(f:Iso t c P n){y:Int}(h0:0<=y)(g:y<(n:Int)):∃ x:Int,(0<=x/\x<(n:Int))/\P x=y:=by
 let L:List Int:=(List.range n).map λi:Nat=>P (i:Int)
 have k:L.Nodup:=by rw[List.Nodup,List.pairwise_map];refine List.Pairwise.imp_of_mem (λ{a b} p q h e=>h ?_) List.nodup_range;have:=f.inj _ _ oM oG oM oG e;omega
 have m:inV n L:=λz d=>by obtain⟨i,l,rfl⟩:=List.mem_map.1 d;have:=List.mem_range.1 l;exact f.rng _ oM oM
 have s:y∈L:=by
  refine Classical.byContradiction λj=>?_;have o:=A01 n (y::L) (List.nodup_cons.2 ⟨j,k⟩) λz d=>by
   rcases mE.1 d with rfl|d;·exact⟨h0,g⟩
   exact m z d
  grind
 grind
def Rch.tr{es:List O0}{a b c:Int}(h:Rch es a b)(k:Rch es b c):Rch es a c:=Rch.sub (P:=λx=>Rch es a x) h Rch.closed k
theorem s0k{g:j0}(h:K1 g):N3 g=g/\F9 g=none:=by unfold K1 V0b at h;simp only[aE,dE,Option.isNone_iff_eq_none]at h;exact⟨h.2.2,h.2.1⟩
def o0w{g:j0}(h:K1 g){v:Int}(h0:1<=v)(b:v<g.2.1):2<=z03 v g.2.2/\Rch g.2.2 0 v:=by have a:=Z0c (s0k h).2 v.toNat oM oM;unfold O0a at a;rw[show((v.toNat:Nat):Int)=v by omega]at a;simp only[Bool.or_eq_false_iff,Bool.not_eq_false',dE,decide_eq_false_iff_not]at a;exact⟨oM,(k06 _ _ _).1 a.2⟩
def h0q{g:j0}(h:K1 g){v:Int}(h0:0<=v)(a:v<g.2.1):Rch g.2.2 0 v:=by
 by_cases c:v=0;·rw[c];exact .base
 exact(o0w h oM a).2
structure Hom (x t:j0) (g:Int->Int):Prop where
 rng:∀ v,0<=v->v<x.2.1->0<=g v/\g v<t.2.1
 step:∀ v l,0<=v->v<x.2.1->0<=Q0 x v l->Q0 t (g v) l=g (Q0 x v l)
structure Emb (c t:j0) (E:Int->Int):Prop where
 fc:K0 c=true
 hom:Hom c t E
 inj:∀ x y,0<=x->x<c.2.1->0<=y->y<c.2.1->E x=E y->x=y
 full:∀ x y l,0<=x->x<c.2.1->0<=y->y<c.2.1->Q0 t (E x) l=E y->Q0 c x l=y
def k0c{g:j0}(hf:K0 g){v l:Int}(h:0<=Q0 g v l):Q0 g v l<g.2.1:=by rcases i04 (W0 hf).1 v l with e|e<;>omega
def Emb.comp{a b c:j0}{k j:Int->Int}(e:Emb a b k)(d:Emb b c j):Emb a c (λx=>j (k x)) where
 fc:=e.fc
 hom:=⟨λv h0 f=>d.hom.rng _ (e.hom.rng v h0 f).1 (e.hom.rng v h0 f).2,λv l h0 f h=>by
  have n:=e.hom.step v l h0 f h
  have m:=e.hom.rng v h0 f
  have o:=e.hom.rng _ h (k0c e.fc h)
  show Q0 c (j (k v)) l=j (k (Q0 a v l))
  rw[d.hom.step _ l m.1 m.2 (by rw[n];exact o.1),n]⟩
 inj:=λx y h0 f g i h=>e.inj x y h0 f g i (d.inj _ _ (e.hom.rng x h0 f).1 (e.hom.rng x h0 f).2 (e.hom.rng y g i).1 (e.hom.rng y g i).2 h)
 full:=λx y l h0 f g i h=>e.full x y l h0 f g i (d.full _ _ l (e.hom.rng x h0 f).1 (e.hom.rng x h0 f).2 (e.hom.rng y g i).1 (e.hom.rng y g i).2 h)
def i0q{g:j0}{a v l:Int}(h:0<=Q0 g v l):Rch g.2.2 a v↔Rch g.2.2 a (Q0 g v l):=by grind[S04,Rch.closed]
def Hom.rch{x t:j0}{g:Int->Int}(m:Hom x t g)(hf:K0 x){a b:Int}(h:Rch x.2.2 a b):Rch t.2.2 (g a) (g b):=by refine Rch.sub (P:=λz=>Rch t.2.2 (g a) (g z)) .base (λe d=>?_) h;have c:=(W0 hf).1 e d;have f:=(v01 hf d).1;have i:=m.step e.1 e.2.1 c.1.1 c.1.2 (by rw[f];exact c.2.1.1);rw[f]at i;have:=i0q (g:=t) (a:=g a) (v:=g e.1) (l:=e.2.1) (by rw[i];exact(m.rng _ c.2.1.1 c.2.1.2).1);grind
def Hom.comp{a b c:j0}{g k:Int->Int}(e:Hom a b g)(d:Hom b c k)(hf:K0 a):Hom a c (λx=>k (g x)) where
 rng:=λv h0 f=>d.rng _ (e.rng v h0 f).1 (e.rng v h0 f).2
 step:=λv l h0 f h=>by
  have j:=e.step v l h0 f h
  have i:=e.rng v h0 f
  have m:=e.rng _ h (k0c hf h)
  show Q0 c (k (g v)) l=k (g (Q0 a v l))
  rw[d.step _ l i.1 i.2 (by rw[j];exact m.1),j]
def Hom.lift{x c t:j0}{g i:Int->Int}(m:Hom x t g)(hf:K0 x)(e:Emb c t i)(h:∀ v,0<=v->v<x.2.1->∃ w,(0<=w/\w<c.2.1)/\i w=g v):∃ f,Hom x c f/\∀ v,0<=v->v<x.2.1->i (f v)=g v:=by
 have o:∀ v:Int,∃ w:Int,0<=v->v<x.2.1->(0<=w/\w<c.2.1)/\i w=g v:=λv=>by
  by_cases k:0<=v/\v<x.2.1;·grind
  exact⟨0,λh0 d=>absurd ⟨h0,d⟩ k⟩
 let f:Int->Int:=λv=>Classical.choose (o v)
 have j:∀ v,0<=v->v<x.2.1->(0<=f v/\f v<c.2.1)/\i (f v)=g v:=λv=>Classical.choose_spec (o v);refine⟨f,⟨λv h0 d=>(j v h0 d).1,λv l h0 d n=>?_⟩,λv h0 d=>(j v h0 d).2⟩;have p:=k0c hf n;have a:=j v h0 d;have b:=j _ n p;exact e.full _ _ l a.1.1 a.1.2 b.1.1 b.1.2 (by rw[a.2,b.2];exact m.step v l h0 d n)
theorem g0d{o:List Int}{i:Nat}{v:Int}(h:o[i]?=some v):getI o (i:Int)=v:=by simp_all[getI,List.getD_eq_getElem?_getD]
theorem p0w(P:List Int):∀(es:List O0) (a:O0),a∈es->0<=getI P a.1->0<=getI P a.2.2->((getI P a.1,a.2.1,getI P a.2.2):O0)∈pE P es
 |b::r,a,h,c,d=>by
  unfold pE;rcases mE.1 h with rfl|h;·grind
  have e:=p0w P r a h c d;grind
def t0k{t:j0}{o:List Int}{a:O0}:a∈(L7 t o).2.2↔∃ e∈t.2.2,a=(getI (plc t.2.1.toNat o) e.1,e.2.1,getI (plc t.2.1.toNat o) e.2.2)/\0<=getI (plc t.2.1.toNat o) e.1/\0<=getI (plc t.2.1.toNat o) e.2.2:=by
 show a∈L4 V0 [] _↔_;rw[C5 j4];constructor;·grind[W0j]
 rintro⟨e,d,rfl,b,c⟩;grind[p0w]
def m0t{n:Nat}{o:List Int}(b:inV n o)(d:o.Nodup){x:Int}(e:0<=x)(h:0<=getI (plc n o) x):getI o (getI (plc n o) x)=x:=by have j:=(T0c b e).2;have g:(getI (plc n o) x).toNat<o.length:=oM;have a:=V3 g;generalize k:o[(getI (plc n o) x).toNat]=v at a;have i:=p0e b d a;have f:=A0i b d e (b v (mG a)).1 h oM;have c:=g0d a;rw[show(((getI (plc n o) x).toNat:Nat):Int)=getI (plc n o) x by omega]at c;rw[c,f]
def q0w{o:List Int}{x:Int}(h0:0<=x)(a:x<(o.length:Int)):o[x.toNat]?=some (getI o x):=by grind[V3,g0d]
def R0f{t:j0}(hf:K0 t){o:List Int}(s:o.Nodup)(n:inV t.2.1.toNat o)(C:1<=o.length)(D:o.length<=40):Emb (L7 t o) t (getI o):=by
 have q:=o07 hf n s C D;obtain⟨I,M,N,O⟩:=W0 hf;have k:∀ x:Int,0<=x->x<(o.length:Int)->(0<=getI o x/\getI o x<t.2.1)/\getI (plc t.2.1.toNat o) (getI o x)=x:=λx a b=>by have F:=q0w a b;have:=n _ (mG F);grind[p0e]
 refine⟨q,⟨λv a b=>(k v a b).1,λv l a b h=>?_⟩,λx y a b c d h=>?_,λx y l a b c d h=>?_⟩;·obtain⟨_,J,E,_,u⟩:=S04 h;obtain⟨e,j,rfl,G,H⟩:=t0k.1 E;have z:=I e j;have K:=v01 hf j;have L:=m0t n s z.1.1 G;have p2:=m0t n s z.2.1.1 H;grind
 ·rw[←(k x a b).2,h,(k y c d).2]
 have p:=k x a b;have m:=k y c d;obtain⟨_,e,j,_,u⟩:=S04 (g:=t) (v:=getI o x) (x:=l) (by rw[h];exact m.1.1);rw[h]at u;rcases u with⟨_,A,f,i⟩|⟨_,A,f,i⟩;·have w:((x,e.2.1,y):O0)∈(L7 t o).2.2:=t0k.2 ⟨e,j,by rw[f,i,p.2,m.2],by rw[f,p.2];exact a,by rw[i,m.2];exact c⟩;have:=(v01 q w).1;grind
 have w:((y,e.2.1,x):O0)∈(L7 t o).2.2:=t0k.2 ⟨e,j,by rw[f,i,p.2,m.2],by rw[i,m.2];exact c,by rw[f,p.2];exact a⟩;have:=(v01 q w).2;grind
structure c0A (x:j0) (p:Int):Prop where
 fx:K0 x=true
 pr:0<=p/\p<x.2.1
 two:∀ v,0<=v->v<x.2.1->v≠p->∀ z,∃ l,l≠z/\0<=Q0 x v l
 con:∀ v,0<=v->v<x.2.1->Rch x.2.2 p v
def Q0h(c t:j0)(E:Int->Int):Prop:=∀(x:j0) (p:Int) (g:Int->Int),c0A x p->Hom x t g->(∃ w,(0<=w/\w<c.2.1)/\E w=g p)->∀ v,0<=v->v<x.2.1->∃ w,(0<=w/\w<c.2.1)/\E w=g v
def Q0h.comp{a b c:j0}{h i:Int->Int}(e:Emb a b h)(d:Emb b c i)(z:Q0h a b h)(A:Q0h b c i):Q0h a c (λx=>i (h x)):=by rintro x p g f m ⟨w,k,q⟩;have j:=e.hom.rng w k.1 k.2;obtain⟨l,n,t⟩:=m.lift f.fx d (A x p g f m ⟨h w,j,q⟩);have o:=n.rng p f.pr.1 f.pr.2;have y:h w=l p:=d.inj _ _ j.1 j.2 o.1 o.2 (by rw[t p f.pr.1 f.pr.2];exact q);intro v h0 s;obtain⟨u,C,D⟩:=z x p l f n ⟨w,k,y⟩ v h0 s;grind
def s0e{c t:j0}{a:Int->Int}(h:∀ v,0<=v->v<t.2.1->∃ w,(0<=w/\w<c.2.1)/\a w=v):Q0h c t a:=λx p g e d _ v h0 b=>h _ (d.rng v h0 b).1 (d.rng v h0 b).2
def S0f{v:Int}:∀ {es:List O0} {e:O0},e∈es->y0f v e<=z03 v es
 |x::r,e,h=>by
  simp only[z03];rcases mE.1 h with a|a;·rw[a];omega
  have:=S0f (v:=v) a;omega
def x0m{v:Int}:∀ {es:List O0} {e d:O0},e∈es->d∈es->e≠d->y0f v e+y0f v d<=z03 v es
 |x::r,e,d,h,k,c=>by
  simp only[z03];rcases mE.1 h with b|b;·rcases mE.1 k with a|a;all_goals simp_all[absurd,S0f]
  rcases mE.1 k with a|a;·have:=S0f (v:=v) b;rw[a];omega
  have:=x0m (v:=v) b a c;omega
def n0t{g:j0}(hf:K0 g){v:Int}(h:∀ z,∃ l,l≠z/\0<=Q0 g v l):2<=z03 v g.2.2:=by
 obtain⟨l,_,j⟩:=h 0;obtain⟨k,q,i⟩:=h l;obtain⟨_,e,a,n,p⟩:=S04 j;obtain⟨_,d,f,m,s⟩:=S04 i;by_cases c:e=d
 ·subst c;have:=S0f (v:=v) a;have b:e.1=v/\e.2.2=v:=by grind
  simp_all[y0f,iP]
 have:=x0m (v:=v) a f c;have o:1<=y0f v e:=by unfold y0f;grind
 have b:1<=y0f v d:=by unfold y0f;grind
 omega
def Hom.two{x t:j0}{g:Int->Int}(m:Hom x t g)(hf:K0 x){v:Int}(h0:0<=v)(b:v<x.2.1)(h:∀ z,∃ l,l≠z/\0<=Q0 x v l):∀ z,∃ l,l≠z/\0<=Q0 t (g v) l:=λz=>by obtain⟨l,c,a⟩:=h z;exact⟨l,c,by rw[m.step v l h0 b a];exact(m.rng _ a (k0c hf a)).1⟩
theorem D0r(g:Nat):∀(d k:Nat),(g:Int) ∉ wo g d k
 |0,k,h=>nomatch h
 |d+1,k,h=>by
  unfold wo at h;by_cases c:k=g;·rw[iP c]at h;exact D0r g d (k+1) h
  rw[iE c]at h;rcases mE.1 h with h|h;·omega
  exact D0r g d (k+1) h
def r0w{a:Nat->Bool}:∀(d v k:Nat),lf a d v=some k->a k
 |0,v,k,h=>by cases h
 |d+1,v,k,h=>by
  unfold lf at h;cases hb:a v;·rw[hb]at h;exact r0w d (v+1) k h
  grind
def j0q:∀(d:Nat) {h:j0},K0 h->(∀ w,0<=w->w<(t9 d h).2.1->Rch (t9 d h).2.2 0 w)->∃ s,Emb (t9 d h) h s/\s 0=0/\Q0h (t9 d h) h s
 |0,h,hf,o=>⟨id,⟨hf,⟨λv a b=>⟨a,b⟩,λv l a b k=>rfl⟩,λx y _ _ _ _ e=>e,λx y l _ _ _ _ e=>e⟩,rfl,s0e λv a b=>⟨v,⟨a,b⟩,rfl⟩⟩
 |d+1,h,hf,o=>by
  unfold t9 at o ⊢;cases e:F9 h with
  |none=>exact⟨id,⟨hf,⟨λv a b=>⟨a,b⟩,λv l a b k=>rfl⟩,λx y _ _ _ _ e=>e,λx y l _ _ _ _ e=>e⟩,rfl,s0e λv a b=>⟨v,⟨a,b⟩,rfl⟩⟩
  |some k =>
   rw[e]at o;obtain⟨ac,ad,ae,af⟩:=W0 hf;obtain⟨s1,s2,J,K⟩:=c08 (A3 hf) e;have Y:=X0c e;have q:=r0w _ _ _ e;have H:=n07 k h.2.1.toNat 0;have C:=R0f hf H s1 J K;have S:=o07 hf s1 H J K;simp only at o ⊢;obtain⟨s,A,L,M⟩:=j0q d S o;have V:getI (wo k h.2.1.toNat 0) 0=0:=by obtain⟨m,Q⟩:∃ m,h.2.1.toNat=m+1:=⟨h.2.1.toNat-1,oM⟩;rw[Q,wo,iE oM];rfl
   have F:=A.comp C;refine⟨_,F,by rw[L];exact V,?_⟩;rintro x p g f z ⟨w,t,U⟩;have E:=A.hom.rng w t.1 t.2;have T:Rch h.2.2 0 (g p):=by have:=F.hom.rch A.fc (o w t.1 t.2);grind
   have Z:∀ u,0<=u->u<(L7 h (wo k h.2.1.toNat 0)).2.1->getI (wo k h.2.1.toNat 0) u≠(k:Int):=λu W X c=>by have:=mG (q0w W X);grind[D0r]
   have R:∀ v,0<=v->v<x.2.1->g v≠(k:Int):=λv j n c=>by
    by_cases cp:v=p;·grind
    unfold O0a at q;simp only[Bool.or_eq_true,dE,Bool.not_eq_true',decide_eq_false_iff_not]at q;rcases q with q|q;·have:=n0t hf (z.two f.fx j n (f.two v j n cp));rw[c]at this;omega
    refine q ((k06 _ _ _).2 ?_);rw[←c];exact Rch.tr T (z.rch f.fx (f.con v j n))
   obtain⟨D,G,N⟩:=z.lift f.fx C λv j n=>by have o:=z.rng v j n;have:=k0k k h.2.1.toNat 0 (g v).toNat (Nat.zero_le _) oM (λc=>R v j n oM);rw[show(((g v).toNat:Nat):Int)=g v by omega]at this;obtain⟨i,P⟩:=List.getElem?_of_mem this;refine⟨(i:Int),⟨oM,?_⟩,g0d P⟩;show(i:Int)<(((wo k h.2.1.toNat 0).length:Nat):Int);grind
   have I:=G.rng p f.pr.1 f.pr.2;have O:s w=D p:=C.inj _ _ E.1 E.2 I.1 I.2 (by rw[N p f.pr.1 f.pr.2];exact U);intro v j n;obtain⟨u,aa,ab⟩:=M x p D f G ⟨w,t,O⟩ v j n;grind
def s0w{h:j0}(hf:K0 h):∃ b,Emb (z07 h) h b/\b 0=0/\Q0h (z07 h) h b:=by
 have p:=A3 hf;obtain⟨A,C,D,E⟩:=W0 hf;have e:=C03 40 hf;have k:=L08 40 p oM;obtain⟨x,p2,y,z⟩:=W0 e;have a:=N04 e;have o:∀ w,0<=w->w<(t9 40 h).2.1->w∈Q2 (t9 40 h):=λw h0 d=>c0a e k h0 d;have s:∀ w,0<=w->w<(t9 40 h).2.1->Rch (t9 40 h).2.2 0 w:=λw h0 d=>by
  by_cases c:w=0;·rw[c];exact .base
  have:=Z0c k w.toNat oM oM;unfold O0a at this;simp only[Bool.or_eq_false_iff,Bool.not_eq_false',dE]at this;have j:=this.2;rw[show((w.toNat:Nat):Int)=w by omega]at j;exact(k06 _ _ _).1 j
 obtain⟨b,f,l,m⟩:=j0q 40 hf s;have g:=R0f e a.1.1 a.1.2 a.2 (Nat.le_trans (A01 _ _ a.1.1 a.1.2) oM);have u:getI (Q2 (t9 40 h)) 0=0:=by obtain⟨t,n⟩:=M08 (t9 40 h);rw[n];rfl
 refine⟨_,g.comp f,by rw[u];exact l,Q0h.comp g f (s0e λv h0 d=>?_) m⟩;obtain⟨i,q⟩:=List.getElem?_of_mem (o v h0 d);refine⟨(i:Int),⟨oM,?_⟩,g0d q⟩;show(i:Int)<(((Q2 (t9 40 h)).length:Nat):Int);grind
def E0w(l:List (List Int))(h:l.length<=1099511627776)(g:∀ w∈l,w.length<=17592186044416):∀(d k fuel:Nat) (acc:List (List Int)),k+d=l.length->d<fuel->acc.length<=k -> c00 l fuel (k:Int) acc=some (acc++l.drop k)
 |d,k,0,acc,c,hf,b=>oM
 |0,k,fuel+1,acc,c,hf,b=>by rw[c00.eq_2,iE oG,D1 oM,List.append_nil]
 |d+1,k,fuel+1,acc,c,hf,b=>by
  have f:k<l.length:=oM;have a:=V3 f;have i:=g _ (mG a);have e:=I1 a;generalize l[k]=w at a i e;rw[c00.eq_2,iP oG,U1 a,oB,C0 oG,oB,C0 oG,oB,Z1 f oM,
   E0w l h g d (k+1) fuel _ oM oM oG,e,(nA),List.append_assoc];rfl
def w0z(l:List (List Int))(a:l.length<=1099511627776)(b:∀ w∈l,w.length<=17592186044416):E04 l=some l:=by have h:=E0w l a b l.length 0 P0 [] oM (j1 oM) oS;grind[E04]
theorem F0w{a:List Int}(b:a.length<=17592186044416):N4 a=some a:=by grind[N4,C0]
def d0A(l:List (List Int))(i:l.length<=1099511627776)(g:∀ w∈l,w.length<=17592186044416):∀(d k fuel:Nat) (acc:List (List Int)),k+d=l.length->d<fuel->acc.length<=k -> r8 l fuel (k:Int) acc=some (acc++l.drop k)
 |d,k,0,acc,c,hf,b=>oM
 |0,k,fuel+1,acc,c,hf,b=>by rw[r8.eq_2,iE oG,D1 oM,List.append_nil]
 |d+1,k,fuel+1,acc,c,hf,b=>by
  have f:k<l.length:=oM;have a:=V3 f;have h:=g _ (mG a);have e:=I1 a;generalize l[k]=w at a h e;rw[r8.eq_2,iP oG,U1 a,oB,F0w h,oB,C0 oG,oB,Z1 f oM,
   d0A l i g d (k+1) fuel _ oM oM oG,e,List.append_assoc];rfl
def e0A(l:List (List Int))(a:l.length<=1099511627776)(b:∀ w∈l,w.length<=17592186044416):X01 l=some l:=by have h:=d0A l a b l.length 0 P0 [] oM (j1 oM) oS;rw[show((0:Nat):Int)=0 from rfl,(dZ),(nA)]at h;unfold X01;rw[C0 oM,oB];grind
def f0A(c:j6):Prop:=(c.2.2.1.length<=1099511627776/\∀ w∈c.2.2.1,w.length<=1099511627776)/\c.2.2.2.1.length<=1099511627776/\c.2.2.2.2.1.length<=1099511627776/\c.2.2.2.2.2.1.2.2.length<=1099511627776
def G0w(c:j6)(h:f0A c):Y01 c=some c:=by obtain⟨⟨a,b⟩,f,g,i⟩:=h;have e:=e0A _ a λw d=>Nat.le_trans (b w d) oD;grind[N00,F0w,Nat.le_trans,Y01]
end Go.Proofs.YthakcafglempaaaGreat
