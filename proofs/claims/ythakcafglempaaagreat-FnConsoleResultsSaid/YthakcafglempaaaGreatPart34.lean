/- Texts of the claim, joined: Plain laws: valid graphs said in words; folds of a graph and others. -/
import Derived.Test.YthakcafglempaaaGreatPG
import Derived.Test.YthakcafglempaaaGreatPart24
import Derived.Test.YthakcafglempaaaGreatPart25
import Derived.Test.YthakcafglempaaaGreatPart32
import Derived.Test.YthakcafglempaaaGreatPart23
import Derived.Test.YthakcafglempaaaGreatH36
namespace Go.Proofs.YthakcafglempaaaGreat
set_option linter.all false
open Go.H
open IntKind (i64)
def r0p{e:Type}{c:e->e->Int}(h:o02 c):∀ {l:List e},(∀ i x y,l[i]?=some x->l[i+1]?=some y->c x y<0)->Asc c l
 | [],_=>List.Pairwise.nil
 | [x],_=>List.pairwise_singleton _ _
 |x::y::l,f=>by
  have j:Asc c (y::l):=r0p h λi a b k m=>f (i+1) a b (by simpa using k) (by simpa using m);have g:=f 0 x y rfl rfl;refine List.pairwise_cons.2 ⟨λz d=>?_,j⟩;rcases mE.1 d with rfl|d;·exact g
  exact h.trans _ _ _ g ((List.pairwise_cons.1 j).1 z d)
theorem T0v{d:Type}{e:d->d->Int}:∀ {l:List d},Asc e l->∀ {i:Nat} {x y:d},l[i]?=some x->l[i+1]?=some y->e x y<0
 | [],_,i,x,y,b,_=>by simp at b
 |a::l,h,0,x,y,b,c=>by simp at b c;subst b;exact(List.pairwise_cons.1 h).1 y (mG c)
 |a::l,h,i+1,x,y,b,c=>T0v (List.pairwise_cons.1 h).2 (i:=i) (by simpa using b) (by simpa using c)
def U0v{r a:Int}{es:List O0}:∀ {d k:Nat},(∀ i,k<=i->i<k+d->E0v r a es i=false)->okE r a es d k
 |0,k,h=>rfl
 |d+1,k,h=>by simp only[okE,aE,Bool.not_eq_true'];exact⟨h k (Nat.le_refl _) oM,U0v λi b c=>h i oM oM⟩
theorem b03(g:j0):X0 g↔inG g/\(1<=g.1/\g.1<=3)/\(1<=g.2.1/\g.2.1<=40)/\g.2.2.length<=120/\Asc V0 g.2.2:=by
 constructor;·intro h;obtain⟨j,b,c,d⟩:=Y2 h;refine⟨j,b,c,d,r0p j4 λi x y a l=>?_⟩;simp only[X0,aE]at h;have f:=s0n h.1.1.1 (i+1) (Nat.zero_le _) oG;rw[R0c l]at f;simp only[Nat.add_sub_cancel,a,Bool.or_eq_false_iff]at f;have:=f.2;simp only[show decide (0<i+1)=true by simp,Bool.true_and,decide_eq_false_iff_not]at this;grind[o0j,V0]
 rintro⟨j,b,c,d,m⟩;obtain⟨r,n,es⟩:=g;simp only at b c d m;simp only[X0,inR,aE,dE];refine⟨⟨⟨U0v λi _ o=>?_,b⟩,c⟩,d⟩;have a:=V3 (show i<es.length by omega);generalize es[i]=e at a;rw[R0c a];have k:=j e (mG a);simp only at k;simp only[Bool.or_eq_false_iff,Bool.not_eq_false',G08,inR,aE,dE];rw[w64 oM oM];grind[V3,T0v,Nat.add_sub_cancel,o0j,V0]
theorem E0f{r:Int}{n:Int}{es:List O0}(c:1<=r/\r<=3)(b:1<=n/\n<=40)(f:es.length<=120)(a:inG (r,n,es)):X0 (r,n,L4 V0 [] es)=true:=by
 refine(b03 _).2 ⟨λe d=>a e ?_,c,b,?_,I02 j4 _ _ List.Pairwise.nil⟩
 all_goals grind[C5,j4,O01,List.length_nil]
def l09(a b:O0):List (Int×Int) :=
 bif decide (a.2.1=b.2.1)then(bif decide (a.1=b.1)then [(if b.2.2<a.2.2 then b.2.2 else a.2.2,if b.2.2>a.2.2 then b.2.2 else a.2.2)]else [])++(bif decide (a.2.2=b.2.2)then [(if b.1<a.1 then b.1 else a.1,if b.1>a.1 then b.1 else a.1)]else [])else []
def j04(a:O0):List O0->List (Int×Int)
 | []=>[]
 |b::r=>l09 a b++j04 a r
def B9:List O0->List (Int×Int)
 | []=>[]
 |a::r=>j04 a r++B9 r
def h0u(a b:O0):(l09 a b).length<=2:=by unfold l09;cases decide (a.2.1=b.2.1)<;>cases decide (a.1=b.1)<;>cases decide (a.2.2=b.2.2)<;>simp
theorem Q0g(a:O0):∀ l,(j04 a l).length<=2*l.length
 | []=>by simp[j04]
 |b::r=>by have:=h0u a b;have:=Q0g a r;grind[j04,List.length_append,List.length_cons]
def mvV(f:Int×Int)(v:Int):Int:=if v=f.2 then f.1 else if v>f.2 then v-1 else v
def mvE(f:Int×Int)(e:O0):O0:=(mvV f e.1,e.2.1,mvV f e.2.2)
def B03(g:j0)(f:Int×Int):j0:=(g.1,g.2.1-1,L4 V0 [] (g.2.2.map (mvE f)))
def okF(g:j0)(f:Int×Int):Prop:=0<=f.1/\f.1<f.2/\f.2<g.2.1
def l07{g:j0}{f:Int×Int}(k:X0 g)(hf:okF g f):X0 (B03 g f):=by
 obtain⟨l,m,q,n,_⟩:=(b03 g).1 k;obtain⟨o,f2,f3⟩:=hf;refine E0f m ⟨oM,oM⟩ (by simpa using n) λe i=>?_;obtain⟨h,j,rfl⟩:=List.mem_map.1 i;obtain⟨b,c,d⟩:=l h j;have a:∀ v:Int,0<=v/\v<g.2.1->0<=mvV f v/\mvV f v<g.2.1-1:=λv p=>by grind[mvV]
 exact⟨a _ b,a _ c,d⟩
def s0p{g:j0}(j:inG g){a:O0}(m:a∈g.2.2):∀ {l:List O0},(∀ b∈l,b∈g.2.2/\a≠b)->∀ f∈j04 a l,okF g f
 | [],_,f,hf=>by simp[j04]at hf
 |b::r,h,f,hf=>by
  rcases List.mem_append.1 (show f∈l09 a b++j04 a r from hf)with hf|hf
  ·have s:=j b (h b mS).1;have q:=j a m;have u:=(h b mS).2;obtain⟨c,n,d⟩:=a;obtain⟨e,p,i⟩:=b;simp only at q s;unfold l09 at hf;simp only at hf;by_cases c1:n=p
   ·have k : ¬ (c=e/\d=i):=λ⟨x,y⟩=>u (by rw[x,c1,y]);simp only[c1,decide_true,cT,List.mem_append]at hf;rcases hf with hf|hf
    ·by_cases c2:c=e;·simp only[c2,decide_true,cT,List.mem_singleton]at hf;subst hf;have:d≠i:=λy=>k ⟨c2,y⟩;unfold okF;simp only;split<;>split<;>omega
     simp[c2]at hf
    by_cases c2:d=i;·simp only[c2,decide_true,cT,List.mem_singleton]at hf;subst hf;have:c≠e:=λy=>k ⟨y,c2⟩;unfold okF;simp only;split<;>split<;>omega
    simp[c2]at hf
   simp[c1]at hf
  exact s0p j m (λo t=>h o (mC _ t)) f hf
theorem t0p{g:j0}(i:inG g):∀ {l:List O0},(∀ b∈l,b∈g.2.2)->Asc V0 l->∀ f∈B9 l,okF g f
 | [],_,_,f,hf=>by simp[B9]at hf
 |a::r,h,d,f,hf=>by
  rcases List.mem_append.1 (show f∈j04 a r++B9 r from hf)with hf|hf;·refine s0p i (h a mS) (λb c=>⟨h b (mC _ c),λe=>?_⟩) f hf;have:=(List.pairwise_cons.1 d).1 b c;rw[e,j4.refl]at this;omega
  exact t0p i (λb c=>h b (mC _ c)) (List.pairwise_cons.1 d).2 f hf
def l06{g:j0}(a:X0 g):∀ f∈B9 g.2.2,okF g f:=by grind[b03,t0p]
def L02:Nat->j0->j0×List (Int×Int)
 |0,g=>(g,[])
 |n+1,g=>match B9 g.2.2 with
  | []=>(g,[])
  |f::_=>((L02 n (B03 g f)).1,f::(L02 n (B03 g f)).2)
def P9(g:j0):j0×List (Int×Int):=bif X0 g then L02 40 g else(g,[])
theorem H0h:∀(n:Nat) {g:j0},X0 g->X0 (L02 n g).1
 |0,g,h=>h
 |n+1,g,h=>by
  unfold L02;cases e:B9 g.2.2 with
  |nil=>exact h
  |cons f l=>exact H0h n (l07 h (l06 h f oG))
theorem m0e:∀(n:Nat) {g:j0},X0 g->g.2.1<=(n:Int)+1->B9 (L02 n g).1.2.2 = []
 |0,g,h,a=>by
  cases e:B9 g.2.2 with
  |nil=>exact e
  |cons f l =>have:=l06 h f oG;grind[okF]
 |n+1,g,h,a=>by
  unfold L02;cases e:B9 g.2.2 with
  |nil=>exact e
  |cons f l=>exact m0e n (l07 h (l06 h f oG)) (by show g.2.1-1<=_;omega)
def i0u(a b:O0):l09 a b = []↔Q07 a b=false:=by unfold l09 Q07;cases decide (a.2.1=b.2.1)<;>cases decide (a.1=b.1)<;>cases decide (a.2.2=b.2.2)<;>simp
def Z0l(a:O0):∀ l,j04 a l = []↔∀ b∈l,Q07 a b=false
 | []=>by simp[j04]
 |b::r=>by rw[j04,List.append_eq_nil_iff,i0u,Z0l a r];simp
def R0g:∀ l,B9 l = []↔l.Pairwise λa b=>Q07 a b=false
 | []=>by simp[B9]
 |a::r=>by rw[B9,List.append_eq_nil_iff,Z0l,R0g r,List.pairwise_cons]
theorem Q0a(g:j0):K0 g↔X0 g/\B9 g.2.2 = []:=by unfold K0;rw[(aE),N0g,R0g]
def t04{g:j0}(h:X0 g):K0 (P9 g).1:=by have a:=(Y2 h).2.2.1;grind[P9,Q0a,H0h,m0e]
def a0m(l:List O0)(a c e:Int)(q:l.length<=1000):∀(d k fuel:Nat) (acc:List F6),k+d=l.length->d<fuel->acc.length+2*d<=4000000 -> J6 l c a e fuel (k:Int) acc=some (acc++j04 (a,c,e) (l.drop k))
 |d,k,0,acc,j,hf,i=>oM
 |0,k,fuel+1,acc,j,hf,i=>by simp_all[J6.eq_2,iE,D1,j04]
 |d+1,k,fuel+1,acc,j,hf,i=>by
  have m:k<l.length:=oM;have g:=V3 m;generalize l[k]=b at g;obtain⟨n,o,p⟩:=b;have s:∀ f:List F6,f.length+2*d<=4000000->J6 l c a e fuel ((k+1:Nat):Int) f=some (f++j04 (a,c,e) (l.drop (k+1))):=λf h=>a0m l a c e q d (k+1) fuel f oM oM h;rw[J6.eq_2,iP (by simp;omega),U1 g,oB,Z1 m oM,I1 g];simp only[j04,l09];cases decide (c=o);·grind
  cases decide (a=n)<;>cases decide (e=p);all_goals simp only[bT,fT,if_false,if_true,cT,zF,nA,List.append_nil]
  all_goals grind[C0]
def b0m(l:List O0)(j:l.length<=1000):∀(d k fuel:Nat) (acc:List F6),k+d=l.length->d<fuel->acc.length+2000*d<=3000000 -> k01 l fuel (k:Int) acc=some (acc++B9 (l.drop k))
 |d,k,0,acc,h,hf,g=>oM
 |0,k,fuel+1,acc,h,hf,g=>by simp_all[k01.eq_2,iE,D1,B9]
 |d+1,k,fuel+1,acc,h,hf,g=>by have i:k<l.length:=oM;have a:=V3 i;generalize l[k]=b at a;obtain⟨c,e,f⟩:=b;have h0:=a0m (l.drop (k+1)) c e f (by simp;omega) (l.length-(k+1)) 0 P0 acc oS (j1 oM) oM;have m:=Q0g (c,e,f) (l.drop (k+1));simp only[List.length_drop]at m;rw[k01.eq_2,iP (by simp;omega),U1 a,oB];simp only[Z1 i (show l.length<=9223372036854775807 by omega)];rw[E05 oM,oB,show(0:Int)=((0:Nat):Int) from rfl,h0,oB,b0m l j d (k+1) fuel _ oM oM oG,I1 a,B9];simp
def c0m(l:List O0)(t:l.length<=1000)(i:Nat)(a c e:Int)(n:l[i]?=some (a,c,e)):∀(d k fuel:Nat) (acc:List F6),k+d=l.length->d<fuel->acc.length+2*d<=4000000 -> D5 l (i:Int) fuel (k:Int) acc=some (acc++j04 (a,c,e) (l.drop k))
 |d,k,0,acc,m,hf,j=>oM
 |0,k,fuel+1,acc,m,hf,j=>by simp_all[D5.eq_2,iE,D1,j04]
 |d+1,k,fuel+1,acc,m,hf,j=>by
  have o:k<l.length:=oM;have g:=V3 o;generalize l[k]=b at g;obtain⟨p,q,s⟩:=b;have u:∀ f:List F6,f.length+2*d<=4000000->D5 l (i:Int) fuel ((k+1:Nat):Int) f=some (f++j04 (a,c,e) (l.drop (k+1))):=λf h=>c0m l t i a c e n d (k+1) fuel f oM oM h;rw[D5.eq_2,iP (by simp;omega),U1 n,oB];simp only[];rw[U1 g,oB,Z1 o oM,I1 g];simp only[j04,l09];cases decide (c=q);·grind
  cases decide (a=p)<;>cases decide (e=s);all_goals simp only[bT,fT,if_false,if_true,cT,zF,nA,List.append_nil]
  ·exact u acc oM
  all_goals grind[C0]
def d0m(l:List O0)(j:l.length<=1000):∀(d k fuel:Nat) (acc:List F6),k+d=l.length->d<fuel->acc.length+2000*d<=3000000 -> Q9 l fuel (k:Int) acc=some (acc++B9 (l.drop k))
 |d,k,0,acc,h,hf,g=>oM
 |0,k,fuel+1,acc,h,hf,g=>by simp_all[Q9.eq_2,iE,D1,B9]
 |d+1,k,fuel+1,acc,h,hf,g=>by have i:k<l.length:=oM;have a:=V3 i;generalize l[k]=b at a;obtain⟨c,e,f⟩:=b;have h0:=c0m l j k c e f a (l.length-(k+1)) (k+1) P0 acc oM (j1 oM) oM;have m:=Q0g (c,e,f) (l.drop (k+1));simp only[List.length_drop]at m;rw[Q9.eq_2,iP (by simp;omega),Z1 i oM,h0,oB,d0m l j d (k+1) fuel _ oM oM oG,I1 a,B9];simp
def u0p(g:j0)(a:g.2.2.length<=1000):m06 g=some (B9 g.2.2):=by obtain⟨r,n,es⟩:=g;unfold m06;simp only;rw[show(0:Int)=((0:Nat):Int) from rfl,b0m es a es.length 0 P0 [] oM (j1 (by simp only at a;omega)) oG];rfl
def v0p(g:j0)(a:g.2.2.length<=1000):u04 g=some (B9 g.2.2):=by obtain⟨r,n,es⟩:=g;unfold u04;simp only;rw[show(0:Int)=((0:Nat):Int) from rfl,d0m es a es.length 0 P0 [] oM (j1 (by simp only at a;omega)) oG];rfl
def S05(g:j0):F6×Bool:=bif X0 g then(match B9 g.2.2 with
 | []=>((0,0),false)
 |f::_=>(f,true))else((0,0),false)
def V0h(g:j0)(c:g.2.2.length<=140737488355328):S01 g=some (S05 g):=by
 have b:=Z00 g c;have a:=u0p g;unfold S05;cases hg:X0 g;·grind[S01]
 have a:=a (by have:=(Y2 hg).2.2.2;omega);obtain⟨r,n,es⟩:=g;unfold S01;simp only[b,hg,a,oB,cT];simp only at a;cases B9 es with
 |nil=>rfl
 |cons f l =>rw[iE oS,iE (by simp;omega),j0e rfl];rfl
def W0h(g:j0)(c:g.2.2.length<=140737488355328):R01 g=some (S05 g):=by
 have b:=r9 g c;have a:=v0p g;unfold S05;cases hg:X0 g;·grind[R01]
 have a:=a (by have:=(Y2 hg).2.2.2;omega);obtain⟨r,n,es⟩:=g;unfold R01;simp only[b,hg,a,oB,cT];simp only at a;cases B9 es with
 |nil=>rfl
 |cons f l =>rw[iE oS,iE (by simp;omega),j0e rfl];rfl
def S0s(v:Int)(f:F6)(d:0<=v/\v<1000)(hf:0<=f.1/\f.1<f.2):O04 v f=some (mvV f v):=by
 obtain⟨a,b⟩:=f;simp only at hf;unfold O04 mvV;simp only;by_cases c:v=b;·rw[iP (by simp[c]),iE (by simp;omega),iP c]
 rw[iE (by simp[c]),iE c];by_cases c2:v>b;·rw[iP (by simp[c2]),iP c2,w64 oM oM]
 grind
def w0p(v:Int)(f:F6)(d:0<=v/\v<1000):E8 v f=some (mvV f v):=by
 obtain⟨a,b⟩:=f;unfold E8 mvV;simp only;by_cases c:v=b;·rw[iP (by simp[c]),iP c]
 rw[iE (by simp[c]),iE c];by_cases c2:v>b;·rw[iP (by simp[c2]),iP c2,w64 oM oM]
 grind
def D0n{f:F6}{v:Int}(a:0<=v/\v<1000)(hf:0<=f.1/\f.1<1000):H0 (mvV f v):=by
 unfold mvV;split;·exact⟨oM,oM⟩
 split;·exact⟨oM,oM⟩
 exact⟨oM,oM⟩
def x0p(es:List O0)(f:F6)(r n:Int)(s:es.length<=1000)(o:∀ e∈es,(0<=e.1/\e.1<1000)/\(0<=e.2.2/\e.2.2<1000))(hf:0<=f.1/\f.1<f.2)(q:f.2<1000):∀(d k fuel:Nat) (acc:List O0),k+d=es.length->d<fuel->acc.length<=k -> J5 es f.1 f.2 fuel (k:Int) r n acc=some (r,n,L4 V0 acc ((es.drop k).map (mvE f)))
 |d,k,0,acc,l,m,j=>oM
 |0,k,fuel+1,acc,l,m,j=>by rw[J5.eq_2,iE (by simp;omega),D1 oM];rfl
 |d+1,k,fuel+1,acc,l,m,j=>by
  have c:k<es.length:=oM;have g:=V3 c;have a:=o _ (List.getElem_mem c);generalize es[k]=b at g a;obtain⟨h,p,i⟩:=b;simp only at a;have t:=Y09 (mvE f (h,p,i)) acc;rw[J5.eq_2,iP (by simp;omega),U1 g,oB];simp only[];rw[S0s h (f.1,f.2) a.1 hf,oB,C0 (D0n a.1 ⟨hf.1,by show f.1<1000;omega⟩),oB,S0s i (f.1,f.2) a.2 hf,oB,C0 (D0n a.2 ⟨hf.1,by show f.1<1000;omega⟩),oB,
   R07 acc _ oM,oB,Z1 c oM,I1 g,List.map_cons]
  exact x0p es f r n s o hf q d (k+1) fuel _ oM oM (Nat.le_trans t oM)
def y0p{g:j0}{f:F6}(d:X0 g)(hf:okF g f):R9 g f=some (B03 g f,true):=by obtain⟨k,o,l,m⟩:=Y2 d;have i:=r9 g oM;obtain⟨c,f2,f3⟩:=hf;obtain⟨r,n,es⟩:=g;obtain⟨a,b⟩:=f;simp only at c f2 f3 l m;have h:=x0p es (a,b) r (i64.wrap (n-1)) oM (λe j=>by have:=k e j;grind) ⟨c,f2⟩ (by simp only;omega) es.length 0 P0 [] oM (j1 oM) (Nat.le_refl _);unfold R9;simp only[i,d,oB];rw[iE (by simp;omega),show(0:Int)=((0:Nat):Int) from rfl,h,w64 oM oM];rfl
def z0p(es:List O0)(f:F6)(q:es.length<=1000)(l:∀ e∈es,(0<=e.1/\e.1<1000)/\(0<=e.2.2/\e.2.2<1000))(hf:0<=f.1/\f.1<1000):∀(d k fuel:Nat),k+d=es.length->d<fuel -> K5 es f.1 f.2 fuel (k:Int) ((es.take k).map (mvE f)++es.drop k)=some (es.map (mvE f))
 |d,k,0,i,j=>oM
 |0,k,fuel+1,i,j=>by rw[K5.eq_2,iE (by simp;omega),D1 oM,List.append_nil,List.take_of_length_le oM]
 |d+1,k,fuel+1,i,j=>by
  have c:k<es.length:=oM;have m:=V3 c;have a:=l _ (List.getElem_mem c);generalize es[k]=b at m a;have t:((es.take k).map (mvE f)).length=k:=by simp;omega
  have p:((es.take k).map (mvE f)++es.drop k)[k]?=some b:=by grind
  have s:∀ y,((es.take k).map (mvE f)++es.drop k).set k y=(es.take k).map (mvE f)++y::es.drop (k+1):=λy=>by simp_all[List.set_append_right,I1]
  obtain⟨g,o,h⟩:=b;simp only at a;have e:(es.take (k+1)).map (mvE f)++es.drop (k+1)=(es.take k).map (mvE f)++mvE f (g,o,h)::es.drop (k+1):=by rw[Q0l m];simp
  have n:=z0p es f q l hf d (k+1) fuel oM oM;rw[e]at n;rw[K5.eq_2,iP (by simp;omega),U1 p,oB];simp only[];rw[w0p g (f.1,f.2) a.1,oB,C0 (D0n a.1 hf),oB,w0p h (f.1,f.2) a.2,oB,C0 (D0n a.2 hf),oB];simp only[oB];rw[show((k:Nat):Int).toNat=k from iN k,s,Z1 c oM];exact n
def A0p{g:j0}{f:F6}(d:X0 g)(hf:okF g f):S9 g f=some (B03 g f,true):=by obtain⟨l,p,m,o⟩:=Y2 d;have i:=Z00 g oM;have j:=N00 g oM;obtain⟨c,f2,f3⟩:=hf;obtain⟨r,n,es⟩:=g;obtain⟨a,b⟩:=f;simp only at c f2 f3 m o;have h:=z0p es (a,b) oM (λe k=>by have:=l e k;grind) ⟨c,by simp only;omega⟩ es.length 0 P0 oM (j1 oM);simp only[List.take_zero,List.map_nil,nA,dZ]at h;unfold S9;simp only[i,j,d,oB];rw[iE (by simp;omega),show(0:Int)=((0:Nat):Int) from rfl,h,oB,W0b _ (by simp;omega),oB,w64 oM oM];rfl
def x04(g:j0):j0×F6×Bool:=bif X0 g then(match B9 g.2.2 with
 | []=>(g,(0,0),false)
 |f::_=>(B03 g f,f,true))else(g,(0,0),false)
def a0c(g:j0)(d:g.2.2.length<=1099511627776):P03 g=some (x04 g):=by have c:=W0h g oM;have e:=s04 g d;have h:∀ f,X0 g->okF g f->R9 g f=some (B03 g f,true):=λf a b=>y0p a b;have i:X0 g->∀ f∈B9 g.2.2,okF g f:=l06;unfold S05 at c;unfold x04;obtain⟨r,n,es⟩:=g;unfold P03;grind
def b0c(g:j0)(d:g.2.2.length<=1099511627776):S03 g=some (x04 g):=by have c:=V0h g oM;have e:=N00 g d;have h:∀ f,X0 g->okF g f->S9 g f=some (B03 g f,true):=λf a b=>A0p a b;have i:X0 g->∀ f∈B9 g.2.2,okF g f:=l06;unfold S05 at c;unfold x04;obtain⟨r,n,es⟩:=g;unfold S03;grind
def o0z:(j0×J01) ⊕ (Int×Int×T0×(List F6))->Option (j0×J01):=λX=>w9 X (λS=>match S with
 |(a,b,c,e)=>some ((a,b,c),e))
def O0j:∀(d k fuel:Nat) (g:j0) (acc:List F6),k+d=40->d<fuel->X0 g->acc.length=k -> (D8 fuel (k:Int) g.1 g.2.1 g.2.2 acc).bind o0z=some ((L02 d g).1,acc++(L02 d g).2)
 |d,k,0,g,acc,h,hf,a,c=>oM
 |0,k,fuel+1,g,acc,h,hf,a,c=>by simp_all[D8.eq_2,iE,o0z,w9,L02]
 |d+1,k,fuel+1,g,acc,h,hf,a,c=>by
  have b:=a0c g (by have:=(Y2 a).2.2.2;omega);have i:=l06 a;unfold x04 at b;rw[a]at b;simp only[cT]at b;rw[D8.eq_2,iP (by simp;omega),show(g.1,g.2.1,g.2.2)=g from rfl,b];unfold L02;cases e:B9 g.2.2 with
  |nil=>simp[o0z,w9]
  |cons f l =>have j:=O0j d (k+1) fuel (B03 g f) (acc ++ [f]) oM oM (l07 a (i f oG)) (by simp[c]);simp only[oB,bT,fT,if_false];rw[C0 (by simp;omega),oB,Z1 (show k<1000 by omega) oM];grind
def a0l(g:j0)(b:g.2.2.length<=1099511627776):v04 g=some (P9 g):=by
 have a:=a0c g b;have c:=s04 g b;have d:=O0j 40 0 P0 g [] rfl (j1 oM);unfold P9;obtain⟨r,n,es⟩:=g;unfold v04;simp only[c,oB];cases hg:X0 (r,n,es);·unfold x04 at a;rw[hg]at a;simp only[zF]at a;rw[show P0=(P0-1)+1 from rfl,D8.eq_2,iP oS,a];rfl
 exact d hg rfl
def P0j:∀(d fuel:Nat) (g:j0) (acc:List F6),d<fuel->X0 g->B9 (L02 d g).1.2.2 = []->acc.length+d<=1000 -> T9 fuel g.1 g.2.1 g.2.2 acc=some (.inl ((L02 d g).1,acc++(L02 d g).2))
 |d,0,g,acc,hf,a,c,j=>oM
 |d,fuel+1,g,acc,hf,a,c,j=>by
  have b:=b0c g (by have:=(Y2 a).2.2.2;omega);have i:=l06 a;unfold x04 at b;rw[a]at b;simp only[cT]at b;rw[T9.eq_2,show(g.1,g.2.1,g.2.2)=g from rfl,b];cases e:B9 g.2.2 with
  |nil =>
   have h:L02 d g=(g,[]):=by
    cases d with
    |zero=>rfl
    |succ d=>unfold L02;rw[e]
   rw[h];simp
  |cons f l =>
   cases d with
   |zero=>exact absurd e (by rw[show B9 g.2.2 = [] from c];simp)
   |succ d =>
    have h:L02 (d+1) g=((L02 d (B03 g f)).1,f::(L02 d (B03 g f)).2):=by show(match B9 g.2.2 with | []=>(g,[])|f::_=>((L02 d (B03 g f)).1,f::(L02 d (B03 g f)).2))=_;rw[e]
    rw[h]at c ⊢;have k:=P0j d fuel (B03 g f) (acc ++ [f]) oM (l07 a (i f oG)) c (by simp;omega);simp only[oB,bT,fT,if_false];rw[C0 (by simp;omega),oB];grind
def b0l(g:j0)(c:g.2.2.length<=1099511627776):w04 g=some (P9 g):=by
 have b:=b0c g c;have d:=N00 g c;have e:=P0j 40 P0 g [] (j1 oM);have f:X0 g->B9 (L02 40 g).1.2.2 = []:=λa=>m0e 40 a (by have:=(Y2 a).2.2.1;omega);unfold P9;obtain⟨r,n,es⟩:=g;unfold w04;simp only[d,oB];cases a:X0 (r,n,es);·unfold x04 at b;rw[a]at b;simp only[zF]at b;rw[show P0=(P0-1)+1 from rfl,T9.eq_2,b];rfl
 have h:=e a (f a) oS;simp only at h;rw[h];rfl
def T05{g:j0}(h:X0 g):Asc V0 g.2.2:=((b03 g).1 h).2.2.2.2
def stp(u x v:Int):O0:=if x<0 then(v,-x,u)else(u,x,v)
def g03(v:Int):List Int->Int->Int->List O0
 | [],_,_=>[]
 | [x],u,_=>[stp u x v]
 |x::y::r,u,n=>stp u x n::g03 v (y::r) n (n+1)
theorem Z09(v:Int):∀(w:List Int) (u n:Int),(g03 v w u n).length=w.length
 | [],_,_=>rfl
 | [x],_,_=>rfl
 |x::y::r,u,n=>by simp only[g03,lC,Z09 v (y::r)]
def E0n(u x v:Int)(a:I3 x):u03 u x v=some (stp u x v):=by
 unfold u03 stp;by_cases c:x<0;·rw[iP (by simp[c]),iP c,b0b a.1 a.2]
 grind
def F0n(w:List Int)(v:Int)(r:Int)(e:∀ x∈w,I3 x)(j:w.length<=1000):∀(d k fuel:Nat) (u n:Int) (es:List O0),k+d=w.length->d<fuel->0<=n->n<=1000+k->es.length<=1000+k -> F8 w v fuel u (k:Int) r n es=some (r,n+((d-1:Nat):Int),es++g03 v (w.drop k) u n)
 |d,k,0,u,n,es,i,hf,h0,g,h=>oM
 |0,k,fuel+1,u,n,es,i,hf,h0,g,h=>by simp_all[F8.eq_2,iE,D1,g03]
 |d+1,k,fuel+1,u,n,es,i,hf,h0,g,h=>by
  have a:k<w.length:=oM;have f:=V3 a;have b:=e _ (List.getElem_mem a);generalize w[k]=x at f b;rw[F8.eq_2,iP (by simp;omega),U1 f,oB,K0d oM oM,I1 f];by_cases c:k+1<w.length;·rw[iP (by simp;omega),E0n u x n b,oB];have l:=V3 c;generalize w[k+1]=y at l;have m:=F0n w v r e j d (k+1) fuel n (n+1) (es ++ [stp u x n]) oM oM oM oM (by simp;omega);simp only[oB];rw[C0 (by simp;omega),oB,Z1 a oM,w64 (show(-9223372036854775808:Int)<=n+1 by omega) oM];refine m.trans ?_;rw[I1 l];grind[g03,List.append_assoc,List.singleton_append]
  have o:d=0:=oM;subst o;rw[iE (by simp;omega),E0n u x v b,oB];have m:=F0n w v r e j 0 (k+1) fuel v n (es ++ [stp u x v]) oM oM h0 oM (by simp;omega);grind[C0,Z1,D1,g03]
def G0n(w:List Int)(v:Int)(r:Int)(h:∀ x∈w,I3 x/\x≠0)(o:w.length<=1000):∀(d k fuel:Nat) (u n:Int) (es:List O0),k+d=w.length->d<fuel->0<=n->n<=1000+k->es.length<=1000+k -> I6 w v fuel u (k:Int) r n es=some (r,n+((d-1:Nat):Int),L4 V0 es (g03 v (w.drop k) u n))
 |d,k,0,u,n,es,m,hf,h0,j,l=>oM
 |0,k,fuel+1,u,n,es,m,hf,h0,j,l=>by simp_all[I6.eq_2,iE,D1,g03,L4]
 |d+1,k,fuel+1,u,n,es,m,hf,h0,j,l=>by
  have f:k<w.length:=oM;have g:=V3 f;have a:=h _ (List.getElem_mem f);generalize w[k]=x at g a;have p:∀ e,(a02 V0 e es).length<=1000+(k+1):=λe=>by grind[Y09]
  rw[I6.eq_2,iP (by simp;omega),I1 g];by_cases c:k+1<w.length
  ·have i:=V3 c;generalize w[k+1]=y at i;have b:=G0n w v r h o d (k+1) fuel n (n+1) (a02 V0 (stp u x n) es) oM oM oM oM (p _);rw[I1 i]at b;rw[Z1 f oM,iP (by simp;omega),U1 g,oB,w64 (show(-9223372036854775808:Int)<=n+1 by omega) oM,I1 i];have fin:some (r,n+1+((d-1:Nat):Int),L4 V0 (a02 V0 (stp u x n) es) (g03 v (y::w.drop (k+1+1)) n (n+1)))=some (r,n+((d+1-1:Nat):Int),L4 V0 es (g03 v (x::y::w.drop (k+1+1)) u n)):=by grind[g03,L4]
   by_cases c2:x>0
   ·have e:stp u x n=(u,x,n):=by unfold stp;rw[iE oM]
    rw[iP (by simp[c2])];grind[R07]
   have e:stp u x n=(n,-x,u):=by unfold stp;rw[iP oM]
   rw[iE (by simp;omega)];simp only[oB];rw[b0b a.1.1 a.1.2,R07 es _ oM,oB,←e];exact b.trans fin
  have q:d=0:=oM;subst q;have b:=G0n w v r h o 0 (k+1) fuel v n (a02 V0 (stp u x v) es) oM oM h0 oM (p _);rw[D1 (show k+1=w.length by omega)]at b ⊢;rw[Z1 f oM,iE (by simp;omega),U1 g,oB];have fin:some (r,n+((0-1:Nat):Int),L4 V0 (a02 V0 (stp u x v) es) (g03 v [] v n))=some (r,n+((0+1-1:Nat):Int),L4 V0 es (g03 v [x] u n)):=by simp[g03,L4]
  by_cases c2:x>0
  ·have e:stp u x v=(u,x,v):=by unfold stp;rw[iE oM]
   rw[iP (by simp[c2])];grind[R07]
  have e:stp u x v=(v,-x,u):=by unfold stp;rw[iP oM]
  rw[iE (by simp;omega)];simp only[oB];rw[b0b a.1.1 a.1.2,R07 es _ oM,oB,←e];exact b.trans fin
def Q0j{es p:List O0}(a:Asc V0 es):L4 V0 [] (es++p)=L4 V0 es p :=
 M0a j4 (I02 j4 _ _ .nil) (I02 j4 _ _ a) λx=>by
  grind[C5,j4]
def V1(g:j0)(u:Int)(w:List Int)(v:Int):j0×Bool :=
 bif !w.isEmpty&&decide (g.2.1+(w.length:Int)-1<=40)&&decide (g.2.2.length+w.length<=120)then((g.1,g.2.1+((w.length-1:Nat):Int),L4 V0 g.2.2 (g03 v w u g.2.1)),true)else(g,false)
theorem V7{r:Int}{w:List Int}(h:J1 r w):w.length<=24/\∀ x∈w,I3 x/\x≠0 /\ -r<=x/\x<=r:=by have a:=h;simp only[J1,aE,dE]at a;refine⟨a.1.2,λx c=>?_⟩;obtain⟨i,b⟩:=List.getElem?_of_mem c;have:=B0h h b;exact⟨⟨⟨oM,oM⟩,oM⟩,this.2.2⟩
def M0d{g:j0}{u v:Int}{w:List Int}(d:X0 g)(f:0<=u/\u<g.2.1)(i:0<=v/\v<g.2.1)(j:J1 g.1 w):c03 g u w v=some (V1 g u w v):=by
 obtain⟨t,y,p,q⟩:=Y2 d;obtain⟨wl,k⟩:=V7 j;have l:=r9 g oM;have m:=s04 g oM;have b:=y03 g.1 w oM;obtain⟨r,n,es⟩:=g;simp only at p q f i b;have o:i64.wrap (n-1)=n-1:=w64 oM oM;have e:∀ x:Int,0<=x/\x<n->inR 0 (n-1) x:=λx a=>by simp[inR];omega
 have h:=G0n w v r (λx a=>⟨(k x a).1,(k x a).2.1⟩) oM w.length 0 P0 u n es oM (j1 oM) oM oM oM;unfold c03 V1;simp only[l,m,d,oB,bT,bF,H1,zF,o,A05,e u f,e v i,b,j];rw[w64 (show(-9223372036854775808:Int)<=n+((w.length:Nat):Int) by omega) oM,w64 (show(-9223372036854775808:Int)<=n+((w.length:Nat):Int)-1 by omega) oM,w64 (show(-9223372036854775808:Int)<=((es.length:Nat):Int)+((w.length:Nat):Int) by omega) oM];by_cases c:(w≠[]/\n+(w.length:Int)-1<=40)/\es.length+w.length<=120
 ·have s:w.length≠0:=by simpa using c.1.1
  grind
 grind
def v0y{g:j0}(a:X0 g){u:Int}(b:0<=u/\u<g.2.1):B8 g u=some true:=by obtain⟨c,d,e,f⟩:=Y2 a;grind[B8,d02,w64,inR]
def N0d{g:j0}{u v:Int}{w:List Int}(a:X0 g)(e:0<=u/\u<g.2.1)(f:0<=v/\v<g.2.1)(i:J1 g.1 w):e03 g u w v=some (V1 g u w v):=by
 obtain⟨y,z,p,q⟩:=Y2 a;obtain⟨wl,s⟩:=V7 i;have j:=Z00 g oM;have k:=N00 g oM;have b:=U00 g.1 w oM;have l:=v0y a e;have m:=v0y a f;have d:=T05 a;obtain⟨r,n,es⟩:=g;simp only at p q e f b d;have h:=F0n w v r (λx o=>(s x o).1) oM w.length 0 P0 u n es oM (j1 oM) oM oM oM;have t:=Z09 v w u n;unfold e03 V1;simp only[j,k,a,oB,bT,bF,H1,zF,l,m];rw[w64 (show(-9223372036854775808:Int)<=n+((w.length:Nat):Int) by omega) oM,w64 (show(-9223372036854775808:Int)<=n+((w.length:Nat):Int)-1 by omega) oM,w64 (show(-9223372036854775808:Int)<=((es.length:Nat):Int)+((w.length:Nat):Int) by omega) oM];by_cases d1:w = [];·subst d1;simp[chk]
 rw[show decide (((w.length:Nat):Int)=0)=false by simp[d1],show(!false)=true from rfl,H1,b,oB,i];by_cases c:n+(w.length:Int)-1<=40/\es.length+w.length<=120;·rw[iE oG,show(0:Int)=((0:Nat):Int) from rfl,h,oB];rw[show(!w.isEmpty&&decide (n+(w.length:Int)-1<=40)&&decide (es.length+w.length<=120))=true by simp[d1,c.1,c.2]];simp only[dZ,cT];rw[W0b _ (by simp;omega),Q0j d];rfl
 grind
set_option maxRecDepth 10000
def S0j(w:List Int):Prop:=∀ x∈w,H0 x
def X0z:BA:=⟨#[110,111,110,101]⟩
def V0c(ks:List Int):BA:=Q0c 32 X0z (ks.map fI)
def S0g:List Int->List UInt8
 | []=>[110,111,110,101]
 |k::r=>K03 32 ((k::r).map fI)
def m07(ks:List Int):V0c ks=B (S0g ks):=by cases ks<;>rfl
theorem t0r:∀ ks:List Int,bsz (ks.map fI)<=22*ks.length
 | []=>by simp[bsz]
 |k::r=>by
  have:=t0r r
  grind[Q00,bsz,List.length_cons]
theorem T0j:∀ xs:List (List UInt8),(T00 32 xs).length=bsz xs
 | []=>rfl
 |x::r=>by
  have:=T0j r
  grind[T00,bsz,List.length_cons,List.length_append]
theorem K08(ks:List Int):(S0g ks).length<=4+22*ks.length:=by
 cases ks with
 |nil=>simp[S0g]
 |cons k r =>
  have a:=T0j (r.map fI)
  have b:=t0r r
  have c:=Q00 k
  grind[S0g,K03,List.length_append,List.length_cons]
def F0x(ks:List Int):(S0g ks).isEmpty=false:=by
 cases ks with
 |nil=>rfl
 |cons k r =>have:=w0y k;simp_all[S0g,List.map_cons,K03,fI]
def U05(ks:List Int)(b:S0j ks)(h:ks.length<=1073741824):∀(d k fuel:Nat) (acc:List UInt8),k+d=ks.length->d<fuel->0<k->acc.length<=22*k -> O3 ks fuel (B acc) (k:Int)=some (B (acc++T00 32 ((ks.drop k).map fI)))
 |d,k,0,acc,e,hf,h0,c=>oM
 |0,k,fuel+1,acc,e,hf,h0,c=>by simp_all[O3.eq_2,iE,D1,T00]
 |d+1,k,fuel+1,acc,e,hf,h0,c=>by
  have f:k<ks.length:=oM;have a:=V3 f;have g:=b _ (mG a);generalize ks[k]=x at a g;have i:=Q00 x;have next:=U05 ks b h d (k+1) fuel (acc ++ [32]++fI x) oM oM oM oG;rw[I1 a,O3.eq_2,iP (by simp;omega),iP (by simp;omega)];simp only[w8 x g,n06,show(⟨#[32]⟩:BA)=B [32] from rfl,F08,oB,C4,U1 a];rw[C0 oG,oB,C0 oM,oB,C0 oG,oB,
   Z1 f (by omega:ks.length<=9223372036854775807),next]
  simp[T00]
theorem E07(ks:List Int)(a:S0j ks)(b:ks.length<=1073741824):U9 ks=some (V0c ks):=by
 unfold U9
 cases ks with
 |nil=>rw[show P0=(P0-1)+1 from rfl,O3.eq_2,if_neg (by simp),oB,if_pos (Z07.2 rfl)];rfl
 |cons x r =>
  have c:=a x mS
  have d:=Q00 x
  have next:=U05 (x::r) a b r.length 1 (P0-1) (fI x) (by grind) (by grind[List.length_cons,P0]) (by omega) (by omega)
  rw[show P0=(P0-1)+1 from rfl,O3.eq_2,if_pos (by simp),if_neg (by simp),j0e (x:=x) rfl]
  simp only[w8 x c,n06,show(⟨#[]⟩:ByteArray)=B [] from rfl,F08,oB,C4,List.nil_append]
  rw[C0 (by omega),oB,C0 (by grind),oB,show IntKind.i64.wrap (0+1)=((1:Nat):Int) by decide,next,oB,show(B []:ByteArray)=⟨#[]⟩ from rfl,e01]
  have:=F0x (x::r)
  simp only[S0g,List.map_cons,K03]at this
  simp only[List.drop_succ_cons,List.drop_zero]
  rw[this]
  rfl
def V05(ks:List Int)(b:S0j ks)(h:ks.length<=1073741824):∀(d k fuel:Nat) (acc:List BA),k+d=ks.length->d<fuel->acc.length=k -> L5 ks fuel (k:Int) acc=some (acc++(ks.drop k).map λx=>B (fI x))
 |d,k,0,acc,e,hf,c=>oM
 |0,k,fuel+1,acc,e,hf,c=>by simp_all[L5.eq_2,iE,D1]
 |d+1,k,fuel+1,acc,e,hf,c=>by
  have f:k<ks.length:=oM;have a:=V3 f;have g:=b _ (mG a);generalize ks[k]=x at a g;have i:=Q00 x;have next:=V05 ks b h d (k+1) fuel (acc ++ [B (fI x)]) oM oM oG;rw[I1 a,L5.eq_2,iP (by simp;omega),U1 a,oB,A9 x g,oB,n06,
   C0 (by rw[C4];omega),oB,C0 oG,oB,Z1 f (by omega:ks.length<=9223372036854775807),next]
  simp
def F07(ks:List Int)(a:S0j ks)(b:ks.length<=1073741824):V9 ks=some (V0c ks):=by
 unfold V9;have h:=V05 ks a b ks.length 0 P0 [] oM (j1 oM) rfl;have c:=t0r ks;rw[show((0:Nat):Int)=0 from rfl,(dZ),(nA)]at h;rw[h,oB,show(ks.map λw=>B (fI w))=(ks.map fI).map B by simp,show(⟨#[32]⟩:BA)=B [32] from rfl,y0i 32 _ _ oM,oB,
  show Q0c 32 ⟨#[110,111,110,101]⟩ (ks.map fI)=V0c ks from rfl,m07,C0 (by grind[K08,C4])]
 rfl
def cwL(k:Int):List UInt8:=if k=1 then [105,110]else if k=2 then [111,117,116]else if k=3 then [115,97,109,101]else if k=4 then [99,111,110,106,117,103,97,116,101]else if k=5 then [102,114,101,101]else if k=6 then [105,110,100,101,120]else []
def e0b(k:Int):h03 k=some (B (cwL k)):=by
 unfold h03;rw[A05,oB];cases h:inR 1 6 k
 ·have : ¬ (1<=k/\k<=6):=by grind[inR]
  have e:cwL k = []:=by unfold cwL;rw[iE oM,iE oM,iE oM,iE oM,iE oM,iE oM]
  rw[e];rfl
 simp only[inR,aE,dE]at h;have:k=1∨k=2∨k=3∨k=4∨k=5∨k=6:=oM;rcases this with rfl|rfl|rfl|rfl|rfl|rfl<;>rfl
def X0h(k:Int):E5 k=some (B (cwL k)):=e0b k
def H0n(k:Int):(cwL k).length<=9:=by
 unfold cwL;repeat' split
 all_goals simp
theorem U0j:∀ es:List O0,(J08 es).length<=44*es.length
 | []=>by simp[J08]
 |e::r=>by
  have:=U0j r
  grind[Q00,J08,List.length_append,List.length_cons,List.length_nil]
theorem O06{g:j0}(h:X0 g=true):(C09 g).length<=6000:=by
 simp only[X0,Bool.and_eq_true,decide_eq_true_eq]at h
 grind[U0j,Q00,C09,List.length_append,List.length_singleton]
def j0u(g:j0):(C09 g).isEmpty=false:=by simp_all[w0y,C09,fI]
def H0f(c:j6):Bool := !(cwL c.1).isEmpty&&j2 c.2.1 c.2.2.1&&J1 c.2.1 c.2.2.2.1&&X0 c.2.2.2.2.2.1
def Y3(ws:List (List Int)):List UInt8:=match ws with
 | []=>[110,111,110,101]
 |w::r=>K03 44 ((w::r).map wl)
def u0r(c:j6):List UInt8:=K03 32 [cwL c.1,fI c.2.1,Y3 c.2.2.1,wl c.2.2.2.1,[98,121],S0g c.2.2.2.2.1,[97,110,100],C09 c.2.2.2.2.2.1,[97,110,100],fI c.2.2.2.2.2.2]
def S07(c:j6):BA:=bif H0f c then B (u0r c)else B []
structure B0p (c:j6):Prop where
 ws:c.2.2.1.length<=140737488355328/\K7 c.2.2.1
 w:c.2.2.2.1.length<=140737488355328
 ks:S0j c.2.2.2.2.1/\c.2.2.2.2.1.length<=1073741824
 g:c.2.2.2.2.2.1.2.2.length<=140737488355328
 r:H0 c.2.1
 n:H0 c.2.2.2.2.2.2
theorem y04{r:Int}{w:List Int}(h:J1 r w):i00 w:=by
 have:∀ v:List Int,(∀ x∈v,N05 x)->i00 v:=by
  intro v;induction v with
  |nil=>intro _;rfl
  |cons x t g =>simp_all[i00,aE,List.mem_cons_self,mC]
 refine this w λx b=>?_;obtain⟨i,a⟩:=List.getElem?_of_mem b;obtain⟨c,_,d,e,f⟩:=B0h h a;simp only[N05,inR,aE,Bool.not_eq_true',beq_eq_false_iff_ne,dE];omega
def O0d{r:Int}:∀ {ws:List (List Int)},g0b r ws->g04 ws
 | [],_=>rfl
 |w::l,h=>by simp only[g0b,aE]at h;simp only[g04,aE];exact⟨y04 h.1,O0d h.2⟩
def W05{r:Int}{ws:List (List Int)}(h:j2 r ws):i09 ws=B (Y3 ws)/\wsz ws<=60:=by simp only[j2,aE,dE]at h;refine⟨?_,by rw[y0s];omega⟩;unfold i09;rw[O0d h.1.2];cases ws<;>rfl
def V0j{r:Int}{w:List Int}(h:J1 r w):q04 w=B (wl w)/\w.length<=24:=by have a:=h;simp only[J1,aE,dE]at a;grind[q04,y04]
theorem R0a{ws:List (List Int)}(h:wsz ws<=60):(Y3 ws).length<=64:=by
 cases ws with
 |nil=>simp[Y3]
 |cons w r =>
  have a:=L0g r
  have b:=x07 w
  grind[wsz,Y3,K03,List.length_append]
def sq(a b:List UInt8):M7 (B a) (B b)=decide (a=b):=by rw[l0f];exact decide_eq_decide.2 ⟨λe=>congrArg (λx:BA=>x.data.toList) e,congrArg B⟩
def T07(c:UInt8):List UInt8->List UInt8->List (List UInt8)
 |p,[]=>[p]
 |p,x::r=>if x=c then p::T07 c [] r else T07 c (p ++ [x]) r
def K00{c:UInt8}:∀ {a:List UInt8} (p b:List UInt8),c ∉ a->T07 c p (a++c::b)=(p++a)::T07 c [] b
 | [],p,b,_=>by simp[T07]
 |x::a,p,b,h=>by have f:x≠c:=λe=>h (by rw[e];exact mS);show(if x=c then p::T07 c [] (a++c::b)else T07 c (p ++ [x]) (a++c::b))=_;rw[iE f,K00 (p ++ [x]) b λd=>h (mC _ d),List.append_assoc];rfl
def a0a{c:UInt8}:∀ {a:List UInt8} (p:List UInt8),c ∉ a->T07 c p a = [p++a]
 | [],p,_=>by simp[T07]
 |x::a,p,h=>by have d:x≠c:=λe=>h (by rw[e];exact mS);show(if x=c then _ else _)=_;rw[iE d,a0a (p ++ [x]) λb=>h (mC _ b),List.append_assoc];rfl
def Y0z(l:List UInt8)(i j:Nat):(B l).extract i j=B ((l.take j).drop i):=by apply ByteArray.ext;rw[ByteArray.data_extract];show l.toArray.extract i j=_;rw[List.extract_toArray];show(List.extract l i j).toArray=_;rw[List.extract_eq_take_drop,List.drop_take]
def Z0z{l:List UInt8}{k:Nat}{x:UInt8}(h:l[k]?=some x):sgi (B l) (k:Int)=some x:=by unfold sgi;rw[iP (Int.natCast_nonneg _),(iN)];have a:=(gI.1 h).1;rw[getElem?_pos (B l) k (by rw[C4];exact a)];obtain⟨_,rfl⟩:=gI.1 h;rfl
def a0A{x c:UInt8}:(((x.toNat:Nat):Int)=((c.toNat:Nat):Int))↔x=c:=by rw[Int.ofNat_inj];exact UInt8.toNat_inj
def V0v(l:List UInt8)(c:UInt8)(p:l.length<=1000000):∀(d k fuel f:Nat) (acc:List (List UInt8)),k+d=l.length->d<fuel->f<=k->acc.length<=k -> ∃(b:Nat) (a:List (List UInt8)),K01 (B l) ((c.toNat:Nat):Int) fuel (f:Int) (k:Int) (acc.map B)=some ((b:Int),List.map B a)/\b<=l.length/\a.length<=l.length/\a ++ [l.drop b]=acc++T07 c ((l.take k).drop f) (l.drop k)
 |d,k,0,f,acc,o,hf,_,_=>oM
 |0,k,fuel+1,f,acc,o,hf,q,s=>by
  refine⟨f,acc,?_,oM,oM,?_⟩;·rw[K01.eq_2,iE (by rw[C4];simp;omega)]
  rw[List.take_of_length_le oM,List.drop_eq_nil_of_le (by omega:l.length<=k)];rfl
 |d+1,k,fuel+1,f,acc,o,hf,q,s=>by
  have n:k<l.length:=oM;have g:=V3 n;generalize l[k]=x at g;have e:(l.take (k+1)).drop f=(l.take k).drop f ++ [x]:=by rw[List.take_add_one,g,List.drop_append_of_le_length (by rw[List.length_take];omega)];rfl
  rw[K01.eq_2,iP (by rw[C4];simp;omega),Z0z g,oB,I1 g];simp only[T07,dE,a0A];by_cases hc:x=c
  ·obtain⟨b,a,h,i,j,m⟩:=V0v l c p d (k+1) fuel (k+1) (acc ++ [(l.take k).drop f]) oM oM oM (by simp;omega);refine⟨b,a,?_,i,j,?_⟩;·rw[iP hc,C0 (by rw[C4];omega),oB,C0 (by simp;omega),oB,(iN),(iN),Y0z,Z1 n oM,←h,List.map_append];rfl
   rw[m,iP hc,List.append_assoc,List.drop_eq_nil_of_le (by rw[List.length_take];omega:(l.take (k+1)).length<=k+1)];rfl
  obtain⟨b,a,h,i,j,m⟩:=V0v l c p d (k+1) fuel f acc oM oM oM oM;refine⟨b,a,?_,i,j,?_⟩;·rw[iE hc,Z1 n oM,h]
  rw[m,e,iE hc]
def W0v(l:List UInt8)(c:UInt8)(f:l.length<=1000000):B05 (B l) ((c.toNat:Nat):Int)=some ((T07 c [] l).map B):=by
 obtain⟨e,a,b,g,h,d⟩:=V0v l c f l.length 0 P0 0 [] oM (j1 oM) oM oS;unfold B05;rw[show(0:Int)=((0:Nat):Int) from rfl,show([]:List BA)=List.map B [] from rfl,b,oB];simp only;rw[C0 (by rw[C4];omega),oB,C0 (by simp;omega),oB,(iN),(iN),C4,Y0z,List.take_length];have:a ++ [l.drop e]=T07 c [] l:=by rw[d];simp
 rw[←this,List.map_append];rfl
def v0r{x:Int}(a:N05 x):p05 (((chL x).toNat:Nat):Int)=some x:=by rcases O05 a with rfl|rfl|rfl|rfl|rfl|rfl<;>decide
def T0s(w:List Int)(i:i00 w)(m:w.length<=1000):∀(d k fuel:Nat),k+d=w.length->d<fuel -> a8 (B (w.map chL)) fuel (k:Int) (w.take k)=some w
 |d,k,0,e,hf=>oM
 |0,k,fuel+1,e,hf=>by rw[a8.eq_2,iE (by rw[C4];simp;omega),List.take_of_length_le oM]
 |d+1,k,fuel+1,e,hf=>by
  have f:k<w.length:=oM;have c:=V3 f;generalize w[k]=x at c;have g:N05 x:=by
   have:∀ {l:List Int},i00 l->∀ y∈l,N05 y:=by
    intro l;induction l with
    |nil=>intro _ y b;cases b
    |cons a r n =>
     intro h y b;simp only[i00,aE]at h;rcases mE.1 b with rfl|b;·exact h.1
     exact n h.2 y b
   exact this i x (mG c)
  have j:H0 x:=by rcases O05 g with rfl|rfl|rfl|rfl|rfl|rfl<;>exact c64 oD oD
  have next:=T0s w i m d (k+1) fuel oM oM;rw[List.take_add_one,c]at next;rw[a8.eq_2,iP (by rw[C4];simp;omega),Z0z (x:=chL x) (by rw[List.getElem?_map,c];rfl),oB,v0r g,oB,C0 j,oB,C0 (by simp;omega),oB,Z1 f oM];exact next
def c0c{r:Int}{w:List Int}(h:J1 r w)(k:r<=3):J9 r (B (wl w))=some (w,true):=by
 have b:=y04 h;have j:=(V7 h).1;have c:M6 w=some (B (wl w)):=by rw[M06 w oM];unfold q04;rw[b];rfl
 have l:=x07 w;unfold J9;cases w with
 |nil =>rw[show(⟨#[49]⟩:BA)=B (wl []) from rfl,sq,dT (rfl:wl []=wl []),iE oD,U00 r [] oS,h,oB];simp only[chk,bT,bF];rw[show M6 ([]:I0)=some (B (wl [])) from c,oB,C0 (by rw[C4];omega),oB,sq,dT (rfl:wl []=wl [])];rfl
 |cons x w =>
  have g:M7 (B (wl (x::w))) (⟨#[49]⟩:BA)=false:=by
   rw[l0f];refine dF λe=>?_;have d:(wl (x::w)).toArray = #[49]:=congrArg ByteArray.data e;have f:chL x=49:=by have:=congrArg (λa:Array UInt8=>a.toList) d;simp[wl]at this;exact this.1
   simp only[i00,aE]at b;rcases O05 b.1 with rfl|rfl|rfl|rfl|rfl|rfl<;>exact absurd f oD
  rw[g,iP (show(!false)=true from rfl)];have i:=T0s (x::w) b oM (x::w).length 0 P0 oM (j1 oM);rw[show B (wl (x::w))=B ((x::w).map chL) from rfl,show(0:Int)=((0:Nat):Int) from rfl,show([]:I0)=(x::w).take 0 from rfl,i,oB,U00 r (x::w) oM,h,oB];simp only[chk,bT,bF];rw[c,oB,C0 (by rw[C4];omega),oB];have:M7 (B (wl (x::w))) (B ((x::w).map chL)):=Z07.2 rfl;rw[this];rfl
def d0c{w:List Int}(h:i00 w):∀ b∈wl w,49<=b.toNat/\b.toNat<=99:=by
 have:∀ {l:List Int},i00 l->∀ b∈l.map chL,49<=b.toNat/\b.toNat<=99:=by
  intro l;induction l with
  |nil=>intro _ b c;cases c
  |cons a r d =>
   intro h b c;simp only[i00,aE]at h;rcases mE.1 c with rfl|c;·rcases O05 h.1 with rfl|rfl|rfl|rfl|rfl|rfl<;>decide
   exact d h.2 b c
 cases w with
 |nil=>intro b c;obtain rfl:=List.mem_singleton.1 c;decide
 |cons x r=>exact this h
def t6(g:j0):j0×Bool:=bif decide (g.2.1<40)then((g.1,g.2.1+1,g.2.2),true)else(g,false)
def Y0h{g:j0}(a:X0 g):d03 g=some (t6 g):=by
 obtain⟨f,h,e,i⟩:=Y2 a;have b:=r9 g oM;have d:=s04 g oM;obtain⟨r,n,es⟩:=g;simp only at e;unfold d03 t6;simp only[b,d,a,oB,bT,zF];by_cases c:n<40;·rw[iE (by simp;omega),w64 oM oM];simp[c]
 grind
def Z0h{g:j0}(a:X0 g):f03 g=some (t6 g):=by
 obtain⟨f,h,e,i⟩:=Y2 a;have b:=Z00 g oM;have d:=N00 g oM;obtain⟨r,n,es⟩:=g;simp only at e;unfold f03 t6;simp only[b,d,a,oB,bT,zF];by_cases c:n<40;·rw[iE (by simp;omega),w64 oM oM];simp[c]
 grind
def y07{g:j0}(b:X0 g):X0 (t6 g).1:=by
 unfold t6;by_cases c:g.2.1<40
 ·simp only[c,decide_true,cT];obtain⟨d,f,j,h,i⟩:=(b03 g).1 b;refine(b03 _).2 ⟨λe a=>?_,f,?_,h,i⟩;·have:=d e a;simp only;omega
  simp only;omega
 grind
def U0s(es:List O0)(e:O0)(j:es.length<=140737488355328):∀(d k fuel:Nat),k+d=es.length->d<fuel -> ∃ a,L1 es e.1 e.2.1 e.2.2 fuel (k:Int)=some a/\((∃ i:Nat,a = .inl (i:Int)/\i<es.length/\e∈es.drop k)∨(a = .inr ()/\e ∉ es.drop k))
 |d,k,0,g,hf=>oM
 |0,k,fuel+1,g,hf=>by simp_all[L1.eq_2,iE,D1]
 |d+1,k,fuel+1,g,hf=>by
  have h:k<es.length:=oM;have f:=V3 h;generalize es[k]=b at f;rw[L1.eq_2,iP (by simp;omega),U1 f,oB,I1 f];simp only[];by_cases c:eqE e b;·rw[iP c];grind[j06,List.mem_cons_self]
  rw[iE c,Z1 h oM];obtain⟨a,l,m⟩:=U0s es e j d (k+1) fuel oM oM;grind[j06,mC]
def w0r(es:List O0)(e:O0)(b:es.length<=140737488355328):W3 es e=some (decide (e∈es)):=by
 obtain⟨g,c,a⟩:=U0s es e b es.length 0 P0 oM (j1 b);obtain⟨h,j,k⟩:=e;unfold W3 O2;simp only;simp only[dZ]at a;rw[show(0:Int)=((0:Nat):Int) from rfl,c];rcases a with⟨i,rfl,d,f⟩|⟨rfl,d⟩;·simp only[oB,M2];rw[C0 (show H0 ((i:Nat):Int) from⟨oM,oM⟩)];simp[f]
 grind[S0,C0,H0]
def P0d(g:j0)(v:Int):List Int->List O0
 | []=>[]
 |x::r=>(bif decide (Q0 g v x<0)then [(v,x,-1)]else [])++P0d g v r
def I0f(g:j0):Nat->Nat->List O0
 |0,_=>[]
 |d+1,v=>P0d g (v:Int) (U7 g.1.toNat 1)++I0f g d (v+1)
def T0g(g:j0)(v:Int):∀ l,(P0d g v l).length<=l.length
 | []=>Nat.le_refl _
 |x::r=>by have:=T0g g v r;simp only[P0d,lA,lC];cases decide (Q0 g v x<0)<;>simp<;>omega
def C0p(g:j0)(j:X0 g)(v:Int)(a:List Int)(l:∀ x∈a,I3 x)(n:a.length<=1000):∀(d k fuel:Nat) (acc:List O0),k+d=a.length->d<fuel->acc.length+d<=100000 -> K4 a g.1 g.2.1 g.2.2 v fuel (k:Int) acc=some (acc++P0d g v (a.drop k))
 |d,k,0,acc,i,hf,f=>oM
 |0,k,fuel+1,acc,i,hf,f=>by simp_all[K4.eq_2,iE,D1,P0d]
 |d+1,k,fuel+1,acc,i,hf,f=>by
  obtain⟨p,s,q,t⟩:=Y2 j;have c:k<a.length:=oM;have e:=V3 c;have m:=l _ (List.getElem_mem c);generalize a[k]=x at e m;have o:∀ b:List O0,b.length+d<=100000->K4 a g.1 g.2.1 g.2.2 v fuel ((k+1:Nat):Int) b=some (b++P0d g v (a.drop (k+1))):=λb h=>C0p g j v a l n d (k+1) fuel b oM oM h;rw[K4.eq_2,iP (by simp;omega),U1 e,oB,show(g.1,g.2.1,g.2.2)=g from rfl,r04 g v x m oM,oB,C0 (N02 p q.2 v x),oB,Z1 c oM,I1 e,P0d];cases decide (Q0 g v x<0);·grind
  rw[iP rfl,C0 (by simp;omega),oB,o _ (by simp;omega)];simp
theorem J0f:∀(d i:Nat) (x:Int),x∈U7 d i->∃ j:Nat,i<=j/\j<i+d/\(x=(j:Int)∨x = -(j:Int))
 |0,i,x,h=>by simp[U7]at h
 |d+1,i,x,h=>by
  simp only[U7,mE]at h;rcases h with rfl|rfl|h;·grind
  ·grind
  obtain⟨j,a,b,c⟩:=J0f d (i+1) x h;grind
def D0p(g:j0)(a:K0 g):∀(d k fuel:Nat) (acc:List O0),k+d=g.2.1.toNat->d<fuel->acc.length+100*d<=10000 -> r6 g.2.1 g.1 g.2.2 fuel (k:Int) acc=some (acc++I0f g d k)
 |d,k,0,acc,c,hf,b=>oM
 |0,k,fuel+1,acc,c,hf,b=>by obtain⟨i,l,m,n⟩:=W0 a;rw[r6.eq_2,iE (by simp;omega)];simp[I0f]
 |d+1,k,fuel+1,acc,c,hf,b=>by
  obtain⟨i,l,m,n⟩:=W0 a;have e:=((Q0a g).1 a).1;obtain⟨R,s⟩:∃ R:Nat,g.1=(R:Int):=⟨g.1.toNat,oM⟩;have f:∀ x∈U7 g.1.toNat 1,I3 x:=λx h=>by obtain⟨j,o,p,q⟩:=J0f _ _ _ h;refine⟨⟨oM,oM⟩,oM⟩
  have t:=i05 g.1.toNat 1;have u:=T0g g (k:Int) (U7 g.1.toNat 1);have h0:=C0p g e (k:Int) (U7 g.1.toNat 1) f oM (U7 g.1.toNat 1).length 0 P0 acc oM (j1 oM) oM;rw[r6.eq_2,iP (by simp;omega),show i01 g.1=some (U7 g.1.toNat 1) by grind[n0r],oB,show(0:Int)=((0:Nat):Int) from rfl,h0,oB,Z1 (show k<1000 by omega) oM,D0p g a d (k+1) fuel _ oM oM (by simp;omega),I0f];simp
def P04(g:j0):List O0:=I0f g g.2.1.toNat 0
def d0l{g:j0}(hf:K0 g):x00 g=some (P04 g):=by obtain⟨b,c,d,e⟩:=W0 hf;have h:=D0p g hf g.2.1.toNat 0 P0 [] oM (j1 oM) (by simp;omega);have a:=Y02 g oM;simp_all[x00,P04,oB,iE]
def E0p{g:j0}(a:X0 g)(u:Int)(w:List Int)(v:Int):(V1 g u w v).1.2.2.length<=120:=by
 have q:=(Y2 a).2.2.2;unfold V1;cases hc:(!w.isEmpty&&decide (g.2.1+(w.length:Int)-1<=40)&&decide (g.2.2.length+w.length<=120));·exact q
 simp only[aE,dE]at hc;have b:=O01 (g03 v w u g.2.1) g.2.2;have c:=Z09 v w u g.2.1;simp only[cT];omega
theorem x0r(g:Nat):∀(d k:Nat) (x:Int),x∈wo g d k->∃ j:Nat,x=(j:Int)/\k<=j/\j<k+d
 |0,k,x,h=>nomatch h
 |d+1,k,x,h=>by
  unfold wo at h;split at h;·obtain⟨j,a,b,c⟩:=x0r g d (k+1) x h;grind
  rcases mE.1 h with rfl|h;·grind
  obtain⟨j,a,b,c⟩:=x0r g d (k+1) x h;grind
def n07(g:Nat):∀(d k:Nat),(wo g d k).Nodup
 |0,k=>List.nodup_nil
 |d+1,k=>by
  unfold wo;split;·exact n07 g d (k+1)
  refine List.nodup_cons.2 ⟨λh=>?_,n07 g d (k+1)⟩;grind[x0r]
theorem W0j(P:List Int):∀(es:List O0),∀ e∈pE P es,∃ a∈es,e=(getI P a.1,a.2.1,getI P a.2.2)/\0<=getI P a.1/\0<=getI P a.2.2
 | [],e,h=>nomatch h
 |b::r,e,h=>by
  unfold pE at h;cases hb:decide (0<=getI P b.1)&&decide (0<=getI P b.2.2);·rw[hb]at h;obtain⟨a,c,d⟩:=W0j P r e h;grind
  rw[hb]at h;simp only[aE,dE]at hb;rcases mE.1 h with rfl|h;·grind
  obtain⟨a,c,d⟩:=W0j P r e h;grind
def n0e{g:j0}{o:List Int}(d:X0 g)(l:inV g.2.1.toNat o)(i:1<=o.length)(j:o.length<=40):X0 (L7 g o):=by obtain⟨f,h,q,s⟩:=Y2 d;have k:=x0n (plc g.2.1.toNat o) g.2.2;refine E0f h ⟨oM,oM⟩ oM λe c=>?_;obtain⟨a,b,rfl,n,p⟩:=W0j _ _ e c;have m:=f a b;simp_all[T0c]
def X0j{n:Nat}:∀(o:List Int) (k:Nat) (A:List Int),A.length=n->inV n o->o.Nodup->(∀ x,0<=x->getI A x<(k:Int))->(∀ x y,0<=x->0<=y->0<=getI A x->getI A x=getI A y->x=y) -> ∀ x y,0<=x->0<=y->0<=getI (A03 A k o) x->getI (A03 A k o) x=getI (A03 A k o) y->x=y
 | [],k,A,e,c,f,b,h=>h
 |v::r,k,A,e,c,f,b,h=>by
  have d:=c v mS;refine X0j r (k+1) (A.set v.toNat (k:Int)) (by simp[e]) (λw j=>c w (mC _ j)) (List.nodup_cons.1 f).2 (λx a=>?_) (λx y a i h0 g=>?_);·rw[j07 d.1 oM a];have:=b x a;split<;>omega
  rw[j07 d.1 oM a]at h0 g;rw[j07 d.1 oM i]at g;have l:=b x a;have m:=b y i;by_cases c1:x=v;all_goals grind
theorem A0i{n:Nat}{o:List Int}(d:inV n o)(b:o.Nodup){x y:Int}(a:0<=x)(e:0<=y)(h0:0<=getI (plc n o) x)(c:getI (plc n o) x=getI (plc n o) y):x=y:=by refine X0j o 0 (List.replicate n (-1)) oS d b (λx a=>by rw[X0b];omega) (λx y _ _ h _=>by grind[X0b]) x y a e h0 c
def X0v{es:List O0}(h:es.Pairwise λa b=>Q07 a b=false){a b:O0}(d:a∈es)(e:b∈es)(f:a≠b):Q07 a b=false:=by
 induction es with
 |nil=>cases d
 |cons c r g =>grind[List.pairwise_cons,absurd,M0g]
def G0x{es:List O0}(i:Asc V0 es)(h:∀ a∈es,∀ b∈es,a≠b->Q07 a b=false):es.Pairwise λa b=>Q07 a b=false:=by
 induction es with
 |nil=>exact .nil
 |cons c r k =>obtain⟨f,g⟩:=List.pairwise_cons.1 i;refine List.pairwise_cons.2 ⟨λb d=>h c mS b (mC _ d) λe=>?_,k g λa j b d=>h a (mC _ j) b (mC _ d)⟩;have:=f b d;rw[e,j4.refl]at this;omega
def W0c{g:j0}(c:X0 g):K0 g↔∀ a∈g.2.2,∀ b∈g.2.2,a≠b->Q07 a b=false:=by
 rw[Q0a,R0g]
 exact⟨λh a d b e f=>X0v h.2 d e f,λh=>⟨c,G0x (graph_asc' c) h⟩⟩
where graph_asc' {g:j0} (h:X0 g):Asc V0 g.2.2:=((b03 g).1 h).2.2.2.2
theorem o07{g:j0}{o:List Int}(hf:K0 g)(u:inV g.2.1.toNat o)(w:o.Nodup)(l:1<=o.length)(m:o.length<=40):K0 (L7 g o):=by
 have f:=A3 hf;obtain⟨k,C,D,E⟩:=Y2 f;refine(W0c (n0e f u l m)).2 λa n b p s=>?_;have mem:∀ e∈(L7 g o).2.2,∃ a∈g.2.2,e=(getI (plc g.2.1.toNat o) a.1,a.2.1,getI (plc g.2.1.toNat o) a.2.2)/\0<=getI (plc g.2.1.toNat o) a.1/\0<=getI (plc g.2.1.toNat o) a.2.2:=λe q=>by
  rcases(C5 j4 e _ _).1 q with h|h;·cases h
  exact W0j _ _ e h
 obtain⟨c,i,rfl,x,y⟩:=mem a n;obtain⟨d,j,rfl,z,A⟩:=mem b p;have t:c≠d:=λe=>s (by rw[e]);have v:=(W0c f).1 hf c i d j t;have F:=k c i;have G:=k d j;grind[Q07,Bool.and_eq_false_iff,Bool.or_eq_false_iff,decide_eq_false_iff_not,A0i]
def t9:Nat->j0->j0
 |0,g=>g
 |d+1,g=>match F9 g with
  |none=>g
  |some k=>t9 d (L7 g (wo k g.2.1.toNat 0))
def X0c{g:j0}{k:Nat}(h:F9 g=some k):1<=k/\k<g.2.1.toNat:=by have:=Y0b _ _ _ h;omega
def c08{g:j0}(a:X0 g){k:Nat}(h:F9 g=some k):inV g.2.1.toNat (wo k g.2.1.toNat 0)/\(wo k g.2.1.toNat 0).length=g.2.1.toNat-1/\1<=(wo k g.2.1.toNat 0).length/\(wo k g.2.1.toNat 0).length<=40:=by obtain⟨d,e,f,i⟩:=Y2 a;have c:=X0c h;have b:=A0n k g.2.1.toNat 0;rw[iP oM]at b;grind[N0s]
def C03:∀(d:Nat) {g:j0},K0 g->K0 (t9 d g)
 |0,g,h=>h
 |d+1,g,h=>by
  unfold t9;cases e:F9 g with
  |none=>exact h
  |some k =>obtain⟨a,f,b,c⟩:=c08 (A3 h) e;exact C03 d (o07 h a (n07 _ _ _) b c)
def Y0j(n g:Nat)(i:n<=1000)(u:List Int)(j:u.length=n):∀(d k fuel:Nat) (acc a:List Int),k+d=n->d<fuel->acc.length<=k->a.length<=k -> ∃ v,j7 (n:Int) (g:Int) u fuel (k:Int) acc a=some (acc++wo g d k,v)/\v.length+acc.length=a.length+(acc++wo g d k).length
 |d,k,0,acc,a,h,hf,b,f=>oM
 |0,k,fuel+1,acc,a,h,hf,b,f=>by simp_all[j7.eq_2,iE,wo]
 |d+1,k,fuel+1,acc,a,h,hf,b,f=>by
  have l:=V3 (show k<u.length by omega);generalize u[k]=x at l;rw[j7.eq_2,iP (by simp;omega),Z1 (show k<10000 by omega) oM];unfold wo;by_cases c:k=g;·have e:decide ((k:Int)=(g:Int)):=dT oM;rw[e,iE oS,iP c];exact Y0j n g i u j d (k+1) fuel acc a oM oM oM oM
  have e:decide ((k:Int)=(g:Int))=false:=dF oM;rw[e,iP (show(!false)=true from rfl),iE c,C0 (by simp;omega),oB,U1 l,oB,C0 (by simp;omega),oB];obtain⟨v,m,o⟩:=Y0j n g i u j d (k+1) fuel (acc ++ [(k:Int)]) (a ++ [x]) oM oM (by simp;omega) (by simp;omega);grind
def F0p(g:j0)(a:X0 g):∀(d k fuel:Nat) (acc:List Int),k+d=g.2.1.toNat->d<fuel->acc.length=k -> ∃ u,j8 g.2.1 g.1 g.2.2 fuel (k:Int) acc=some u/\u.length=g.2.1.toNat
 |d,k,0,acc,c,hf,b=>oM
 |0,k,fuel+1,acc,c,hf,b=>by grind[Y2,j8.eq_2,decide,chk]
 |d+1,k,fuel+1,acc,c,hf,b=>by obtain⟨h,i,j,l⟩:=Y2 a;obtain⟨u,e,f⟩:=F0p g a d (k+1) fuel (acc ++ [(k:Int)]) oM oM (by simp;omega);rw[j8.eq_2,show decide (((k:Nat):Int)<g.2.1)=true by simp;omega,H1,show(g.1,g.2.1,g.2.2)=g from rfl,r9 g oM,oB,a];rw[iP (show(bif true then true else false)=true from rfl),C0 (by simp;omega),oB,Z1 (show k<1000 by omega) oM,e];exact⟨u,rfl,f⟩
def G0p(f:j0)(n:X0 f):∀(d k fuel:Nat) (g:j0) (u:List Int),k+d=40->d<fuel->X0 g->u.length=g.2.1.toNat->g.2.1.toNat<=d+1 -> ∃ v,(i8 f.1 f.2.1 f.2.2 fuel u (k:Int) g.1 g.2.1 g.2.2).bind (λy=>w9 y (λx=>match x with|(a,b,c,e)=>some ((b,c,e),a)))=some (t9 d g,v)
 |d,k,0,g,u,q,hf,h,w,s=>oM
 |0,k,fuel+1,g,u,q,hf,h,w,s=>by rw[i8.eq_2,show decide (((k:Nat):Int)<40)=false by simp;omega];simp_all[chk,w9,t9]
 |d+1,k,fuel+1,g,u,q,hf,h,w,s=>by
  obtain⟨H,p2,I,J⟩:=Y2 n;obtain⟨K,L,M,O⟩:=Y2 h;have D:=Q0v g h;rw[i8.eq_2,show decide (((k:Nat):Int)<40)=true by simp;omega,H1,show(f.1,f.2.1,f.2.2)=f from rfl,r9 f oM,oB,n];rw[iP (show(bif true then true else false)=true from rfl),show(g.1,g.2.1,g.2.2)=g from rfl,D];unfold t9;cases e:F9 g with
  |none =>simp only[oB];rw[C0 (show H0 (-1) from⟨oM,oM⟩),oB,iP oS];exact⟨u,rfl⟩
  |some j =>obtain⟨o,A,m,C⟩:=c08 h e;have G:=X0c e;obtain⟨N,l⟩:∃ N:Nat,g.2.1=(N:Int):=⟨g.2.1.toNat,oM⟩;have i:g.2.1.toNat=N:=oM;obtain⟨v,w1,F⟩:=Y0j N j oM u oM N 0 P0 [] [] oM (j1 oM) (Nat.le_refl _) (Nat.le_refl _);have t:=I0j g.1 N g.2.2 (wo j N 0) (by rw[←l];exact h) (by rw[←i];exact o) (n07 _ _ _) (by rw[←i];exact m) (by rw[←i];omega);rw[←l,show(g.1,g.2.1,g.2.2)=g from rfl]at t;have p:=n0e h o m C;rw[i]at p A m;obtain⟨E,z⟩:=G0p f n d (k+1) fuel (L7 g (wo j N 0)) v oM oM p (by simp only[nA,lN]at F;show v.length=((wo j N 0).length:Int).toNat;omega) (by show((wo j N 0).length:Int).toNat<=d+1;omega);simp only[oB];rw[C0 (show H0 ((j:Nat):Int) from⟨oM,oM⟩),oB,iE oS,l,show(0:Int)=((0:Nat):Int) from rfl,w1];simp only[oB,nA];rw[←l,t];simp only[oB];rw[Z1 (show k<1000 by omega) oM,i];exact⟨E,z⟩
def e0c(g:j0):j0:=t9 40 g
def y0r{g:j0}(a:X0 g):∃ v,i03 g=some (e0c g,v):=by obtain⟨f,h,i,j⟩:=Y2 a;have e:=s04 g oM;obtain⟨u,b,d⟩:=F0p g a g.2.1.toNat 0 P0 [] oM (j1 oM) rfl;obtain⟨v,c⟩:=G0p g a 40 0 P0 g u rfl (j1 oM) a d oM;refine⟨v,?_⟩;obtain⟨r,n,es⟩:=g;unfold i03;simp only[e,oB];simp only at b c;rw[show(0:Int)=((0:Nat):Int) from rfl,b,oB];exact c
def H0p:∀(n fuel d:Nat) (left:List Int) (r:Int) (es:List O0),1<=n->n<=40->inN n es->es.length<=120->left.length=n->n<fuel->n<=d+1 -> ∃ f,g7 fuel left r (n:Int) es=some (.inl (t9 d (r,(n:Int),es),f))
 |n,0,d,left,r,es,i,j,b,A,C,hf,z=>oM
 |n,fuel+1,d,left,r,es,i,j,b,A,C,hf,z=>by
  obtain⟨c,w,lS,x⟩:=k0p r n es b oM i oM;have s:=z0n r n es oM c lS j (n-1) 1 P0 (Nat.le_refl _) oM oM (j1 oM);have y:lf (λv=>decide (z03 (v:Int) es<2) || !M02 c (v:Int)) (n-1) 1=lf (O0a es) (n-1) 1:=M0j _ _ λk I J=>by
   unfold O0a;have:=x (k:Int) oM oM;have l:=k06 es 0 (k:Int);congr 2;cases hb:M02 c (k:Int);·symm;exact dF λh=>by rw[this.2 (l.1 h)]at hb;cases hb
   symm;exact dT (l.2 (this.1 hb))
  rw[y]at s;have m:F9 (r,(n:Int),es)=lf (O0a es) (n-1) 1:=by simp only[F9,iN]
  rw[g7.eq_2,w,oB,show(1:Int)=((1:Nat):Int) from rfl,s,oB];cases hlf:lf (O0a es) (n-1) 1 with
  |none =>
   have g:t9 d (r,(n:Int),es)=(r,(n:Int),es):=by
    cases d with
    |zero=>rfl
    |succ d=>unfold t9;rw[m,hlf]
   simp_all
  |some k =>
   have G:=Y0b _ _ _ hlf;have u:decide ((k:Int)=0)=false:=dF oM;have p:=N0s k n n 0 oM;have o:=A0n k n 0;rw[iP oM]at o;have q:=B0n n k oM n 0 P0 [] oM (j1 oM) (Nat.le_refl _);rw[show((0:Nat):Int)=0 from rfl,(nA)]at q;have D:=m0r r n es (wo k n 0) b p oM oM oM;have E:=l0e (r,(n:Int),es) (wo k n 0);have H:=X0l (r:=r) p b;have F:i64.wrap ((k:Int)+((1:Nat):Int))=((k+1:Nat):Int):=by grind[w64]
   obtain⟨a,rfl⟩:∃ a,d=a+1:=⟨d-1,oM⟩;have e:L7 (r,(n:Int),es) (wo k n 0)=(r,((n-1:Nat):Int),(L7 (r,(n:Int),es) (wo k n 0)).2.2):=by rw[←o];rfl
   obtain⟨f,t⟩:=H0p (n-1) fuel a (left.take k++left.drop (k+1)) r (L7 (r,(n:Int),es) (wo k n 0)).2.2 oM oM oG (by simp only at E;omega) oG oM oM;refine⟨f,?_⟩;rw[←e]at t;have g:t9 (a+1) (r,(n:Int),es)=t9 a (L7 (r,(n:Int),es) (wo k n 0)):=by show(match F9 (r,(n:Int),es)with|none=>(r,(n:Int),es)|some k=>t9 a (L7 (r,(n:Int),es) (wo k ((n:Int)).toNat 0)))=_;rw[m,hlf,(iN)]
   rw[g];simp only[u,fT,if_false,q,oB,D];generalize L7 (r,(n:Int),es) (wo k n 0)=gp at *;rw[e];simp only[F];rw[Z0b oM,oB,E05 oM,oB,C0 oG,oB,t,←e]
def I0p{g:j0}(f:X0 g):∃ v,O9 g=some (e0c g,v):=by obtain⟨b,i,j,c⟩:=Y2 f;have m:=Z00 g oM;have k:=N00 g oM;obtain⟨r,n,es⟩:=g;simp only at i j c;obtain⟨N,rfl⟩:∃ N:Nat,n=(N:Int):=⟨n.toNat,oM⟩;have l:inN N es:=λe d=>⟨(b e d).1,(b e d).2.1⟩;obtain⟨u,a,h⟩:=C0n N oM N 0 P0 [] oM (j1 oM) rfl;obtain⟨o,p⟩:=H0p N P0 40 u r es oM oM l c h (j1 oM) oM;refine⟨o,?_⟩;unfold O9;rw[show((0:Nat):Int)=0 from rfl]at a;simp only[k,oB,m,f,bT,fT,if_false,a,p,w9];rfl
def z07(g:j0):j0:=N3 (e0c g)
def I0n{g:j0}(hf:K0 g):P9 g=(g,[]):=by obtain⟨a,b⟩:=(Q0a g).1 hf;unfold P9;rw[a];show L02 40 g=_;unfold L02;rw[b]
def Y0v{N r u x v:Int}(a:0<=u/\u<N)(b:0<=v/\v<N)(c:x≠0 /\ -r<=x/\x<=r):(0<=(stp u x v).1/\(stp u x v).1<N)/\(0<=(stp u x v).2.2/\(stp u x v).2.2<N)/\1<=(stp u x v).2.1/\(stp u x v).2.1<=r:=by unfold stp;split<;>(simp only;omega)
def J0p{N r v:Int}(f:0<=v/\v<N):∀(w:List Int) (u n:Int),(0<=u/\u<N)->0<=n->n+((w.length-1:Nat):Int)<=N->(∀ x∈w,x≠0 /\ -r<=x/\x<=r) -> ∀ e∈g03 v w u n,(0<=e.1/\e.1<N)/\(0<=e.2.2/\e.2.2<N)/\1<=e.2.1/\e.2.1<=r
 | [],u,n,c,h0,d,b,e,a=>nomatch a
 | [x],u,n,c,h0,d,b,e,a=>by simp only[g03,List.mem_singleton]at a;subst a;exact Y0v c f (b x mS)
 |x::y::l,u,n,c,h0,d,b,e,a=>by
  simp only[lC]at d;simp only[g03]at a;rcases mE.1 a with rfl|a;·exact Y0v c ⟨h0,oM⟩ (b x mS)
  exact J0p f (y::l) n (n+1) ⟨h0,oM⟩ oM oG (λz g=>b z (mC _ g)) e a
def X06{g:j0}{u v:Int}{w:List Int}(b:X0 g)(o:0<=u/\u<g.2.1)(p:0<=v/\v<g.2.1)(c:J1 g.1 w):X0 (V1 g u w v).1:=by
 obtain⟨f,i,q,s,j⟩:=(b03 g).1 b;obtain⟨wl,k⟩:=V7 c;unfold V1;cases hc:(!w.isEmpty&&decide (g.2.1+(w.length:Int)-1<=40)&&decide (g.2.2.length+w.length<=120));·exact b
 simp only[aE,dE,Bool.not_eq_true',List.isEmpty_eq_false_iff]at hc;have n:1<=w.length:=by grind
 have l:=O01 (g03 v w u g.2.1) g.2.2;have m:=Z09 v w u g.2.1;simp only[cT];refine(b03 _).2 ⟨λe a=>?_,i,⟨by simp only;omega,by simp only;omega⟩,by simp only;omega,I02 j4 _ _ j⟩;simp only at a ⊢;rcases(C5 j4 e _ _).1 a with h|h;·have:=f e h;omega
 exact J0p ⟨oM,oM⟩ w u g.2.1 ⟨oM,oM⟩ oM (iR _) (λx d=>(k x d).2) e h
theorem o06(g:j0)(u:Int)(w:List Int)(v:Int):(V1 g u w v).1.1=g.1:=by unfold V1;cases (!w.isEmpty&&decide (g.2.1+(w.length:Int)-1<=40)&&decide (g.2.2.length+w.length<=120))<;>rfl
def G07:List (List Int)->j0->j0
 | [],g=>g
 |w::r,g=>G07 r (V1 g 0 w 0).1
theorem I0h:∀(ws:List (List Int)) {g:j0},X0 g->(∀ w∈ws,J1 g.1 w)->X0 (G07 ws g)
 | [],g,a,b=>a
 |w::r,g,a,b=>by obtain⟨d,e,f,h⟩:=Y2 a;exact I0h r (X06 a ⟨iR _,oM⟩ ⟨iR _,oM⟩ (b w mS)) λi c=>by grind[o06,mC]
def K0p{g:j0}{w:List Int}(a:X0 g)(b:J1 g.1 w):N03 g w=some (V1 g 0 w 0):=by obtain⟨c,d,e,f⟩:=Y2 a;have h:=M0d a (u:=0) (v:=0) ⟨iR _,oM⟩ ⟨iR _,oM⟩ b;grind[N03]
def L0p{g:j0}{w:List Int}(a:X0 g)(b:J1 g.1 w):Q03 g w=some (V1 g 0 w 0):=by obtain⟨c,d,e,f⟩:=Y2 a;have h:=N0d a (u:=0) (v:=0) ⟨iR _,oM⟩ ⟨iR _,oM⟩ b;grind[Q03]
def e0m(ws:List (List Int))(i:ws.length<=1000):∀(d k fuel:Nat) (g:j0),k+d=ws.length->d<fuel->X0 g->(∀ w∈ws,J1 g.1 w) -> W8 ws fuel (k:Int) g.1 g.2.1 g.2.2=some (G07 (ws.drop k) g)
 |d,k,0,g,h,hf,a,c=>oM
 |0,k,fuel+1,g,h,hf,a,c=>by rw[W8.eq_2,iE (by simp;omega),D1 oM];rfl
 |d+1,k,fuel+1,g,h,hf,a,c=>by have b:k<ws.length:=oM;have f:=V3 b;have e:=c _ (List.getElem_mem b);generalize ws[k]=w at f e;obtain⟨l,m,n,o⟩:=Y2 a;have j:=e0m ws i d (k+1) fuel (V1 g 0 w 0).1 oM oM (X06 a ⟨iR _,oM⟩ ⟨iR _,oM⟩ e) (by simp_all[o06]);rw[W8.eq_2,iP (by simp;omega),U1 f,oB,show(g.1,g.2.1,g.2.2)=g from rfl,K0p a e,oB,Z1 b oM,I1 f];exact j
def f0m(ws:List (List Int))(m:ws.length<=1000):∀(d k fuel:Nat) (g:j0),k+d=ws.length->d<fuel->X0 g->(∀ w∈ws,J1 g.1 w) -> Q7 ws fuel (k:Int) g.1 g.2.1 g.2.2=some (G07 (ws.drop k) g)
 |d,k,0,g,l,hf,a,f=>oM
 |0,k,fuel+1,g,l,hf,a,f=>by rw[Q7.eq_2,iE (by simp;omega),D1 oM];rfl
 |d+1,k,fuel+1,g,l,hf,a,f=>by
  have b:k<ws.length:=oM;have i:=V3 b;have h:=f _ (List.getElem_mem b);generalize ws[k]=w at i h;obtain⟨n,o,p,q⟩:=Y2 a;have j:=f0m ws m d (k+1) fuel (V1 g 0 w 0).1 oM oM (X06 a ⟨iR _,oM⟩ ⟨iR _,oM⟩ h) (by simp_all[o06]);rw[Q7.eq_2,iP (by simp;omega),U1 i,oB,Z1 b oM,I1 i];by_cases c:w = [];·subst c;rw[iE oS];have e:(V1 g 0 [] 0).1=g:=rfl;rw[e]at j;rw[j];show _=some (G07 (ws.drop (k+1)) (V1 g 0 [] 0).1);rw[e]
  have:0<w.length:=List.length_pos_iff.2 c;rw[iP (by simp;omega),show(g.1,g.2.1,g.2.2)=g from rfl,L0p a h,oB];exact j
def b0a(r:Int)(ws:List (List Int)):j0×Bool:=bif j2 r ws then(G07 ws (r,1,[]),true)else((0,0,[]),false)
def r02{r:Int}{ws:List (List Int)}(h:j2 r ws):(1<=r/\r<=3)/\ws.length<=6/\∀ w∈ws,J1 r w:=by
 simp only[j2,inR,aE,dE]at h;refine⟨h.1.1.1,h.1.1.2,?_⟩;have a:∀ {ws:List (List Int)},g0b r ws->∀ w∈ws,J1 r w:=by
  intro ws;induction ws with
  |nil=>intro _ w a;cases a
  |cons v l b =>simp_all[g0b,aE,mE]
 exact a h.1.2
theorem Y0c{r:Int}(b:1<=r/\r<=3):X0 (r,1,[]):=(b03 _).2 ⟨(λe a=>by cases a),b,⟨oS,oS⟩,oS,List.Pairwise.nil⟩
def J0n(r:Int)(ws:List (List Int))(b:ws.length<=140737488355328)(d:K7 ws):O03 r ws=some (b0a r ws):=by
 have a:=S0b r ws b d;unfold O03 b0a;rw[a,oB];cases hA:j2 r ws;·rfl
 obtain⟨c,f,e⟩:=r02 hA;have h:=e0m ws oM ws.length 0 P0 (r,1,[]) oM (j1 oM) (Y0c c) e;simp_all[r05,A05,oB,iE,inR]
def K0n(r:Int)(ws:List (List Int))(b:ws.length<=140737488355328)(d:K7 ws):R03 r ws=some (b0a r ws):=by
 have a:=g06 r ws b d;unfold R03 b0a;rw[a,oB];cases hA:j2 r ws;·rfl
 obtain⟨c,f,e⟩:=r02 hA;have h:=f0m ws oM ws.length 0 P0 (r,1,[]) oM (j1 oM) (Y0c c) e;simp_all[s05,d02,oB,iE,inR]
def M0p{c:UInt8}:∀ {xs:List (List UInt8)} (x:List UInt8),c ∉ x->(∀ y∈xs,c ∉ y)->T07 c [] (x++T00 c xs)=x::xs
 | [],x,a,_=>by rw[show T00 c [] = [] from rfl,List.append_nil,a0a [] a,(nA)]
 |y::r,x,a,h=>by rw[show T00 c (y::r)=c::(y++T00 c r) from rfl,K00 [] _ a,M0p y (h y mS) λz b=>h z (mC _ b),(nA)]
def Z0v{w:List Int}(h:i00 w){c:UInt8}(b:c.toNat<49∨99<c.toNat):c ∉ wl w:=λa=>by have:=d0c h c a;omega
def N0p{r:Int}(e:r<=3)(ws:List (List Int))(f:∀ w∈ws,J1 r w)(h:ws.length<=1000):∀(d k fuel:Nat),k+d=ws.length->d<fuel -> D7 ((ws.map wl).map B) r fuel (k:Int) (ws.take k)=some (.inr ws)
 |d,k,0,b,hf=>oM
 |0,k,fuel+1,b,hf=>by rw[D7.eq_2,iE (by simp;omega),List.take_of_length_le oM]
 |d+1,k,fuel+1,b,hf=>by
  have c:k<ws.length:=oM;have a:=V3 c;generalize ws[k]=w at a;have next:=N0p e ws f h d (k+1) fuel oM oM;rw[List.take_add_one,a]at next;have g:((ws.map wl).map B)[k]?=some (B (wl w)):=by rw[List.getElem?_map,List.getElem?_map,a];rfl
  rw[D7.eq_2,iP (by simp;omega),U1 g,oB,c0c (f w (mG a)) e,oB];simp only[bT];rw[iE oD,C0 (by simp;omega),oB,Z1 c oM];exact next
def K0f{r:Int}{ws:List (List Int)}(h:j2 r ws)(p:K7 ws)(k:ws≠[])(x:(Y3 ws).length<=1000000):t01 r (B (Y3 ws))=some (ws,true):=by
 obtain⟨o,z,f⟩:=r02 h;have c:∀ w∈ws,i00 w:=λw s=>y04 (f w s);cases ws with
 |nil=>exact absurd rfl k
 |cons w l =>
  have i:T07 44 [] (Y3 (w::l))=(w::l).map wl:=M0p (wl w) (Z0v (c w mS) (.inl oD)) λy u=>by obtain⟨v,q,rfl⟩:=List.mem_map.1 u;exact Z0v (c v (mC _ q)) (.inl oD)
  have m:M7 (B (Y3 (w::l))) (⟨#[110,111,110,101]⟩:BA)=false:=by
   rw[l0f];refine dF λe=>?_;have d:Y3 (w::l) = [110,111,110,101]:=congrArg (λa:BA=>a.data.toList) e;have j:=d0c (c w mS);cases hw1:wl w with
   |nil=>have:=q0y w;rw[hw1]at this;cases this
   |cons b t =>
    have g:b=110:=by
     have:Y3 (w::l)=b::(t++T00 44 (l.map wl)):=by show wl w++_=_;rw[hw1];rfl
     rw[this]at d;exact(List.cons.inj d).1
    have:=j b (by rw[hw1];exact mS);rw[g]at this;exact absurd this.2 oD
  unfold t01;rw[m,iP (show(!false)=true from rfl),show(44:Int)=(((44:UInt8).toNat:Nat):Int) from rfl,W0v _ _ x,oB,i];have n:=N0p o.2 (w::l) f oM (w::l).length 0 P0 oM (j1 oM);rw[show(0:Int)=((0:Nat):Int) from rfl,show([]:M1)=(w::l).take 0 from rfl,n,oB,S0,g06 r _ oM p,h,oB];rfl
end Go.Proofs.YthakcafglempaaaGreat
