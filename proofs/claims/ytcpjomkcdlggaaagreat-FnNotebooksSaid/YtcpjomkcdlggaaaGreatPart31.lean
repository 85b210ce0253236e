/- Texts of the claim, joined: Plain laws: valid graphs said in words; folds of a graph and others. -/
import Derived.Test.YtcpjomkcdlggaaaGreatPG
import Derived.Test.YtcpjomkcdlggaaaGreatPart21
import Derived.Test.YtcpjomkcdlggaaaGreatPart20
import Derived.Test.YtcpjomkcdlggaaaGreatH36
import Derived.Test.YtcpjomkcdlggaaaGreatPart29
namespace Go.Proofs.YtcpjomkcdlggaaaGreat
set_option linter.all false
open Go.H
open IntKind (i64)
def m0p{e:Type}{c:e->e->Int}(h:I02 c):∀ {l:List e},(∀ i x y,l[i]?=some x->l[i+1]?=some y->c x y<0)->Asc c l
 | [],_=>List.Pairwise.nil
 | [x],_=>List.pairwise_singleton _ _
 |x::y::l,f=>by
  have j:Asc c (y::l):=m0p h λi a b k m=>f (i+1) a b (by simpa using k) (by simpa using m)
  have g:=f 0 x y rfl rfl
  refine List.pairwise_cons.2 ⟨λz d=>?_,j⟩
  rcases mE.1 d with rfl|d
  ·exact g
  ·exact h.trans _ _ _ g ((List.pairwise_cons.1 j).1 z d)
theorem w0v{d:Type}{e:d->d->Int}:∀ {l:List d},Asc e l->∀ {i:Nat} {x y:d},l[i]?=some x->l[i+1]?=some y->e x y<0
 | [],_,i,x,y,b,_=>by simp at b
 |a::l,h,0,x,y,b,c=>by
  simp at b c;subst b
  exact(List.pairwise_cons.1 h).1 y (mG c)
 |a::l,h,i+1,x,y,b,c=>w0v (List.pairwise_cons.1 h).2 (i:=i) (by simpa using b) (by simpa using c)
def x0v{r a:Int}{es:List O0}:∀ {d k:Nat},(∀ i,k<=i->i<k+d->i0v r a es i=false)->okE r a es d k=true
 |0,k,h=>rfl
 |d+1,k,h=>by
  simp only[okE,aE,Bool.not_eq_true']
  exact⟨h k (Nat.le_refl _) (by omega),x0v λi b c=>h i (by omega) (by omega)⟩
theorem x03(g:z0):U0 g=true↔inG g/\(1<=g.1/\g.1<=3)/\(1<=g.2.1/\g.2.1<=40)/\g.2.2.length<=120/\Asc V0 g.2.2:=by
 constructor
 ·intro h
  obtain⟨j,b,c,d⟩:=V2 h
  refine⟨j,b,c,d,m0p W7 λi x y a l=>?_⟩
  simp only[U0,aE]at h
  have f:=v0n h.1.1.1 (i+1) (Nat.zero_le _) (by grind)
  rw[p0d l]at f
  simp only[Nat.add_sub_cancel,a,Bool.or_eq_false_iff]at f
  have:=f.2
  simp only[show decide (0<i+1)=true by simp,Bool.true_and,decide_eq_false_iff_not]at this
  grind[P0j,V0]
 ·rintro⟨j,b,c,d,m⟩
  obtain⟨r,n,es⟩:=g
  simp only at b c d m
  simp only[U0,inR,aE,dE]
  refine⟨⟨⟨x0v λi _ o=>?_,b⟩,c⟩,d⟩
  have a:=U3 (show i<es.length by omega)
  generalize es[i]=e at a
  rw[p0d a]
  have k:=j e (mG a)
  simp only at k
  simp only[Bool.or_eq_false_iff,Bool.not_eq_false',K08,inR,aE,dE]
  rw[w64 (by omega) (by omega)]
  grind[U3,w0v,Nat.add_sub_cancel,P0j,V0]
theorem d0g{r:Int}{n:Int}{es:List O0}(hr:1<=r/\r<=3)(hn:1<=n/\n<=40)(hes:es.length<=120)(hin:inG (r,n,es)):U0 (r,n,V4 V0 [] es)=true:=by
 refine(x03 _).2 ⟨λe he=>hin e ?_,hr,hn,?_,H04 W7 _ _ List.Pairwise.nil⟩
 all_goals grind[J01,W7,Z02,List.length_nil]
def e0g(a b:O0):List (Int×Int) :=
 bif decide (a.2.1=b.2.1)then(bif decide (a.1=b.1)then [(if b.2.2<a.2.2 then b.2.2 else a.2.2,if b.2.2>a.2.2 then b.2.2 else a.2.2)]else [])++(bif decide (a.2.2=b.2.2)then [(if b.1<a.1 then b.1 else a.1,if b.1>a.1 then b.1 else a.1)]else [])else []
def j06(a:O0):List O0->List (Int×Int)
 | []=>[]
 |b::r=>e0g a b++j06 a r
def q01:List O0->List (Int×Int)
 | []=>[]
 |a::r=>j06 a r++q01 r
def Q0t(a b:O0):(e0g a b).length<=2:=by
 unfold e0g
 cases decide (a.2.1=b.2.1)<;>cases decide (a.1=b.1)<;>cases decide (a.2.2=b.2.2)<;>simp
theorem m0h(a:O0):∀ l,(j06 a l).length<=2*l.length
 | []=>by simp[j06]
 |b::r=>by have:=Q0t a b;have:=m0h a r;grind[j06,List.length_append,List.length_cons]
def mvV(f:Int×Int)(v:Int):Int:=if v=f.2 then f.1 else if v>f.2 then v-1 else v
def mvE(f:Int×Int)(e:O0):O0:=(mvV f e.1,e.2.1,mvV f e.2.2)
def w04(g:z0)(f:Int×Int):z0:=(g.1,g.2.1-1,V4 V0 [] (g.2.2.map (mvE f)))
def okF(g:z0)(f:Int×Int):Prop:=0<=f.1/\f.1<f.2/\f.2<g.2.1
def p09{g:z0}{f:Int×Int}(k:U0 g=true)(hf:okF g f):U0 (w04 g f)=true:=by
 obtain⟨l,m,s,o,_⟩:=(x03 g).1 k
 obtain⟨p,f2,f3⟩:=hf
 refine d0g m ⟨by omega,by omega⟩ (by simpa using o) λe i=>?_
 obtain⟨h,j,rfl⟩:=List.mem_map.1 i
 obtain⟨b,c,d⟩:=l h j
 have a:∀ v:Int,0<=v/\v<g.2.1->0<=mvV f v/\mvV f v<g.2.1-1:=λv q=>by
  grind[mvV]
 exact⟨a _ b,a _ c,d⟩
def n0p{g:z0}(j:inG g){a:O0}(m:a∈g.2.2):∀ {l:List O0},(∀ b∈l,b∈g.2.2/\a≠b)->∀ f∈j06 a l,okF g f
 | [],_,f,hf=>by simp[j06]at hf
 |b::r,h,f,hf=>by
  rcases List.mem_append.1 (show f∈e0g a b++j06 a r from hf)with hf|hf
  ·have t:=j b (h b mS).1
   have s:=j a m
   have v:=(h b mS).2
   obtain⟨c,o,d⟩:=a
   obtain⟨e,q,i⟩:=b
   simp only at s t
   unfold e0g at hf
   simp only at hf
   by_cases c1:o=q
   ·have k : ¬ (c=e/\d=i):=λ⟨x,y⟩=>v (by rw[x,c1,y])
    simp only[c1,decide_true,cT,List.mem_append]at hf
    rcases hf with hf|hf
    ·by_cases c2:c=e
     ·simp only[c2,decide_true,cT,List.mem_singleton]at hf
      subst hf
      have:d≠i:=λy=>k ⟨c2,y⟩
      unfold okF
      simp only
      split<;>split<;>omega
     ·simp[c2]at hf
    ·by_cases c2:d=i
     ·simp only[c2,decide_true,cT,List.mem_singleton]at hf
      subst hf
      have:c≠e:=λy=>k ⟨y,c2⟩
      unfold okF
      simp only
      split<;>split<;>omega
     ·simp[c2]at hf
   ·simp[c1]at hf
  ·exact n0p j m (λp u=>h p (mC _ u)) f hf
theorem o0p{g:z0}(i:inG g):∀ {l:List O0},(∀ b∈l,b∈g.2.2)->Asc V0 l->∀ f∈q01 l,okF g f
 | [],_,_,f,hf=>by simp[q01]at hf
 |a::r,h,d,f,hf=>by
  rcases List.mem_append.1 (show f∈j06 a r++q01 r from hf)with hf|hf
  ·refine n0p i (h a mS) (λb c=>⟨h b (mC _ c),λe=>?_⟩) f hf
   have:=(List.pairwise_cons.1 d).1 b c
   rw[e,W7.refl]at this;omega
  ·exact o0p i (λb c=>h b (mC _ c)) (List.pairwise_cons.1 d).2 f hf
def N08{g:z0}(a:U0 g=true):∀ f∈q01 g.2.2,okF g f:=by
 grind[x03,o0p]
def Q03:Nat->z0->z0×List (Int×Int)
 |0,g=>(g,[])
 |n+1,g=>match q01 g.2.2 with
  | []=>(g,[])
  |f::_=>((Q03 n (w04 g f)).1,f::(Q03 n (w04 g f)).2)
def Q00(g:z0):z0×List (Int×Int):=bif U0 g then Q03 40 g else(g,[])
theorem d0i:∀(n:Nat) {g:z0},U0 g=true->U0 (Q03 n g).1=true
 |0,g,h=>h
 |n+1,g,h=>by
  unfold Q03
  cases e:q01 g.2.2 with
  |nil=>exact h
  |cons f l=>exact d0i n (p09 h (N08 h f (by grind)))
theorem I0e:∀(n:Nat) {g:z0},U0 g=true->g.2.1<=(n:Int)+1->q01 (Q03 n g).1.2.2 = []
 |0,g,h,a=>by
  cases e:q01 g.2.2 with
  |nil=>exact e
  |cons f l =>
   have:=N08 h f (by grind)
   grind[okF]
 |n+1,g,h,a=>by
  unfold Q03
  cases e:q01 g.2.2 with
  |nil=>exact e
  |cons f l=>exact I0e n (p09 h (N08 h f (by grind))) (by show g.2.1-1<=_;omega)
def R0t(a b:O0):e0g a b = []↔b08 a b=false:=by
 unfold e0g b08
 cases decide (a.2.1=b.2.1)<;>cases decide (a.1=b.1)<;>cases decide (a.2.2=b.2.2)<;>simp
def j0m(a:O0):∀ l,j06 a l = []↔∀ b∈l,b08 a b=false
 | []=>by simp[j06]
 |b::r=>by
  rw[j06,List.append_eq_nil_iff,R0t,j0m a r]
  simp
def n0h:∀ l,q01 l = []↔l.Pairwise λa b=>b08 a b=false
 | []=>by simp[q01]
 |a::r=>by rw[q01,List.append_eq_nil_iff,j0m,n0h r,List.pairwise_cons]
theorem O08(g:z0):N0 g=true↔U0 g=true/\q01 g.2.2 = []:=by
 unfold N0
 rw[aE,g0h,n0h]
def A06{g:z0}(h:U0 g=true):N0 (Q00 g).1=true:=by
 have a:=(V2 h).2.2.1
 grind[Q00,O08,d0i,I0e]
def k0m(l:List O0)(a c e:Int)(s:l.length<=1000):∀(d k fuel:Nat) (acc:List K7),k+d=l.length->d<fuel->acc.length+2*d<=4000000 ->
  M6 l c a e fuel (k:Int) acc=some (acc++j06 (a,c,e) (l.drop k))
 |d,k,0,acc,j,hf,i=>by omega
 |0,k,fuel+1,acc,j,hf,i=>by
  simp_all[M6.eq_2,if_neg,Z0,j06]
 |d+1,k,fuel+1,acc,j,hf,i=>by
  have m:k<l.length:=by omega
  have g:=U3 m
  generalize l[k]=b at g
  obtain⟨o,p,q⟩:=b
  have t:∀ f:List K7,f.length+2*d<=4000000->M6 l c a e fuel ((k+1:Nat):Int) f=some (f++j06 (a,c,e) (l.drop (k+1))):=λf h=>k0m l a c e s d (k+1) fuel f (by omega) (by omega) h
  rw[M6.eq_2,if_pos (by simp;omega),Z1 g,oB,E2 m (by omega),I1 g]
  simp only[j06,e0g]
  cases decide (c=p)
  ·grind
  ·cases decide (a=o)<;>cases decide (e=q)
   all_goals simp only[bT,fT,if_false,if_true,cT,cF,nA,List.append_nil]
   all_goals grind[D0]
def l0m(l:List O0)(j:l.length<=1000):∀(d k fuel:Nat) (acc:List K7),k+d=l.length->d<fuel->acc.length+2000*d<=3000000 ->
  r01 l fuel (k:Int) acc=some (acc++q01 (l.drop k))
 |d,k,0,acc,h,hf,g=>by omega
 |0,k,fuel+1,acc,h,hf,g=>by
  simp_all[r01.eq_2,if_neg,Z0,q01]
 |d+1,k,fuel+1,acc,h,hf,g=>by
  have i:k<l.length:=by omega
  have a:=U3 i
  generalize l[k]=b at a
  obtain⟨c,e,f⟩:=b
  have h0:=k0m (l.drop (k+1)) c e f (by simp;omega) (l.length-(k+1)) 0 P0 acc (by simp) (X0 (by omega)) (by omega)
  have m:=m0h (c,e,f) (l.drop (k+1))
  simp only[List.length_drop]at m
  rw[r01.eq_2,if_pos (by simp;omega),Z1 a,oB]
  simp only[E2 i (show l.length<=9223372036854775807 by omega)]
  rw[K04 (by omega),oB,show(0:Int)=((0:Nat):Int) from rfl,h0,oB,l0m l j d (k+1) fuel _ (by omega) (by omega) (by grind),I1 a,q01]
  simp
theorem m0m(l:List O0)(u:l.length<=1000)(i:Nat)(a c e:Int)(o:l[i]?=some (a,c,e)):∀(d k fuel:Nat) (acc:List K7),k+d=l.length->d<fuel->acc.length+2*d<=4000000 ->
  I5 l (i:Int) fuel (k:Int) acc=some (acc++j06 (a,c,e) (l.drop k))
 |d,k,0,acc,m,hf,j=>by omega
 |0,k,fuel+1,acc,m,hf,j=>by
  simp_all[I5.eq_2,if_neg,Z0,j06]
 |d+1,k,fuel+1,acc,m,hf,j=>by
  have p:k<l.length:=by omega
  have g:=U3 p
  generalize l[k]=b at g
  obtain⟨q,s,t⟩:=b
  have v:∀ f:List K7,f.length+2*d<=4000000->I5 l (i:Int) fuel ((k+1:Nat):Int) f=some (f++j06 (a,c,e) (l.drop (k+1))):=λf h=>m0m l u i a c e o d (k+1) fuel f (by omega) (by omega) h
  rw[I5.eq_2,if_pos (by simp;omega),Z1 o,oB]
  simp only[]
  rw[Z1 g,oB,E2 p (by omega),I1 g]
  simp only[j06,e0g]
  cases decide (c=s)
  ·grind
  ·cases decide (a=q)<;>cases decide (e=t)
   all_goals simp only[Bool.not_true,Bool.false_eq_true,if_false,if_true,cond_true,cond_false,List.nil_append,List.append_nil]
   ·exact v acc (by omega)
   all_goals grind[D0]
def n0m(l:List O0)(j:l.length<=1000):∀(d k fuel:Nat) (acc:List K7),k+d=l.length->d<fuel->acc.length+2000*d<=3000000 ->
  Q9 l fuel (k:Int) acc=some (acc++q01 (l.drop k))
 |d,k,0,acc,h,hf,g=>by omega
 |0,k,fuel+1,acc,h,hf,g=>by
  simp_all[Q9.eq_2,if_neg,Z0,q01]
 |d+1,k,fuel+1,acc,h,hf,g=>by
  have i:k<l.length:=by omega
  have a:=U3 i
  generalize l[k]=b at a
  obtain⟨c,e,f⟩:=b
  have h0:=m0m l j k c e f a (l.length-(k+1)) (k+1) P0 acc (by omega) (X0 (by omega)) (by omega)
  have m:=m0h (c,e,f) (l.drop (k+1))
  simp only[List.length_drop]at m
  rw[Q9.eq_2,if_pos (by simp;omega),E2 i (by omega),h0,oB,n0m l j d (k+1) fuel _ (by omega) (by omega) (by grind),I1 a,q01]
  simp
def p0p(g:z0)(a:g.2.2.length<=1000):B06 g=some (q01 g.2.2):=by
 obtain⟨r,n,es⟩:=g
 unfold B06
 simp only
 rw[show(0:Int)=((0:Nat):Int) from rfl,l0m es a es.length 0 P0 [] (by omega) (X0 (by simp only at a;omega)) (by grind)]
 rfl
def q0p(g:z0)(a:g.2.2.length<=1000):L04 g=some (q01 g.2.2):=by
 obtain⟨r,n,es⟩:=g
 unfold L04
 simp only
 rw[show(0:Int)=((0:Nat):Int) from rfl,n0m es a es.length 0 P0 [] (by omega) (X0 (by simp only at a;omega)) (by grind)]
 rfl
def k06(g:z0):K7×Bool:=bif U0 g then(match q01 g.2.2 with
 | []=>((0,0),false)
 |f::_=>(f,true))else((0,0),false)
def w0i(g:z0)(c:g.2.2.length<=140737488355328):l02 g=some (k06 g):=by
 have b:=f01 g c
 have a:=p0p g
 unfold k06
 cases hg:U0 g with
 |false =>
  grind[l02]
 |true =>
  have a:=a (by have:=(V2 hg).2.2.2;omega)
  obtain⟨r,n,es⟩:=g
  unfold l02
  simp only[b,hg,a,oB,cT]
  simp only at a
  cases q01 es with
  |nil=>rfl
  |cons f l =>
   rw[if_neg (by simp),if_neg (by simp;omega),F0e rfl]
   rfl
def x0i(g:z0)(c:g.2.2.length<=140737488355328):j02 g=some (k06 g):=by
 have b:=t9 g c
 have a:=q0p g
 unfold k06
 cases hg:U0 g with
 |false =>
  grind[j02]
 |true =>
  have a:=a (by have:=(V2 hg).2.2.2;omega)
  obtain⟨r,n,es⟩:=g
  unfold j02
  simp only[b,hg,a,oB,cT]
  simp only at a
  cases q01 es with
  |nil=>rfl
  |cons f l =>
   rw[if_neg (by simp),if_neg (by simp;omega),F0e rfl]
   rfl
def E0s(v:Int)(f:K7)(d:0<=v/\v<1000)(hf:0<=f.1/\f.1<f.2):f05 v f=some (mvV f v):=by
 obtain⟨a,b⟩:=f
 simp only at hf
 unfold f05 mvV
 simp only
 by_cases c:v=b
 ·rw[if_pos (by simp[c]),if_neg (by simp;omega),if_pos c]
 ·rw[if_neg (by simp[c]),if_neg c]
  by_cases c2:v>b
  ·rw[if_pos (by simp[c2]),if_pos c2,w64 (by omega) (by omega)]
  grind
def r0p(v:Int)(f:K7)(d:0<=v/\v<1000):H8 v f=some (mvV f v):=by
 obtain⟨a,b⟩:=f
 unfold H8 mvV
 simp only
 by_cases c:v=b
 ·rw[if_pos (by simp[c]),if_pos c]
 ·rw[if_neg (by simp[c]),if_neg c]
  by_cases c2:v>b
  ·rw[if_pos (by simp[c2]),if_pos c2,w64 (by omega) (by omega)]
  grind
def G0n{f:K7}{v:Int}(a:0<=v/\v<1000)(hf:0<=f.1/\f.1<1000):F0 (mvV f v):=by
 unfold mvV
 split
 ·exact⟨by omega,by omega⟩
 ·split
  ·exact⟨by omega,by omega⟩
  ·exact⟨by omega,by omega⟩
def s0p(es:List O0)(f:K7)(r n:Int)(s:es.length<=1000)(o:∀ e∈es,(0<=e.1/\e.1<1000)/\(0<=e.2.2/\e.2.2<1000))(hf:0<=f.1/\f.1<f.2)(q:f.2<1000):∀(d k fuel:Nat) (acc:List O0),k+d=es.length->d<fuel->acc.length<=k ->
  N5 es f.1 f.2 fuel (k:Int) r n acc=some (r,n,V4 V0 acc ((es.drop k).map (mvE f)))
 |d,k,0,acc,l,m,j=>by omega
 |0,k,fuel+1,acc,l,m,j=>by
  rw[N5.eq_2,if_neg (by simp;omega),Z0 (by omega)]
  rfl
 |d+1,k,fuel+1,acc,l,m,j=>by
  have c:k<es.length:=by omega
  have g:=U3 c
  have a:=o _ (List.getElem_mem c)
  generalize es[k]=b at g a
  obtain⟨h,p,i⟩:=b
  simp only at a
  have t:=o0a (mvE f (h,p,i)) acc
  rw[N5.eq_2,if_pos (by simp;omega),Z1 g,oB]
  simp only[]
  rw[E0s h (f.1,f.2) a.1 hf,oB,D0 (G0n a.1 ⟨hf.1,by show f.1<1000;omega⟩),oB,E0s i (f.1,f.2) a.2 hf,oB,D0 (G0n a.2 ⟨hf.1,by show f.1<1000;omega⟩),oB,
   d08 acc _ (by omega),oB,E2 c (by omega),I1 g,List.map_cons]
  exact s0p es f r n s o hf q d (k+1) fuel _ (by omega) (by omega) (Nat.le_trans t (by omega))
def t0p{g:z0}{f:K7}(d:U0 g=true)(hf:okF g f):R9 g f=some (w04 g f,true):=by
 obtain⟨k,o,l,m⟩:=V2 d
 have i:=t9 g (by omega)
 obtain⟨c,f2,f3⟩:=hf
 obtain⟨r,n,es⟩:=g
 obtain⟨a,b⟩:=f
 simp only at c f2 f3 l m
 have h:=s0p es (a,b) r (i64.wrap (n-1)) (by omega) (λe j=>by
  have:=k e j
  grind) ⟨c,f2⟩ (by simp only;omega) es.length 0 P0 [] (by omega) (X0 (by omega)) (Nat.le_refl _)
 unfold R9
 simp only[i,d,oB]
 rw[if_neg (by simp;omega),show(0:Int)=((0:Nat):Int) from rfl,h,w64 (by omega) (by omega)]
 rfl
def u0p(es:List O0)(f:K7)(s:es.length<=1000)(l:∀ e∈es,(0<=e.1/\e.1<1000)/\(0<=e.2.2/\e.2.2<1000))(hf:0<=f.1/\f.1<1000):∀(d k fuel:Nat),k+d=es.length->d<fuel ->
  O5 es f.1 f.2 fuel (k:Int) ((es.take k).map (mvE f)++es.drop k)=some (es.map (mvE f))
 |d,k,0,i,j=>by omega
 |0,k,fuel+1,i,j=>by
  rw[O5.eq_2,if_neg (by simp;omega),Z0 (by omega),List.append_nil,List.take_of_length_le (by omega)]
 |d+1,k,fuel+1,i,j=>by
  have c:k<es.length:=by omega
  have m:=U3 c
  have a:=l _ (List.getElem_mem c)
  generalize es[k]=b at m a
  have u:((es.take k).map (mvE f)).length=k:=by simp;omega
  have q:((es.take k).map (mvE f)++es.drop k)[k]?=some b:=by
   grind
  have t:∀ y,((es.take k).map (mvE f)++es.drop k).set k y=(es.take k).map (mvE f)++y::es.drop (k+1):=λy=>by
   simp_all[List.set_append_right,I1]
  obtain⟨g,p,h⟩:=b
  simp only at a
  have e:(es.take (k+1)).map (mvE f)++es.drop (k+1)=(es.take k).map (mvE f)++mvE f (g,p,h)::es.drop (k+1):=by
   rw[o0s m];simp
  have o:=u0p es f s l hf d (k+1) fuel (by omega) (by omega)
  rw[e]at o
  rw[O5.eq_2,if_pos (by simp;omega),Z1 q,oB]
  simp only[]
  rw[r0p g (f.1,f.2) a.1,oB,D0 (G0n a.1 hf),oB,r0p h (f.1,f.2) a.2,oB,D0 (G0n a.2 hf),oB]
  simp only[oB]
  rw[show((k:Nat):Int).toNat=k from iN k,t,E2 c (by omega)]
  exact o
def v0p{g:z0}{f:K7}(d:U0 g=true)(hf:okF g f):S9 g f=some (w04 g f,true):=by
 obtain⟨l,p,m,o⟩:=V2 d
 have i:=f01 g (by omega)
 have j:=i03 g (by omega)
 obtain⟨c,f2,f3⟩:=hf
 obtain⟨r,n,es⟩:=g
 obtain⟨a,b⟩:=f
 simp only at c f2 f3 m o
 have h:=u0p es (a,b) (by omega) (λe k=>by
  have:=l e k
  grind) ⟨c,by simp only;omega⟩ es.length 0 P0 (by omega) (X0 (by omega))
 simp only[List.take_zero,List.map_nil,nA,dZ]at h
 unfold S9
 simp only[i,j,d,oB]
 rw[if_neg (by simp;omega),show(0:Int)=((0:Nat):Int) from rfl,h,oB,X0f _ (by simp;omega),oB,w64 (by omega) (by omega)]
 rfl
def P04(g:z0):z0×K7×Bool:=bif U0 g then(match q01 g.2.2 with
 | []=>(g,(0,0),false)
 |f::_=>(w04 g f,f,true))else(g,(0,0),false)
theorem u0c(g:z0)(d:g.2.2.length<=1099511627776):f04 g=some (P04 g):=by
 have c:=x0i g (by omega)
 have e:=P00 g d
 have h:∀ f,U0 g=true->okF g f->R9 g f=some (w04 g f,true):=λf a b=>t0p a b
 have i:U0 g=true->∀ f∈q01 g.2.2,okF g f:=N08
 unfold k06 at c
 unfold P04
 obtain⟨r,n,es⟩:=g
 unfold f04
 grind
theorem v0c(g:z0)(d:g.2.2.length<=1099511627776):i04 g=some (P04 g):=by
 have c:=w0i g (by omega)
 have e:=i03 g d
 have h:∀ f,U0 g=true->okF g f->S9 g f=some (w04 g f,true):=λf a b=>v0p a b
 have i:U0 g=true->∀ f∈q01 g.2.2,okF g f:=N08
 unfold k06 at c
 unfold P04
 obtain⟨r,n,es⟩:=g
 unfold i04
 grind
def h0y:(z0×Y01) ⊕ (Int×Int×S0×(List K7))->Option (z0×Y01):=λX=>z9 X (λS=>match S with
 |(a,b,c,e)=>some ((a,b,c),e))
def m0k:∀(d k fuel:Nat) (g:z0) (acc:List K7),k+d=40->d<fuel->U0 g=true->acc.length=k ->
  (G8 fuel (k:Int) g.1 g.2.1 g.2.2 acc).bind h0y=some ((Q03 d g).1,acc++(Q03 d g).2)
 |d,k,0,g,acc,h,hf,a,c=>by omega
 |0,k,fuel+1,g,acc,h,hf,a,c=>by
  simp_all[G8.eq_2,if_neg,h0y,z9,Q03]
 |d+1,k,fuel+1,g,acc,h,hf,a,c=>by
  have b:=u0c g (by have:=(V2 a).2.2.2;omega)
  have i:=N08 a
  unfold P04 at b
  rw[a]at b
  simp only[cT]at b
  rw[G8.eq_2,if_pos (by simp;omega),show(g.1,g.2.1,g.2.2)=g from rfl,b]
  unfold Q03
  cases e:q01 g.2.2 with
  |nil=>simp[h0y,z9]
  |cons f l =>
   have j:=m0k d (k+1) fuel (w04 g f) (acc ++ [f]) (by omega) (by omega) (p09 a (i f (by grind))) (by simp[c])
   simp only[oB,bT,fT,if_false]
   rw[D0 (by simp;omega),oB,E2 (show k<1000 by omega) (by omega)]
   grind
def g0e(g:z0)(b:g.2.2.length<=1099511627776):M04 g=some (Q00 g):=by
 have a:=u0c g b
 have c:=P00 g b
 have d:=m0k 40 0 P0 g [] rfl (X0 (by omega))
 unfold Q00
 obtain⟨r,n,es⟩:=g
 unfold M04
 simp only[c,oB]
 cases hg:U0 (r,n,es)with
 |false =>
  unfold P04 at a
  rw[hg]at a
  simp only[cF]at a
  rw[show P0=(P0-1)+1 from rfl,G8.eq_2,if_pos (by simp),a]
  rfl
 |true=>exact d hg rfl
def n0k:∀(d fuel:Nat) (g:z0) (acc:List K7),d<fuel->U0 g=true->q01 (Q03 d g).1.2.2 = []->acc.length+d<=1000 ->
  T9 fuel g.1 g.2.1 g.2.2 acc=some (.inl ((Q03 d g).1,acc++(Q03 d g).2))
 |d,0,g,acc,hf,a,c,j=>by omega
 |d,fuel+1,g,acc,hf,a,c,j=>by
  have b:=v0c g (by have:=(V2 a).2.2.2;omega)
  have i:=N08 a
  unfold P04 at b
  rw[a]at b
  simp only[cT]at b
  rw[T9.eq_2,show(g.1,g.2.1,g.2.2)=g from rfl,b]
  cases e:q01 g.2.2 with
  |nil =>
   have h:Q03 d g=(g,[]):=by
    cases d with
    |zero=>rfl
    |succ d=>unfold Q03;rw[e]
   rw[h]
   simp
  |cons f l =>
   cases d with
   |zero=>exact absurd e (by rw[show q01 g.2.2 = [] from c];simp)
   |succ d =>
    have h:Q03 (d+1) g=((Q03 d (w04 g f)).1,f::(Q03 d (w04 g f)).2):=by
     show(match q01 g.2.2 with | []=>(g,[])|f::_=>((Q03 d (w04 g f)).1,f::(Q03 d (w04 g f)).2))=_
     rw[e]
    rw[h]at c ⊢
    have k:=n0k d fuel (w04 g f) (acc ++ [f]) (by omega) (p09 a (i f (by grind))) c (by simp;omega)
    simp only[oB,bT,fT,if_false]
    rw[D0 (by simp;omega),oB]
    grind
def h0e(g:z0)(c:g.2.2.length<=1099511627776):O04 g=some (Q00 g):=by
 have b:=v0c g c
 have d:=i03 g c
 have e:=n0k 40 P0 g [] (X0 (by omega))
 have f:U0 g=true->q01 (Q03 40 g).1.2.2 = []:=λa=>I0e 40 a (by have:=(V2 a).2.2.1;omega)
 unfold Q00
 obtain⟨r,n,es⟩:=g
 unfold O04
 simp only[d,oB]
 cases a:U0 (r,n,es)with
 |false =>
  unfold P04 at b
  rw[a]at b
  simp only[cF]at b
  rw[show P0=(P0-1)+1 from rfl,T9.eq_2,b]
  rfl
 |true =>
  have h:=e a (f a) (by simp)
  simp only at h
  rw[h]
  rfl
def q0a{g:z0}(h:U0 g=true):Asc V0 g.2.2:=((x03 g).1 h).2.2.2.2
def stp(u x v:Int):O0:=if x<0 then(v,-x,u)else(u,x,v)
def w05(v:Int):List Int->Int->Int->List O0
 | [],_,_=>[]
 | [x],u,_=>[stp u x v]
 |x::y::r,u,n=>stp u x n::w05 v (y::r) n (n+1)
def s0d(v:Int):∀(w:List Int) (u n:Int),(w05 v w u n).length=w.length
 | [],_,_=>rfl
 | [x],_,_=>rfl
 |x::y::r,u,n=>by simp only[w05,lC,s0d v (y::r)]
def b0r(u x v:Int)(a:j5 x):N04 u x v=some (stp u x v):=by
 unfold N04 stp
 by_cases c:x<0
 ·rw[if_pos (by simp[c]),if_pos c,p0c a.1 a.2]
 grind
def H0n(w:List Int)(v:Int)(r:Int)(e:∀ x∈w,j5 x)(j:w.length<=1000):∀(d k fuel:Nat) (u n:Int) (es:List O0),k+d=w.length->d<fuel->0<=n->n<=1000+k->es.length<=1000+k ->
  I8 w v fuel u (k:Int) r n es=some (r,n+((d-1:Nat):Int),es++w05 v (w.drop k) u n)
 |d,k,0,u,n,es,i,hf,h0,g,h=>by omega
 |0,k,fuel+1,u,n,es,i,hf,h0,g,h=>by
  simp_all[I8.eq_2,if_neg,Z0,w05]
 |d+1,k,fuel+1,u,n,es,i,hf,h0,g,h=>by
  have a:k<w.length:=by omega
  have f:=U3 a
  have b:=e _ (List.getElem_mem a)
  generalize w[k]=x at f b
  rw[I8.eq_2,if_pos (by simp;omega),Z1 f,oB,K0f (by omega) (by omega),I1 f]
  by_cases c:k+1<w.length
  ·rw[if_pos (by simp;omega),b0r u x n b,oB]
   have l:=U3 c
   generalize w[k+1]=y at l
   have m:=H0n w v r e j d (k+1) fuel n (n+1) (es ++ [stp u x n]) (by omega) (by omega) (by omega) (by omega) (by simp;omega)
   simp only[oB]
   rw[D0 (by simp;omega),oB,E2 a (by omega),w64 (show(-9223372036854775808:Int)<=n+1 by omega) (by omega)]
   refine m.trans ?_
   rw[I1 l]
   grind[w05,List.append_assoc,List.singleton_append]
  ·have o:d=0:=by omega
   subst o
   rw[if_neg (by simp;omega),b0r u x v b,oB]
   have m:=H0n w v r e j 0 (k+1) fuel v n (es ++ [stp u x v]) (by omega) (by omega) h0 (by omega) (by simp;omega)
   grind[D0,E2,Z0,w05]
def I0n(w:List Int)(v:Int)(r:Int)(h:∀ x∈w,j5 x/\x≠0)(o:w.length<=1000):∀(d k fuel:Nat) (u n:Int) (es:List O0),k+d=w.length->d<fuel->0<=n->n<=1000+k->es.length<=1000+k ->
  L6 w v fuel u (k:Int) r n es=some (r,n+((d-1:Nat):Int),V4 V0 es (w05 v (w.drop k) u n))
 |d,k,0,u,n,es,m,hf,h0,j,l=>by omega
 |0,k,fuel+1,u,n,es,m,hf,h0,j,l=>by
  simp_all[L6.eq_2,if_neg,Z0,w05,V4]
 |d+1,k,fuel+1,u,n,es,m,hf,h0,j,l=>by
  have f:k<w.length:=by omega
  have g:=U3 f
  have a:=h _ (List.getElem_mem f)
  generalize w[k]=x at g a
  have p:∀ e,(p02 V0 e es).length<=1000+(k+1):=λe=>by grind[o0a]
  rw[L6.eq_2,if_pos (by simp;omega),I1 g]
  by_cases c:k+1<w.length
  ·have i:=U3 c
   generalize w[k+1]=y at i
   have b:=I0n w v r h o d (k+1) fuel n (n+1) (p02 V0 (stp u x n) es) (by omega) (by omega) (by omega) (by omega) (p _)
   rw[I1 i]at b
   rw[E2 f (by omega),if_pos (by simp;omega),Z1 g,oB,w64 (show(-9223372036854775808:Int)<=n+1 by omega) (by omega),I1 i]
   have fin:some (r,n+1+((d-1:Nat):Int),V4 V0 (p02 V0 (stp u x n) es) (w05 v (y::w.drop (k+1+1)) n (n+1)))=some (r,n+((d+1-1:Nat):Int),V4 V0 es (w05 v (x::y::w.drop (k+1+1)) u n)):=by
    grind[w05,V4]
   by_cases c2:x>0
   ·have e:stp u x n=(u,x,n):=by unfold stp;rw[if_neg (by omega)]
    rw[if_pos (by simp[c2])]
    grind[d08]
   ·have e:stp u x n=(n,-x,u):=by unfold stp;rw[if_pos (by omega)]
    rw[if_neg (by simp;omega)]
    simp only[oB]
    rw[p0c a.1.1 a.1.2,d08 es _ (by omega),oB,←e]
    exact b.trans fin
  ·have q:d=0:=by omega
   subst q
   have b:=I0n w v r h o 0 (k+1) fuel v n (p02 V0 (stp u x v) es) (by omega) (by omega) h0 (by omega) (p _)
   rw[Z0 (show k+1=w.length by omega)]at b ⊢
   rw[E2 f (by omega),if_neg (by simp;omega),Z1 g,oB]
   have fin:some (r,n+((0-1:Nat):Int),V4 V0 (p02 V0 (stp u x v) es) (w05 v [] v n))=some (r,n+((0+1-1:Nat):Int),V4 V0 es (w05 v [x] u n)):=by
    simp[w05,V4]
   by_cases c2:x>0
   ·have e:stp u x v=(u,x,v):=by unfold stp;rw[if_neg (by omega)]
    rw[if_pos (by simp[c2])]
    grind[d08]
   ·have e:stp u x v=(v,-x,u):=by unfold stp;rw[if_pos (by omega)]
    rw[if_neg (by simp;omega)]
    simp only[oB]
    rw[p0c a.1.1 a.1.2,d08 es _ (by omega),oB,←e]
    exact b.trans fin
def c0r{es p:List O0}(a:Asc V0 es):V4 V0 [] (es++p)=V4 V0 es p :=
 D0e W7 (H04 W7 _ _ .nil) (H04 W7 _ _ a) λx=>by
  grind[J01,W7]
def J4(g:z0)(u:Int)(w:List Int)(v:Int):z0×Bool :=
 bif !w.isEmpty&&decide (g.2.1+(w.length:Int)-1<=40)&&decide (g.2.2.length+w.length<=120)then((g.1,g.2.1+((w.length-1:Nat):Int),V4 V0 g.2.2 (w05 v w u g.2.1)),true)else(g,false)
theorem M05{r:Int}{w:List Int}(h:G2 r w=true):w.length<=24/\∀ x∈w,j5 x/\x≠0 /\ -r<=x/\x<=r:=by
 have a:=h
 simp only[G2,aE,dE]at a
 refine⟨a.1.2,λx c=>?_⟩
 obtain⟨i,b⟩:=List.getElem?_of_mem c
 have:=Z0h h b
 exact⟨⟨⟨by omega,by omega⟩,by omega⟩,this.2.2⟩
theorem F09{g:z0}{u v:Int}{w:List Int}(hg:U0 g=true)(hu:0<=u/\u<g.2.1)(hv:0<=v/\v<g.2.1)(hw:G2 g.1 w=true):t02 g u w v=some (J4 g u w v):=by
 obtain⟨q1,q2,q3,q4⟩:=V2 hg
 obtain⟨wl,wx⟩:=M05 hw
 have h1:=t9 g (by omega)
 have h2:=P00 g (by omega)
 have h3:=X02 g.1 w (by omega)
 obtain⟨r,n,es⟩:=g
 simp only at q3 q4 hu hv h3
 have hwp:IntKind.i64.wrap (n-1)=n-1:=w64 (by omega) (by omega)
 have hin:∀ x:Int,0<=x/\x<n->inR 0 (n-1) x=true:=λx hx=>by simp[inR];omega
 have h:=I0n w v r (λx hx=>⟨(wx x hx).1,(wx x hx).2.1⟩) (by omega) w.length 0 P0 u n es (by omega) (X0 (by omega)) (by omega) (by omega) (by omega)
 unfold t02 J4
 simp only[h1,h2,hg,oB,Bool.not_true,Bool.not_false,E1,cond_false,hwp,J02,hin u hu,hin v hv,h3,hw]
 rw[w64 (show(-9223372036854775808:Int)<=n+((w.length:Nat):Int) by omega) (by omega),w64 (show(-9223372036854775808:Int)<=n+((w.length:Nat):Int)-1 by omega) (by omega),w64 (show(-9223372036854775808:Int)<=((es.length:Nat):Int)+((w.length:Nat):Int) by omega) (by omega)]
 by_cases c:(w≠[]/\n+(w.length:Int)-1<=40)/\es.length+w.length<=120
 ·have hne:w.length≠0:=by simpa using c.1.1
  grind
 grind
def y0v{g:z0}(a:U0 g=true){u:Int}(b:0<=u/\u<g.2.1):H5 g u=some true:=by
 obtain⟨c,d,e,f⟩:=V2 a
 grind[H5,W02,w64,inR]
theorem i0e{g:z0}{u v:Int}{w:List Int}(a:U0 g=true)(e:0<=u/\u<g.2.1)(f:0<=v/\v<g.2.1)(i:G2 g.1 w=true):y03 g u w v=some (J4 g u w v):=by
 obtain⟨y,z,p,q⟩:=V2 a
 obtain⟨wl,s⟩:=M05 i
 have j:=f01 g (by omega)
 have k:=i03 g (by omega)
 have b:=v06 g.1 w (by omega)
 have l:=y0v a e
 have m:=y0v a f
 have d:=q0a a
 obtain⟨r,n,es⟩:=g
 simp only at p q e f b d
 have h:=H0n w v r (λx o=>(s x o).1) (by omega) w.length 0 P0 u n es (by omega) (X0 (by omega)) (by omega) (by omega) (by omega)
 have t:=s0d v w u n
 unfold y03 J4
 simp only[j,k,a,oB,Bool.not_true,Bool.not_false,E1,cond_false,l,m]
 rw[w64 (show(-9223372036854775808:Int)<=n+((w.length:Nat):Int) by omega) (by omega),w64 (show(-9223372036854775808:Int)<=n+((w.length:Nat):Int)-1 by omega) (by omega),w64 (show(-9223372036854775808:Int)<=((es.length:Nat):Int)+((w.length:Nat):Int) by omega) (by omega)]
 by_cases d1:w = []
 ·subst d1
  simp[chk]
 rw[show decide (((w.length:Nat):Int)=0)=false by simp[d1],show(!false)=true from rfl,E1,b,oB,i]
 by_cases c:n+(w.length:Int)-1<=40/\es.length+w.length<=120
 ·rw[if_neg (by grind),show(0:Int)=((0:Nat):Int) from rfl,h,oB]
  rw[show(!w.isEmpty&&decide (n+(w.length:Int)-1<=40)&&decide (es.length+w.length<=120))=true by simp[d1,c.1,c.2]]
  simp only[List.drop_zero,cond_true]
  rw[X0f _ (by simp;omega),c0r d]
  rfl
 grind
def J3(g:z0):z0×Bool:=bif decide (g.2.1<40)then((g.1,g.2.1+1,g.2.2),true)else(g,false)
def q0b{g:z0}(a:U0 g=true):k02 g=some (J3 g):=by
 obtain⟨f,h,e,i⟩:=V2 a
 have b:=t9 g (by omega)
 have d:=P00 g (by omega)
 obtain⟨r,n,es⟩:=g
 simp only at e
 unfold k02 J3
 simp only[b,d,a,oB,bT,cF]
 by_cases c:n<40
 ·rw[if_neg (by simp;omega),w64 (by omega) (by omega)];simp[c]
 grind
def y0i{g:z0}(a:U0 g=true):z03 g=some (J3 g):=by
 obtain⟨f,h,e,i⟩:=V2 a
 have b:=f01 g (by omega)
 have d:=i03 g (by omega)
 obtain⟨r,n,es⟩:=g
 simp only at e
 unfold z03 J3
 simp only[b,d,a,oB,bT,cF]
 by_cases c:n<40
 ·rw[if_neg (by simp;omega),w64 (by omega) (by omega)];simp[c]
 grind
def j04{g:z0}(b:U0 g=true):U0 (J3 g).1=true:=by
 unfold J3
 by_cases c:g.2.1<40
 ·simp only[c,decide_true,cT]
  obtain⟨d,f,j,h,i⟩:=(x03 g).1 b
  refine(x03 _).2 ⟨λe a=>?_,f,?_,h,i⟩
  ·have:=d e a
   simp only
   omega
  ·simp only;omega
 grind
def F0s(es:List O0)(e:O0)(j:es.length<=140737488355328):∀(d k fuel:Nat),k+d=es.length->d<fuel ->
  ∃ a,L2 es e.1 e.2.1 e.2.2 fuel (k:Int)=some a/\((∃ i:Nat,a = .inl (i:Int)/\i<es.length/\e∈es.drop k)∨(a = .inr ()/\e ∉ es.drop k))
 |d,k,0,g,hf=>by omega
 |0,k,fuel+1,g,hf=>by
  simp_all[L2.eq_2,if_neg,Z0]
 |d+1,k,fuel+1,g,hf=>by
  have h:k<es.length:=by omega
  have f:=U3 h
  generalize es[k]=b at f
  rw[L2.eq_2,if_pos (by simp;omega),Z1 f,oB,I1 f]
  simp only[]
  by_cases c:eqE e b=true
  ·rw[if_pos c]
   grind[c08,List.mem_cons_self]
  ·rw[if_neg c,E2 h (by omega)]
   obtain⟨a,l,m⟩:=F0s es e j d (k+1) fuel (by omega) (by omega)
   grind[c08,mC]
def d0r(es:List O0)(e:O0)(b:es.length<=140737488355328):i4 es e=some (decide (e∈es)):=by
 obtain⟨g,c,a⟩:=F0s es e b es.length 0 P0 (by omega) (X0 b)
 obtain⟨h,j,k⟩:=e
 unfold i4 r6
 simp only
 simp only[dZ]at a
 rw[show(0:Int)=((0:Nat):Int) from rfl,c]
 rcases a with⟨i,rfl,d,f⟩|⟨rfl,d⟩
 ·simp only[oB,P2]
  rw[D0 (show F0 ((i:Nat):Int) from⟨by omega,by omega⟩)]
  simp[f]
 grind[Q0,D0,F0]
def r0b(g:z0)(v:Int):List Int->List O0
 | []=>[]
 |x::r=>(bif decide (D1 g v x<0)then [(v,x,-1)]else [])++r0b g v r
def j0e(g:z0):Nat->Nat->List O0
 |0,_=>[]
 |d+1,v=>r0b g (v:Int) (B7 g.1.toNat 1)++j0e g d (v+1)
def t0d(g:z0)(v:Int):∀ l,(r0b g v l).length<=l.length
 | []=>Nat.le_refl _
 |x::r=>by
  have:=t0d g v r
  simp only[r0b,lA,lC]
  cases decide (D1 g v x<0)<;>simp<;>omega
def w0p(g:z0)(j:U0 g=true)(v:Int)(a:List Int)(l:∀ x∈a,j5 x)(o:a.length<=1000):∀(d k fuel:Nat) (acc:List O0),k+d=a.length->d<fuel->acc.length+d<=100000 ->
  L4 a g.1 g.2.1 g.2.2 v fuel (k:Int) acc=some (acc++r0b g v (a.drop k))
 |d,k,0,acc,i,hf,f=>by omega
 |0,k,fuel+1,acc,i,hf,f=>by
  simp_all[L4.eq_2,if_neg,Z0,r0b]
 |d+1,k,fuel+1,acc,i,hf,f=>by
  obtain⟨q,t,s,u⟩:=V2 j
  have c:k<a.length:=by omega
  have e:=U3 c
  have m:=l _ (List.getElem_mem c)
  generalize a[k]=x at e m
  have p:∀ b:List O0,b.length+d<=100000->L4 a g.1 g.2.1 g.2.2 v fuel ((k+1:Nat):Int) b=some (b++r0b g v (a.drop (k+1))):=λb h=>w0p g j v a l o d (k+1) fuel b (by omega) (by omega) h
  rw[L4.eq_2,if_pos (by simp;omega),Z1 e,oB,show(g.1,g.2.1,g.2.2)=g from rfl,U03 g v x m (by omega),oB,D0 (V03 q s.2 v x),oB,E2 c (by omega),I1 e,r0b]
  cases decide (D1 g v x<0)with
  |true =>
   rw[if_pos rfl,oB,D0 (by simp;omega),oB,p _ (by simp;omega)]
   simp
  |false =>
   grind
def x0p(g:z0)(j:U0 g=true)(v:Int)(a:List Int)(l:∀ x∈a,j5 x)(o:a.length<=1000):∀(d k fuel:Nat) (acc:List O0),k+d=a.length->d<fuel->acc.length+d<=100000 ->
  M4 a g.1 g.2.1 g.2.2 v fuel (k:Int) acc=some (acc++r0b g v (a.drop k))
 |d,k,0,acc,i,hf,f=>by omega
 |0,k,fuel+1,acc,i,hf,f=>by
  simp_all[M4.eq_2,if_neg,Z0,r0b]
 |d+1,k,fuel+1,acc,i,hf,f=>by
  obtain⟨q,t,s,u⟩:=V2 j
  have c:k<a.length:=by omega
  have e:=U3 c
  have m:=l _ (List.getElem_mem c)
  generalize a[k]=x at e m
  have p:∀ b:List O0,b.length+d<=100000->M4 a g.1 g.2.1 g.2.2 v fuel ((k+1:Nat):Int) b=some (b++r0b g v (a.drop (k+1))):=λb h=>x0p g j v a l o d (k+1) fuel b (by omega) (by omega) h
  rw[M4.eq_2,if_pos (by simp;omega),Z1 e,oB,show(g.1,g.2.1,g.2.2)=g from rfl,M08 g v x m (by omega),oB,D0 (V03 q s.2 v x),oB,E2 c (by omega),I1 e,r0b]
  cases decide (D1 g v x<0)with
  |true =>
   rw[if_pos rfl,D0 (by simp;omega),oB,p _ (by simp;omega)]
   simp
  |false =>
   grind
theorem f0g:∀(d i:Nat) (x:Int),x∈B7 d i->∃ a:Nat,i<=a/\a<i+d/\(x=(a:Int)∨x = -(a:Int))
 |0,i,x,h=>by simp[B7]at h
 |d+1,i,x,h=>by
  simp only[B7,mE]at h
  rcases h with rfl|rfl|h
  ·grind
  ·grind
  ·obtain⟨a,b,c,e⟩:=f0g d (i+1) x h
   grind
def y0p(g:z0)(a:N0 g=true):∀(d k fuel:Nat) (acc:List O0),k+d=g.2.1.toNat->d<fuel->acc.length+100*d<=10000 ->
  A6 g.2.1 g.1 g.2.2 fuel (k:Int) acc=some (acc++j0e g d k)
 |d,k,0,acc,c,hf,b=>by omega
 |0,k,fuel+1,acc,c,hf,b=>by
  grind[F1,A6.eq_2,decide,chk,j0e]
 |d+1,k,fuel+1,acc,c,hf,b=>by
  obtain⟨s,t,u,v⟩:=F1 a
  have e:=((O08 g).1 a).1
  obtain⟨R,m⟩:∃ R:Nat,g.1=(R:Int):=⟨g.1.toNat,by omega⟩
  have f:∀ x∈B7 g.1.toNat 1,j5 x:=λx h=>by
   obtain⟨q,i,j,l⟩:=f0g _ _ _ h
   refine⟨⟨by omega,by omega⟩,by omega⟩
  have o:=v03 g.1.toNat 1
  have p:=t0d g (k:Int) (B7 g.1.toNat 1)
  have h0:=w0p g e (k:Int) (B7 g.1.toNat 1) f (by omega) (B7 g.1.toNat 1).length 0 P0 acc (by omega) (X0 (by omega)) (by omega)
  rw[A6.eq_2,show decide (((k:Nat):Int)<g.2.1)=true by simp;omega,E1,show(g.1,g.2.1,g.2.2)=g from rfl,K6 g (by omega),oB,a]
  rw[if_pos (show(bif true then true else false)=true from rfl),show F8 g.1=some (B7 g.1.toNat 1) by grind[C0n],oB,show(0:Int)=((0:Nat):Int) from rfl,h0,oB,E2 (show k<1000 by omega) (by omega),y0p g a d (k+1) fuel _ (by omega) (by omega) (by simp;omega),j0e]
  simp
def z0p(g:z0)(a:N0 g=true):∀(d k fuel:Nat) (acc:List O0),k+d=g.2.1.toNat->d<fuel->acc.length+100*d<=10000 ->
  B6 g.2.1 g.1 g.2.2 fuel (k:Int) acc=some (acc++j0e g d k)
 |d,k,0,acc,c,hf,b=>by omega
 |0,k,fuel+1,acc,c,hf,b=>by
  obtain⟨i,j,l,m⟩:=F1 a
  rw[B6.eq_2,if_neg (by simp;omega)]
  simp[j0e]
 |d+1,k,fuel+1,acc,c,hf,b=>by
  obtain⟨i,j,l,m⟩:=F1 a
  have e:=((O08 g).1 a).1
  obtain⟨R,s⟩:∃ R:Nat,g.1=(R:Int):=⟨g.1.toNat,by omega⟩
  have f:∀ x∈B7 g.1.toNat 1,j5 x:=λx h=>by
   obtain⟨v,o,p,q⟩:=f0g _ _ _ h
   refine⟨⟨by omega,by omega⟩,by omega⟩
  have t:=v03 g.1.toNat 1
  have u:=t0d g (k:Int) (B7 g.1.toNat 1)
  have h0:=x0p g e (k:Int) (B7 g.1.toNat 1) f (by omega) (B7 g.1.toNat 1).length 0 P0 acc (by omega) (X0 (by omega)) (by omega)
  rw[B6.eq_2,if_pos (by simp;omega),show m01 g.1=some (B7 g.1.toNat 1) by grind[Y0q],oB,show(0:Int)=((0:Nat):Int) from rfl,h0,oB,E2 (show k<1000 by omega) (by omega),z0p g a d (k+1) fuel _ (by omega) (by omega) (by simp;omega),j0e]
  simp
def A03(g:z0):List O0:=j0e g g.2.1.toNat 0
def m0l{g:z0}(hf:N0 g=true):u00 g=some (A03 g):=by
 obtain⟨a,b,c,d⟩:=F1 hf
 have h:=y0p g hf g.2.1.toNat 0 P0 [] (by omega) (X0 (by omega)) (by simp;omega)
 grind[u00,A03]
def n0l{g:z0}(hf:N0 g=true):v00 g=some (A03 g):=by
 obtain⟨b,c,d,e⟩:=F1 hf
 have h:=z0p g hf g.2.1.toNat 0 P0 [] (by omega) (X0 (by omega)) (by simp;omega)
 have a:=n01 g (by omega)
 simp_all[v00,A03,oB,if_neg]
def q09{g:z0}(a:U0 g=true)(u:Int)(w:List Int)(v:Int):(J4 g u w v).1.2.2.length<=120:=by
 have q:=(V2 a).2.2.2
 unfold J4
 cases hc:(!w.isEmpty&&decide (g.2.1+(w.length:Int)-1<=40)&&decide (g.2.2.length+w.length<=120))with
 |false=>exact q
 |true =>
  simp only[aE,dE]at hc
  have b:=Z02 (w05 v w u g.2.1) g.2.2
  have c:=s0d v w u g.2.1
  simp only[cT]
  omega
theorem e0r(g:Nat):∀(d k:Nat) (x:Int),x∈wo g d k->∃ a:Nat,x=(a:Int)/\k<=a/\a<k+d
 |0,k,x,h=>nomatch h
 |d+1,k,x,h=>by
  unfold wo at h
  split at h
  ·obtain⟨a,b,c,e⟩:=e0r g d (k+1) x h
   grind
  ·rcases mE.1 h with rfl|h
   ·grind
   ·obtain⟨a,b,c,e⟩:=e0r g d (k+1) x h
    grind
def w0c(g:Nat):∀(d k:Nat),(wo g d k).Nodup
 |0,k=>List.nodup_nil
 |d+1,k=>by
  unfold wo
  split
  ·exact w0c g d (k+1)
  ·refine List.nodup_cons.2 ⟨λh=>?_,w0c g d (k+1)⟩
   grind[e0r]
def J0n(P:List Int):∀(es:List O0),∀ e∈pE P es,∃ a∈es,e=(getI P a.1,a.2.1,getI P a.2.2)/\0<=getI P a.1/\0<=getI P a.2.2
 | [],e,h=>nomatch h
 |b::r,e,h=>by
  unfold pE at h
  cases hb:decide (0<=getI P b.1)&&decide (0<=getI P b.2.2)
  ·rw[hb]at h
   obtain⟨a,c,d⟩:=J0n P r e h
   grind
  ·rw[hb]at h
   simp only[aE,dE]at hb
   rcases mE.1 h with rfl|h
   ·grind
   ·obtain⟨a,c,d⟩:=J0n P r e h
    grind
def J0e{g:z0}{o:List Int}(d:U0 g=true)(l:inV g.2.1.toNat o)(i:1<=o.length)(j:o.length<=40):U0 (G00 g o)=true:=by
 obtain⟨f,h,s,t⟩:=V2 d
 have k:=z0n (plc g.2.1.toNat o) g.2.2
 refine d0g h ⟨by omega,by omega⟩ (by omega) λe c=>?_
 obtain⟨a,b,rfl,p,q⟩:=J0n _ _ e c
 have m:=f a b
 simp_all[j0h]
def o0k{n:Nat}:∀(o:List Int) (k:Nat) (A:List Int),A.length=n->inV n o->o.Nodup->(∀ x,0<=x->getI A x<(k:Int))->(∀ x y,0<=x->0<=y->0<=getI A x->getI A x=getI A y->x=y) ->
  ∀ x y,0<=x->0<=y->0<=getI (W03 A k o) x->getI (W03 A k o) x=getI (W03 A k o) y->x=y
 | [],k,A,e,c,f,b,h=>h
 |v::r,k,A,e,c,f,b,h=>by
  have d:=c v mS
  refine o0k r (k+1) (A.set v.toNat (k:Int)) (by simp[e]) (λw j=>c w (mC _ j)) (List.nodup_cons.1 f).2 (λx a=>?_) (λx y a i h0 g=>?_)
  ·rw[C07 d.1 (by omega) a]
   have:=b x a
   split<;>omega
  ·rw[C07 d.1 (by omega) a]at h0 g
   rw[C07 d.1 (by omega) i]at g
   have l:=b x a
   have m:=b y i
   by_cases c1:x=v
   all_goals grind
theorem G0s{n:Nat}{o:List Int}(d:inV n o)(b:o.Nodup){x y:Int}(a:0<=x)(e:0<=y)(h0:0<=getI (plc n o) x)(c:getI (plc n o) x=getI (plc n o) y):x=y:=by
 refine o0k o 0 (List.replicate n (-1)) (by simp) d b (λx a=>by rw[q0c];omega) (λx y _ _ h _=>by grind[q0c]) x y a e h0 c
def z0v{es:List O0}(h:es.Pairwise λa b=>b08 a b=false){a b:O0}(d:a∈es)(e:b∈es)(f:a≠b):b08 a b=false:=by
 induction es with
 |nil=>cases d
 |cons c r g =>
  grind[List.pairwise_cons,absurd,f0h]
def T0w{es:List O0}(i:Asc V0 es)(h:∀ a∈es,∀ b∈es,a≠b->b08 a b=false):es.Pairwise λa b=>b08 a b=false:=by
 induction es with
 |nil=>exact .nil
 |cons c r k =>
  obtain⟨f,g⟩:=List.pairwise_cons.1 i
  refine List.pairwise_cons.2 ⟨λb d=>h c mS b (mC _ d) λe=>?_,k g λa j b d=>h a (mC _ j) b (mC _ d)⟩
  have:=f b d
  rw[e,W7.refl]at this;omega
def u0d{g:z0}(c:U0 g=true):N0 g=true↔∀ a∈g.2.2,∀ b∈g.2.2,a≠b->b08 a b=false:=by
 rw[O08,n0h]
 exact⟨λh a d b e f=>z0v h.2 d e f,λh=>⟨c,T0w (graph_asc' c) h⟩⟩
where graph_asc' {g:z0} (h:U0 g=true):Asc V0 g.2.2:=((x03 g).1 h).2.2.2.2
theorem x0c{g:z0}{o:List Int}(hf:N0 g=true)(v:inV g.2.1.toNat o)(x:o.Nodup)(l:1<=o.length)(m:o.length<=40):N0 (G00 g o)=true:=by
 have f:=C3 hf
 obtain⟨k,D,E,F⟩:=V2 f
 refine(u0d (J0e f v l m)).2 λa p b q t=>?_
 have mem:∀ e∈(G00 g o).2.2,∃ a∈g.2.2,e=(getI (plc g.2.1.toNat o) a.1,a.2.1,getI (plc g.2.1.toNat o) a.2.2)/\0<=getI (plc g.2.1.toNat o) a.1/\0<=getI (plc g.2.1.toNat o) a.2.2:=λe s=>by
  rcases(J01 W7 e _ _).1 s with h|h
  ·cases h
  ·exact J0n _ _ e h
 obtain⟨c,i,rfl,y,z⟩:=mem a p
 obtain⟨d,j,rfl,A,C⟩:=mem b q
 have u:c≠d:=λe=>t (by rw[e])
 have w:=(u0d f).1 hf c i d j u
 have G:=k c i
 have H:=k d j
 grind[b08,Bool.and_eq_false_iff,Bool.or_eq_false_iff,decide_eq_false_iff_not,G0s]
def S06:Nat->z0->z0
 |0,g=>g
 |d+1,g=>match N01 g with
  |none=>g
  |some k=>S06 d (G00 g (wo k g.2.1.toNat 0))
def K0n{g:z0}{k:Nat}(h:N01 g=some k):1<=k/\k<g.2.1.toNat:=by
 have:=t0c _ _ _ h
 omega
def o0h{g:z0}(a:U0 g=true){k:Nat}(h:N01 g=some k):inV g.2.1.toNat (wo k g.2.1.toNat 0)/\(wo k g.2.1.toNat 0).length=g.2.1.toNat-1/\1<=(wo k g.2.1.toNat 0).length/\(wo k g.2.1.toNat 0).length<=40:=by
 obtain⟨d,e,f,i⟩:=V2 a
 have c:=K0n h
 have b:=l0k k g.2.1.toNat 0
 rw[if_pos (by omega)]at b
 grind[l0p]
def X03:∀(d:Nat) {g:z0},N0 g=true->N0 (S06 d g)=true
 |0,g,h=>h
 |d+1,g,h=>by
  unfold S06
  cases e:N01 g with
  |none=>exact h
  |some k =>
   obtain⟨a,f,b,c⟩:=o0h (C3 h) e
   exact X03 d (x0c h a (w0c _ _ _) b c)
def p0k(n g:Nat)(i:n<=1000)(u:List Int)(j:u.length=n):∀(d k fuel:Nat) (acc a:List Int),k+d=n->d<fuel->acc.length<=k->a.length<=k ->
  ∃ v,z7 (n:Int) (g:Int) u fuel (k:Int) acc a=some (acc++wo g d k,v)/\v.length+acc.length=a.length+(acc++wo g d k).length
 |d,k,0,acc,a,h,hf,b,f=>by omega
 |0,k,fuel+1,acc,a,h,hf,b,f=>by
  simp_all[z7.eq_2,if_neg,wo]
 |d+1,k,fuel+1,acc,a,h,hf,b,f=>by
  have l:=U3 (show k<u.length by omega)
  generalize u[k]=x at l
  rw[z7.eq_2,if_pos (by simp;omega),E2 (show k<10000 by omega) (by omega)]
  unfold wo
  by_cases c:k=g
  ·have e:decide ((k:Int)=(g:Int))=true:=dT (by omega)
   rw[e,if_neg (by simp),if_pos c]
   exact p0k n g i u j d (k+1) fuel acc a (by omega) (by omega) (by omega) (by omega)
  ·have e:decide ((k:Int)=(g:Int))=false:=dF (by omega)
   rw[e,if_pos (show(!false)=true from rfl),if_neg c,D0 (by simp;omega),oB,Z1 l,oB,D0 (by simp;omega),oB]
   obtain⟨v,m,o⟩:=p0k n g i u j d (k+1) fuel (acc ++ [(k:Int)]) (a ++ [x]) (by omega) (by omega) (by simp;omega) (by simp;omega)
   grind
def A0p(g:z0)(a:U0 g=true):∀(d k fuel:Nat) (acc:List Int),k+d=g.2.1.toNat->d<fuel->acc.length=k ->
  ∃ u,n8 g.2.1 g.1 g.2.2 fuel (k:Int) acc=some u/\u.length=g.2.1.toNat
 |d,k,0,acc,c,hf,b=>by omega
 |0,k,fuel+1,acc,c,hf,b=>by
  grind[V2,n8.eq_2,decide,chk]
 |d+1,k,fuel+1,acc,c,hf,b=>by
  obtain⟨h,i,j,l⟩:=V2 a
  obtain⟨u,e,f⟩:=A0p g a d (k+1) fuel (acc ++ [(k:Int)]) (by omega) (by omega) (by simp;omega)
  rw[n8.eq_2,show decide (((k:Nat):Int)<g.2.1)=true by simp;omega,E1,show(g.1,g.2.1,g.2.2)=g from rfl,t9 g (by omega),oB,a]
  rw[if_pos (show(bif true then true else false)=true from rfl),D0 (by simp;omega),oB,E2 (show k<1000 by omega) (by omega),e]
  exact⟨u,rfl,f⟩
def B0p(f:z0)(o:U0 f=true):∀(d k fuel:Nat) (g:z0) (u:List Int),k+d=40->d<fuel->U0 g=true->u.length=g.2.1.toNat->g.2.1.toNat<=d+1 ->
  ∃ v,(l8 f.1 f.2.1 f.2.2 fuel u (k:Int) g.1 g.2.1 g.2.2).bind (λA=>z9 A (λy=>match y with|(a,b,c,e)=>some ((b,c,e),a)))=some (S06 d g,v)
 |d,k,0,g,u,s,hf,h,x,t=>by omega
 |0,k,fuel+1,g,u,s,hf,h,x,t=>by
  rw[l8.eq_2,show decide (((k:Nat):Int)<40)=false by simp;omega]
  simp_all[chk,z9,S06]
 |d+1,k,fuel+1,g,u,s,hf,h,x,t=>by
  obtain⟨I,J,K,L⟩:=V2 o
  obtain⟨M,O,P,Q⟩:=V2 h
  have E:=v0v g h
  rw[l8.eq_2,show decide (((k:Nat):Int)<40)=true by simp;omega,E1,show(f.1,f.2.1,f.2.2)=f from rfl,t9 f (by omega),oB,o]
  rw[if_pos (show(bif true then true else false)=true from rfl),show(g.1,g.2.1,g.2.2)=g from rfl,E]
  unfold S06
  cases e:N01 g with
  |none =>
   simp only[oB]
   rw[D0 (show F0 (-1) from⟨by omega,by omega⟩),oB,if_pos (by simp)]
   exact⟨u,rfl⟩
  |some i =>
   obtain⟨p,C,m,D⟩:=o0h h e
   have H:=K0n e
   obtain⟨N,l⟩:∃ N:Nat,g.2.1=(N:Int):=⟨g.2.1.toNat,by omega⟩
   have j:g.2.1.toNat=N:=by omega
   obtain⟨v,w1,G⟩:=p0k N i (by omega) u (by omega) N 0 P0 [] [] (by omega) (X0 (by omega)) (Nat.le_refl _) (Nat.le_refl _)
   have w:=H0e g.1 N g.2.2 (wo i N 0) (by rw[←l];exact h) (by rw[←j];exact p) (w0c _ _ _) (by rw[←j];exact m) (by rw[←j];omega)
   rw[←l,show(g.1,g.2.1,g.2.2)=g from rfl]at w
   have q:=J0e h p m D
   rw[j]at q C m
   obtain⟨F,z⟩:=B0p f o d (k+1) fuel (G00 g (wo i N 0)) v (by omega) (by omega) q (by simp only[nA,lN]at G;show v.length=((wo i N 0).length:Int).toNat;omega) (by show((wo i N 0).length:Int).toNat<=d+1;omega)
   simp only[oB]
   rw[D0 (show F0 ((i:Nat):Int) from⟨by omega,by omega⟩),oB,if_neg (by simp),l,show(0:Int)=((0:Nat):Int) from rfl,w1]
   simp only[oB,nA]
   rw[←l,w]
   simp only[oB]
   rw[E2 (show k<1000 by omega) (by omega),j]
   exact⟨F,z⟩
def G09(g:z0):z0:=S06 40 g
def q0k{g:z0}(a:U0 g=true):∃ v,B03 g=some (G09 g,v):=by
 obtain⟨f,h,i,j⟩:=V2 a
 have e:=P00 g (by omega)
 obtain⟨u,b,d⟩:=A0p g a g.2.1.toNat 0 P0 [] (by omega) (X0 (by omega)) rfl
 obtain⟨v,c⟩:=B0p g a 40 0 P0 g u rfl (X0 (by omega)) a d (by omega)
 refine⟨v,?_⟩
 obtain⟨r,n,es⟩:=g
 unfold B03
 simp only[e,oB]
 simp only at b c
 rw[show(0:Int)=((0:Nat):Int) from rfl,b,oB]
 exact c
def C0p:∀(n fuel d:Nat) (left:List Int) (r:Int) (es:List O0),1<=n->n<=40->inN n es->es.length<=120->left.length=n->n<fuel->n<=d+1 ->
  ∃ f,w7 fuel left r (n:Int) es=some (.inl (S06 d (r,(n:Int),es),f))
 |n,0,d,left,r,es,i,j,b,A,C,hf,z=>by omega
 |n,fuel+1,d,left,r,es,i,j,b,A,C,hf,z=>by
  obtain⟨c,w,lS,x⟩:=g0p r n es b (by omega) i (by omega)
  have s:=D0n r n es (by omega) c lS j (n-1) 1 P0 (Nat.le_refl _) (by omega) (by omega) (X0 (by omega))
  have y:lf (λv=>decide (z06 (v:Int) es<2) || !k03 c (v:Int)) (n-1) 1=lf (k0h es) (n-1) 1:=k0k _ _ λk I J=>by
   unfold k0h
   have:=x (k:Int) (by omega) (by omega)
   have l:=b0g es 0 (k:Int)
   congr 2
   cases hb:k03 c (k:Int)
   ·symm;exact dF λh=>by rw[this.2 (l.1 h)]at hb;cases hb
   ·symm;exact dT (l.2 (this.1 hb))
  rw[y]at s
  have m:N01 (r,(n:Int),es)=lf (k0h es) (n-1) 1:=by simp only[N01,iN]
  rw[w7.eq_2,w,oB,show(1:Int)=((1:Nat):Int) from rfl,s,oB]
  cases hlf:lf (k0h es) (n-1) 1 with
  |none =>
   have g:S06 d (r,(n:Int),es)=(r,(n:Int),es):=by
    cases d with
    |zero=>rfl
    |succ d=>unfold S06;rw[m,hlf]
   simp_all
  |some k =>
   have G:=t0c _ _ _ hlf
   have u:decide ((k:Int)=0)=false:=dF (by omega)
   have p:=l0p k n n 0 (by omega)
   have o:=l0k k n 0
   rw[if_pos (by omega)]at o
   have q:=E0n n k (by omega) n 0 P0 [] (by omega) (X0 (by omega)) (Nat.le_refl _)
   rw[show((0:Nat):Int)=0 from rfl,nA]at q
   have D:=A0n r n es (wo k n 0) b p (by omega) (by omega) (by omega)
   have E:=G0e (r,(n:Int),es) (wo k n 0)
   have H:=i0m (r:=r) p b
   have F:i64.wrap ((k:Int)+((1:Nat):Int))=((k+1:Nat):Int):=by grind[w64]
   obtain⟨a,rfl⟩:∃ a,d=a+1:=⟨d-1,by omega⟩
   have e:G00 (r,(n:Int),es) (wo k n 0)=(r,((n-1:Nat):Int),(G00 (r,(n:Int),es) (wo k n 0)).2.2):=by rw[←o];rfl
   obtain⟨f,t⟩:=C0p (n-1) fuel a (left.take k++left.drop (k+1)) r (G00 (r,(n:Int),es) (wo k n 0)).2.2 (by omega) (by omega) (by grind) (by simp only at E;omega) (by grind) (by omega) (by omega)
   refine⟨f,?_⟩
   rw[←e]at t
   have g:S06 (a+1) (r,(n:Int),es)=S06 a (G00 (r,(n:Int),es) (wo k n 0)):=by
    show(match N01 (r,(n:Int),es)with|none=>(r,(n:Int),es)|some k=>S06 a (G00 (r,(n:Int),es) (wo k ((n:Int)).toNat 0)))=_
    rw[m,hlf,iN]
   rw[g]
   simp only[u,fT,if_false,q,oB,D]
   generalize G00 (r,(n:Int),es) (wo k n 0)=gp at *
   rw[e]
   simp only[F]
   rw[p0a (by omega),oB,K04 (by omega),oB,D0 (by grind),oB,t,←e]
def e0i{g:z0}(f:U0 g=true):∃ v,P9 g=some (G09 g,v):=by
 obtain⟨b,i,j,c⟩:=V2 f
 have m:=f01 g (by omega)
 have k:=i03 g (by omega)
 obtain⟨r,n,es⟩:=g
 simp only at i j c
 obtain⟨N,rfl⟩:∃ N:Nat,n=(N:Int):=⟨n.toNat,by omega⟩
 have l:inN N es:=λe d=>⟨(b e d).1,(b e d).2.1⟩
 obtain⟨u,a,h⟩:=F0n N (by omega) N 0 P0 [] (by omega) (X0 (by omega)) rfl
 obtain⟨o,p⟩:=C0p N P0 40 u r es (by omega) (by omega) l c h (X0 (by omega)) (by omega)
 refine⟨o,?_⟩
 unfold P9
 rw[show((0:Nat):Int)=0 from rfl]at a
 simp only[k,oB,m,f,bT,fT,if_false,a,p,z9]
 rfl
def p0h(g:z0):z0:=A4 (G09 g)
def g0g{g:z0}(hf:N0 g=true):Q00 g=(g,[]):=by
 obtain⟨a,b⟩:=(O08 g).1 hf
 unfold Q00
 rw[a]
 show Q03 40 g=_
 unfold Q03
 rw[b]
def f0r{g:z0}(hf:N0 g=true):H7 g=some (p0h g):=by
 have a:=C3 hf
 obtain⟨e,f,h,i⟩:=V2 a
 have b:=g0e g (by omega)
 rw[g0g hf]at b
 obtain⟨v,c⟩:=q0k a
 have d:=s0c (G09 g) (X03 40 hf)
 grind[H7,p0h]
def g0r{g:z0}(hf:N0 g=true):U9 g=some (p0h g):=by
 have a:=C3 hf
 obtain⟨e,f,h,i⟩:=V2 a
 have b:=h0e g (by omega)
 rw[g0g hf]at b
 obtain⟨v,c⟩:=e0i a
 have d:=r0c (G09 g) (X03 40 hf)
 grind[U9,p0h]
def A0v{N r u x v:Int}(a:0<=u/\u<N)(b:0<=v/\v<N)(c:x≠0 /\ -r<=x/\x<=r):(0<=(stp u x v).1/\(stp u x v).1<N)/\(0<=(stp u x v).2.2/\(stp u x v).2.2<N)/\1<=(stp u x v).2.1/\(stp u x v).2.1<=r:=by
 unfold stp
 split<;>(simp only;omega)
def D0p{N r v:Int}(f:0<=v/\v<N):∀(w:List Int) (u n:Int),(0<=u/\u<N)->0<=n->n+((w.length-1:Nat):Int)<=N->(∀ x∈w,x≠0 /\ -r<=x/\x<=r) ->
  ∀ e∈w05 v w u n,(0<=e.1/\e.1<N)/\(0<=e.2.2/\e.2.2<N)/\1<=e.2.1/\e.2.1<=r
 | [],u,n,c,h0,d,b,e,a=>nomatch a
 | [x],u,n,c,h0,d,b,e,a=>by
  simp only[w05,List.mem_singleton]at a
  subst a
  exact A0v c f (b x mS)
 |x::y::l,u,n,c,h0,d,b,e,a=>by
  simp only[lC]at d
  simp only[w05]at a
  rcases mE.1 a with rfl|a
  ·exact A0v c ⟨h0,by omega⟩ (b x mS)
  ·exact D0p f (y::l) n (n+1) ⟨h0,by omega⟩ (by omega) (by grind) (λz g=>b z (mC _ g)) e a
def x05{g:z0}{u v:Int}{w:List Int}(b:U0 g=true)(p:0<=u/\u<g.2.1)(q:0<=v/\v<g.2.1)(c:G2 g.1 w=true):U0 (J4 g u w v).1=true:=by
 obtain⟨f,i,s,t,j⟩:=(x03 g).1 b
 obtain⟨wl,k⟩:=M05 c
 unfold J4
 cases hc:(!w.isEmpty&&decide (g.2.1+(w.length:Int)-1<=40)&&decide (g.2.2.length+w.length<=120))with
 |false=>exact b
 |true =>
  simp only[aE,dE,Bool.not_eq_true',List.isEmpty_eq_false_iff]at hc
  have o:1<=w.length:=by
   grind
  have l:=Z02 (w05 v w u g.2.1) g.2.2
  have m:=s0d v w u g.2.1
  simp only[cT]
  refine(x03 _).2 ⟨λe a=>?_,i,⟨by simp only;omega,by simp only;omega⟩,by simp only;omega,H04 W7 _ _ j⟩
  simp only at a ⊢
  rcases(J01 W7 e _ _).1 a with h|h
  ·have:=f e h
   omega
  ·exact D0p ⟨by omega,by omega⟩ w u g.2.1 ⟨by omega,by omega⟩ (by omega) (iR _) (λx d=>(k x d).2) e h
theorem e08(g:z0)(u:Int)(w:List Int)(v:Int):(J4 g u w v).1.1=g.1:=by
 unfold J4
 cases (!w.isEmpty&&decide (g.2.1+(w.length:Int)-1<=40)&&decide (g.2.2.length+w.length<=120))<;>rfl
def k0e:List (List Int)->z0->z0
 | [],g=>g
 |w::r,g=>k0e r (J4 g 0 w 0).1
theorem f0i:∀(c:List (List Int)) {g:z0},U0 g=true->(∀ w∈c,G2 g.1 w=true)->U0 (k0e c g)=true
 | [],g,a,b=>a
 |w::r,g,a,b=>by
  obtain⟨e,f,h,i⟩:=V2 a
  exact f0i r (x05 a ⟨iR _,by omega⟩ ⟨iR _,by omega⟩ (b w mS)) λj d=>by
   grind[e08,mC]
def g0i{g:z0}{w:List Int}(a:U0 g=true)(b:G2 g.1 w=true):L02 g w=some (J4 g 0 w 0):=by
 obtain⟨c,d,e,f⟩:=V2 a
 have h:=F09 a (u:=0) (v:=0) ⟨iR _,by omega⟩ ⟨iR _,by omega⟩ b
 grind[L02]
def E0p{g:z0}{w:List Int}(a:U0 g=true)(b:G2 g.1 w=true):g04 g w=some (J4 g 0 w 0):=by
 obtain⟨c,d,e,f⟩:=V2 a
 have h:=i0e a (u:=0) (v:=0) ⟨iR _,by omega⟩ ⟨iR _,by omega⟩ b
 grind[g04]
def o0m(a:List (List Int))(j:a.length<=1000):∀(d k fuel:Nat) (g:z0),k+d=a.length->d<fuel->U0 g=true->(∀ w∈a,G2 g.1 w=true) ->
  g9 a fuel (k:Int) g.1 g.2.1 g.2.2=some (k0e (a.drop k) g)
 |d,k,0,g,i,hf,b,e=>by omega
 |0,k,fuel+1,g,i,hf,b,e=>by
  rw[g9.eq_2,if_neg (by simp;omega),Z0 (by omega)];rfl
 |d+1,k,fuel+1,g,i,hf,b,e=>by
  have c:k<a.length:=by omega
  have h:=U3 c
  have f:=e _ (List.getElem_mem c)
  generalize a[k]=w at h f
  obtain⟨m,o,p,q⟩:=V2 b
  have l:=o0m a j d (k+1) fuel (J4 g 0 w 0).1 (by omega) (by omega) (x05 b ⟨iR _,by omega⟩ ⟨iR _,by omega⟩ f) (by simp_all[e08])
  rw[g9.eq_2,if_pos (by simp;omega),Z1 h,oB,show(g.1,g.2.1,g.2.2)=g from rfl,g0i b f,oB,E2 c (by omega),I1 h]
  exact l
def p0m(a:List (List Int))(o:a.length<=1000):∀(d k fuel:Nat) (g:z0),k+d=a.length->d<fuel->U0 g=true->(∀ w∈a,G2 g.1 w=true) ->
  T7 a fuel (k:Int) g.1 g.2.1 g.2.2=some (k0e (a.drop k) g)
 |d,k,0,g,m,hf,b,h=>by omega
 |0,k,fuel+1,g,m,hf,b,h=>by
  rw[T7.eq_2,if_neg (by simp;omega),Z0 (by omega)];rfl
 |d+1,k,fuel+1,g,m,hf,b,h=>by
  have f:k<a.length:=by omega
  have j:=U3 f
  have i:=h _ (List.getElem_mem f)
  generalize a[k]=w at j i
  obtain⟨p,q,s,t⟩:=V2 b
  have l:=p0m a o d (k+1) fuel (J4 g 0 w 0).1 (by omega) (by omega) (x05 b ⟨iR _,by omega⟩ ⟨iR _,by omega⟩ i) (by simp_all[e08])
  rw[T7.eq_2,if_pos (by simp;omega),Z1 j,oB,E2 f (by omega),I1 j]
  by_cases c:w = []
  ·subst c
   rw[if_neg (by simp)]
   have e:(J4 g 0 [] 0).1=g:=rfl
   rw[e]at l
   rw[l]
   show _=some (k0e (a.drop (k+1)) (J4 g 0 [] 0).1)
   rw[e]
  ·have:0<w.length:=List.length_pos_iff.2 c
   rw[if_pos (by simp;omega),show(g.1,g.2.1,g.2.2)=g from rfl,E0p b i,oB]
   exact l
def r0a(r:Int)(a:List (List Int)):z0×Bool:=bif Y4 r a then(k0e a (r,1,[]),true)else((0,0,[]),false)
def s0a{r:Int}{a:List (List Int)}(h:Y4 r a=true):(1<=r/\r<=3)/\a.length<=6/\∀ w∈a,G2 r w=true:=by
 simp only[Y4,inR,aE,dE]at h
 refine⟨h.1.1.1,h.1.1.2,?_⟩
 have b:∀ {a:List (List Int)},N0f r a=true->∀ w∈a,G2 r w=true:=by
  intro a
  induction a with
  |nil=>intro _ w b;cases b
  |cons v l c =>
   simp_all[N0f,aE,mE]
 exact b h.1.2
theorem q0h{r:Int}(b:1<=r/\r<=3):U0 (r,1,[])=true:=(x03 _).2 ⟨(λe a=>by cases a),b,⟨by simp,by simp⟩,by simp,List.Pairwise.nil⟩
def L0n(r:Int)(a:List (List Int))(c:a.length<=140737488355328)(e:F9 a):e04 r a=some (r0a r a):=by
 have b:=H08 r a c e
 unfold e04 r0a
 rw[b,oB]
 cases hA:Y4 r a with
 |false=>rfl
 |true =>
  obtain⟨d,g,f⟩:=s0a hA
  have h:=o0m a (by omega) a.length 0 P0 (r,1,[]) (by omega) (X0 (by omega)) (q0h d) f
  simp_all[K05,J02,oB,if_neg,inR]
def M0n(r:Int)(a:List (List Int))(c:a.length<=140737488355328)(e:F9 a):h04 r a=some (r0a r a):=by
 have b:=J08 r a c e
 unfold h04 r0a
 rw[b,oB]
 cases hA:Y4 r a with
 |false=>rfl
 |true =>
  obtain⟨d,g,f⟩:=s0a hA
  have h:=p0m a (by omega) a.length 0 P0 (r,1,[]) (by omega) (X0 (by omega)) (q0h d) f
  simp_all[L05,W02,oB,if_neg,inR]
end Go.Proofs.YtcpjomkcdlggaaaGreat
