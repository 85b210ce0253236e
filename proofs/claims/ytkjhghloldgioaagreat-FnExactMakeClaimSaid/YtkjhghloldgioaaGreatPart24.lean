/- Texts of the claim, joined: Plain laws: vertices and edges added; the steps that are mis and others. -/
import Derived.Test.YtkjhghloldgioaaGreatPart23
import Derived.Test.YtkjhghloldgioaaGreatPart17
import Derived.Test.YtkjhghloldgioaaGreatH36
import Derived.Test.YtkjhghloldgioaaGreatPart18
namespace Go.Proofs.YtkjhghloldgioaaGreat
open Go.H
set_option linter.unusedVariables false
set_option linter.unusedSimpArgs false
def Q1(g:l0):l0×Bool:=bif decide (g.2.1<40)then((g.1,g.2.1+1,g.2.2),true)else(g,false)
theorem w07{g:l0}(a:T0 g=true):Z9 g=some (Q1 g):=by
 obtain⟨f,h,e,i⟩:=N2 a
 have b:=r8 g (by omega)
 have d:=J9 g (by omega)
 obtain⟨r,n,es⟩:=g
 simp only at e
 unfold Z9 Q1
 simp only[b,d,a,oB,Bool.not_true,cond_false]
 by_cases c:n<40
 ·rw[if_neg (by simp;omega),w64 (by omega) (by omega)];simp[c]
 ·rw[if_pos (by simp;omega)];simp[c]
theorem x07{g:l0}(a:T0 g=true):b01 g=some (Q1 g):=by
 obtain⟨f,h,e,i⟩:=N2 a
 have b:=O00 g (by omega)
 have d:=l00 g (by omega)
 obtain⟨r,n,es⟩:=g
 simp only at e
 unfold b01 Q1
 simp only[b,d,a,oB,Bool.not_true,cond_false]
 by_cases c:n<40
 ·rw[if_neg (by simp;omega),w64 (by omega) (by omega)];simp[c]
 ·rw[if_pos (by simp;omega)];simp[c]
theorem z00{g:l0}(a:T0 g=true):T0 (Q1 g).1=true:=by
 unfold Q1
 by_cases c:g.2.1<40
 ·simp only[c,decide_true,cond_true]
  obtain⟨d,f,j,h,i⟩:=(Z00 g).1 a
  refine(Z00 _).2 ⟨λe b=>?_,f,?_,h,i⟩
  ·have:=d e b
   simp only
   omega
  ·simp only;omega
 ·simp only[c,decide_false,cond_false];exact a
theorem i0n(es:List O0)(e:O0)(o:es.length<=140737488355328):∀(d k fuel:Nat),k+d=es.length->d<fuel ->
  ∃ X,I1 es e.1 e.2.1 e.2.2 fuel (k:Int)=some X/\((∃ i:Nat,X = .inl (i:Int)/\i<es.length/\e∈es.drop k)∨(X = .inr ()/\e ∉ es.drop k))
 |d,k,0,l,hf=>by omega
 |0,k,fuel+1,l,hf=>by
  rw[I1.eq_2,if_neg (by simp;omega),J1 (by omega)]
  exact⟨_,rfl,.inr ⟨rfl,by simp⟩⟩
 |d+1,k,fuel+1,l,hf=>by
  have a:k<es.length:=by omega
  have f:=L5 a
  generalize es[k]=b at f
  rw[I1.eq_2,if_pos (by simp;omega),P2 f,oB,N1 f]
  simp only[]
  by_cases c:eqE e b=true
  ·rw[if_pos c]
   refine⟨_,rfl,.inl ⟨k,rfl,a,?_⟩⟩
   rw[(n04 _ _).1 c]
   exact mS
  ·rw[if_neg c,A2 a (by omega)]
   obtain⟨X,m,n⟩:=i0n es e o d (k+1) fuel (by omega) (by omega)
   refine⟨X,m,?_⟩
   have p:e≠b:=λh=>c ((n04 _ _).2 h)
   rcases n with⟨i,g,j,q⟩|⟨g,j⟩
   ·exact .inl ⟨i,g,j,mC _ q⟩
   ·refine .inr ⟨g,λh=>?_⟩
    rcases List.mem_cons.1 h with h|h
    ·exact p h
    ·exact j h
theorem G0l(es:List O0)(e:O0)(b:es.length<=140737488355328):E3 es e=some (decide (e∈es)):=by
 obtain⟨X,d,a⟩:=i0n es e b es.length 0 U0 (by omega) (D1 b)
 obtain⟨g,h,j⟩:=e
 unfold E3 L2
 simp only
 simp only[List.drop_zero]at a
 rw[show(0:Int)=((0:Nat):Int) from rfl,d]
 rcases a with⟨i,rfl,c,f⟩|⟨rfl,c⟩
 ·simp only[oB,j4]
  rw[H0 (show I0 ((i:Nat):Int) from⟨by omega,by omega⟩)]
  simp[f]
 ·simp only[oB,V0]
  rw[H0 (show I0 (-1) from⟨by omega,by omega⟩)]
  simp[c]
def y07(g:l0)(v:Int):List Int->List O0
 | []=>[]
 |x::r=>(bif decide (S0 g v x<0)then [(v,x,-1)]else [])++y07 g v r
def K09(g:l0):Nat->Nat->List O0
 |0,_=>[]
 |d+1,v=>y07 g (v:Int) (Q6 g.1.toNat 1)++K09 g d (v+1)
theorem d09(g:l0)(v:Int):∀ l,(y07 g v l).length<=l.length
 | []=>Nat.le_refl _
 |x::r=>by
  have:=d09 g v r
  simp only[y07,List.length_append,List.length_cons]
  cases decide (S0 g v x<0)<;>simp<;>omega
theorem g0k(g:l0)(j:T0 g=true)(v:Int)(a:List Int)(l:∀ x∈a,E5 x)(o:a.length<=1000):∀(d k fuel:Nat) (acc:List O0),k+d=a.length->d<fuel->acc.length+d<=100000 ->
  U3 a g.1 g.2.1 g.2.2 v fuel (k:Int) acc=some (acc++y07 g v (a.drop k))
 |d,k,0,acc,i,hf,f=>by omega
 |0,k,fuel+1,acc,i,hf,f=>by
  rw[U3.eq_2,if_neg (by simp;omega),J1 (by omega)]
  simp[y07]
 |d+1,k,fuel+1,acc,i,hf,f=>by
  obtain⟨p,s,q,t⟩:=N2 j
  have c:k<a.length:=by omega
  have e:=L5 c
  have m:=l _ (List.getElem_mem c)
  generalize a[k]=x at e m
  have n:∀ b:List O0,b.length+d<=100000->U3 a g.1 g.2.1 g.2.2 v fuel ((k+1:Nat):Int) b=some (b++y07 g v (a.drop (k+1))):=λb h=>g0k g j v a l o d (k+1) fuel b (by omega) (by omega) h
  rw[U3.eq_2,if_pos (by simp;omega),P2 e,oB,show(g.1,g.2.1,g.2.2)=g from rfl,l02 g v x m (by omega),oB,H0 (C00 p q.2 v x),oB,A2 c (by omega),N1 e,y07]
  cases decide (S0 g v x<0)with
  |true =>
   rw[if_pos rfl,oB,H0 (by simp;omega),oB,n _ (by simp;omega)]
   simp
  |false =>
   rw[if_neg (by simp),n _ (by omega)]
   simp
theorem h0k(g:l0)(j:T0 g=true)(v:Int)(a:List Int)(l:∀ x∈a,E5 x)(o:a.length<=1000):∀(d k fuel:Nat) (acc:List O0),k+d=a.length->d<fuel->acc.length+d<=100000 ->
  V3 a g.1 g.2.1 g.2.2 v fuel (k:Int) acc=some (acc++y07 g v (a.drop k))
 |d,k,0,acc,i,hf,f=>by omega
 |0,k,fuel+1,acc,i,hf,f=>by
  rw[V3.eq_2,if_neg (by simp;omega),J1 (by omega)]
  simp[y07]
 |d+1,k,fuel+1,acc,i,hf,f=>by
  obtain⟨p,s,q,t⟩:=N2 j
  have c:k<a.length:=by omega
  have e:=L5 c
  have m:=l _ (List.getElem_mem c)
  generalize a[k]=x at e m
  have n:∀ b:List O0,b.length+d<=100000->V3 a g.1 g.2.1 g.2.2 v fuel ((k+1:Nat):Int) b=some (b++y07 g v (a.drop (k+1))):=λb h=>h0k g j v a l o d (k+1) fuel b (by omega) (by omega) h
  rw[V3.eq_2,if_pos (by simp;omega),P2 e,oB,show(g.1,g.2.1,g.2.2)=g from rfl,m02 g v x m (by omega),oB,H0 (C00 p q.2 v x),oB,A2 c (by omega),N1 e,y07]
  cases decide (S0 g v x<0)with
  |true =>
   rw[if_pos rfl,H0 (by simp;omega),oB,n _ (by simp;omega)]
   simp
  |false =>
   rw[if_neg (by simp),n _ (by omega)]
   simp
theorem o0b:∀(d i:Nat) (x:Int),x∈Q6 d i->∃ j:Nat,i<=j/\j<i+d/\(x=(j:Int)∨x = -(j:Int))
 |0,i,x,h=>by simp[Q6]at h
 |d+1,i,x,h=>by
  simp only[Q6,List.mem_cons]at h
  rcases h with rfl|rfl|h
  ·exact⟨i,Nat.le_refl _,by omega,.inl rfl⟩
  ·exact⟨i,Nat.le_refl _,by omega,.inr rfl⟩
  ·obtain⟨j,b,c,a⟩:=o0b d (i+1) x h
   exact⟨j,by omega,by omega,a⟩
theorem i0k(g:l0)(a:K0 g=true):∀(d k fuel:Nat) (acc:List O0),k+d=g.2.1.toNat->d<fuel->acc.length+100*d<=10000 ->
  p5 g.2.1 g.1 g.2.2 fuel (k:Int) acc=some (acc++K09 g d k)
 |d,k,0,acc,c,hf,b=>by omega
 |0,k,fuel+1,acc,c,hf,b=>by
  obtain⟨l,m,n,o⟩:=C1 a
  rw[p5.eq_2,show decide (((k:Nat):Int)<g.2.1)=false by simp;omega]
  simp[chk,K09]
 |d+1,k,fuel+1,acc,c,hf,b=>by
  obtain⟨l,m,n,o⟩:=C1 a
  have f:=((s05 g).1 a).1
  obtain⟨R,e⟩:∃ R:Nat,g.1=(R:Int):=⟨g.1.toNat,by omega⟩
  have h:∀ x∈Q6 g.1.toNat 1,E5 x:=λx i=>by
   obtain⟨j,p,q,s⟩:=o0b _ _ _ i
   refine⟨⟨by omega,by omega⟩,by omega⟩
  have t:=n02 g.1.toNat 1
  have u:=d09 g (k:Int) (Q6 g.1.toNat 1)
  have h0:=g0k g f (k:Int) (Q6 g.1.toNat 1) h (by omega) (Q6 g.1.toNat 1).length 0 U0 acc (by omega) (D1 (by omega)) (by omega)
  rw[p5.eq_2,show decide (((k:Nat):Int)<g.2.1)=true by simp;omega,O1,show(g.1,g.2.1,g.2.2)=g from rfl,H6 g (by omega),oB,a]
  rw[if_pos (show(bif true then true else false)=true from rfl),show S7 g.1=some (Q6 g.1.toNat 1) by rw[e,D0l R (by omega)];rfl,oB,show(0:Int)=((0:Nat):Int) from rfl,h0,oB,A2 (show k<1000 by omega) (by omega),i0k g a d (k+1) fuel _ (by omega) (by omega) (by simp;omega),K09]
  simp
theorem j0k(g:l0)(a:K0 g=true):∀(d k fuel:Nat) (acc:List O0),k+d=g.2.1.toNat->d<fuel->acc.length+100*d<=10000 ->
  s5 g.2.1 g.1 g.2.2 fuel (k:Int) acc=some (acc++K09 g d k)
 |d,k,0,acc,c,hf,b=>by omega
 |0,k,fuel+1,acc,c,hf,b=>by
  obtain⟨l,m,n,o⟩:=C1 a
  rw[s5.eq_2,if_neg (by simp;omega)]
  simp[K09]
 |d+1,k,fuel+1,acc,c,hf,b=>by
  obtain⟨l,m,n,o⟩:=C1 a
  have f:=((s05 g).1 a).1
  obtain⟨R,e⟩:∃ R:Nat,g.1=(R:Int):=⟨g.1.toNat,by omega⟩
  have h:∀ x∈Q6 g.1.toNat 1,E5 x:=λx i=>by
   obtain⟨j,p,q,s⟩:=o0b _ _ _ i
   refine⟨⟨by omega,by omega⟩,by omega⟩
  have t:=n02 g.1.toNat 1
  have u:=d09 g (k:Int) (Q6 g.1.toNat 1)
  have h0:=h0k g f (k:Int) (Q6 g.1.toNat 1) h (by omega) (Q6 g.1.toNat 1).length 0 U0 acc (by omega) (D1 (by omega)) (by omega)
  rw[s5.eq_2,if_pos (by simp;omega),show p9 g.1=some (Q6 g.1.toNat 1) by rw[e,C0l R (by omega)];rfl,oB,show(0:Int)=((0:Nat):Int) from rfl,h0,oB,A2 (show k<1000 by omega) (by omega),j0k g a d (k+1) fuel _ (by omega) (by omega) (by simp;omega),K09]
  simp
def c01(g:l0):List O0:=K09 g g.2.1.toNat 0
theorem k0g{g:l0}(hf:K0 g=true):F8 g=some (c01 g):=by
 obtain⟨a,b,c,d⟩:=C1 hf
 have h:=i0k g hf g.2.1.toNat 0 U0 [] (by omega) (D1 (by omega)) (by simp;omega)
 obtain⟨r,n,es⟩:=g
 unfold F8 c01
 simp only at h ⊢
 rw[show(0:Int)=((0:Nat):Int) from rfl,h];simp
theorem l0g{g:l0}(hf:K0 g=true):G8 g=some (c01 g):=by
 obtain⟨b,c,d,e⟩:=C1 hf
 have h:=j0k g hf g.2.1.toNat 0 U0 [] (by omega) (D1 (by omega)) (by simp;omega)
 have a:=A8 g (by omega)
 obtain⟨r,n,es⟩:=g
 unfold G8 c01
 simp only[a,hf,oB]at h ⊢
 rw[if_neg (by simp),show(0:Int)=((0:Nat):Int) from rfl,h];simp
theorem R05{g:l0}(a:T0 g=true)(u:Int)(w:List Int)(v:Int):(C3 g u w v).1.2.2.length<=120:=by
 have q:=(N2 a).2.2.2
 unfold C3
 cases hc:(!w.isEmpty&&decide (g.2.1+(w.length:Int)-1<=40)&&decide (g.2.2.length+w.length<=120))with
 |false=>exact q
 |true =>
  simp only[Bool.and_eq_true,decide_eq_true_eq]at hc
  have b:=D00 (b03 v w u g.2.1) g.2.2
  have c:=c09 v w u g.2.1
  simp only[cond_true]
  omega
theorem H0l(g:Nat):∀(d k:Nat) (x:Int),x∈wo g d k->∃ j:Nat,x=(j:Int)/\k<=j/\j<k+d
 |0,k,x,h=>nomatch h
 |d+1,k,x,h=>by
  unfold wo at h
  split at h
  ·obtain⟨j,a,b,c⟩:=H0l g d (k+1) x h
   exact⟨j,a,by omega,by omega⟩
  ·rcases List.mem_cons.1 h with rfl|h
   ·exact⟨k,rfl,Nat.le_refl _,by omega⟩
   ·obtain⟨j,a,b,c⟩:=H0l g d (k+1) x h
    exact⟨j,a,by omega,by omega⟩
theorem w08(g:Nat):∀(d k:Nat),(wo g d k).Nodup
 |0,k=>List.nodup_nil
 |d+1,k=>by
  unfold wo
  split
  ·exact w08 g d (k+1)
  ·refine List.nodup_cons.2 ⟨λh=>?_,w08 g d (k+1)⟩
   obtain⟨j,a,b,c⟩:=H0l g d (k+1) _ h
   omega
theorem C0i(P:List Int):∀(es:List O0),∀ e∈pE P es,∃ a∈es,e=(getI P a.1,a.2.1,getI P a.2.2)/\0<=getI P a.1/\0<=getI P a.2.2
 | [],e,h=>nomatch h
 |b::r,e,h=>by
  unfold pE at h
  cases hb:decide (0<=getI P b.1)&&decide (0<=getI P b.2.2)
  ·rw[hb]at h
   obtain⟨a,c,d⟩:=C0i P r e h
   exact⟨a,mC _ c,d⟩
  ·rw[hb]at h
   simp only[Bool.and_eq_true,decide_eq_true_eq]at hb
   rcases List.mem_cons.1 h with rfl|h
   ·exact⟨b,mS,rfl,hb.1,hb.2⟩
   ·obtain⟨a,c,d⟩:=C0i P r e h
    exact⟨a,mC _ c,d⟩
theorem j0a{g:l0}{o:List Int}(f:T0 g=true)(b:inV g.2.1.toNat o)(p:1<=o.length)(q:o.length<=40):T0 (M8 g o)=true:=by
 obtain⟨k,l,t,u⟩:=N2 f
 have s:=s0i (plc g.2.1.toNat o) g.2.2
 refine m0b l ⟨by omega,by omega⟩ (by omega) λe d=>?_
 obtain⟨a,c,rfl,i,j⟩:=C0i _ _ e d
 have h:=k a c
 have m:=(H06 b (x:=a.1) (by omega)).2
 have n:=(H06 b (x:=a.2.2) (by omega)).2
 exact⟨⟨i,m⟩,⟨j,n⟩,h.2.2⟩
theorem z0f{n:Nat}:∀(o:List Int) (k:Nat) (A:List Int),A.length=n->inV n o->o.Nodup->(∀ x,0<=x->getI A x<(k:Int))->(∀ x y,0<=x->0<=y->0<=getI A x->getI A x=getI A y->x=y) ->
  ∀ x y,0<=x->0<=y->0<=getI (w01 A k o) x->getI (w01 A k o) x=getI (w01 A k o) y->x=y
 | [],k,A,h,e,i,c,d=>d
 |v::r,k,A,h,e,i,c,d=>by
  have f:=e v mS
  refine z0f r (k+1) (A.set v.toNat (k:Int)) (by simp[h]) (λw j=>e w (mC _ j)) (List.nodup_cons.1 i).2 (λx b=>?_) (λx y b g h0 a=>?_)
  ·rw[A04 f.1 (by omega) b]
   have:=c x b
   split<;>omega
  ·rw[A04 f.1 (by omega) b]at h0 a
   rw[A04 f.1 (by omega) g]at a
   have l:=c x b
   have m:=c y g
   by_cases c1:x=v
   ·by_cases c2:y=v
    ·rw[c1,c2]
    ·rw[if_pos c1,if_neg c2]at a;omega
   ·by_cases c2:y=v
    ·rw[if_neg c1,if_pos c2]at a;omega
    ·rw[if_neg c1]at h0;rw[if_neg c1,if_neg c2]at a
     exact d x y b g h0 a
theorem D0i{n:Nat}{o:List Int}(d:inV n o)(b:o.Nodup){x y:Int}(a:0<=x)(e:0<=y)(h0:0<=getI (plc n o) x)(c:getI (plc n o) x=getI (plc n o) y):x=y:=by
 refine z0f o 0 (List.replicate n (-1)) (by simp) d b (λx a=>by rw[q08];omega) (λx y _ _ h _=>by rw[q08]at h;omega) x y a e h0 c
theorem J0p{es:List O0}(h:es.Pairwise λa b=>L04 a b=false){a b:O0}(f:a∈es)(i:b∈es)(k:a≠b):L04 a b=false:=by
 induction es with
 |nil=>cases f
 |cons c r l =>
  obtain⟨e,j⟩:=List.pairwise_cons.1 h
  rcases List.mem_cons.1 f with rfl|g
  ·rcases List.mem_cons.1 i with rfl|d
   ·exact absurd rfl k
   ·exact e b d
  ·rcases List.mem_cons.1 i with rfl|d
   ·rw[k0c];exact e a g
   ·exact l j g d
theorem T0q{es:List O0}(i:Asc Q0 es)(h:∀ a∈es,∀ b∈es,a≠b->L04 a b=false):es.Pairwise λa b=>L04 a b=false:=by
 induction es with
 |nil=>exact .nil
 |cons c r k =>
  obtain⟨f,g⟩:=List.pairwise_cons.1 i
  refine List.pairwise_cons.2 ⟨λb d=>h c mS b (mC _ d) λe=>?_,k g λa j b d=>h a (mC _ j) b (mC _ d)⟩
  have:=f b d
  rw[e,p6.refl]at this;omega
theorem e09{g:l0}(c:T0 g=true):K0 g=true↔∀ a∈g.2.2,∀ b∈g.2.2,a≠b->L04 a b=false:=by
 rw[s05,r0c]
 exact⟨λh a d b e f=>J0p h.2 d e f,λh=>⟨c,T0q (graph_asc' c) h⟩⟩
where graph_asc' {g:l0} (h:T0 g=true):Asc Q0 g.2.2:=((Z00 g).1 h).2.2.2.2
theorem x08{g:l0}{o:List Int}(hf:K0 g=true)(j:inV g.2.1.toNat o)(m:o.Nodup)(s:1<=o.length)(t:o.length<=40):K0 (M8 g o)=true:=by
 have i:=E2 hf
 obtain⟨n,F,G,H⟩:=N2 i
 refine(e09 (j0a i j s t)).2 λa u b v z=>?_
 have mem:∀ e∈(M8 g o).2.2,∃ a∈g.2.2,e=(getI (plc g.2.1.toNat o) a.1,a.2.1,getI (plc g.2.1.toNat o) a.2.2)/\0<=getI (plc g.2.1.toNat o) a.1/\0<=getI (plc g.2.1.toNat o) a.2.2:=λe y=>by
  rcases(S8 p6 e _ _).1 y with h|h
  ·cases h
  ·exact C0i _ _ e h
 obtain⟨d,k,rfl,B,C⟩:=mem a u
 obtain⟨f,l,rfl,D,E⟩:=mem b v
 have A:d≠f:=λe=>z (by rw[e])
 have c:=(e09 i).1 hf d k f l A
 have p:=n d k
 have q:=n f l
 unfold L04 at c ⊢
 simp only[Bool.and_eq_false_iff,Bool.or_eq_false_iff,decide_eq_false_iff_not]at c ⊢
 rcases c with c|⟨w,x⟩
 ·exact .inl c
 ·exact .inr ⟨λe=>w (D0i j m p.1.1 q.1.1 B e),λe=>x (D0i j m p.2.1.1 q.2.1.1 C e)⟩
def Y03:Nat->l0->l0
 |0,g=>g
 |d+1,g=>match Q9 g with
  |none=>g
  |some k=>Y03 d (M8 g (wo k g.2.1.toNat 0))
theorem E0i{g:l0}{k:Nat}(h:Q9 g=some k):1<=k/\k<g.2.1.toNat:=by
 have:=t08 _ _ _ h
 omega
theorem s0c{g:l0}(b:T0 g=true){k:Nat}(h:Q9 g=some k):inV g.2.1.toNat (wo k g.2.1.toNat 0)/\(wo k g.2.1.toNat 0).length=g.2.1.toNat-1/\1<=(wo k g.2.1.toNat 0).length/\(wo k g.2.1.toNat 0).length<=40:=by
 obtain⟨d,e,f,i⟩:=N2 b
 have c:=E0i h
 have a:=v0f k g.2.1.toNat 0
 rw[if_pos (by omega)]at a
 exact⟨V0j k _ _ 0 (by omega),a,by omega,by omega⟩
theorem J02:∀(d:Nat) {g:l0},K0 g=true->K0 (Y03 d g)=true
 |0,g,h=>h
 |d+1,g,h=>by
  unfold Y03
  cases e:Q9 g with
  |none=>exact h
  |some k =>
   obtain⟨a,f,b,c⟩:=s0c (E2 h) e
   exact J02 d (x08 h a (w08 _ _ _) b c)
theorem A0f(n g:Nat)(i:n<=1000)(u:List Int)(j:u.length=n):∀(d k fuel:Nat) (acc a:List Int),k+d=n->d<fuel->acc.length<=k->a.length<=k ->
  ∃ v,O5 (n:Int) (g:Int) u fuel (k:Int) acc a=some (acc++wo g d k,v)/\v.length+acc.length=a.length+(acc++wo g d k).length
 |d,k,0,acc,a,h,hf,b,f=>by omega
 |0,k,fuel+1,acc,a,h,hf,b,f=>by
  rw[O5.eq_2,if_neg (by simp;omega)];exact⟨a,by simp[wo],by simp[wo]⟩
 |d+1,k,fuel+1,acc,a,h,hf,b,f=>by
  have l:=L5 (show k<u.length by omega)
  generalize u[k]=x at l
  rw[O5.eq_2,if_pos (by simp;omega),A2 (show k<10000 by omega) (by omega)]
  unfold wo
  by_cases c:k=g
  ·have e:decide ((k:Int)=(g:Int))=true:=decide_eq_true (by omega)
   rw[e,if_neg (by simp),if_pos c]
   exact A0f n g i u j d (k+1) fuel acc a (by omega) (by omega) (by omega) (by omega)
  ·have e:decide ((k:Int)=(g:Int))=false:=decide_eq_false (by omega)
   rw[e,if_pos (show(!false)=true from rfl),if_neg c,H0 (by simp;omega),oB,P2 l,oB,H0 (by simp;omega),oB]
   obtain⟨v,m,o⟩:=A0f n g i u j d (k+1) fuel (acc ++ [(k:Int)]) (a ++ [x]) (by omega) (by omega) (by simp;omega) (by simp;omega)
   refine⟨v,by rw[m];simp,?_⟩
   simp only[List.length_append,List.length_cons,List.length_nil]at o ⊢
   omega
theorem k0k(g:l0)(a:T0 g=true):∀(d k fuel:Nat) (acc:List Int),k+d=g.2.1.toNat->d<fuel->acc.length=k ->
  ∃ u,K6 g.2.1 g.1 g.2.2 fuel (k:Int) acc=some u/\u.length=g.2.1.toNat
 |d,k,0,acc,c,hf,b=>by omega
 |0,k,fuel+1,acc,c,hf,b=>by
  obtain⟨h,i,j,l⟩:=N2 a
  rw[K6.eq_2,show decide (((k:Nat):Int)<g.2.1)=false by simp;omega]
  exact⟨acc,by simp[chk],by omega⟩
 |d+1,k,fuel+1,acc,c,hf,b=>by
  obtain⟨h,i,j,l⟩:=N2 a
  obtain⟨u,e,f⟩:=k0k g a d (k+1) fuel (acc ++ [(k:Int)]) (by omega) (by omega) (by simp;omega)
  rw[K6.eq_2,show decide (((k:Nat):Int)<g.2.1)=true by simp;omega,O1,show(g.1,g.2.1,g.2.2)=g from rfl,r8 g (by omega),oB,a]
  rw[if_pos (show(bif true then true else false)=true from rfl),H0 (by simp;omega),oB,A2 (show k<1000 by omega) (by omega),e]
  exact⟨u,rfl,f⟩
theorem l0k(f:l0)(n:T0 f=true):∀(d k fuel:Nat) (g:l0) (u:List Int),k+d=40->d<fuel->T0 g=true->u.length=g.2.1.toNat->g.2.1.toNat<=d+1 ->
  ∃ v,(J6 f.1 f.2.1 f.2.2 fuel u (k:Int) g.1 g.2.1 g.2.2).bind (λX=>a9 X (λx=>match x with|(a,b,c,e)=>some ((b,c,e),a)))=some (Y03 d g,v)
 |d,k,0,g,u,q,hf,h,w,s=>by omega
 |0,k,fuel+1,g,u,q,hf,h,w,s=>by
  rw[J6.eq_2,show decide (((k:Nat):Int)<40)=false by simp;omega]
  exact⟨u,by simp[chk,a9,Y03]⟩
 |d+1,k,fuel+1,g,u,q,hf,h,w,s=>by
  obtain⟨G,H,I,J⟩:=N2 n
  obtain⟨K,L,M,O⟩:=N2 h
  have B:=E0p g h
  rw[J6.eq_2,show decide (((k:Nat):Int)<40)=true by simp;omega,O1,show(f.1,f.2.1,f.2.2)=f from rfl,r8 f (by omega),oB,n]
  rw[if_pos (show(bif true then true else false)=true from rfl),show(g.1,g.2.1,g.2.2)=g from rfl,B]
  unfold Y03
  cases e:Q9 g with
  |none =>
   simp only[oB]
   rw[H0 (show I0 (-1) from⟨by omega,by omega⟩),oB,if_pos (by simp)]
   exact⟨u,rfl⟩
  |some j =>
   obtain⟨o,y,m,A⟩:=s0c h e
   have F:=E0i e
   obtain⟨N,l⟩:∃ N:Nat,g.2.1=(N:Int):=⟨g.2.1.toNat,by omega⟩
   have i:g.2.1.toNat=N:=by omega
   obtain⟨v,D,E⟩:=A0f N j (by omega) u (by omega) N 0 U0 [] [] (by omega) (D1 (by omega)) (Nat.le_refl _) (Nat.le_refl _)
   have t:=h0a g.1 N g.2.2 (wo j N 0) (by rw[←l];exact h) (by rw[←i];exact o) (w08 _ _ _) (by rw[←i];exact m) (by rw[←i];omega)
   rw[←l,show(g.1,g.2.1,g.2.2)=g from rfl]at t
   have p:=j0a h o m A
   rw[i]at p y m
   obtain⟨C,z⟩:=l0k f n d (k+1) fuel (M8 g (wo j N 0)) v (by omega) (by omega) p (by simp only[List.nil_append,List.length_nil]at E;show v.length=((wo j N 0).length:Int).toNat;omega) (by show((wo j N 0).length:Int).toNat<=d+1;omega)
   simp only[oB]
   rw[H0 (show I0 ((j:Nat):Int) from⟨by omega,by omega⟩),oB,if_neg (by simp),l,show(0:Int)=((0:Nat):Int) from rfl,D]
   simp only[oB,List.nil_append]
   rw[←l,t]
   simp only[oB]
   rw[A2 (show k<1000 by omega) (by omega),i]
   exact⟨C,z⟩
def k06(g:l0):l0:=Y03 40 g
theorem B0f{g:l0}(a:T0 g=true):∃ v,d01 g=some (k06 g,v):=by
 obtain⟨f,h,i,j⟩:=N2 a
 have e:=J9 g (by omega)
 obtain⟨u,b,d⟩:=k0k g a g.2.1.toNat 0 U0 [] (by omega) (D1 (by omega)) rfl
 obtain⟨v,c⟩:=l0k g a 40 0 U0 g u rfl (D1 (by omega)) a d (by omega)
 refine⟨v,?_⟩
 obtain⟨r,n,es⟩:=g
 unfold d01
 simp only[e,oB]
 simp only at b c
 rw[show(0:Int)=((0:Nat):Int) from rfl,b,oB]
 exact c
theorem m0k:∀(n fuel d:Nat) (left:List Int) (r:Int) (es:List O0),1<=n->n<=40->inN n es->es.length<=120->left.length=n->n<fuel->n<=d+1 ->
  ∃ i,N5 fuel left r (n:Int) es=some (.inl (Y03 d (r,(n:Int),es),i))
 |n,0,d,left,r,es,j,l,b,B,C,hf,A=>by omega
 |n,fuel+1,d,left,r,es,j,l,b,B,C,hf,A=>by
  obtain⟨c,x,G,y⟩:=Q0j r n es b (by omega) j (by omega)
  have t:=v0i r n es (by omega) c G l (n-1) 1 U0 (Nat.le_refl _) (by omega) (by omega) (D1 (by omega))
  have z:lf (λv=>decide (N03 (v:Int) es<2) || !W9 c (v:Int)) (n-1) 1=lf (p0c es) (n-1) 1:=u0f _ _ λk I J=>by
   unfold p0c
   have:=y (k:Int) (by omega) (by omega)
   have m:=j0b es 0 (k:Int)
   congr 2
   cases hb:W9 c (k:Int)
   ·symm;exact decide_eq_false λh=>by rw[this.2 (m.1 h)]at hb;cases hb
   ·symm;exact decide_eq_true (m.2 (this.1 hb))
  rw[z]at t
  have o:Q9 (r,(n:Int),es)=lf (p0c es) (n-1) 1:=by simp only[Q9,Int.toNat_natCast]
  rw[N5.eq_2,x,oB,show(1:Int)=((1:Nat):Int) from rfl,t,oB]
  cases hlf:lf (p0c es) (n-1) 1 with
  |none =>
   have e:Y03 d (r,(n:Int),es)=(r,(n:Int),es):=by
    cases d with
    |zero=>rfl
    |succ d=>unfold Y03;rw[o,hlf]
   rw[e]
   exact⟨left,by rw[if_pos (by rfl)]⟩
  |some k =>
   have H:=t08 _ _ _ hlf
   have w:decide ((k:Int)=0)=false:=decide_eq_false (by omega)
   have p:=V0j k n n 0 (by omega)
   have g:=v0f k n 0
   rw[if_pos (by omega)]at g
   have s:=w0i n k (by omega) n 0 U0 [] (by omega) (D1 (by omega)) (Nat.le_refl _)
   rw[show((0:Nat):Int)=0 from rfl,List.nil_append]at s
   have D:=t0i r n es (wo k n 0) b p (by omega) (by omega) (by omega)
   have E:=g0a (r,(n:Int),es) (wo k n 0)
   have q:=e0h (r:=r) p b
   have F:IntKind.i64.wrap ((k:Int)+((1:Nat):Int))=((k+1:Nat):Int):=by rw[w64 (by omega) (by omega)];rfl
   obtain⟨a,rfl⟩:∃ a,d=a+1:=⟨d-1,by omega⟩
   have f:M8 (r,(n:Int),es) (wo k n 0)=(r,((n-1:Nat):Int),(M8 (r,(n:Int),es) (wo k n 0)).2.2):=by rw[←g];rfl
   obtain⟨i,u⟩:=m0k (n-1) fuel a (left.take k++left.drop (k+1)) r (M8 (r,(n:Int),es) (wo k n 0)).2.2 (by omega) (by omega) (by rw[g]at q;exact q) (by simp only at E;omega) (by simp only[List.length_append,List.length_take,List.length_drop];omega) (by omega) (by omega)
   refine⟨i,?_⟩
   rw[←f]at u
   have e:Y03 (a+1) (r,(n:Int),es)=Y03 a (M8 (r,(n:Int),es) (wo k n 0)):=by
    show(match Q9 (r,(n:Int),es)with|none=>(r,(n:Int),es)|some k=>Y03 a (M8 (r,(n:Int),es) (wo k ((n:Int)).toNat 0)))=_
    rw[o,hlf,Int.toNat_natCast]
   rw[e]
   simp only[w,Bool.false_eq_true,if_false,s,oB,D]
   generalize M8 (r,(n:Int),es) (wo k n 0)=gp at *
   rw[f]
   simp only[F]
   rw[l0b (by omega),oB,v01 (by omega),oB,H0 (by simp only[List.length_take,List.length_drop];omega),oB,u,←f]
theorem h0d{g:l0}(f:T0 g=true):∃ v,U7 g=some (k06 g,v):=by
 obtain⟨b,i,j,c⟩:=N2 f
 have m:=O00 g (by omega)
 have k:=l00 g (by omega)
 obtain⟨r,n,es⟩:=g
 simp only at i j c
 obtain⟨N,rfl⟩:∃ N:Nat,n=(N:Int):=⟨n.toNat,by omega⟩
 have l:inN N es:=λe d=>⟨(b e d).1,(b e d).2.1⟩
 obtain⟨u,a,h⟩:=x0i N (by omega) N 0 U0 [] (by omega) (D1 (by omega)) rfl
 obtain⟨o,p⟩:=m0k N U0 40 u r es (by omega) (by omega) l c h (D1 (by omega)) (by omega)
 refine⟨o,?_⟩
 unfold U7
 rw[show((0:Nat):Int)=0 from rfl]at a
 simp only[k,oB,m,f,Bool.not_true,Bool.false_eq_true,if_false,a,p,a9]
 rfl
def t0c(g:l0):l0:=L3 (k06 g)
theorem p0b{g:l0}(hf:K0 g=true):V8 g=(g,[]):=by
 obtain⟨a,b⟩:=(s05 g).1 hf
 unfold V8
 rw[a]
 show p01 40 g=_
 unfold p01
 rw[b]
theorem I0l{g:l0}(hf:K0 g=true):T5 g=some (t0c g):=by
 have b:=E2 hf
 obtain⟨e,f,h,i⟩:=N2 b
 have a:=I09 g (by omega)
 rw[p0b hf]at a
 obtain⟨v,c⟩:=B0f b
 have d:=s08 (k06 g) (J02 40 hf)
 obtain⟨r,n,es⟩:=g
 unfold T5 t0c
 simp only[a,oB,c]
 simp only[d,oB]
theorem J0l{g:l0}(hf:K0 g=true):U5 g=some (t0c g):=by
 have b:=E2 hf
 obtain⟨e,f,h,i⟩:=N2 b
 have a:=J09 g (by omega)
 rw[p0b hf]at a
 obtain⟨v,c⟩:=h0d b
 have d:=r08 (k06 g) (J02 40 hf)
 obtain⟨r,n,es⟩:=g
 unfold U5 t0c
 simp only[a,oB,c]
 simp only[d,oB]
theorem K0p{N r u x v:Int}(a:0<=u/\u<N)(b:0<=v/\v<N)(c:x≠0 /\ -r<=x/\x<=r):(0<=(stp u x v).1/\(stp u x v).1<N)/\(0<=(stp u x v).2.2/\(stp u x v).2.2<N)/\1<=(stp u x v).2.1/\(stp u x v).2.1<=r:=by
 unfold stp
 split<;>(simp only;omega)
theorem n0k{N r v:Int}(f:0<=v/\v<N):∀(w:List Int) (u n:Int),(0<=u/\u<N)->0<=n->n+((w.length-1:Nat):Int)<=N->(∀ x∈w,x≠0 /\ -r<=x/\x<=r) ->
  ∀ e∈b03 v w u n,(0<=e.1/\e.1<N)/\(0<=e.2.2/\e.2.2<N)/\1<=e.2.1/\e.2.1<=r
 | [],u,n,c,h0,d,b,e,a=>nomatch a
 | [x],u,n,c,h0,d,b,e,a=>by
  simp only[b03,List.mem_singleton]at a
  subst a
  exact K0p c f (b x mS)
 |x::y::l,u,n,c,h0,d,b,e,a=>by
  simp only[List.length_cons]at d
  simp only[b03]at a
  rcases List.mem_cons.1 a with rfl|a
  ·exact K0p c ⟨h0,by omega⟩ (b x mS)
  ·exact n0k f (y::l) n (n+1) ⟨h0,by omega⟩ (by omega) (by simp only[List.length_cons];omega) (λz g=>b z (mC _ g)) e a
theorem P00{g:l0}{u v:Int}{w:List Int}(b:T0 g=true)(o:0<=u/\u<g.2.1)(p:0<=v/\v<g.2.1)(c:U1 g.1 w=true):T0 (C3 g u w v).1=true:=by
 obtain⟨f,i,q,s,j⟩:=(Z00 g).1 b
 obtain⟨t,k⟩:=g03 c
 unfold C3
 cases hc:(!w.isEmpty&&decide (g.2.1+(w.length:Int)-1<=40)&&decide (g.2.2.length+w.length<=120))with
 |false=>exact b
 |true =>
  simp only[Bool.and_eq_true,decide_eq_true_eq,Bool.not_eq_true',List.isEmpty_eq_false_iff]at hc
  have n:1<=w.length:=by
   have:=List.length_pos_iff.2 hc.1.1;omega
  have l:=D00 (b03 v w u g.2.1) g.2.2
  have m:=c09 v w u g.2.1
  simp only[cond_true]
  refine(Z00 _).2 ⟨λe a=>?_,i,⟨by simp only;omega,by simp only;omega⟩,by simp only;omega,j02 p6 _ _ j⟩
  simp only at a ⊢
  rcases(S8 p6 e _ _).1 a with h|h
  ·have:=f e h
   omega
  ·exact n0k ⟨by omega,by omega⟩ w u g.2.1 ⟨by omega,by omega⟩ (by omega) (iR _) (λx d=>(k x d).2) e h
theorem N04(g:l0)(u:Int)(w:List Int)(v:Int):(C3 g u w v).1.1=g.1:=by
 unfold C3
 cases (!w.isEmpty&&decide (g.2.1+(w.length:Int)-1<=40)&&decide (g.2.2.length+w.length<=120))<;>rfl
def z07:List (List Int)->l0->l0
 | [],g=>g
 |w::r,g=>z07 r (C3 g 0 w 0).1
theorem i0d:∀(c:List (List Int)) {g:l0},T0 g=true->(∀ w∈c,U1 g.1 w=true)->T0 (z07 c g)=true
 | [],g,a,b=>a
 |w::r,g,a,b=>by
  obtain⟨f,h,i,j⟩:=N2 a
  exact i0d r (P00 a ⟨iR _,by omega⟩ ⟨iR _,by omega⟩ (b w mS)) λe d=>by
   rw[N04];exact b e (mC _ d)
theorem j0d{g:l0}{w:List Int}(a:T0 g=true)(b:U1 g.1 w=true):x00 g w=some (C3 g 0 w 0):=by
 obtain⟨c,d,e,f⟩:=N2 a
 have h:=i06 a (u:=0) (v:=0) ⟨iR _,by omega⟩ ⟨iR _,by omega⟩ b
 obtain⟨r,n,es⟩:=g
 unfold x00
 simp only[h,oB]
theorem k0d{g:l0}{w:List Int}(a:T0 g=true)(b:U1 g.1 w=true):y00 g w=some (C3 g 0 w 0):=by
 obtain⟨c,d,e,f⟩:=N2 a
 have h:=j06 a (u:=0) (v:=0) ⟨iR _,by omega⟩ ⟨iR _,by omega⟩ b
 obtain⟨r,n,es⟩:=g
 unfold y00
 simp only[h,oB]
theorem l0h(a:List (List Int))(j:a.length<=1000):∀(d k fuel:Nat) (g:l0),k+d=a.length->d<fuel->T0 g=true->(∀ w∈a,U1 g.1 w=true) ->
  t7 a fuel (k:Int) g.1 g.2.1 g.2.2=some (z07 (a.drop k) g)
 |d,k,0,g,i,hf,b,c=>by omega
 |0,k,fuel+1,g,i,hf,b,c=>by
  rw[t7.eq_2,if_neg (by simp;omega),J1 (by omega)];rfl
 |d+1,k,fuel+1,g,i,hf,b,c=>by
  have e:k<a.length:=by omega
  have h:=L5 e
  have f:=c _ (List.getElem_mem e)
  generalize a[k]=w at h f
  obtain⟨m,n,o,p⟩:=N2 b
  have l:=l0h a j d (k+1) fuel (C3 g 0 w 0).1 (by omega) (by omega) (P00 b ⟨iR _,by omega⟩ ⟨iR _,by omega⟩ f) (by rw[N04];exact c)
  rw[t7.eq_2,if_pos (by simp;omega),P2 h,oB,show(g.1,g.2.1,g.2.2)=g from rfl,j0d b f,oB,A2 e (by omega),N1 h]
  exact l
theorem m0h(a:List (List Int))(n:a.length<=1000):∀(d k fuel:Nat) (g:l0),k+d=a.length->d<fuel->T0 g=true->(∀ w∈a,U1 g.1 w=true) ->
  t6 a fuel (k:Int) g.1 g.2.1 g.2.2=some (z07 (a.drop k) g)
 |d,k,0,g,m,hf,b,f=>by omega
 |0,k,fuel+1,g,m,hf,b,f=>by
  rw[t6.eq_2,if_neg (by simp;omega),J1 (by omega)];rfl
 |d+1,k,fuel+1,g,m,hf,b,f=>by
  have h:k<a.length:=by omega
  have j:=L5 h
  have i:=f _ (List.getElem_mem h)
  generalize a[k]=w at j i
  obtain⟨o,p,q,s⟩:=N2 b
  have l:=m0h a n d (k+1) fuel (C3 g 0 w 0).1 (by omega) (by omega) (P00 b ⟨iR _,by omega⟩ ⟨iR _,by omega⟩ i) (by rw[N04];exact f)
  rw[t6.eq_2,if_pos (by simp;omega),P2 j,oB,A2 h (by omega),N1 j]
  by_cases c:w = []
  ·subst c
   rw[if_neg (by simp)]
   have e:(C3 g 0 [] 0).1=g:=rfl
   rw[e]at l
   rw[l]
   show _=some (z07 (a.drop (k+1)) (C3 g 0 [] 0).1)
   rw[e]
  ·have:0<w.length:=List.length_pos_iff.2 c
   rw[if_pos (by simp;omega),show(g.1,g.2.1,g.2.2)=g from rfl,k0d b i,oB]
   exact l
def I06(r:Int)(a:List (List Int)):l0×Bool:=bif c7 r a then(z07 a (r,1,[]),true)else((0,0,[]),false)
theorem u0c{r:Int}{a:List (List Int)}(h:c7 r a=true):(1<=r/\r<=3)/\a.length<=6/\∀ w∈a,U1 r w=true:=by
 simp only[c7,inR,Bool.and_eq_true,decide_eq_true_eq]at h
 refine⟨h.1.1.1,h.1.1.2,?_⟩
 have b:∀ {a:List (List Int)},u0d r a=true->∀ w∈a,U1 r w=true:=by
  intro a
  induction a with
  |nil=>intro _ w b;cases b
  |cons v l c =>
   intro h w b
   simp only[u0d,Bool.and_eq_true]at h
   rcases List.mem_cons.1 b with rfl|b
   ·exact h.1
   ·exact c h.2 w b
 exact b h.1.2
theorem v0c{r:Int}(b:1<=r/\r<=3):T0 (r,1,[])=true:=(Z00 _).2 ⟨(λe a=>by cases a),b,⟨by simp,by simp⟩,by simp,List.Pairwise.nil⟩
theorem F0i(r:Int)(a:List (List Int))(d:a.length<=140737488355328)(f:N00 a):E01 r a=some (I06 r a):=by
 have b:=Z0e r a d f
 unfold E01 I06
 rw[b,oB]
 cases hA:c7 r a with
 |false=>rfl
 |true =>
  obtain⟨e,i,g⟩:=u0c hA
  have h:=l0h a (by omega) a.length 0 U0 (r,1,[]) (by omega) (D1 (by omega)) (v0c e) g
  have c:D01 r=some ((r,1,[]),true):=by
   unfold D01
   rw[m03,oB,if_neg (by simp[inR];omega)]
  rw[if_neg (by simp),c,oB]
  simp only[]at h ⊢
  rw[show(0:Int)=((0:Nat):Int) from rfl,h]
  rfl
theorem G0i(r:Int)(a:List (List Int))(d:a.length<=140737488355328)(f:N00 a):H01 r a=some (I06 r a):=by
 have b:=a0f r a d f
 unfold H01 I06
 rw[b,oB]
 cases hA:c7 r a with
 |false=>rfl
 |true =>
  obtain⟨e,i,g⟩:=u0c hA
  have h:=m0h a (by omega) a.length 0 U0 (r,1,[]) (by omega) (D1 (by omega)) (v0c e) g
  have c:G01 r=some ((r,1,[]),true):=by
   unfold G01
   rw[L03,oB,if_neg (by simp[inR];omega)]
  rw[if_neg (by simp),c,oB]
  simp only[]at h ⊢
  rw[show(0:Int)=((0:Nat):Int) from rfl,h]
  rfl
theorem C0f:∀(d:Nat) {g:l0},T0 g=true->g.2.1.toNat<=d+1->Q9 (Y03 d g)=none
 |0,g,a,h=>by
  cases e:Q9 g with
  |none=>exact e
  |some k=>have:=E0i e;omega
 |d+1,g,a,h=>by
  unfold Y03
  cases e:Q9 g with
  |none=>exact e
  |some k =>
   obtain⟨b,i,c,f⟩:=s0c a e
   exact C0f d (j0a a b c f) (by show(((wo k g.2.1.toNat 0).length:Nat):Int).toNat<=d+1;omega)
theorem f0o{g:l0}(hf:K0 g=true){v x y z:Int}(q:y∈k00 v x g.2.2)(s:z∈k00 v x g.2.2):y=z:=by
 obtain⟨e,o,l⟩:=d7.1 q
 obtain⟨k,p,m⟩:=d7.1 s
 by_cases hne:e=k
 ·subst hne
  rcases l with⟨a,b,c,rfl⟩|⟨a,b,c,rfl⟩<;>rcases m with⟨h,i,j,rfl⟩|⟨h,i,j,rfl⟩<;>first|rfl|omega
 ·have f:=(e09 (E2 hf)).1 hf e o k p hne
  unfold L04 at f
  simp only[Bool.and_eq_false_iff,Bool.or_eq_false_iff,decide_eq_false_iff_not]at f
  rcases l with⟨a,b,c,d⟩|⟨a,b,c,d⟩<;>rcases m with⟨h,i,j,n⟩|⟨h,i,j,n⟩<;>first|omega|(exfalso;rcases f with f|⟨t,u⟩<;>omega)
theorem o07(g:l0)(v x:Int):(S0 g v x = -1/\k00 v x g.2.2 = [])∨S0 g v x∈k00 v x g.2.2:=by
 unfold S0
 cases e:f03 g v x with
 |nil =>
  left
  refine⟨rfl,List.eq_nil_iff_forall_not_mem.2 λy b=>?_⟩
  have:y∈f03 g v x:=(S8 X02 y _ _).2 (.inr b)
  rw[e]at this;cases this
 |cons a l=>exact .inr (U0g (by rw[e];exact mS))
theorem p07{g:l0}(hf:K0 g=true){v x y:Int}(a:y∈k00 v x g.2.2):S0 g v x=y:=by
 rcases o07 g v x with⟨_,h⟩|h
 ·rw[h]at a;cases a
 ·exact f0o hf h a
theorem o0k:∀(d i j:Nat),i<=j->j<i+d->(j:Int)∈Q6 d i /\ -(j:Int)∈Q6 d i
 |0,i,j,e,f=>by omega
 |d+1,i,j,e,f=>by
  simp only[Q6,List.mem_cons]
  by_cases c:j=i
  ·subst c;simp
  ·obtain⟨a,b⟩:=o0k d (i+1) j (by omega) (by omega)
   exact⟨.inr (.inr a),.inr (.inr b)⟩
theorem n0h(g:l0)(v:Int):∀(b u:List Int) (x:Int),x∈b->0<=S0 g v x->S0 g v x∈a03 g v b u
 |y::r,u,x,a,h0=>by
  rw[a03]
  rcases List.mem_cons.1 a with rfl|a
  ·obtain⟨t,e⟩:=x03 g v r (I07 u (S0 g v x))
   rw[e]
   refine List.mem_append_left _ ?_
   unfold I07
   split
   ·exact List.mem_append_right _ (List.mem_singleton.2 rfl)
   ·rename_i h
    by_cases hm:S0 g v x∈u
    ·exact hm
    ·exact absurd ⟨h0,hm⟩ h
  ·exact n0h g v r _ x a h0
theorem k0a(g:l0)(a:List Int):∀(f i:Nat) (u:List Int),∃ t,r9 g a f i u=u++t
 |0,i,u=>⟨[],by simp[r9]⟩
 |f+1,i,u=>by
  unfold r9
  split
  ·rename_i v _
   obtain⟨d,b⟩:=x03 g v a u
   obtain⟨e,c⟩:=k0a g a f (i+1) (a03 g v a u)
   exact⟨d++e,by rw[c,b,List.append_assoc]⟩
  ·exact⟨[],by simp⟩
theorem D0f{r:Int}{n:Nat}{es:List O0}(m:inG (r,(n:Int),es))(a:List Int):∀(f i:Nat) (u:List Int),gud n u->n+1<=f+i->i<=u.length ->
  (∀ j,j<i->∀ v,u[j]?=some v->∀ x∈a,0<=S0 (r,(n:Int),es) v x->S0 (r,(n:Int),es) v x∈u) ->
  ∀ v∈r9 (r,(n:Int),es) a f i u,∀ x∈a,0<=S0 (r,(n:Int),es) v x->S0 (r,(n:Int),es) v x∈r9 (r,(n:Int),es) a f i u
 |0,i,u,g,q,o,k=>by have:=u00 n u g.1 g.2;omega
 |f+1,i,u,g,q,o,k=>by
  unfold r9
  cases e:u[i]? with
  |none =>
   have:i=u.length:=by have:=List.getElem?_eq_none_iff.1 e;omega
   show ∀ v∈u,∀ x∈a,0<=S0 (r,(n:Int),es) v x->S0 (r,(n:Int),es) v x∈u
   intro v b x h h0
   obtain⟨j,l⟩:=List.getElem?_of_mem b
   exact k j (by have:=(List.getElem?_eq_some_iff.1 l).1;omega) v l x h h0
  |some w =>
   have p:=(List.getElem?_eq_some_iff.1 e).1
   obtain⟨t,d⟩:=x03 (r,(n:Int),es) w a u
   refine D0f m a f (i+1) _ (R04 m w a u g) (by omega) (by rw[d,List.length_append];omega) λj l v b x h h0=>?_
   by_cases c:j=i
   ·subst c
    rw[d,List.getElem?_append_left p,e]at b
    cases b
    exact n0h _ _ a u x h h0
   ·rw[d,List.getElem?_append_left (by omega)]at b
    rw[d]
    exact List.mem_append_left _ (k j (by omega) v b x h h0)
theorem E0f(g:l0):∃ t,r6 g=0::t:=by
 obtain⟨t,e⟩:=k0a g (Q6 g.1.toNat 1) (g.2.1.toNat+1) 0 [0]
 exact⟨t,e⟩
theorem p0k{g:l0}(hf:K0 g=true){x:Int}(h:Rch g.2.2 0 x):x∈r6 g:=by
 obtain⟨l,q,s,w⟩:=C1 hf
 have m:=E0f g
 have c:∀ v∈r6 g,∀ x∈Q6 g.1.toNat 1,0<=S0 g v x->S0 g v x∈r6 g:=by
  obtain⟨r,n,es⟩:=g
  simp only at q s
  obtain⟨N,rfl⟩:∃ N:Nat,n=(N:Int):=⟨n.toNat,by omega⟩
  exact D0f l _ (((N:Int)).toNat+1) 0 [0] ⟨by simp,λx f=>by simp at f;subst f;omega⟩ (by simp only[Int.toNat_natCast];omega) (Nat.zero_le _) (λj d=>by omega)
 refine Rch.sub (P:=λx=>x∈r6 g) ?_ (λe b=>?_) h
 ·obtain⟨t,e⟩:=m
  rw[e];exact mS
 ·have u:=l e b
  obtain⟨j,d⟩:∃ j:Nat,e.2.1=(j:Int):=⟨e.2.1.toNat,by omega⟩
  obtain⟨o,p⟩:=o0k g.1.toNat 1 j (by omega) (by omega)
  have i:S0 g e.1 (j:Int)=e.2.2:=p07 hf (d7.2 ⟨e,b,.inl ⟨by omega,d,rfl,rfl⟩⟩)
  have k:S0 g e.2.2 (-(j:Int))=e.1:=p07 hf (d7.2 ⟨e,b,.inr ⟨by omega,by omega,rfl,rfl⟩⟩)
  constructor
  ·intro a
   have:=c e.1 a (j:Int) o (by rw[i];omega)
   rwa [i]at this
  ·intro a
   have:=c e.2.2 a (-(j:Int)) p (by rw[k];omega)
   rwa [k]at this
theorem H0i{a:Nat->Bool}:∀ {d v:Nat},lf a d v=none->∀ k,v<=k->k<v+d->a k=false
 |0,v,h,k,b,e=>by omega
 |d+1,v,h,k,b,e=>by
  unfold lf at h
  cases hb:a v with
  |true=>rw[hb]at h;cases h
  |false =>
   rw[hb]at h
   by_cases c:k=v
   ·rw[c];exact hb
   ·exact H0i (d:=d) (v:=v+1) h k (by omega) (by omega)
theorem F0f{a:Nat->Bool}:∀ {d v:Nat},(∀ k,v<=k->k<v+d->a k=false)->lf a d v=none
 |0,v,h=>rfl
 |d+1,v,h=>by
  unfold lf
  rw[h v (Nat.le_refl _) (by omega)]
  exact F0f λk b c=>h k (by omega) (by omega)
theorem g0o{g:l0}(hf:K0 g=true)(b:Q9 g=none){x:Int}(h0:0<=x)(d:x<g.2.1):x∈r6 g:=by
 refine p0k hf ?_
 by_cases c:x=0
 ·subst c;exact .base
 ·have:=H0i b x.toNat (by omega) (by omega)
  unfold p0c at this
  simp only[Bool.or_eq_false_iff,Bool.not_eq_false',decide_eq_true_eq]at this
  have a:=this.2
  rw[show((x.toNat:Nat):Int)=x by omega]at a
  exact(j0b _ _ _).1 a
theorem o0h{n:Nat}:∀(o:List Int) (k:Nat) (A:List Int),A.length=n->inV n o->o.Nodup->∀(i:Nat) (v:Int),o[i]?=some v->getI (w01 A k o) v=((k+i:Nat):Int)
 | [],k,A,c,b,f,i,v,a=>by simp at a
 |w::r,k,A,c,b,f,i,v,a=>by
  have e:=b w mS
  obtain⟨g,h⟩:=List.nodup_cons.1 f
  cases i with
  |zero =>
   simp at a;subst a
   rw[w01,q0f r _ _ w (by simp[c]) (λu d=>b u (mC _ d)) e.1 g,A04 e.1 (by omega) e.1,if_pos rfl];rfl
  |succ i =>
   rw[w01,o0h r (k+1) _ (by simp[c]) (λu d=>b u (mC _ d)) h i v (by simpa using a)]
   omega
theorem L0p{n:Nat}{o:List Int}(c:inV n o)(a:o.Nodup){i:Nat}{v:Int}(b:o[i]?=some v):getI (plc n o) v=(i:Int):=by
 have:=o0h o 0 (List.replicate n (-1)) (by simp) c a i v b
 rw[Nat.zero_add]at this;exact this
theorem K0l(P:List Int):∀(es:List O0),(∀ e∈es,0<=getI P e.1/\0<=getI P e.2.2)->pE P es=es.map λe=>(getI P e.1,e.2.1,getI P e.2.2)
 | [],h=>rfl
 |e::r,h=>by
  have a:=h e mS
  unfold pE
  rw[show(decide (0<=getI P e.1)&&decide (0<=getI P e.2.2))=true by simp[a.1,a.2],K0l P r λb c=>h b (mC _ c)]
  rfl
theorem p0h(e:O0):∀ {l:List O0},e ∉ l->(g00 Q0 e l).Perm (e::l)
 | [],_=>List.Perm.refl _
 |y::l,h=>by
  have d:=p0h e (l:=l) λb=>h (mC _ b)
  unfold g00
  split
  ·exact List.Perm.refl _
  ·split
   ·rename_i c
    exact absurd (p6.eq _ _ c) λa=>h (by rw[a];exact mS)
   ·exact(List.Perm.cons y d).trans (List.Perm.swap e y l)
theorem l0d:∀(r acc:List O0),(acc++r).Nodup->(w4 Q0 acc r).Perm (acc++r)
 | [],acc,h=>by simp[w4]
 |x::r,acc,h=>by
  have a:(acc++x::r).Perm (x::(acc++r)):=List.perm_middle
  have b:=a.nodup_iff.1 h
  have f:x ∉ acc:=λd=>(List.nodup_cons.1 b).1 (List.mem_append_left _ d)
  have e:=p0h x f
  have c:(g00 Q0 x acc++r).Perm (x::(acc++r)):=e.append_right r
  rw[w4]
  exact((l0d r _ (c.nodup_iff.2 b)).trans c).trans a.symm
theorem h0o(v:Int){l a:List O0}(h:l.Perm a):N03 v l=N03 v a:=by
 induction h with
 |nil=>rfl
 |cons x _ d=>simp only[N03,d]
 |swap x y l=>simp only[N03];omega
 |trans _ _ b c=>rw[b,c]
theorem q0k{a:Int->Int}{v:Int}:∀(es:List O0),(∀ e∈es,(a e.1=a v↔e.1=v)/\(a e.2.2=a v↔e.2.2=v))->N03 (a v) (es.map λe=>(a e.1,e.2.1,a e.2.2))=N03 v es
 | [],h=>rfl
 |e::r,h=>by
  obtain⟨b,d⟩:=h e mS
  have i:=q0k r λf g=>h f (mC _ g)
  simp only[List.map_cons,N03,i,t0p]
  congr 2
  ·by_cases c:e.1=v
   ·rw[if_pos (b.2 c),if_pos c]
   ·rw[if_neg λq=>c (b.1 q),if_neg c]
  ·by_cases c:e.2.2=v
   ·rw[if_pos (d.2 c),if_pos c]
   ·rw[if_neg λq=>c (d.1 q),if_neg c]
theorem M0p:∀(m:Nat) (o:List Int),(∀ i:Nat,i<m->(i:Int)∈o)->m<=o.length
 |0,o,h=>Nat.zero_le _
 |m+1,o,h=>by
  have a:=h m (by omega)
  have b:=M0p m (o.erase (m:Int)) λi c=>(List.mem_erase_of_ne (by omega)).2 (h i (by omega))
  rw[List.length_erase_of_mem a]at b
  have:=List.length_pos_of_mem a
  omega
theorem w0c{es:List O0}(c:Asc Q0 es):es.Nodup:=by
 refine List.Pairwise.imp (λ{a b} h e=>?_) c
 rw[e,p6.refl]at h;omega
theorem r0k{es:List O0}(a:Asc Q0 es):w4 Q0 [] es=es :=
 e0a p6 (j02 p6 _ _ .nil) a λx=>by rw[S8 p6];simp
theorem L0l{t:l0}(hf:K0 t=true)(ab:Q9 t=none):O2 (L3 t)=true:=by
 have av:=E2 hf
 obtain⟨A,aT,aU,aV⟩:=C1 hf
 have ak:=S04 av
 obtain⟨⟨M,G⟩,aE⟩:=b09 hf
 have aB:=u00 _ _ M G
 have Y:∀ x:Int,0<=x->x<t.2.1->x∈r6 t:=λx h0 d=>g0o hf ab h0 d
 obtain⟨aW,aK⟩:=E0f t
 obtain⟨n,ad⟩:∃ n:Nat,t.2.1=(n:Int):=⟨t.2.1.toNat,by omega⟩
 have Q:t.2.1.toNat=n:=by omega
 rw[Q]at G aB
 have ag:(r6 t).length=n:=by
  have:=M0p n (r6 t) λi F=>Y _ (by omega) (by omega)
  omega
 let P:Int->Int:=getI (plc n (r6 t))
 have K:∀(i:Nat) (v:Int),(r6 t)[i]?=some v->P v=(i:Int):=λi v F=>L0p G M F
 have L:∀ x:Int,0<=x->x<t.2.1->0<=P x/\P x<(n:Int):=λx h0 d=>by
  obtain⟨i,F⟩:=List.getElem?_of_mem (Y x h0 d)
  have:=(List.getElem?_eq_some_iff.1 F).1
  rw[K i x F];omega
 have B:∀ x y:Int,0<=x->x<t.2.1->0<=y->y<t.2.1->P x=P y->x=y:=λx y h0 d p aQ h=>D0i G M h0 p (L x h0 d).1 h
 have S:P 0=0:=K 0 0 (by rw[aK];rfl)
 have aF:pE (plc n (r6 t)) t.2.2=t.2.2.map λe=>(P e.1,e.2.1,P e.2.2):=K0l _ _ λe g=>by
  have:=A e g
  exact⟨(L e.1 this.1.1 this.1.2).1,(L e.2.2 this.2.1.1 this.2.1.2).1⟩
 have J:L3 t=(t.1,(n:Int),w4 Q0 [] (t.2.2.map λe=>(P e.1,e.2.1,P e.2.2))):=by
  unfold L3 M8
  rw[Q,aF,ag]
 have ay:∀ e∈t.2.2,∀ j∈t.2.2,((P e.1,e.2.1,P e.2.2):O0)=(P j.1,j.2.1,P j.2.2)->e=j:=λe g j U h=>by
  have a:=A e g
  have b:=A j U
  simp only[Prod.mk.injEq]at h
  have d:=B _ _ a.1.1 a.1.2 b.1.1 b.1.2 h.1
  have p:=B _ _ a.2.1.1 a.2.1.2 b.2.1.1 b.2.1.2 h.2.2
  obtain⟨aN,H,X⟩:=e
  obtain⟨aO,aP,f2⟩:=j
  simp only at d p h
  rw[d,p,h.2.1]
 have aD:(t.2.2.map λe=>((P e.1,e.2.1,P e.2.2):O0)).Nodup:=by
  have:=w0c ak
  rw[List.Nodup,List.pairwise_map]
  exact List.Pairwise.imp_of_mem (λ{a b} ao C h e=>h (ay a ao b C e)) this
 have O:∀ j,j∈(L3 t).2.2↔∃ e∈t.2.2,j=(P e.1,e.2.1,P e.2.2):=λj=>by
  rw[J]
  simp only
  rw[S8 p6]
  simp only[List.not_mem_nil,false_or,List.mem_map]
  exact⟨λ⟨e,d,p⟩=>⟨e,d,p.symm⟩,λ⟨e,d,p⟩=>⟨e,d,p.symm⟩⟩
 have I:K0 (L3 t)=true:=x08 hf (by rw[Q];exact G) M aE (by omega)
 have Z:=E2 I
 have D:(L3 t).2.1=(n:Int):=by rw[J]
 have ar:∀ v:Int,0<=v->v<t.2.1->N03 (P v) (L3 t).2.2=N03 v t.2.2:=λv h0 d=>by
  rw[J]
  simp only
  rw[h0o _ (l0d _ [] (by simpa using aD)),List.nil_append]
  refine q0k _ λe g=>?_
  have:=A e g
  exact⟨⟨λh=>B _ _ this.1.1 this.1.2 h0 d h,λh=>by rw[h]⟩,⟨λh=>B _ _ this.2.1.1 this.2.1.2 h0 d h,λh=>by rw[h]⟩⟩
 have aH:∀ x,Rch t.2.2 0 x->Rch (L3 t).2.2 0 (P x):=λx s =>
  Rch.sub (P:=λx=>Rch (L3 t).2.2 0 (P x)) (by show Rch _ 0 (P 0);rw[S];exact .base) (λe g=>Rch.closed (P e.1,e.2.1,P e.2.2) ((O _).2 ⟨e,g,rfl⟩)) s
 have aA:Q9 (L3 t)=none:=by
  unfold Q9
  refine F0f λk aS aL=>?_
  rw[D,Int.toNat_natCast]at aL
  obtain⟨v,w⟩:∃ v,(r6 t)[k]?=some v:=⟨_,List.getElem?_eq_getElem (by omega)⟩
  have aJ:=G v (List.mem_of_getElem? w)
  have T:=K k v w
  have aR:v≠0:=λh=>by rw[h,S]at T;omega
  have C:=H0i ab v.toNat (by omega) (by omega)
  unfold p0c at C ⊢
  rw[show((v.toNat:Nat):Int)=v by omega]at C
  simp only[Bool.or_eq_false_iff,Bool.not_eq_false',decide_eq_true_eq,decide_eq_false_iff_not]at C ⊢
  refine⟨?_,?_⟩
  ·rw[←T,ar v aJ.1 (by omega)];exact C.1
  ·rw[←T]
   exact(j0b _ _ _).2 (aH v ((j0b _ _ _).1 C.2))
 have ae:∀ v x:Int,0<=v->v<t.2.1->(S0 t v x = -1/\S0 (L3 t) (P v) x = -1)∨((0<=S0 t v x/\S0 t v x<t.2.1)/\S0 (L3 t) (P v) x=P (S0 t v x)):=λv x h0 d=>by
  rcases o07 t v x with⟨H,X⟩|H
  ·left
   refine⟨H,?_⟩
   rcases o07 (L3 t) (P v) x with⟨R,aM⟩|R
   ·exact R
   ·exfalso
    obtain⟨j,U,V⟩:=d7.1 R
    obtain⟨e,g,rfl⟩:=(O j).1 U
    have E:=A e g
    have:∃ y,y∈k00 v x t.2.2:=by
     rcases V with⟨a,b,c,_⟩|⟨a,b,c,_⟩
     ·exact⟨_,d7.2 ⟨e,g,.inl ⟨a,b,B _ _ E.1.1 E.1.2 h0 d c,rfl⟩⟩⟩
     ·exact⟨_,d7.2 ⟨e,g,.inr ⟨a,b,B _ _ E.2.1.1 E.2.1.2 h0 d c,rfl⟩⟩⟩
    obtain⟨y,ai⟩:=this
    rw[X]at ai;cases ai
  ·right
   generalize S0 t v x=y at H
   obtain⟨e,g,V⟩:=d7.1 H
   have E:=A e g
   rcases V with⟨a,b,c,rfl⟩|⟨a,b,c,rfl⟩
   ·exact⟨E.2.1,p07 I (d7.2 ⟨_,(O _).2 ⟨e,g,rfl⟩,.inl ⟨a,b,by show P e.1=P v;rw[c],rfl⟩⟩)⟩
   ·exact⟨E.1,p07 I (d7.2 ⟨_,(O _).2 ⟨e,g,rfl⟩,.inr ⟨a,b,by show P e.2.2=P v;rw[c],rfl⟩⟩)⟩
 have aj:∀ u:List Int,gud n u->∀ x∈u,0<=x/\x<t.2.1:=λu o x s=>by have:=o.2 x s;omega
 have ax:inG (t.1,(n:Int),t.2.2):=by
  have:=A
  intro e g
  have:=A e g
  rw[ad]at this;exact this
 have au:(t.1,(n:Int),t.2.2)=t:=by
  rw[←ad]
 have an:∀(u:List Int) (y z:Int),gud n u->(y = -1/\z = -1)∨((0<=y/\y<t.2.1)/\z=P y)->I07 (u.map P) z=(I07 u y).map P:=λu y z o h=>by
  unfold I07
  rcases h with⟨rfl,rfl⟩|⟨⟨h0,d⟩,rfl⟩
  ·rw[if_neg (by omega),if_neg (by omega)]
  ·have ac:P y∈u.map P↔y∈u:=by
    constructor
    ·intro h
     obtain⟨x,s,e⟩:=List.mem_map.1 h
     have:=aj u o x s
     rw[←B x y this.1 this.2 h0 d e];exact s
    ·exact λh=>List.mem_map.2 ⟨y,h,rfl⟩
   by_cases c:y∈u
   ·rw[if_neg λq=>q.2 (ac.2 c),if_neg λq=>q.2 c]
   ·rw[if_pos ⟨(L y h0 d).1,λq=>c (ac.1 q)⟩,if_pos ⟨h0,c⟩];simp
 have al:∀(v:Int),0<=v->v<t.2.1->∀(m u:List Int),gud n u->a03 (L3 t) (P v) m (u.map P)=(a03 t v m u).map P:=λv h0 d m=>by
  induction m with
  |nil=>intro u o;rfl
  |cons x l W =>
   intro u o
   have s:S0 t v x = -1∨(0<=S0 t v x/\S0 t v x<(n:Int)):=by
    rcases ae v x h0 d with⟨a,_⟩|⟨a,_⟩
    ·exact .inl a
    ·exact .inr (by omega)
   rw[a03,a03,an u _ _ o (ae v x h0 d),W _ (a0n o s)]
 have am:∀(f i:Nat) (u:List Int) (m:List Int),gud n u->r9 (L3 t) m f i (u.map P)=(r9 t m f i u).map P:=λf=>by
  induction f with
  |zero=>intro i u m o;rfl
  |succ f W =>
   intro i u m o
   unfold r9
   rw[List.getElem?_map]
   cases e:u[i]? with
   |none=>rfl
   |some v =>
    have w:=aj u o v (List.mem_of_getElem? e)
    have aw:gud n (a03 t v m u):=by
     have:=R04 ax v m u o
     rw[au]at this;exact this
    simp only[Option.map_some]
    rw[al v w.1 w.2 m u o]
    exact W (i+1) _ m aw
 have ah:r6 (L3 t)=(r6 t).map P:=by
  have d:(L3 t).1=t.1:=by rw[J]
  have p:=am (n+1) 0 [0] (Q6 t.1.toNat 1) ⟨by simp,λx s=>by simp at s;subst s;omega⟩
  rw[List.map_cons,List.map_nil,S]at p
  show r9 (L3 t) (Q6 (L3 t).1.toNat 1) ((L3 t).2.1.toNat+1) 0 [0]=(r9 t (Q6 t.1.toNat 1) (t.2.1.toNat+1) 0 [0]).map P
  rw[d,D,Q,Int.toNat_natCast]
  exact p
 have az:∀ i:Nat,i<n->(r6 (L3 t))[i]?=some (i:Int):=λi F=>by
  rw[ah,List.getElem?_map]
  obtain⟨v,w⟩:∃ v,(r6 t)[i]?=some v:=⟨_,List.getElem?_eq_getElem (by omega)⟩
  rw[w,Option.map_some,K i v w]
 obtain⟨⟨aq,af⟩,_⟩:=b09 I
 rw[D,Int.toNat_natCast]at af
 have N:∀ x:Int,0<=x->x<(n:Int)->getI (plc n (r6 (L3 t))) x=x:=λx h0 d=>by
  have:=L0p af aq (az x.toNat (by omega))
  rw[show((x.toNat:Nat):Int)=x by omega]at this;exact this
 have aC:(r6 (L3 t)).length=n:=by rw[ah,List.length_map,ag]
 have aa:=(N2 Z).1
 have ap:L3 (L3 t)=L3 t:=by
  have aG:pE (plc n (r6 (L3 t))) (L3 t).2.2=(L3 t).2.2:=by
   rw[K0l _ _ λe g=>by
    have:=aa e g
    rw[D]at this
    exact⟨by rw[N _ this.1.1 this.1.2];exact this.1.1,by rw[N _ this.2.1.1 this.2.1.2];exact this.2.1.1⟩]
   refine(List.map_congr_left λe g=>?_).trans (List.map_id _)
   have:=aa e g
   rw[D]at this
   rw[N _ this.1.1 this.1.2,N _ this.2.1.1 this.2.1.2];rfl
  show M8 (L3 t) (r6 (L3 t))=L3 t
  unfold M8
  rw[D,Int.toNat_natCast,aG,r0k (S04 Z),aC]
  rw[←D]
 unfold O2
 rw[I,aA,ap]
 simp[F06]
theorem q0h{g:l0}(hf:K0 g=true):O2 (t0c g)=true:=by
 have a:=E2 hf
 have:=(N2 a).2.2.1
 exact L0l (J02 40 hf) (C0f 40 a (by omega))
theorem t0k{r:Int}{w:List Int}(h:U1 r w=true):∀ k,k<=w.length->J07 [] (w.take k)=(w.take k).reverse
 |0,_=>rfl
 |k+1,i=>by
  have g:=t0k h k (by omega)
  have b:=L5 (show k<w.length by omega)
  generalize w[k]=x at b
  have f:w.take (k+1)=w.take k ++ [x]:=R0m b
  rw[f,N0p,g,List.reverse_append]
  show S02 (w.take k).reverse x=x::(w.take k).reverse
  cases k with
  |zero=>rfl
  |succ j =>
   have c:=L5 (show j<w.length by omega)
   generalize w[j]=y at c
   rw[R0m c,List.reverse_append]
   show S02 (y::(w.take j).reverse) x=_
   have d:=h
   simp only[U1,Bool.and_eq_true,decide_eq_true_eq]at d
   have a:=Z08 d.2 (j+1) (Nat.zero_le _) (by omega)
   unfold E04 at a
   rw[b]at a
   simp only[Nat.add_sub_cancel,c,Bool.or_eq_false_iff,show decide (0<j+1)=true by simp,Bool.true_and]at a
   have e:q0b y x=false:=by unfold q0b ng;rw[a.2,Bool.and_false]
   simp only[S02,e,cond_false]
   rfl
theorem s0b{r:Int}{w:List Int}(h:U1 r w=true):(J07 [] w).reverse=w:=by
 have:=t0k h w.length (Nat.le_refl _)
 rw[List.take_length]at this
 rw[this,List.reverse_reverse]
def f02(g:l0)(w:List Int):Bool:=decide ((V1 g 0 w).2=w.length)&&decide ((V1 g 0 w).1=0)
theorem c8{g:l0}(h:O2 g=true):K0 g=true:=by
 unfold O2 at h
 simp only[Bool.and_eq_true]at h
 exact h.1
theorem y08{r:Int}{g:l0}{w:List Int}(i:O2 g=true)(j:U1 r w=true):A00 g w=some (f02 g w):=by
 have hf:=c8 i
 obtain⟨o,s,p,t⟩:=C1 hf
 obtain⟨u,k⟩:=g03 j
 have f:=T02 w (λx e=>(k x e).1.1) (by omega)
 rw[s0b j]at f
 have l:=x0l g hf 0 ⟨iR _,by omega⟩ w (λx e=>(k x e).1) (by omega)
 have m:=n07 g (by omega)
 have h:S3 g=some true:=by
  obtain⟨a,b,c⟩:=g
  unfold S3
  simp only[m,i,oB]
 have n:=z04 o p.2 w 0 ⟨by omega,by omega⟩
 have q:=Z02 g w 0
 unfold f02
 obtain⟨a,b,c⟩:=g
 unfold A00
 simp only[f,oB,l]
 by_cases d:(V1 (a,b,c) 0 w).2<w.length
 ·simp only[decide_eq_true d,cond_true]
  rw[H0 (show I0 (-1) from⟨by omega,by omega⟩),oB,h]
  have:decide ((V1 (a,b,c) 0 w).2=w.length)=false:=decide_eq_false (by omega)
  rw[this];rfl
 ·simp only[decide_eq_false d,cond_false]
  rw[H0 n,oB,h]
  have:decide ((V1 (a,b,c) 0 w).2=w.length)=true:=decide_eq_true (by omega)
  rw[this]
  simp only[oB,cond_true,Bool.true_and]
theorem u0k{r:Int}{g:l0}{w:List Int}(j:O2 g=true)(k:U1 r w=true):M6 g w=some (f02 g w):=by
 have hf:=c8 j
 obtain⟨e,o,f,p⟩:=C1 hf
 obtain⟨q,m⟩:=g03 k
 have h:=p0i g e f.2 (by omega) 0 w (λx l=>(m x l).1) (by omega)
 have i:=z04 e f.2 w 0 ⟨by omega,by omega⟩
 have n:=Z02 g w 0
 unfold f02
 obtain⟨a,b,c⟩:=g
 unfold M6
 simp only[h,oB]
 rw[H0 i,oB,H0 (show I0 (((V1 (a,b,c) 0 w).2:Nat):Int) from⟨by omega,by omega⟩),oB]
 by_cases d:(V1 (a,b,c) 0 w).2=w.length
 ·rw[decide_eq_true d,show decide ((((V1 (a,b,c) 0 w).2:Nat):Int)=((w.length:Nat):Int))=true from decide_eq_true (by omega)]
  simp
 ·rw[decide_eq_false d,show decide ((((V1 (a,b,c) 0 w).2:Nat):Int)=((w.length:Nat):Int))=false from decide_eq_false (by omega)]
  simp
def rdw(g:l0):Int->List Int->Option Int
 |v,[]=>some v
 |v,x::w=>if S0 g v x<0 then none else rdw g (S0 g v x) w
theorem s0h(g:l0):∀(w:List Int) (v u:Int),rdw g v w=some u↔((V1 g v w).2=w.length/\(V1 g v w).1=u)
 | [],v,u=>by simp[rdw,V1]
 |x::w,v,u=>by
  have a:=s0h g w (S0 g v x) u
  unfold rdw V1
  by_cases c:S0 g v x<0
  ·rw[if_pos c,if_pos c];simp
  ·rw[if_neg c,if_neg c,a];simp
theorem j0o(g:l0)(w:List Int):f02 g w=true↔rdw g 0 w=some 0:=by
 unfold f02
 rw[s0h];simp
theorem j0n(g:l0):∀(a b:List Int) (v:Int),rdw g v (a++b)=(rdw g v a).bind λu=>rdw g u b
 | [],b,v=>rfl
 |x::a,b,v=>by
  have d:=j0n g a b (S0 g v x)
  show(if S0 g v x<0 then none else rdw g (S0 g v x) (a++b))=(if S0 g v x<0 then none else rdw g (S0 g v x) a).bind λu=>rdw g u b
  by_cases c:S0 g v x<0
  ·rw[if_pos c,if_pos c];rfl
  ·rw[if_neg c,if_neg c];exact d
theorem J06{g:l0}(hf:K0 g=true){v x u:Int}(h:S0 g v x=u)(h0:0<=u):S0 g u (-x)=v:=by
 rcases o07 g v x with⟨e,_⟩|e
 ·omega
 ·rw[h]at e
  obtain⟨d,i,f⟩:=d7.1 e
  refine p07 hf (d7.2 ⟨d,i,?_⟩)
  rcases f with⟨a,b,c,rfl⟩|⟨a,b,c,rfl⟩
  ·exact .inr ⟨by omega,by omega,rfl,c.symm⟩
  ·exact .inl ⟨by omega,b,rfl,c.symm⟩
structure Mor (a b:l0) (f:Int->Int):Prop where
 base:f 0=0
 rng:∀ v,0<=v->v<a.2.1->0<=f v/\f v<b.2.1
 step:∀ v x,0<=v->v<a.2.1->0<=S0 a v x->S0 b (f v) x=f (S0 a v x)
theorem Mor.rdw{a b:l0}{f:Int->Int}(m:Mor a b f)(i:inG a):∀(w:List Int) (v u:Int),0<=v->v<a.2.1->rdw a v w=some u->rdw b (f v) w=some (f u)
 | [],v,u,h0,g,h=>by
  simp only[Go.Proofs.YtkjhghloldgioaaGreat.rdw,Option.some.injEq]at h ⊢
  rw[h]
 |x::w,v,u,h0,g,h=>by
  unfold Go.Proofs.YtkjhghloldgioaaGreat.rdw at h ⊢
  by_cases c:S0 a v x<0
  ·rw[if_pos c]at h;cases h
  ·rw[if_neg c]at h
   have j:=m.step v x h0 g (by omega)
   have d:0<=S0 a v x/\S0 a v x<a.2.1:=by
    rcases M03 i v x with e|e
    ·omega
    ·exact e
   have k:=m.rng _ d.1 d.2
   rw[j,if_neg (by omega)]
   exact Mor.rdw m i w _ u d.1 d.2 h
theorem Mor.loop{a b:l0}{f:Int->Int}(m:Mor a b f)(c:K0 a=true){w:List Int}(h:f02 a w=true):f02 b w=true:=by
 obtain⟨d,e,g,i⟩:=C1 c
 rw[j0o]at h ⊢
 have:=m.rdw d w 0 0 (iR _) (by omega) h
 rwa [m.base]at this
abbrev Im:=List Int×List Int
def M0l(a b:Im):Prop:=(∃ t,b.2=a.2++t)/\∀ v∈a.2,getI b.1 v=getI a.1 v
theorem M0l.refl(s:Im):M0l s s:=⟨⟨[],by simp⟩,λ_ _=>rfl⟩
theorem M0l.trans{b c d:Im}(h:M0l b c)(j:M0l c d):M0l b d:=by
 obtain⟨⟨t,e⟩,f⟩:=h
 obtain⟨⟨k,g⟩,i⟩:=j
 exact⟨⟨t++k,by rw[g,e,List.append_assoc]⟩,λv a=>(i v (by rw[e];exact List.mem_append_left _ a)).trans (f v a)⟩
def f0s(a b:l0)(v x:Int)(s:Im):Prop:=0<=S0 a v x->S0 a v x∈s.2/\S0 b (getI s.1 v) x=getI s.1 (S0 a v x)
theorem f0s.le{a b:l0}{v x:Int}{c g:Im}(j:v∈c.2)(h:f0s a b v x c)(l:M0l c g):f0s a b v x g:=λh0=>by
 obtain⟨d,i⟩:=h h0
 obtain⟨⟨t,e⟩,f⟩:=l
 exact⟨by rw[e];exact List.mem_append_left _ d,by rw[f v j,f _ d];exact i⟩
theorem F04(w:List Int)(hl:w.length<=1099511627776)(n0:Nat)(hn:n0<=1099511627776):∀(d k fuel:Nat) (s:List Int),k+d=w.length->d<fuel->s.length<=n0+k ->
  Y6 w fuel (k:Int) s.reverse=some (J07 s (w.drop k)).reverse
 |d,k,0,s,hk,hf,hsl=>by omega
 |0,k,fuel+1,s,hk,hf,hsl=>by
  rw[Y6.eq_2,if_neg (by simp;omega),J1 (by omega)]
  rfl
 |d+1,k,fuel+1,s,hk,hf,hsl=>by
  have hkl:k<w.length:=by omega
  have hx:=L5 hkl
  generalize w[k]=x at hx
  have next:=F04 w hl n0 hn d (k+1) fuel (S02 s x) (by omega) (by omega) (by have:=x0c s x;omega)
  rw[N1 hx]
  show _=some (J07 (S02 s x) (w.drop (k+1))).reverse
  rw[←next,Y6.eq_2,if_pos (by simp;omega),P2 hx,oB,oB,H0 (by rw[List.length_reverse];omega),oB,oB,oB]
  rw[A2 hkl (by omega:w.length<=9223372036854775807)]
  cases s with
  |nil =>
   have hz:decide ((((([]:List Int).reverse).length:Nat):Int)>0)=false:=rfl
   simp only[hz,Y2,oB,cond_false,Bool.false_eq_true,if_false]
   rw[H0 (by simp)]
   rfl
  |cons l t =>
   have hp:decide ((((l::t).reverse.length:Nat):Int)>0)=true:=by simp
   have hpr:IntKind.i64.wrap ((((l::t).reverse.length:Nat):Int)-1)=((t.length:Nat):Int):=by
    rw[X0e (by simp) (by simp only[List.length_cons]at hsl;simp only[List.length_reverse,List.length_cons];omega)];simp
   have hpush:(grd (((l::t).reverse.length + [x].length)*8<=140737488355328))=some ():=H0 (by simp only[List.length_cons]at hsl;simp only[List.length_reverse,List.length_cons,List.length_nil];omega)
   have hlen:(grd ((l::t).reverse.length<=9223372036854775807))=some ():=H0 (by rw[List.length_reverse];omega)
   simp only[hp,hpr,O1,oB,cond_true,P2 G0f,Y0a,S02]
   have hcc:(!(l == 0) && !(l == -9223372036854775808)&&(x == IntKind.i64.wrap (0-l)))=q0b l x:=rfl
   rw[hcc]
   cases hc:q0b l x with
   |true =>
    simp only[if_true,cond_true,hlen,oB]
    rw[H0 (by simp only[List.length_reverse,List.length_cons];omega),oB,Int.toNat_natCast,r0h]
   |false =>
    simp only[Bool.false_eq_true,if_false,cond_false,hpush,hlen,oB]
    exact congrArg _ (List.reverse_cons ..).symm
def k0o:List (List Int)->Nat
 | []=>0
 |w::r=>w.length+k0o r
def g0s(s:List Int):List (List Int)->List Int
 | []=>s
 |w::r=>g0s (J07 s w) r
theorem G04(b:List (List Int))(h:b.length<=1099511627776):∀(d k fuel:Nat) (a:List Int),k+d=b.length->d<fuel->a.length+k0o (b.drop k)<=1099511627776 ->
  a8 b fuel (k:Int) a.reverse=some (g0s a (b.drop k)).reverse
 |d,k,0,a,f,hf,c=>by omega
 |0,k,fuel+1,a,f,hf,c=>by
  rw[a8.eq_2,if_neg (by simp;omega),J1 (by omega)]
  rfl
 |d+1,k,fuel+1,a,f,hf,c=>by
  have g:k<b.length:=by omega
  have e:=L5 g
  generalize b[k]=w at e
  rw[N1 e]at c ⊢
  simp only[k0o]at c
  have i:=r0b w a
  have h0:=F04 w (by omega) a.length (by omega) w.length 0 U0 a (by omega) (D1 (by omega)) (by omega)
  rw[show((0:Nat):Int)=0 from rfl,List.drop_zero]at h0
  rw[a8.eq_2,if_pos (by simp;omega),P2 e,oB,h0,oB,A2 g (by omega:b.length<=9223372036854775807)]
  exact G04 b h d (k+1) fuel (J07 a w) (by omega) (by omega) (by omega)
theorem L09(a:List (List Int))(c:a.length<=1099511627776)(b:k0o a<=1099511627776):e01 a=some (g0s [] a).reverse:=by
 unfold e01
 have h:=G04 a c a.length 0 U0 [] (by omega) (D1 (by omega)) (by simpa using b)
 rw[show((0:Nat):Int)=0 from rfl,List.drop_zero,List.reverse_nil]at h
 rw[h]
 rfl
abbrev Tr8:=List (Option (List Int))×List Int
def trS(g:l0)(v x:Int)(s:Tr8):Tr8:=if 0<=S0 g v x/\S0 g v x ∉ s.2 then(s.1.set (S0 g v x).toNat (some ((P8 s.1 v).getD [] ++ [x])),s.2 ++ [S0 g v x])else s
def H0f(g:l0)(v:Int):List Int->Tr8->Tr8
 | [],s=>s
 |x::r,s=>H0f g v r (trS g v x s)
def S05(g:l0)(b:List Int):Nat->Nat->Tr8->Tr8
 |0,i,a=>a
 |f+1,i,a=>match a.2[i]? with
  |some v=>S05 g b f (i+1) (H0f g v b a)
  |none=>a
def G3(g:l0)(p:Int):List Int:=r9 g (Q6 g.1.toNat 1) (g.2.1.toNat+1) 0 [p]
def l0a(g:l0)(p:Int):Tr8:=S05 g (Q6 g.1.toNat 1) (g.2.1.toNat+1) 0 ((List.replicate g.2.1.toNat none).set p.toNat (some []),[p])
theorem k0n(g:l0)(v x:Int)(s:Tr8):(trS g v x s).2=I07 s.2 (S0 g v x):=by
 unfold trS I07
 split<;>rfl
theorem I0f(g:l0)(v:Int):∀(b:List Int) (a:Tr8),(H0f g v b a).2=a03 g v b a.2
 | [],a=>rfl
 |x::r,a=>by rw[H0f,I0f g v r,k0n];rfl
theorem t0h(g:l0)(b:List Int):∀(f i:Nat) (a:Tr8),(S05 g b f i a).2=r9 g b f i a.2
 |0,i,a=>rfl
 |f+1,i,a=>by
  unfold S05 r9
  cases a.2[i]? with
  |none=>rfl
  |some v=>simp only[t0h g b f,I0f]
theorem t0b(g:l0)(p:Int):(l0a g p).2=G3 g p:=t0h _ _ _ _ _
structure TOk (g:l0) (p:Int) (n:Nat) (s:Tr8):Prop where
 ok:WOk n s.1 s.2
 gd:gud n s.2
 base:p∈s.2
 word:P8 s.1 p=some []
 par:∀ y∈s.2,y≠p->∃ v∈s.2,∃ x,x∈Q6 g.1.toNat 1/\S0 g v x=y/\∃ a,P8 s.1 v=some a/\P8 s.1 y=some (a ++ [x])
 red:∀ y∈s.2,∀ a,P8 s.1 y=some a->Red a.reverse=true
theorem WOk.add{n:Nat}{b:List (Option (List Int))}{u:List Int}(a:WOk n b u){y:Int}(d:0<=y)(h:y<(n:Int))(v x:Int):WOk n (b.set y.toNat (some ((P8 b v).getD [] ++ [x]))) (u ++ [y]):=by
 have e:=a.short v
 refine⟨by simp[a.len],λz h0 f=>?_,λz=>?_⟩
 ·rw[Y00 d (by have:=a.len;omega) h0]
  by_cases c:z=y
  ·rw[if_pos c];simp[c]
  ·rw[if_neg c,a.iff z h0 f];simp[c]
 ·by_cases hz:0<=z
  ·rw[Y00 d (by have:=a.len;omega) hz]
   by_cases c:z=y
   ·rw[if_pos c];simp;exact e
   ·rw[if_neg c];have:=a.short z;simp only[List.length_append];omega
  ·have g:P8 (b.set y.toNat (some ((P8 b v).getD [] ++ [x]))) z=P8 (b.set y.toNat (some ((P8 b v).getD [] ++ [x]))) 0:=by
    unfold P8;rw[show z.toNat=(0:Int).toNat by omega]
   rw[g,Y00 d (by have:=a.len;omega) (iR 0)]
   by_cases c:(0:Int)=y
   ·rw[if_pos c];simp;exact e
   ·rw[if_neg c];have:=a.short 0;simp only[List.length_append];omega
theorem WOk.get{n:Nat}{b:List (Option (List Int))}{u:List Int}(f:WOk n b u){v:Int}(h0:0<=v)(c:v<(n:Int))(d:v∈u):∃ a,P8 b v=some a:=by
 cases e:P8 b v with
 |none=>exact absurd d ((f.iff v h0 c).1 (by rw[e];rfl))
 |some a=>exact⟨a,rfl⟩
theorem f09{R:Nat}(b:R<=900){x:Int}(a:x∈Q6 R 1):E5 x/\x≠0 /\ -(R:Int)<=x/\x<=(R:Int):=by
 obtain⟨j,c,d,e⟩:=o0b _ _ _ a
 exact⟨⟨⟨by omega,by omega⟩,by omega⟩,by omega,by omega,by omega⟩
theorem P0p{l x:Int}(a:E5 l)(h:q0b l x=true):x = -l:=by
 unfold q0b at h
 simp only[Bool.and_eq_true,beq_iff_eq]at h
 rw[h.2];exact n08 a.1 a.2
theorem TOk.add{g:l0}(hf:K0 g=true){p:Int}{n:Nat}(S:g.2.1=(n:Int)){B:Tr8}(h:TOk g p n B){v x:Int}(j:v∈B.2)(N:x∈Q6 g.1.toNat 1):TOk g p n (trS g v x B):=by
 obtain⟨Q,T,U,V⟩:=C1 hf
 unfold trS
 split
 ·rename_i c
  obtain⟨o,s⟩:=c
  have P:S0 g v x<(n:Int):=by
   rcases M03 Q v x with e|e<;>omega
  obtain⟨m,u⟩:=B
  obtain⟨ok,q,base,I,F,G⟩:=h
  simp only at j o s ok q base I F G ⊢
  have D:=q.2 v j
  obtain⟨a,i⟩:=ok.get D.1 D.2 j
  have R:=ok.len
  have keep:∀ z∈u,P8 (m.set (S0 g v x).toNat (some ((P8 m v).getD [] ++ [x]))) z=P8 m z:=λz K=>by
   have:=q.2 z K
   rw[Y00 o (by omega) this.1,if_neg λ(e:z=S0 g v x)=>s (by rw[←e];exact K)]
  have new:P8 (m.set (S0 g v x).toNat (some ((P8 m v).getD [] ++ [x]))) (S0 g v x)=some (a ++ [x]):=by
   rw[Y00 o (by omega) o,if_pos rfl,i];rfl
  refine⟨ok.add o P v x,⟨List.nodup_append.2 ⟨q.1,by simp,λa i b f=>?_⟩,λy d=>?_⟩,List.mem_append_left _ base,?_,λy d O=>?_,λy d b f=>?_⟩
  ·simp at f;subst f;exact λe=>s (e▸i)
  ·rcases List.mem_append.1 d with d|d
   ·exact q.2 y d
   ·simp at d;subst d;omega
  ·rw[keep p base];exact I
  ·rcases List.mem_append.1 d with d|d
   ·obtain⟨H,A,L,E,C,b,w,k⟩:=F y d O
    exact⟨H,List.mem_append_left _ A,L,E,C,b,by rw[keep H A];exact w,by rw[keep y d];exact k⟩
   ·simp at d;subst d
    exact⟨v,List.mem_append_left _ j,x,N,rfl,a,by rw[keep v j];exact i,new⟩
  ·rcases List.mem_append.1 d with d|d
   ·rw[keep y d]at f;exact G y d b f
   ·simp at d;subst d
    rw[new]at f;cases f
    have J:=G v j a i
    rw[List.reverse_append]
    show Red (x::a.reverse)=true
    cases e:a.reverse with
    |nil=>rfl
    |cons l t =>
     rw[e]at J
     unfold Red
     rw[J,Bool.and_true]
     cases hc:q0b l x with
     |false=>rfl
     |true =>
      exfalso
      have M:v≠p:=λw=>by
       subst w
       rw[I]at i;cases i;simp at e
      obtain⟨H,A,L,E,C,b,w,k⟩:=F v j M
      rw[i]at k
      injection k with k
      rw[k,List.reverse_append]at e
      simp only[List.reverse_cons,List.reverse_nil,List.nil_append,List.cons_append,List.cons.injEq]at e
      rw[←e.1]at hc
      have:=P0p (f09 (by omega) E).1 hc
      have f:=J06 hf C D.1
      rw[←this]at f
      exact s (f▸A)
 ·exact h
theorem I0i(g:l0)(v x:Int)(s:Tr8):∃ t,(trS g v x s).2=s.2++t:=by rw[k0n];exact r0f _ _
theorem v0k(g:l0)(v:Int)(b:List Int)(a:Tr8):∃ t,(H0f g v b a).2=a.2++t:=by rw[I0f];exact x03 _ _ _ _
theorem TOk.inn{g:l0}(hf:K0 g=true){p:Int}{n:Nat}(d:g.2.1=(n:Int)){v:Int}:∀(f:List Int) {a:Tr8},TOk g p n a->v∈a.2->(∀ x∈f,x∈Q6 g.1.toNat 1)->TOk g p n (H0f g v f a)
 | [],a,h,c,b=>h
 |x::r,a,h,c,b=>by
  obtain⟨t,e⟩:=I0i g v x a
  exact TOk.inn hf d r (h.add hf d c (b x mS)) (by rw[e];exact List.mem_append_left _ c) λy i=>b y (mC _ i)
theorem TOk.out{g:l0}(hf:K0 g=true){p:Int}{n:Nat}(b:g.2.1=(n:Int)):∀(f i:Nat) {a:Tr8},TOk g p n a->TOk g p n (S05 g (Q6 g.1.toNat 1) f i a)
 |0,i,a,h=>h
 |f+1,i,a,h=>by
  unfold S05
  cases e:a.2[i]? with
  |none=>exact h
  |some v=>exact TOk.out hf b f (i+1) (h.inn hf b _ (List.mem_of_getElem? e) λx c=>c)
theorem Q0p(N:Nat)(x:Int):P8 (List.replicate N (none:Option (List Int))) x=none:=by
 unfold P8
 rw[List.getD_eq_getElem?_getD,List.getElem?_replicate];split<;>rfl
theorem y0c(g:l0){p:Int}{N:Nat}(d:0<=p/\p<(N:Int)):TOk g p N ((List.replicate N none).set p.toNat (some []),[p]):=by
 have f:∀ x,0<=x->P8 ((List.replicate N (none:Option (List Int))).set p.toNat (some [])) x=if x=p then some []else none:=λx h0=>by
  rw[Y00 d.1 (by simp;omega) h0,Q0p]
 refine⟨⟨by simp,λx h0 k=>?_,λx=>?_⟩,⟨by simp,λx j=>by simp at j;subst j;exact d⟩,by simp,?_,λy b h=>?_,λy b a i=>?_⟩
 ·simp only
  rw[f x h0]
  by_cases c:x=p
  ·rw[if_pos c];simp[c]
  ·rw[if_neg c];simp[c]
 ·have:∀ x,0<=x->((P8 ((List.replicate N (none:Option (List Int))).set p.toNat (some [])) x).getD []).length<=1:=λx h0=>by
   rw[f x h0];split<;>simp
  by_cases hz:0<=x
  ·exact this x hz
  ·have e:P8 ((List.replicate N (none:Option (List Int))).set p.toNat (some [])) x=P8 ((List.replicate N (none:Option (List Int))).set p.toNat (some [])) 0:=by
    unfold P8;rw[show x.toNat=(0:Int).toNat by omega]
   simp only
   rw[e];exact this 0 (iR 0)
 ·simp only
  rw[f p d.1,if_pos rfl]
 ·simp at b;exact absurd b h
 ·simp at b;subst b
  simp only at i
  rw[f y d.1,if_pos rfl]at i
  cases i;rfl
theorem J0i{g:l0}(hf:K0 g=true){p:Int}(a:0<=p/\p<g.2.1):TOk g p g.2.1.toNat (l0a g p):=by
 obtain⟨b,c,d,e⟩:=C1 hf
 exact TOk.out hf (by omega) _ _ (y0c g ⟨a.1,by omega⟩)
theorem s0r{g:l0}(hf:K0 g=true)(p:Int){n:Nat}(u:g.2.1=(n:Int))(b:List Int)(s:∀ x∈b,x∈Q6 g.1.toNat 1)(B:b.length<=1000000)(v:Int):∀(d k fuel:Nat) (a:Tr8),TOk g p n a->v∈a.2->k+d=b.length->d<fuel ->
  J3 b g.1 g.2.1 g.2.2 v fuel (k:Int) a.1 a.2=some (H0f g v (b.drop k) a)
 |d,k,0,a,c,e,m,hf=>by omega
 |0,k,fuel+1,a,c,e,m,hf=>by
  rw[J3.eq_2,if_neg (by simp;omega),J1 (by omega)];rfl
 |d+1,k,fuel+1,a,c,e,m,G=>by
  obtain⟨z,K,F,L⟩:=C1 hf
  have q:k<b.length:=by omega
  have i:=L5 q
  have j:=s _ (List.mem_of_getElem? i)
  have o:=N1 i
  generalize b[k]=x at i j o
  have D:=(f09 (by omega) j).1
  have H:=u00 n a.2 c.gd.1 c.gd.2
  have I:=M03 z v x
  have C:=c.add hf u e j
  obtain⟨t,A⟩:=I0i g v x a
  have E:=s0r hf p u b s B v d (k+1) fuel (trS g v x a) C (by rw[A];exact List.mem_append_left _ e) (by omega) (by omega)
  have f:=c.ok
  have w:=c.gd.2 v e
  rw[J3.eq_2,if_pos (by simp;omega),o,H0f,←E]
  simp only[P2 i,oB,show(g.1,g.2.1,g.2.2)=g from rfl,m02 g v x D (by omega),H0 (C00 z F.2 v x),A2 q (show b.length<=9223372036854775807 by omega)]
  unfold trS
  generalize S0 g v x=y at *
  by_cases c1:0<=y
  ·have l:y<(n:Int):=by omega
   simp only[show decide (y ≥ 0)=true by simpa using c1,O1,giO f.len c1 l,oB,cond_true]
   by_cases c2:y∈a.2
   ·have : ¬ ((P8 a.1 y).isNone=true):=λh=>(f.iff y c1 l).1 h c2
    rw[if_neg this,if_neg λh=>h.2 c2]
   ·have:(P8 a.1 y).isNone=true:=(f.iff y c1 l).2 c2
    have J:=f.short v
    rw[if_pos this,if_pos ⟨c1,c2⟩,giO f.len w.1 w.2,oB,d0n (by omega),oB,H0 (by simp;omega),oB,H0 (by simp;omega),oB]
  ·simp only[show decide (y ≥ 0)=false by simpa using c1,Y2,oB,cond_false]
   rw[if_neg (by simp),if_neg λh=>c1 h.1]
theorem t0r{g:l0}(hf:K0 g=true)(p:Int){n:Nat}(d:g.2.1=(n:Int)):∀(f i fuel:Nat) (a:Tr8),TOk g p n a->i<=a.2.length->n+1<=i+f->f<fuel ->
  w5 g.1 g.2.1 g.2.2 fuel (i:Int) a.1 a.2=some (S05 g (Q6 g.1.toNat 1) f i a)
 |f,i,0,a,c,j,h,hf=>by omega
 |0,i,fuel+1,a,c,j,h,hf=>by have:=u00 n a.2 c.gd.1 c.gd.2;omega
 |f+1,i,fuel+1,a,c,j,h,o=>by
  obtain⟨s,u,w,y⟩:=C1 hf
  have q:=u00 n a.2 c.gd.1 c.gd.2
  rw[w5.eq_2,oB,H0 (by omega),oB]
  by_cases hk:i<a.2.length
  ·have b:=L5 hk
   generalize a.2[i]=v at b
   have k:=List.mem_of_getElem? b
   have h0:=s0r hf p d (Q6 g.1.toNat 1) (λx b=>b) (by rw[n02];omega) v (Q6 g.1.toNat 1).length 0 U0 a c k (by omega) (D1 (by rw[n02];omega))
   rw[show((0:Nat):Int)=0 from rfl,List.drop_zero]at h0
   obtain⟨t,e⟩:=v0k g v (Q6 g.1.toNat 1) a
   have m:=t0r hf p d f (i+1) fuel _ (c.inn hf d _ k λx b=>b) (by rw[e,List.length_append];omega) (by omega) (by omega)
   have l:p9 g.1=some (Q6 g.1.toNat 1):=by
    have:=C0l g.1.toNat (by omega)
    rwa [show((g.1.toNat:Nat):Int)=g.1 by omega]at this
   rw[if_pos (by simpa using hk),P2 b,oB,l,oB,h0,oB]
   simp only[A2 hk (show a.2.length<=9223372036854775807 by omega),S05,b]
   exact m
  ·have b:a.2[i]?=none:=List.getElem?_eq_none (by omega)
   rw[if_neg (by simpa using hk)]
   simp only[S05,b]
def g09(g:l0)(p:Int):List (List Int):=(l0a g p).1.map λo=>o.getD []
theorem N0l{g:l0}(hf:K0 g=true){p:Int}(f:0<=p/\p<g.2.1):B8 g p=some (G3 g p,g09 g p):=by
 obtain⟨h,i,j,l⟩:=C1 hf
 have d:g.2.1=((g.2.1.toNat:Nat):Int):=by omega
 have h0:=t0r hf p d (g.2.1.toNat+1) 0 U0 _ (y0c g (N:=g.2.1.toNat) ⟨f.1,by omega⟩) (by simp) (by omega) (D1 (by omega))
 have e:gi (List.replicate g.2.1.toNat (none:Option (List Int))) p=some none:=by
  have:=P2 (xs:=List.replicate g.2.1.toNat (none:Option (List Int))) (k:=p.toNat) (x:=none) (by rw[List.getElem?_replicate,if_pos (by omega)])
  rwa [show((p.toNat:Nat):Int)=p by omega]at this
 rw[←t0b]
 unfold g09 l0a
 obtain⟨a,b,c⟩:=g
 simp only at *
 unfold B8
 simp only
 rw[H0 (by omega),oB,e,oB]
 rw[show((0:Nat):Int)=0 from rfl]at h0
 rw[h0]
 rfl
def tw(g:l0)(p v:Int):List Int:=(P8 (l0a g p).1 v).getD []
structure m0g (g:l0) (p:Int) (t:Int->List Int):Prop where
 z:t p = []
 par:∀ y∈G3 g p,y≠p->∃ v∈G3 g p,∃ x,x∈Q6 g.1.toNat 1/\S0 g v x=y/\t y=t v ++ [x]
 red:∀ y∈G3 g p,Red (t y).reverse=true
 len:∀ y,(t y).length<=40
theorem l0o{g:l0}(hf:K0 g=true){p:Int}(k:0<=p/\p<g.2.1):m0g g p (tw g p):=by
 obtain⟨o,q,s,t⟩:=C1 hf
 have h:=J0i hf k
 have e:=t0b g p
 refine⟨by unfold tw;rw[h.word];rfl,λy b n=>?_,λy b=>?_,λy=>?_⟩
 ·rw[←e]at b ⊢
  obtain⟨v,l,x,m,f,a,i,j⟩:=h.par y b n
  exact⟨v,l,x,m,f,by unfold tw;rw[i,j];rfl⟩
 ·rw[←e]at b
  have d:=h.gd.2 y b
  obtain⟨a,c⟩:=h.ok.get d.1 d.2 b
  unfold tw
  rw[c]
  exact h.red y b a c
 ·have:=h.ok.short y
  have:=u00 _ _ h.gd.1 h.gd.2
  unfold tw
  omega
theorem B04{g:l0}(hf:K0 g=true){p:Int}(a:0<=p/\p<g.2.1):gud g.2.1.toNat (G3 g p):=by
 rw[←t0b];exact(J0i hf a).gd
theorem u0b(g:l0)(p:Int):∃ t,G3 g p=p::t:=by
 obtain⟨t,e⟩:=k0a g (Q6 g.1.toNat 1) (g.2.1.toNat+1) 0 [p]
 exact⟨t,e⟩
theorem m0g.ind{g:l0}{p:Int}{t:Int->List Int}(h:m0g g p t)(P:Int->Prop)(h0:P p)(d:∀ v∈G3 g p,∀ y∈G3 g p,∀ x,x∈Q6 g.1.toNat 1->S0 g v x=y->t y=t v ++ [x]->P v->P y):∀(k:Nat) (y:Int),(t y).length<=k->y∈G3 g p->P y
 |k,y,a,f=>by
  by_cases c:y=p
  ·rw[c];exact h0
  ·obtain⟨v,e,x,j,i,b⟩:=h.par y f c
   cases k with
   |zero=>rw[b]at a;simp at a
   |succ k=>exact d v e y f x j i b (m0g.ind h P h0 d k v (by rw[b]at a;simp at a;omega) e)
theorem m0g.induct{g:l0}{p:Int}{t:Int->List Int}(h:m0g g p t){P:Int->Prop}(h0:P p)(a:∀ v∈G3 g p,∀ y∈G3 g p,∀ x,x∈Q6 g.1.toNat 1->S0 g v x=y->t y=t v ++ [x]->P v->P y){y:Int}(b:y∈G3 g p):P y:=h.ind P h0 a _ y (Nat.le_refl _) b
theorem V0q{g:l0}{v x y:Int}(h:S0 g v x=y)(h0:0<=y):rdw g v [x]=some y:=by
 unfold rdw
 rw[if_neg (by omega),h];rfl
theorem m0g.rd{g:l0}(hf:K0 g=true){p:Int}(d:0<=p/\p<g.2.1){t:Int->List Int}(h:m0g g p t){y:Int}(a:y∈G3 g p):rdw g p (t y)=some y:=by
 refine h.induct (P:=λy=>rdw g p (t y)=some y) ?_ (λv f y a x i b c e=>?_) a
 ·rw[h.z];rfl
 ·rw[c,j0n,e,oB]
  exact V0q b ((B04 hf d).2 y a).1
theorem m0g.let{g:l0}{p:Int}{t:Int->List Int}(h:m0g g p t){y:Int}(c:y∈G3 g p):∀ x∈t y,x∈Q6 g.1.toNat 1:=by
 refine h.induct (P:=λy=>∀ x∈t y,x∈Q6 g.1.toNat 1) ?_ (λv i y c x b f d e=>?_) c
 ·rw[h.z];exact λx b=>by cases b
 ·rw[d]
  intro z a
  rcases List.mem_append.1 a with a|a
  ·exact e z a
  ·simp at a;rw[a];exact b
def m0d(w:List Int):Int:=w.getLastD 0
theorem u0h(a:List Int)(x:Int):m0d (a ++ [x])=x:=by unfold m0d;simp
def tE(g:l0)(v:Int):O0:=stp (S0 g v (-(m0d (tw g 0 v)))) (m0d (tw g 0 v)) v
def P03(g:l0):List O0:=w4 Q0 [] ((G3 g 0).tail.map (tE g))
theorem R0p{g:l0}(hf:K0 g=true){p:Int}(b:0<=p/\p<g.2.1){v:Int}(d:0<=v/\v<g.2.1):gi (g09 g p) v=some (tw g p v):=by
 have h:=J0i hf b
 have c:=h.ok.len
 have a:v.toNat<(l0a g p).1.length:=by omega
 have:=P2 (xs:=g09 g p) (k:=v.toNat) (x:=tw g p v) (by
  unfold g09 tw P8
  rw[List.getElem?_map,List.getElem?_eq_getElem a,List.getD_eq_getElem?_getD,List.getElem?_eq_getElem a];rfl)
 rwa [show((v.toNat:Nat):Int)=v by omega]at this
theorem S0p{g:l0}(hf:K0 g=true){v:Int}:v∈(G3 g 0).tail↔v∈G3 g 0/\v≠0:=by
 obtain⟨f,i,j,k⟩:=C1 hf
 obtain⟨t,e⟩:=u0b g 0
 have b:=(B04 hf (p:=0) ⟨by omega,by omega⟩).1
 rw[e]at b ⊢
 have:=(List.nodup_cons.1 b).1
 constructor
 ·intro h
  exact⟨mC _ h,λc=>this (c▸h)⟩
 ·rintro⟨a,d⟩
  rcases List.mem_cons.1 a with a|a
  ·exact absurd a d
  ·exact a
theorem l0n{g:l0}(hf:K0 g=true):∀(d k fuel:Nat) (acc:List O0),k+d=(G3 g 0).tail.length->d<fuel->acc.length<=k ->
  N6 (G3 g 0).tail (g09 g 0) g.1 g.2.1 g.2.2 fuel (k:Int) acc=some (acc++((G3 g 0).tail.drop k).map (tE g))
 |d,k,0,acc,j,s,i=>by omega
 |0,k,fuel+1,acc,j,s,i=>by
  rw[N6.eq_2,if_neg (by simp only[decide_eq_true_eq];omega),J1 (by omega)];simp
 |d+1,k,fuel+1,acc,j,F,i=>by
  obtain⟨C,L,D,M⟩:=C1 hf
  have f:(0:Int)<=0/\(0:Int)<g.2.1:=⟨by omega,by omega⟩
  have h:=l0o hf f
  have e:=B04 hf f
  have G:=u00 _ _ e.1 e.2
  have m:k<(G3 g 0).tail.length:=by omega
  have J:(G3 g 0).tail.length<=40:=by rw[List.length_tail];omega
  have b:=L5 m
  have n:=List.mem_of_getElem? b
  have l:=N1 b
  generalize (G3 g 0).tail[k]=v at b n l
  obtain⟨o,z⟩:=(S0p hf).1 n
  have A:=e.2 v o
  obtain⟨u,K,x,B,E,c⟩:=h.par v o z
  have a:=f09 (by omega) B
  have H:(tw g 0 v).length=(tw g 0 u).length+1:=by rw[c];simp
  have I:=h.len u
  have q:gi (tw g 0 v) (IntKind.i64.wrap (((tw g 0 v).length:Nat)-1))=some x:=by
   rw[w64 (by omega) (by omega),show(((tw g 0 v).length:Nat):Int)-1=(((tw g 0 u).length:Nat):Int) by omega]
   refine P2 ?_
   rw[c,List.getElem?_append_right (Nat.le_refl _)];simp
  have y:tE g v=stp (S0 g v (-x)) x v:=by unfold tE;rw[c,u0h]
  have w:E5 (-x):=⟨⟨by have:=a.2.2;omega,by have:=a.2.2;omega⟩,by have:=a.2.2;omega⟩
  have p:=l0n hf d (k+1) fuel (acc ++ [tE g v]) (by omega) (by omega) (by simp;omega)
  rw[N6.eq_2,if_pos (by simp only[decide_eq_true_eq];omega),P2 b,oB,R0p hf f ⟨A.1,by omega⟩,oB,q,oB,n08 a.1.1 a.1.2,show(g.1,g.2.1,g.2.2)=g from rfl,m02 g v (-x) w (by omega),oB,H0 (C00 C D.2 v _),oB,z0i _ x v a.1,oB,←y,A2 m (by omega),l,List.map_cons]
  generalize tE g v=t at p ⊢
  obtain⟨N,O,P⟩:=t
  simp only
  rw[H0 (by simp;omega),oB]
  rw[p]
  simp
theorem w0k{g:l0}(hf:K0 g=true):f01 g=some (P03 g):=by
 obtain⟨n,o,p,q⟩:=C1 hf
 have f:(0:Int)<=0/\(0:Int)<g.2.1:=⟨by omega,by omega⟩
 have d:=B04 hf f
 have m:=u00 _ _ d.1 d.2
 have i:=N0l hf f
 obtain⟨t,h⟩:=u0b g 0
 have j:y05 (G3 g 0) 1 (((G3 g 0).length:Nat):Int)=some (G3 g 0).tail:=by
  have:=v01 (xs:=G3 g 0) (k:=1) (by rw[h];simp)
  rw[show((1:Nat):Int)=1 from rfl]at this
  rw[this,List.drop_one]
 have e:=l0n hf (G3 g 0).tail.length 0 U0 [] (by omega) (D1 (by rw[List.length_tail];omega)) (by simp)
 rw[show((0:Nat):Int)=0 from rfl,List.drop_zero,List.nil_append]at e
 have l:=o08 ((G3 g 0).tail.map (tE g)) (by rw[List.length_map,List.length_tail];omega)
 unfold P03
 obtain⟨a,b,c⟩:=g
 simp only at *
 unfold f01
 simp only[i,oB,j,e,l]
def q00(g:l0):List O0:=g.2.2.filter λe => !decide (e∈P03 g)
theorem v0h{g:l0}(hf:K0 g=true):(P03 g).length<=40:=by
 obtain⟨c,d,e,f⟩:=C1 hf
 have a:=B04 hf (p:=0) ⟨by omega,by omega⟩
 have b:=u00 _ _ a.1 a.2
 unfold P03
 have:=D00 ((G3 g 0).tail.map (tE g)) []
 rw[List.length_map,List.length_tail,List.length_nil]at this
 omega
theorem m0n(a:List O0)(q:a.length<=1000)(es:List O0)(t:es.length<=1000):∀(d k fuel:Nat) (acc:List O0),k+d=es.length->d<fuel->acc.length<=k ->
  A5 es a fuel (k:Int) acc=some (acc++(es.drop k).filter λe => !decide (e∈a))
 |d,k,0,acc,l,s,j=>by omega
 |0,k,fuel+1,acc,l,s,j=>by
  rw[A5.eq_2,if_neg (by simp only[decide_eq_true_eq];omega),J1 (by omega)];simp
 |d+1,k,fuel+1,acc,l,u,j=>by
  have n:k<es.length:=by omega
  have b:=L5 n
  have m:=N1 b
  generalize es[k]=e at b m
  have o:=λp h=>m0n a q es t d (k+1) fuel p (by omega) (by omega) h
  obtain⟨f,g,i⟩:=e
  rw[A5.eq_2,if_pos (by simp only[decide_eq_true_eq];omega),P2 b,oB]
  simp only[G0l a (f,g,i) (by omega),oB,A2 n (show es.length<=9223372036854775807 by omega),m,List.filter_cons]
  by_cases c:(f,g,i)∈a
  ·simp only[decide_eq_true c,Bool.not_true,Bool.false_eq_true,if_false]
   exact o acc (by omega)
  ·simp only[decide_eq_false c,Bool.not_false,if_true]
   rw[H0 (by simp;omega),oB,o _ (by simp;omega)]
   simp
theorem W0q{g:l0}(hf:K0 g=true):E00 g=some (q00 g):=by
 obtain⟨i,j,k,l⟩:=C1 hf
 have e:=A8 g (by omega)
 have f:=w0k hf
 have h:=v0h hf
 have d:=m0n (P03 g) (by omega) g.2.2 (by omega) g.2.2.length 0 U0 [] (by omega) (D1 (by omega)) (by simp)
 rw[show((0:Nat):Int)=0 from rfl,List.drop_zero,List.nil_append]at d
 unfold q00
 obtain⟨a,b,c⟩:=g
 simp only at *
 unfold E00
 simp only[e,hf,oB,f,Bool.not_true,Bool.false_eq_true,if_false,d]
theorem h0s{x:Int}(h:E5 x):ng x = -x:=n08 h.1 h.2
theorem O0l{x:Int}(h:E5 x):E5 (-x):=⟨⟨by have:=h.1.2;have:=h.2;omega,by have:=h.1.1;have:=h.2;omega⟩,by have:=h.1.2;omega⟩
theorem X0q{w:List Int}(a:∀ x∈w,E5 x):∀ x∈inv w,E5 x:=λx b=>by
 simp only[inv,List.mem_reverse,List.mem_map]at b
 obtain⟨y,c,rfl⟩:=b
 rw[h0s (a y c)];exact O0l (a y c)
theorem m0o{s:List Int}{x y:Int}(h:y∈S02 s x):y∈s∨y=x:=by
 cases s with
 |nil=>simp[S02]at h;exact .inr h
 |cons l t =>
  simp only[S02]at h
  cases c:q0b l x with
  |true=>rw[c]at h;exact .inl (mC _ h)
  |false =>
   rw[c]at h
   rcases List.mem_cons.1 h with h|h
   ·exact .inr h
   ·exact .inl h
theorem x0k:∀(w s:List Int) {y:Int},y∈J07 s w->y∈s∨y∈w
 | [],s,y,h => .inl h
 |x::w,s,y,h=>by
  rcases x0k w (S02 s x) h with h|h
  ·rcases m0o h with h|rfl
   ·exact .inl h
   ·exact .inr mS
  ·exact .inr (mC _ h)
theorem h09{g:l0}(hf:K0 g=true){e:O0}(a:e∈g.2.2):S0 g e.1 e.2.1=e.2.2/\S0 g e.2.2 (-e.2.1)=e.1:=by
 have b:=(C1 hf).1 e a
 exact⟨p07 hf (d7.2 ⟨e,a,.inl ⟨by omega,rfl,rfl,rfl⟩⟩),p07 hf (d7.2 ⟨e,a,.inr ⟨by omega,by omega,rfl,rfl⟩⟩)⟩
theorem w0h(g:l0):∀ d k,(K09 g d k).length<=d*(Q6 g.1.toNat 1).length
 |0,k=>Nat.zero_le _
 |d+1,k=>by
  have a:=d09 g (k:Int) (Q6 g.1.toNat 1)
  have b:=w0h g d (k+1)
  rw[K09,List.length_append,Nat.succ_mul]
  omega
theorem n0d{g:l0}(hf:K0 g=true):(c01 g).length<=1000:=by
 obtain⟨b,c,d,e⟩:=C1 hf
 have h:=w0h g g.2.1.toNat 0
 rw[n02]at h
 unfold c01
 have a:g.2.1.toNat*(2*g.1.toNat)<=40*(2*3):=Nat.mul_le_mul (by omega) (by omega)
 omega
def o04(g:l0):Bool:=O2 g&&decide ((c01 g).length=0)
theorem C0s(n:Nat):decide (((n:Nat):Int)=0)=decide (n=0):=by
 by_cases c:n=0
 ·rw[decide_eq_true c,decide_eq_true (by omega)]
 ·rw[decide_eq_false c,decide_eq_false (by omega)]
theorem P01{g:l0}(h:O2 g=true):K0 g=true:=by
 unfold O2 at h
 simp only[Bool.and_eq_true]at h
 exact h.1
theorem y0k(g:l0)(i:g.2.2.length<=140737488355328):w9 g=some (o04 g):=by
 have d:=n07 g i
 have f:O2 g=true->F8 g=some (c01 g):=λc=>k0g (P01 c)
 have h:O2 g=true->(c01 g).length<=1000:=λc=>n0d (P01 c)
 unfold o04
 obtain⟨a,b,c⟩:=g
 unfold w9 S3
 simp only[d,oB]
 cases e:O2 (a,b,c)with
 |false=>rfl
 |true =>
  have:=h e
  simp only[O1,f e,oB,cond_true,Bool.true_and]
  rw[H0 (by omega),oB,C0s]
theorem z0k(g:l0)(i:g.2.2.length<=140737488355328):z9 g=some (o04 g):=by
 have d:=H02 g i
 have f:O2 g=true->G8 g=some (c01 g):=λc=>l0g (P01 c)
 have h:O2 g=true->(c01 g).length<=1000:=λc=>n0d (P01 c)
 unfold o04
 obtain⟨a,b,c⟩:=g
 unfold z9
 simp only[d,oB]
 cases e:O2 (a,b,c)with
 |false=>rfl
 |true =>
  have:=h e
  simp only[O1,f e,oB,cond_true,Bool.true_and]
  rw[H0 (by omega),oB,C0s]
theorem T0p{g:l0}(h:o04 g=true):O2 g=true:=by
 unfold o04 at h
 simp only[Bool.and_eq_true]at h
 exact h.1
def A07(g:l0)(v:Int):List Int:=v::wo v.toNat g.2.1.toNat 0
def z0c(g:l0)(v:Int):l0:=t0c (M8 g (A07 g v))
theorem U0p(g:Nat):∀(d k:Nat),(g:Int) ∉ wo g d k
 |0,k,h=>nomatch h
 |d+1,k,h=>by
  unfold wo at h
  split at h
  ·exact U0p g d (k+1) h
  ·rcases List.mem_cons.1 h with h|h
   ·omega
   ·exact U0p g d (k+1) h
theorem J0f{g:l0}(hf:K0 g=true){v:Int}(b:0<=v/\v<g.2.1):inV g.2.1.toNat (A07 g v)/\(A07 g v).Nodup/\(A07 g v).length=g.2.1.toNat:=by
 obtain⟨c,d,e,f⟩:=C1 hf
 refine⟨λx a=>?_,?_,?_⟩
 ·rcases List.mem_cons.1 a with rfl|a
  ·omega
  ·exact V0j _ _ _ _ (by omega) x a
 ·refine List.nodup_cons.2 ⟨λh=>?_,w08 _ _ _⟩
  have:=U0p v.toNat g.2.1.toNat 0
  rw[show((v.toNat:Nat):Int)=v by omega]at this
  exact this h
 ·unfold A07
  rw[List.length_cons,v0f,if_pos (by omega)]
  omega
theorem A0c{g:l0}(hf:K0 g=true){v:Int}(c:0<=v/\v<g.2.1):K0 (M8 g (A07 g v))=true:=by
 obtain⟨e,f,h,i⟩:=C1 hf
 obtain⟨a,b,d⟩:=J0f hf c
 exact x08 hf a b (by omega) (by omega)
theorem n0o{g:l0}(hf:K0 g=true){v:Int}(a:0<=v/\v<g.2.1):O2 (z0c g v)=true:=q0h (A0c hf a)
theorem V0p(n:Nat)(v:Int)(h0:0<=v)(i:n<=1000):∀(d k fuel:Nat) (acc:List Int),k+d=n->d<fuel->acc.length<=k+1 ->
  S4 (n:Int) v fuel (k:Int) acc=some (acc++wo v.toNat d k)
 |d,k,0,acc,b,hf,a=>by omega
 |0,k,fuel+1,acc,b,hf,a=>by
  rw[S4.eq_2,if_neg (by simp only[decide_eq_true_eq];omega)];simp[wo]
 |d+1,k,fuel+1,acc,b,hf,a=>by
  have f:=λg h=>V0p n v h0 i d (k+1) fuel g (by omega) (by omega) h
  rw[S4.eq_2,if_pos (by simp only[decide_eq_true_eq];omega),A2 (show k<10000 by omega) (by omega)]
  unfold wo
  by_cases c:k=v.toNat
  ·have e:decide ((k:Int)=v)=true:=decide_eq_true (by omega)
   rw[e,if_neg (by simp),if_pos c,f _ (by omega)]
  ·have e:decide ((k:Int)=v)=false:=decide_eq_false (by omega)
   rw[e,if_pos (show(!false)=true from rfl),if_neg c,H0 (by simp;omega),oB,f _ (by simp;omega)]
   simp
theorem u0r(n:Nat)(v:Int):∀(fuel:Nat) (k:Int) (acc:List Int),w7 (n:Int) v fuel k acc=S4 (n:Int) v fuel k acc
 |0,k,acc=>rfl
 |fuel+1,k,acc=>by
  rw[w7.eq_2,S4.eq_2]
  simp only[u0r n v fuel]
theorem P0l{g:l0}(hf:K0 g=true){v:Int}(e:0<=v/\v<g.2.1):K7 g v=some (z0c g v,true):=by
 obtain⟨p,s,l,t⟩:=C1 hf
 obtain⟨i,j,m⟩:=J0f hf e
 have h:=H6 g (by omega)
 rw[hf]at h
 have d:=V0p g.2.1.toNat v e.1 (by omega) g.2.1.toNat 0 U0 [v] (by omega) (D1 (by omega)) (by simp)
 have k:=I0l (A0c hf e)
 have f:=h0a g.1 g.2.1.toNat g.2.2 (A07 g v) (by rw[show((g.2.1.toNat:Nat):Int)=g.2.1 by omega];exact E2 hf) i j (by omega) (by omega)
 rw[show((0:Nat):Int)=0 from rfl]at d
 rw[show((g.2.1.toNat:Nat):Int)=g.2.1 by omega]at d f
 rw[show [v]++wo v.toNat g.2.1.toNat 0=A07 g v from rfl]at d
 rw[show(g.1,g.2.1,g.2.2)=g from rfl]at f
 unfold z0c
 generalize A07 g v=o at *
 generalize n:M8 g o=q at *
 obtain⟨a,b,c⟩:=g
 obtain⟨u,w,x⟩:=q
 simp only at d e l ⊢
 unfold K7
 simp only[h,oB,Bool.not_true,Bool.not_false,O1,m03,cond_false]
 rw[w64 (by omega) (by omega),show inR 0 (b-1) v=true by simp[inR];omega]
 simp only[Bool.not_true,Bool.false_eq_true,if_false,d,oB,f,k]
theorem Q0l{g:l0}(hf:K0 g=true){v:Int}(f:0<=v/\v<g.2.1):L8 g v=some (z0c g v,true):=by
 obtain⟨n,w,p,x⟩:=C1 hf
 obtain⟨j,s,t⟩:=J0f hf f
 have i:=A8 g (by omega)
 rw[hf]at i
 have m:=I0p (E2 hf) f
 have d:=V0p g.2.1.toNat v f.1 (by omega) g.2.1.toNat 0 U0 [v] (by omega) (D1 (by omega)) (by simp)
 rw[←u0r]at d
 have k:=J0l (A0c hf f)
 have h:=t0i g.1 g.2.1.toNat g.2.2 (A07 g v) (λe l=>by have:=n e l;omega) j (by omega) (by omega) (by omega)
 rw[show((0:Nat):Int)=0 from rfl]at d
 rw[show((g.2.1.toNat:Nat):Int)=g.2.1 by omega]at d h
 rw[show [v]++wo v.toNat g.2.1.toNat 0=A07 g v from rfl]at d
 rw[show(g.1,g.2.1,g.2.2)=g from rfl]at h
 unfold z0c
 generalize A07 g v=o at *
 generalize u:M8 g o=q at *
 obtain⟨a,b,c⟩:=g
 obtain⟨y,z,A⟩:=q
 simp only at d f p ⊢
 unfold L8
 simp only[i,oB,Bool.not_true,Bool.not_false,O1,m,cond_false]
 simp only[Bool.false_eq_true,if_false,d,oB,h,k]
theorem s02{g:l0}(h:O2 g=true):g.2.2.length<=120/\(1<=g.2.1/\g.2.1<=40)/\(1<=g.1/\g.1<=3):=by
 obtain⟨d,a,b,c⟩:=C1 (P01 h)
 exact⟨c,b,a⟩
def isS(o:Option (List Int)):Bool:=o.isSome
def gtD(o:Option (List Int)):List Int:=o.getD []
theorem i0s(g:l0)(a:T0 g=true)(u:Int):I4 g u=some (inR 0 (g.2.1-1) u):=by
 obtain⟨c,d,b,e⟩:=N2 a
 obtain⟨r,n,es⟩:=g
 simp only at b
 unfold I4
 simp only[L03]
 rw[w64 (by omega) (by omega)]
 rfl
theorem o0d{c:Type}(b:c->c->Int)(x:c):∀(a l:List c),w4 b l (a ++ [x])=g00 b x (w4 b l a)
 | [],l=>rfl
 |y::a,l=>by
  show w4 b (g00 b y l) (a ++ [x])=g00 b x (w4 b (g00 b y l) a)
  exact o0d b x a _
def tEW(g:l0)(W:List (Option (List Int)))(v:Int):O0:=stp (S0 g v (-(m0d (gtD (P8 W v))))) (m0d (gtD (P8 W v))) v
def B0c(g:l0)(s:Tr8):List O0:=w4 Q0 [] (s.2.tail.map (tEW g s.1))
theorem o0o{g:l0}(hf:K0 g=true){p:Int}{n:Nat}(D:g.2.1=(n:Int)){d:Tr8}(h:TOk g p n d){v x:Int}(i:v∈d.2)(c:0<=S0 g v x/\S0 g v x ∉ d.2):
  B0c g (trS g v x d)=g00 Q0 (stp v x (S0 g v x)) (B0c g d)/\(trS g v x d).2=d.2 ++ [S0 g v x]:=by
 obtain⟨C,F,G,H⟩:=C1 hf
 have E:S0 g v x<(n:Int):=by
  rcases M03 C v x with e|e<;>omega
 unfold trS
 rw[if_pos c]
 obtain⟨b,u⟩:=d
 obtain⟨f,k⟩:=c
 simp only at k i
 refine⟨?_,rfl⟩
 have w:=h.ok.len
 simp only at w
 have l:=λ(z:Int) (j:0<=z)=>Y00 (A:=b) (y:=some ((P8 b v).getD [] ++ [x])) f (by omega) j
 have t:u≠[]:=λe=>by rw[e]at i;cases i
 have s:(u ++ [S0 g v x]).tail=u.tail ++ [S0 g v x]:=by
  cases u with
  |nil=>exact absurd rfl t
  |cons a r=>rfl
 unfold B0c
 simp only
 rw[s,List.map_append,List.map_singleton,o0d]
 have o:tEW g (b.set (S0 g v x).toNat (some ((P8 b v).getD [] ++ [x]))) (S0 g v x)=stp v x (S0 g v x):=by
  unfold tEW
  rw[l _ f,if_pos rfl]
  show stp (S0 g (S0 g v x) (-(m0d ((P8 b v).getD [] ++ [x])))) (m0d ((P8 b v).getD [] ++ [x])) (S0 g v x)=_
  rw[u0h,J06 hf rfl f]
 have q:u.tail.map (tEW g (b.set (S0 g v x).toNat (some ((P8 b v).getD [] ++ [x]))))=u.tail.map (tEW g b):=by
  refine List.map_congr_left λz j=>?_
  have m:=List.mem_of_mem_tail j
  have B:=h.gd.2 z m
  unfold tEW
  rw[l z B.1,if_neg λe=>k (by rw[←e];exact m)]
 rw[o,q]
theorem W0p(g:l0)(v x:Int)(s:Tr8)(c : ¬ (0<=S0 g v x/\S0 g v x ∉ s.2)):trS g v x s=s:=by
 unfold trS;rw[if_neg c]
theorem X0p(g:l0)(s:Tr8):(B0c g s).length<=s.2.length:=by
 unfold B0c
 have:=D00 (s.2.tail.map (tEW g s.1)) []
 rw[List.length_map,List.length_tail,List.length_nil]at this
 omega
theorem n0n{g:l0}(hf:K0 g=true)(p:Int){n:Nat}(o:g.2.1=(n:Int))(b:List Int)(z:∀ x∈b,x∈Q6 g.1.toNat 1)(H:b.length<=1000000)(i:Nat)(v:Int):∀(d k fuel:Nat) (a:Tr8),TOk g p n a->a.2[i]?=some v->k+d=b.length->d<fuel ->
  V5 b (i:Int) g.1 g.2.1 g.2.2 fuel (B0c g a) (k:Int) a.2=some (B0c g (H0f g v (b.drop k) a),(H0f g v (b.drop k) a).2)
 |d,k,0,a,f,j,s,hf=>by omega
 |0,k,fuel+1,a,f,j,s,hf=>by
  rw[V5.eq_2,if_neg (by simp only[decide_eq_true_eq];omega),J1 (by omega)];rfl
 |d+1,k,fuel+1,a,f,e,s,L=>by
  obtain⟨A,P,K,Q⟩:=C1 hf
  have w:k<b.length:=by omega
  have l:=L5 w
  have q:=z _ (List.mem_of_getElem? l)
  have u:=N1 l
  generalize b[k]=x at l q u
  have m:=f09 (by omega) q
  have M:=u00 n a.2 f.gd.1 f.gd.2
  have N:=M03 A v x
  have j:=List.mem_of_getElem? e
  have I:=f.add hf o j q
  obtain⟨t,G⟩:=I0i g v x a
  have J:=n0n hf p o b z H i v d (k+1) fuel (trS g v x a) I (by rw[G,List.getElem?_append_left (List.getElem?_eq_some_iff.1 e).1];exact e) (by omega) (by omega)
  have O:=X0p g a
  rw[V5.eq_2,if_pos (by simp only[decide_eq_true_eq];omega),u,H0f,←J]
  simp only[P2 e,P2 l,oB,show(g.1,g.2.1,g.2.2)=g from rfl,l02 g v x m.1 (by omega),H0 (C00 A K.2 v x),A2 w (show b.length<=9223372036854775807 by omega)]
  by_cases c:0<=S0 g v x/\S0 g v x ∉ a.2
  ·obtain⟨C,D⟩:=o0o hf o f j c
   rw[C,D]
   have E:decide (S0 g v x<0)=false:=decide_eq_false (by omega)
   have F:gi (a.2 ++ [S0 g v x]) (i:Int)=some v:=P2 (by rw[List.getElem?_append_left (List.getElem?_eq_some_iff.1 e).1];exact e)
   rw[E]
   simp only[Bool.not_false,O1,a09 a.2 _ (show a.2.length<=9223372036854775807 by omega),decide_eq_false c.2,oB,cond_false,Bool.false_eq_true,if_false,F]
   rw[H0 (by simp;omega),oB]
   generalize S0 g v x=y at *
   by_cases cx:x>0
   ·rw[if_pos (by simpa using cx),M04 _ _ (by omega),oB]
    unfold stp
    rw[if_neg (by omega)]
   ·rw[if_neg (by simpa using cx),M04 _ _ (by omega),oB,n08 m.1.1 m.1.2]
    unfold stp
    rw[if_pos (by have:=m.2.1;omega)]
  ·rw[W0p g v x a c]
   by_cases c1:0<=S0 g v x
   ·have B:S0 g v x∈a.2:=Classical.byContradiction λh=>c ⟨c1,h⟩
    rw[show decide (S0 g v x<0)=false from decide_eq_false (by omega)]
    simp only[Bool.not_false,O1,a09 a.2 _ (show a.2.length<=9223372036854775807 by omega),decide_eq_true B,oB,cond_false,if_true]
   ·rw[show decide (S0 g v x<0)=true from decide_eq_true (by omega)]
    simp only[Bool.not_true,Y2,oB,cond_true,if_true]
theorem o0n{g:l0}(hf:K0 g=true)(p:Int){n:Nat}(d:g.2.1=(n:Int)):∀(f i fuel:Nat) (a:Tr8),TOk g p n a->i<=a.2.length->n+1<=i+f->f<fuel ->
  W8 (Q6 g.1.toNat 1) g.1 g.2.1 g.2.2 fuel (B0c g a) (i:Int) a.2=some (B0c g (S05 g (Q6 g.1.toNat 1) f i a),(S05 g (Q6 g.1.toNat 1) f i a).2)
 |f,i,0,a,c,j,h,hf=>by omega
 |0,i,fuel+1,a,c,j,h,hf=>by have:=u00 n a.2 c.gd.1 c.gd.2;omega
 |f+1,i,fuel+1,a,c,j,h,m=>by
  obtain⟨q,s,u,w⟩:=C1 hf
  have o:=u00 n a.2 c.gd.1 c.gd.2
  rw[W8.eq_2,oB,H0 (by omega),oB]
  by_cases hk:i<a.2.length
  ·have b:=L5 hk
   generalize a.2[i]=v at b
   have k:=List.mem_of_getElem? b
   have h0:=n0n hf p d (Q6 g.1.toNat 1) (λx b=>b) (by rw[n02];omega) i v (Q6 g.1.toNat 1).length 0 U0 a c b (by omega) (D1 (by rw[n02];omega))
   rw[show((0:Nat):Int)=0 from rfl,List.drop_zero]at h0
   obtain⟨t,e⟩:=v0k g v (Q6 g.1.toNat 1) a
   have l:=o0n hf p d f (i+1) fuel _ (c.inn hf d _ k λx b=>b) (by rw[e,List.length_append];omega) (by omega) (by omega)
   rw[if_pos (by simpa using hk),h0,oB]
   simp only[A2 hk (show a.2.length<=9223372036854775807 by omega),S05,b]
   exact l
  ·have b:a.2[i]?=none:=List.getElem?_eq_none (by omega)
   rw[if_neg (by simpa using hk)]
   simp only[S05,b]
theorem p0o{g:l0}(hf:K0 g=true):t02 g=some (P03 g):=by
 obtain⟨j,k,l,m⟩:=C1 hf
 have h:g.2.1=((g.2.1.toNat:Nat):Int):=by omega
 have h0:=o0n hf 0 h (g.2.1.toNat+1) 0 U0 _ (y0c g (N:=g.2.1.toNat) ⟨iR _,by omega⟩) (by simp) (by omega) (D1 (by omega))
 have d:=D0l g.1.toNat (by omega)
 rw[show((g.1.toNat:Nat):Int)=g.1 by omega]at d
 have i:=H6 g (by omega)
 have e:B0c g (S05 g (Q6 g.1.toNat 1) (g.2.1.toNat+1) 0 ((List.replicate g.2.1.toNat none).set (0:Int).toNat (some []),[0]))=P03 g:=by
  show B0c g (l0a g 0)=_
  unfold B0c P03
  rw[t0b]
  rfl
 rw[e]at h0
 have f:B0c g ((List.replicate g.2.1.toNat none).set (0:Int).toNat (some []),[0]) = []:=rfl
 rw[f,show((0:Nat):Int)=0 from rfl]at h0
 obtain⟨a,b,c⟩:=g
 simp only at *
 unfold t02
 simp only[i,hf,oB,Bool.not_true,Bool.false_eq_true,if_false,d,h0]
theorem v0r(a es:List O0)(j:Nat){e:O0}(o:es[j]?=some e)(y:a.length<=1000):∀(d k fuel:Nat) (b:Bool),k+d=a.length->d<fuel ->
  c6 a es (j:Int) fuel b (k:Int)=some (b || decide (e∈a.drop k))
 |d,k,0,b,m,hf=>by omega
 |0,k,fuel+1,b,m,hf=>by
  rw[c6.eq_2,if_neg (by simp only[decide_eq_true_eq];omega),J1 (by omega)];simp
 |d+1,k,fuel+1,b,m,z=>by
  have p:k<a.length:=by omega
  have f:=L5 p
  have n:=N1 f
  generalize a[k]=t at f n
  have q:=λw=>v0r a es j o y d (k+1) fuel w (by omega) (by omega)
  obtain⟨s,u,v⟩:=t
  obtain⟨g,i,l⟩:=e
  rw[c6.eq_2,if_pos (by simp only[decide_eq_true_eq];omega),n,A2 p (by omega)]
  cases b with
  |true =>
   simp only[Bool.not_true,Y2,oB,cond_true,q,Bool.true_or]
  |false =>
   simp only[Bool.not_false,O1,P2 f,P2 o,oB,cond_false,q,Bool.false_or]
   by_cases c:(s,u,v)=(g,i,l)
   ·rw[c];simp[eqE]
   ·have x : ¬ (g,i,l)=(s,u,v):=λh=>c h.symm
    unfold eqE
    rw[decide_eq_false c,Bool.false_or]
    simp only[List.mem_cons,x,false_or]
theorem A0k{g:l0}(hf:K0 g=true)(a:List O0)(f:a.length<=1000):∀(d k fuel:Nat) (acc:List O0),k+d=g.2.2.length->d<fuel->acc.length<=k ->
  B5 g.2.2 g.1 g.2.1 a fuel (k:Int) acc=some (acc++(g.2.2.drop k).filter λe => !decide (e∈a))
 |d,k,0,acc,j,t,i=>by omega
 |0,k,fuel+1,acc,j,t,i=>by
  rw[B5.eq_2,show decide ((k:Int)<((g.2.2.length:Nat):Int))=false from decide_eq_false (by omega),J1 (by omega)]
  simp only[Y2,oB,cond_false,Bool.false_eq_true,if_false,List.filter_nil,List.append_nil]
 |d+1,k,fuel+1,acc,j,v,i=>by
  obtain⟨w,x,y,z⟩:=C1 hf
  have m:k<g.2.2.length:=by omega
  have b:=L5 m
  have l:=N1 b
  generalize g.2.2[k]=e at b l
  have u:=H6 g (by omega)
  have n:=λo h=>A0k hf a f d (k+1) fuel o (by omega) (by omega) h
  have h0:=v0r a g.2.2 k b f a.length 0 U0 false (by omega) (D1 (by omega))
  rw[show((0:Nat):Int)=0 from rfl,List.drop_zero,Bool.false_or]at h0
  obtain⟨p,q,s⟩:=e
  rw[B5.eq_2,show decide ((k:Int)<((g.2.2.length:Nat):Int))=true from decide_eq_true (by omega)]
  simp only[O1,show(g.1,g.2.1,g.2.2)=g from rfl,u,hf,oB,cond_true,if_true,h0,P2 b,A2 m (show g.2.2.length<=9223372036854775807 by omega),l,List.filter_cons]
  by_cases c:(p,q,s)∈a
  ·simp only[decide_eq_true c,Bool.not_true,Bool.false_eq_true,if_false]
   exact n acc (by omega)
  ·simp only[decide_eq_false c,Bool.not_false,if_true]
   rw[H0 (by simp;omega),oB,n _ (by simp;omega)]
   simp
theorem Y0p{g:l0}(hf:K0 g=true):F00 g=some (q00 g):=by
 obtain⟨h,i,j,k⟩:=C1 hf
 have e:=p0o hf
 have f:=v0h hf
 have d:=A0k hf (P03 g) (by omega) g.2.2.length 0 U0 [] (by omega) (D1 (by omega)) (by simp)
 rw[show((0:Nat):Int)=0 from rfl,List.drop_zero,List.nil_append]at d
 unfold q00
 obtain⟨a,b,c⟩:=g
 simp only at *
 unfold F00
 simp only[e,oB,d]
theorem T05(g:l0)(d:g.2.2.length<=140737488355328):S3 g=some (O2 g):=by
 have:=n07 g d
 obtain⟨a,b,c⟩:=g
 unfold S3
 show(M00 (a,b,c)).bind (λe=>some e)=_
 rw[this];rfl
theorem Y0q{g:l0}(hf:K0 g=true){w:List Int}(k:∀ x∈w,E5 x)(j:w.length<=140737488355328):M6 g w=some (f02 g w):=by
 obtain⟨e,m,f,n⟩:=C1 hf
 have h:=p0i g e f.2 (by omega) 0 w k j
 have i:=z04 e f.2 w 0 ⟨by omega,by omega⟩
 have l:=Z02 g w 0
 unfold f02
 obtain⟨a,b,c⟩:=g
 unfold M6
 simp only[h,oB]
 rw[H0 i,oB,H0 (show I0 (((V1 (a,b,c) 0 w).2:Nat):Int) from⟨by omega,by omega⟩),oB]
 by_cases d:(V1 (a,b,c) 0 w).2=w.length
 ·rw[decide_eq_true d,show decide ((((V1 (a,b,c) 0 w).2:Nat):Int)=((w.length:Nat):Int))=true from decide_eq_true (by omega)]
  simp
 ·rw[decide_eq_false d,show decide ((((V1 (a,b,c) 0 w).2:Nat):Int)=((w.length:Nat):Int))=false from decide_eq_false (by omega)]
  simp
theorem v0b(w:List Int)(a:w.length<=1099511627776):d8 w=some (J07 [] w).reverse:=by
 unfold d8
 rw[L09 [w] (by simp) (by simp only[k0o];omega)]
 rfl
def p04(g:l0):l0:=L3 (k06 (V8 g).1)
theorem z08{g:l0}(f:T0 g=true):T5 g=some (p04 g):=by
 obtain⟨m,o,p,s⟩:=N2 f
 have h:=I09 g (by omega)
 have hf:=t05 f
 obtain⟨v,d⟩:=B0f (E2 hf)
 have e:=s08 (k06 (V8 g).1) (J02 40 hf)
 unfold p04
 obtain⟨r,n,es⟩:=g
 unfold T5
 generalize V8 (r,n,es)=q at *
 obtain⟨⟨a,b,c⟩,l⟩:=q
 simp only[h,oB]
 simp only at d e
 generalize k06 (a,b,c)=q2 at *
 obtain⟨i,j,k⟩:=q2
 simp only[d,oB,e]
theorem A08{g:l0}(f:T0 g=true):U5 g=some (p04 g):=by
 obtain⟨m,o,p,s⟩:=N2 f
 have h:=J09 g (by omega)
 have hf:=t05 f
 obtain⟨v,d⟩:=h0d (E2 hf)
 have e:=r08 (k06 (V8 g).1) (J02 40 hf)
 unfold p04
 obtain⟨r,n,es⟩:=g
 unfold U5
 generalize V8 (r,n,es)=q at *
 obtain⟨⟨a,b,c⟩,l⟩:=q
 simp only[h,oB]
 simp only at d e
 generalize k06 (a,b,c)=q2 at *
 obtain⟨i,j,k⟩:=q2
 simp only[d,oB,e]
def N9(r:Int)(a:List (List Int)):l0×Bool:=bif c7 r a then(p04 (z07 a (r,1,[])),true)else((0,0,[]),false)
theorem m0a{r:Int}{a:List (List Int)}(h:c7 r a=true):T0 (z07 a (r,1,[]))=true:=by
 obtain⟨b,d,c⟩:=u0c h
 exact i0d a (v0c b) c
theorem q0o(r:Int)(d:List (List Int))(j:d.length<=140737488355328)(k:N00 d):G00 r d=some (N9 r d):=by
 have e:=F0i r d j k
 have f:c7 r d=true->_:=λh=>z08 (m0a h)
 unfold G00 N9
 unfold I06 at e
 cases hA:c7 r d with
 |false=>rw[hA]at e;simp only[cond_false]at e;simp[e]
 |true =>
  rw[hA]at e
  simp only[cond_true]at e
  have i:=f hA
  generalize z07 d (r,1,[])=g at *
  obtain⟨a,b,c⟩:=g
  simp only[e,oB,i,Bool.not_true,Bool.false_eq_true,if_false,cond_true]
theorem r0o(r:Int)(d:List (List Int))(j:d.length<=140737488355328)(k:N00 d):H00 r d=some (N9 r d):=by
 have e:=G0i r d j k
 have f:c7 r d=true->_:=λh=>A08 (m0a h)
 unfold H00 N9
 unfold I06 at e
 cases hA:c7 r d with
 |false=>rw[hA]at e;simp only[cond_false]at e;simp[e]
 |true =>
  rw[hA]at e
  simp only[cond_true]at e
  have i:=f hA
  generalize z07 d (r,1,[])=g at *
  obtain⟨a,b,c⟩:=g
  simp only[e,oB,i,Bool.not_true,Bool.false_eq_true,if_false,cond_true]
theorem K0f{r:Int}{g:l0}{w:List Int}(e:O2 g=true)(f:U1 r w=true):J01 g w=some (f02 g w):=by
 have hf:=c8 e
 obtain⟨l,m,n,o⟩:=C1 hf
 obtain⟨p,k⟩:=g03 f
 have d:=v0b w (by omega)
 rw[s0b f]at d
 have h:=Y0q hf (λx j=>(k x j).1) (by omega)
 have i:=H02 g (by omega)
 obtain⟨a,b,c⟩:=g
 unfold J01
 simp only[i,e,oB,O1,d,h,cond_true]
def U05(g:l0)(v:Int):l0×Bool:=bif K0 g&&inR 0 (g.2.1-1) v then(z0c g v,true)else(g,false)
theorem p0d(g:l0)(h:g.2.2.length<=1099511627776)(v:Int):K7 g v=some (U05 g v):=by
 unfold U05
 cases hf:K0 g with
 |false =>
  have d:=H6 g (by omega)
  have e:=J9 g (by omega)
  rw[hf]at d
  obtain⟨a,b,c⟩:=g
  unfold K7
  simp only[d,oB,Bool.not_false,Bool.not_true,Y2,cond_true,if_true,e,Bool.false_and,cond_false]
 |true =>
  cases hv:inR 0 (g.2.1-1) v with
  |true=>exact P0l hf (by simp only[inR,Bool.and_eq_true,decide_eq_true_eq]at hv;omega)
  |false =>
   obtain⟨i,j,f,k⟩:=C1 hf
   have d:=H6 g (by omega)
   have e:=J9 g (by omega)
   rw[hf]at d
   obtain⟨a,b,c⟩:=g
   simp only at hv f
   unfold K7
   simp only[d,oB,Bool.not_false,Bool.not_true,O1,m03,w64 (show -9223372036854775808<=b-1 by omega) (show b-1<=9223372036854775807 by omega),hv,cond_false,if_true,e,Bool.true_and]
theorem q0d(g:l0)(i:g.2.2.length<=1099511627776)(v:Int):L8 g v=some (U05 g v):=by
 unfold U05
 cases hf:K0 g with
 |false =>
  have d:=A8 g (by omega)
  have e:=l00 g (by omega)
  rw[hf]at d
  obtain⟨a,b,c⟩:=g
  unfold L8
  simp only[d,oB,Bool.not_false,Bool.not_true,Y2,cond_true,if_true,e,Bool.false_and,cond_false]
 |true =>
  cases hv:inR 0 (g.2.1-1) v with
  |true=>exact Q0l hf (by simp only[inR,Bool.and_eq_true,decide_eq_true_eq]at hv;omega)
  |false =>
   obtain⟨j,k,h,l⟩:=C1 hf
   have d:=A8 g (by omega)
   have e:=l00 g (by omega)
   have f:=i0s g (E2 hf) v
   rw[hf]at d
   rw[hv]at f
   obtain⟨a,b,c⟩:=g
   simp only at hv h
   unfold L8
   simp only[d,oB,Bool.not_false,Bool.not_true,O1,f,cond_false,if_true,e,Bool.true_and]
theorem n0a(g:l0):∀(w:List Int) (v:Int),V1 g v (w.take (V1 g v w).2)=V1 g v w
 | [],v=>rfl
 |x::w,v=>by
  have a:=n0a g w (S0 g v x)
  by_cases c:S0 g v x<0
  ·have e:V1 g v (x::w)=(v,0):=by rw[V1,if_pos c]
   rw[e];rfl
  ·have e:V1 g v (x::w)=((V1 g (S0 g v x) w).1,(V1 g (S0 g v x) w).2+1):=by rw[V1,if_neg c]
   rw[e,List.take_succ_cons,V1,if_neg c,a]
theorem B08{g:l0}(a:inG g):∀(w:List Int) (v:Int),(0<=v/\v<g.2.1)->0<=(V1 g v w).1/\(V1 g v w).1<g.2.1
 | [],v,h=>h
 |x::w,v,h=>by
  unfold V1
  split
  ·exact h
  ·rename_i c
   have b:=M03 a v x
   refine B08 a w _ ?_
   rcases b with e|e<;>omega
theorem x0h{b a:Int}{w:List Int}:∀ {d k:Nat},(∀ i,k<=i->i<k+d->E04 b a w i=false)->l03 b a w d k=true
 |0,k,h=>rfl
 |d+1,k,h=>by
  unfold l03
  rw[h k (Nat.le_refl _) (by omega),x0h λi c e=>h i (by omega) (by omega)]
  rfl
theorem i09{r:Int}{w:List Int}(h:U1 r w=true)(n:Nat):U1 r (w.drop n)=true:=by
 simp only[U1,Bool.and_eq_true,decide_eq_true_eq]at h ⊢
 refine⟨⟨h.1.1,by rw[List.length_drop];omega⟩,x0h λi d c=>?_⟩
 have a:=Z08 h.2 (n+i) (Nat.zero_le _) (by rw[List.length_drop]at c;omega)
 unfold E04 at a ⊢
 rw[List.getElem?_drop,List.getElem?_drop]
 cases hw:w[n+i]? with
 |none=>rw[hw]at a;exact a
 |some x =>
  rw[hw]at a
  simp only[Bool.or_eq_false_iff]at a ⊢
  refine⟨a.1,?_⟩
  cases i with
  |zero=>rfl
  |succ j =>
   have b:=a.2
   rw[show n+(j+1)-1=n+j by omega]at b
   rw[show n+(j+1-1)=n+j by omega]
   rw[show decide (0<n+(j+1))=true from decide_eq_true (by omega)]at b
   rw[show decide (0<j+1)=true from decide_eq_true (by omega)]
   exact b
def g01(g:l0)(w:List Int):l0×Bool :=
 bif O2 g&&U1 g.1 w then
  (bif decide ((V1 g 0 w).2<w.length)then
   (bif(Q1 g).2 then
    (bif(C3 (Q1 g).1 (V1 g 0 w).1 (w.drop (V1 g 0 w).2) g.2.1).2 then U05 (C3 (Q1 g).1 (V1 g 0 w).1 (w.drop (V1 g 0 w).2) g.2.1).1 g.2.1 else((0,0,[]),false))
   else((0,0,[]),false))
  else U05 g (V1 g 0 w).1)
 else((0,0,[]),false)
theorem y0h{g:l0}(f:inG g)(j:g.2.1<=40)(e:g.2.2.length<=1099511627776)(w:List Int)(l:∀ x∈w,E5 x)(n:w.length<=140737488355328):∀(d k fuel:Nat) (v:Int),k+d=w.length->d<fuel ->
  d6 w g.1 g.2.1 g.2.2 fuel v (k:Int)=some (bif decide ((V1 g v (w.drop k)).2<d)then .inl (((k+(V1 g v (w.drop k)).2:Nat):Int))else .inr ())
 |d,k,0,v,b,hf=>by omega
 |0,k,fuel+1,v,b,hf=>by
  rw[d6.eq_2,if_neg (by simp only[decide_eq_true_eq];omega),J1 (by omega)]
  rfl
 |d+1,k,fuel+1,v,b,hf=>by
  have i:k<w.length:=by omega
  have a:=L5 i
  have m:=l _ (List.mem_of_getElem? a)
  have c:=N1 a
  generalize w[k]=x at a m c
  rw[d6.eq_2,if_pos (by simp only[decide_eq_true_eq];omega),P2 a,oB,show(g.1,g.2.1,g.2.2)=g from rfl,l02 g v x m e,oB,H0 (C00 f j v x),oB,c]
  unfold V1
  by_cases h:S0 g v x<0
  ·rw[if_pos (by simpa using h),if_pos h]
   simp
  ·rw[if_neg (by simpa using h),if_neg h,A2 i (by omega),y0h f j e w l n d (k+1) fuel _ (by omega) (by omega)]
   simp only[Nat.add_lt_add_iff_right]
   rw[show k+1+(V1 g (S0 g v x) (w.drop (k+1))).2=k+((V1 g (S0 g v x) (w.drop (k+1))).2+1) by omega]
theorem z0h{g:l0}(hf:K0 g=true){v:Int}(f:0<=v/\v<g.2.1){w:List Int}(i:∀ x∈w,E5 x)(a:w.length<=140737488355328):D9 g v w=some (((V1 g v w).2:Nat):Int):=by
 obtain⟨j,l,b,m⟩:=C1 hf
 have d:=H6 g (by omega)
 have h:=y0h j b.2 (by omega) w i a w.length 0 U0 v (by omega) (D1 a)
 rw[show((0:Nat):Int)=0 from rfl,List.drop_zero,Nat.zero_add]at h
 have k:=Z02 g w v
 obtain⟨r,n,es⟩:=g
 simp only at f b h
 have e:inR 0 (n-1) v=true:=by simp only[inR,Bool.and_eq_true,decide_eq_true_eq];omega
 unfold D9
 simp only[d,hf,oB,Bool.not_true,Bool.not_false,O1,m03,w64 (show -9223372036854775808<=n-1 by omega) (show n-1<=9223372036854775807 by omega),e,cond_false,Bool.false_eq_true,if_false,h]
 by_cases c:(V1 (r,n,es) v w).2<w.length
 ·rw[decide_eq_true c];rfl
 ·rw[decide_eq_false c,show(V1 (r,n,es) v w).2=w.length by omega];rfl
theorem h03{g:l0}(h:(Q1 g).2=true):Q1 g=((g.1,g.2.1+1,g.2.2),true)/\g.2.1<40:=by
 unfold Q1 at h ⊢
 by_cases c:g.2.1<40
 ·simp[c]
 ·simp[c]at h
theorem R0l(g:l0)(K:g.2.2.length<=140737488355328)(w:List Int)(L:w.length<=140737488355328):d5 g w=some (g01 g w):=by
 have d:=T05 g K
 have e:=F02 g.1 w L
 unfold g01
 cases hc:O2 g with
 |false =>
  rw[hc]at d
  obtain⟨a,b,c⟩:=g
  unfold d5
  simp only[d,oB,Bool.not_false,Bool.not_true,Y2,cond_true,if_true,Bool.false_and,cond_false]
 |true =>
  cases hwd:U1 g.1 w with
  |false =>
   rw[hc]at d
   rw[hwd]at e
   obtain⟨a,b,c⟩:=g
   simp only at e
   unfold d5
   simp only[d,oB,Bool.not_false,Bool.not_true,O1,e,cond_false,if_true,Bool.true_and]
  |true =>
   have hf:=c8 hc
   have B:=E2 hf
   obtain⟨F,G,N,Q⟩:=C1 hf
   obtain⟨S,O⟩:=g03 hwd
   have E:∀ x∈w,E5 x:=λx l=>(O x l).1
   have z:(0:Int)<=0/\(0:Int)<g.2.1:=⟨iR _,by omega⟩
   have p:=z0h hf z E (by omega)
   have j:=Z02 g w 0
   have i:=x0l g hf 0 z (w.take (V1 g 0 w).2) (λx l=>E x (List.mem_of_mem_take l)) (by rw[List.length_take];omega)
   rw[n0a,List.length_take,show min (V1 g 0 w).2 w.length=(V1 g 0 w).2 by omega,decide_eq_false (Nat.lt_irrefl _)]at i
   have s:=z04 F N.2 w 0 ⟨by omega,by omega⟩
   have H:=J9 g (by omega)
   have t:=l0b (xs:=w) (k:=(V1 g 0 w).2) j
   have A:=v01 (xs:=w) (k:=(V1 g 0 w).2) j
   have I:=w07 B
   have J:=B08 F w 0 z
   have D:=p0d g (by omega) (V1 g 0 w).1
   have C:=z00 B
   have m:(Q1 g).2=true->_:=λh=>i06 (g:=(Q1 g).1) (u:=(V1 g 0 w).1) (v:=g.2.1) (w:=w.drop (V1 g 0 w).2) C (by rw[(h03 h).1];simp only;omega) (by rw[(h03 h).1];simp only;omega) (by rw[(h03 h).1];exact i09 hwd _)
   have P:=R05 C (V1 g 0 w).1 (w.drop (V1 g 0 w).2) g.2.1
   have f:=p0d (C3 (Q1 g).1 (V1 g 0 w).1 (w.drop (V1 g 0 w).2) g.2.1).1 (by omega) g.2.1
   rw[hc]at d
   rw[hwd]at e
   generalize V1 g 0 w=R at *
   obtain⟨v,n⟩:=R
   obtain⟨a,b,c⟩:=g
   simp only at e p i s t A j J D f m ⊢
   unfold d5
   simp only[d,oB,Bool.not_true,Bool.not_false,O1,e,cond_false,Bool.false_eq_true,if_false,p,Bool.true_and,cond_true]
   rw[H0 (show I0 ((n:Nat):Int) from⟨by omega,by omega⟩),oB,t,oB,i]
   simp only[cond_false,oB]
   rw[H0 s]
   simp only[oB,H]
   by_cases c1:n<w.length
   ·rw[if_pos (by simp only[decide_eq_true_eq];omega),decide_eq_true c1,I]
    simp only[oB,cond_true]
    cases hok:(Q1 (a,b,c)).2 with
    |false =>
     generalize Q1 (a,b,c)=q at *
     obtain⟨⟨x,y,z⟩,ok⟩:=q
     simp only at hok
     subst hok
     rfl
    |true =>
     have o:=m hok
     generalize Q1 (a,b,c)=q at *
     obtain⟨⟨x,y,z⟩,ok⟩:=q
     simp only at hok o f
     subst hok
     simp only[Bool.not_true,Bool.false_eq_true,if_false,A,oB,o,cond_true]
     generalize C3 (x,y,z) v (w.drop n) b=G at *
     obtain⟨⟨T,U,V⟩,M⟩:=G
     cases M with
     |false=>rfl
     |true=>simp only[Bool.not_true,Bool.false_eq_true,if_false,cond_true]at f ⊢;rw[f];rfl
   ·rw[if_neg (by simp only[decide_eq_true_eq];omega),decide_eq_false c1,D];rfl
theorem S0l(g:l0)(G:g.2.2.length<=140737488355328)(w:List Int)(H:w.length<=140737488355328):j5 g w=some (g01 g w):=by
 have d:=H02 g G
 have e:=G02 g.1 w H
 unfold g01
 cases hc:O2 g with
 |false =>
  rw[hc]at d
  obtain⟨a,b,c⟩:=g
  unfold j5
  simp only[d,oB,Bool.not_false,Bool.not_true,Y2,cond_true,if_true,Bool.false_and,cond_false]
 |true =>
  cases hwd:U1 g.1 w with
  |false =>
   rw[hc]at d
   rw[hwd]at e
   obtain⟨a,b,c⟩:=g
   simp only at e
   unfold j5
   simp only[d,oB,Bool.not_false,Bool.not_true,O1,e,cond_false,if_true,Bool.true_and]
  |true =>
   have hf:=c8 hc
   have t:=E2 hf
   obtain⟨j,D,l,N⟩:=C1 hf
   obtain⟨O,L⟩:=g03 hwd
   have I:∀ x∈w,E5 x:=λx J=>(L x J).1
   have z:(0:Int)<=0/\(0:Int)<g.2.1:=⟨iR _,by omega⟩
   have p:=p0i g j l.2 (by omega) 0 w I (by omega)
   have B:=Z02 g w 0
   have i:=z04 j l.2 w 0 ⟨by omega,by omega⟩
   have s:=v01 (xs:=w) (k:=(V1 g 0 w).2) B
   have E:=x07 t
   have F:=B08 j w 0 z
   have C:=q0d g (by omega) (V1 g 0 w).1
   have A:=z00 t
   have m:(Q1 g).2=true->_:=λh=>j06 (g:=(Q1 g).1) (u:=(V1 g 0 w).1) (v:=g.2.1) (w:=w.drop (V1 g 0 w).2) A (by rw[(h03 h).1];simp only;omega) (by rw[(h03 h).1];simp only;omega) (by rw[(h03 h).1];exact i09 hwd _)
   have M:=R05 A (V1 g 0 w).1 (w.drop (V1 g 0 w).2) g.2.1
   have f:=q0d (C3 (Q1 g).1 (V1 g 0 w).1 (w.drop (V1 g 0 w).2) g.2.1).1 (by omega) g.2.1
   rw[hc]at d
   rw[hwd]at e
   generalize V1 g 0 w=R at *
   obtain⟨v,n⟩:=R
   obtain⟨a,b,c⟩:=g
   simp only at e p i s B F C f m ⊢
   unfold j5 R00
   simp only[d,oB,Bool.not_true,Bool.not_false,O1,e,cond_false,Bool.false_eq_true,if_false,p,Bool.true_and,cond_true]
   rw[H0 i,oB,H0 (show I0 ((n:Nat):Int) from⟨by omega,by omega⟩),oB]
   by_cases c1:n<w.length
   ·rw[if_neg (by simp only[decide_eq_true_eq];omega),decide_eq_true c1,E]
    simp only[oB,cond_true]
    cases hok:(Q1 (a,b,c)).2 with
    |false =>
     generalize Q1 (a,b,c)=q at *
     obtain⟨⟨x,y,z⟩,ok⟩:=q
     simp only at hok
     subst hok
     simp only[Bool.not_false,if_true,oB]
     rw[H0 (show I0 0 from⟨by omega,by omega⟩)]
     rfl
    |true =>
     have o:=m hok
     generalize Q1 (a,b,c)=q at *
     obtain⟨⟨x,y,z⟩,ok⟩:=q
     simp only at hok o f
     subst hok
     simp only[Bool.not_true,Bool.false_eq_true,if_false,s,oB,o,cond_true]
     generalize C3 (x,y,z) v (w.drop n) b=D at *
     obtain⟨⟨P,Q,S⟩,K⟩:=D
     cases K with
     |false =>
      simp only[Bool.not_false,if_true,oB]
      rw[H0 (show I0 0 from⟨by omega,by omega⟩)]
      rfl
     |true =>
      simp only at l
      simp only[Bool.not_true,Bool.false_eq_true,if_false,cond_true,oB]at f ⊢
      rw[H0 (show I0 b from⟨by omega,by omega⟩),oB,f];rfl
   ·rw[if_pos (by simp only[decide_eq_true_eq];omega),decide_eq_false c1]
    simp only[oB,Bool.not_true,Bool.false_eq_true,if_false,cond_false]
    rw[H0 i,oB,C];rfl
def c03(g:l0):Int:=bif O2 g then(g.2.2.length:Int)-g.2.1+1 else -1
theorem L0f(g:l0)(e:g.2.2.length<=140737488355328):Q00 g=some (c03 g)/\I0 (c03 g):=by
 have d:=T05 g e
 unfold c03
 cases hc:O2 g with
 |false =>
  rw[hc]at d
  obtain⟨a,b,c⟩:=g
  unfold Q00
  simp only[d,oB,Bool.not_false,if_true,cond_false]
  exact⟨trivial,⟨by omega,by omega⟩⟩
 |true =>
  obtain⟨i,j,f,h⟩:=C1 (c8 hc)
  rw[hc]at d
  obtain⟨a,b,c⟩:=g
  simp only at f h
  unfold Q00
  simp only[d,oB,Bool.not_true,Bool.false_eq_true,if_false,cond_true]
  rw[w64 (x:=((c.length:Nat):Int)-b) (by omega) (by omega),w64 (by omega) (by omega)]
  exact⟨rfl,⟨by omega,by omega⟩⟩
theorem T0l(g:l0)(e:g.2.2.length<=140737488355328):Q01 g=some (c03 g):=by
 have d:=H02 g e
 unfold c03
 cases hc:O2 g with
 |false =>
  rw[hc]at d
  obtain⟨a,b,c⟩:=g
  unfold Q01
  simp only[d,oB,Bool.not_false,if_true,cond_false]
 |true =>
  obtain⟨i,j,f,h⟩:=C1 (c8 hc)
  rw[hc]at d
  obtain⟨a,b,c⟩:=g
  simp only at f h
  unfold Q01
  simp only[d,oB,Bool.not_true,Bool.false_eq_true,if_false,cond_true]
  rw[w64 (x:=((c.length:Nat):Int)-b) (by omega) (by omega),w64 (by omega) (by omega)]
def R01(g:l0):Int:=bif o04 g then g.2.1 else -1
theorem M09(g:l0)(f:g.2.2.length<=140737488355328):u02 g=some (R01 g)/\I0 (R01 g):=by
 have d:=y0k g f
 have e:o04 g=true->_:=λh=>C1 (c8 (T0p h))
 unfold R01
 obtain⟨a,b,c⟩:=g
 unfold u02
 cases hc:o04 (a,b,c)with
 |false =>
  rw[hc]at d
  simp only[d,oB,Bool.not_false,if_true,cond_false]
  exact⟨trivial,⟨by omega,by omega⟩⟩
 |true =>
  rw[hc]at d
  obtain⟨j,k,i,l⟩:=e hc
  simp only at i
  simp only[d,oB,Bool.not_true,Bool.false_eq_true,if_false,cond_true]
  exact⟨trivial,⟨by omega,by omega⟩⟩
theorem n0g(g:l0)(e:g.2.2.length<=140737488355328):v02 g=some (R01 g):=by
 have d:=z0k g e
 unfold R01
 obtain⟨a,b,c⟩:=g
 unfold v02
 cases hc:o04 (a,b,c)with
 |false =>
  rw[hc]at d
  simp only[d,oB,Bool.not_false,if_true,cond_false]
 |true =>
  rw[hc]at d
  simp only[d,oB,Bool.not_true,Bool.false_eq_true,if_false,cond_true]
def exO(bs:List (List Int))(k:Int):Option (List Int):=if 0<k/\k<=(bs.length:Int)then some (bs.getD (k.toNat-1) [])else if k<0 /\ -(bs.length:Int)<=k then some (inv (bs.getD ((-k).toNat-1) []))else none
def exP(bs:List (List Int))(k:Int):List Int:=(exO bs k).getD []
def BOk(bs:List (List Int)):Prop:=(∀ w∈bs,(∀ x∈w,E5 x)/\w.length<=1000)/\bs.length<=1000
theorem B0k{bs:List (List Int)}{k:Nat}(h:k<bs.length):bs.getD k []∈bs:=by
 rw[List.getD_eq_getElem?_getD,List.getElem?_eq_getElem h];exact List.getElem_mem h
theorem Z0q{bs:List (List Int)}(h:BOk bs){k:Int}{w:List Int}(e:exO bs k=some w):w.length<=1000/\∀ x∈w,I0 x:=by
 unfold exO at e
 split at e
 ·rename_i c
  have a:=B0k (bs:=bs) (k:=k.toNat-1) (by omega)
  simp only[Option.some.injEq]at e
  rw[←e]
  exact⟨(h.1 _ a).2,λx b=>((h.1 _ a).1 x b).1⟩
 ·split at e
  ·rename_i c
   have a:=B0k (bs:=bs) (k:=(-k).toNat-1) (by omega)
   simp only[Option.some.injEq]at e
   rw[←e]
   exact⟨by rw[U0q];exact(h.1 _ a).2,λx b=>(X0q (h.1 _ a).1 x b).1⟩
  ·cases e
theorem a0r{bs:List (List Int)}(h:BOk bs)(k:Int):(exP bs k).length<=1000/\∀ x∈exP bs k,I0 x:=by
 unfold exP
 cases e:exO bs k with
 |none=>exact⟨by simp,λx a=>by cases a⟩
 |some w=>exact Z0q h e
theorem b02{bs:List (List Int)}(h:BOk bs):∀ l:List Int,(l.flatMap (exP bs)).length<=1000*l.length/\∀ x∈l.flatMap (exP bs),I0 x
 | []=>⟨by simp,λx a=>by cases a⟩
 |k::r=>by
  have b:=a0r h k
  have c:=b02 h r
  rw[List.flatMap_cons]
  refine⟨by rw[List.length_append,List.length_cons];omega,λx a=>?_⟩
  rcases List.mem_append.1 a with a|a
  ·exact b.2 x a
  ·exact c.2 x a
theorem A0h{g:l0}(h:g.2.2.length<=120)(v:Int):(U05 g v).1.2.2.length<=120:=by
 unfold U05
 cases hf:K0 g with
 |false=>simpa using h
 |true =>
  cases hv:inR 0 (g.2.1-1) v with
  |false=>simpa using h
  |true =>
   simp only[Bool.and_self,cond_true]
   exact(s02 (n0o hf (by simp only[inR,Bool.and_eq_true,decide_eq_true_eq]at hv;omega))).1
theorem C0k(g:l0)(w:List Int):(g01 g w).1.2.2.length<=120:=by
 unfold g01
 cases hc:O2 g with
 |false=>simp
 |true =>
  have a:=E2 (c8 hc)
  have b:=(s02 hc).1
  cases U1 g.1 w with
  |false=>simp
  |true =>
   simp only[Bool.and_self,cond_true]
   cases decide ((V1 g 0 w).2<w.length)with
   |false=>simp only[cond_false];exact A0h b _
   |true =>
    simp only[cond_true]
    cases (Q1 g).2 with
    |false=>simp
    |true =>
     simp only[cond_true]
     have c:=R05 (z00 a) (V1 g 0 w).1 (w.drop (V1 g 0 w).2) g.2.1
     cases (C3 (Q1 g).1 (V1 g 0 w).1 (w.drop (V1 g 0 w).2) g.2.1).2 with
     |false=>simp
     |true=>simp only[cond_true];exact A0h c _
theorem Z0p(l:List (List Int))(h:l.length<=1099511627776)(g:∀ w∈l,w.length<=1099511627776):∀(d k fuel:Nat) (acc:List (List Int)),k+d=l.length->d<fuel->acc.length<=k ->
  g8 l fuel (k:Int) acc=some (acc++l.drop k)
 |d,k,0,acc,c,hf,b=>by omega
 |0,k,fuel+1,acc,c,hf,b=>by
  rw[g8.eq_2,if_neg (by simp only[decide_eq_true_eq];omega),J1 (by omega),List.append_nil]
 |d+1,k,fuel+1,acc,c,hf,b=>by
  have f:k<l.length:=by omega
  have a:=L5 f
  have i:=g _ (List.mem_of_getElem? a)
  have e:=N1 a
  generalize l[k]=w at a i e
  rw[g8.eq_2,if_pos (by simp only[decide_eq_true_eq];omega),P2 a,oB,H0 (by simp only[List.length_nil];omega),oB,H0 (by simp only[List.length_singleton];omega),oB,A2 f (by omega),
   Z0p l h g d (k+1) fuel _ (by omega) (by omega) (by simp only[List.length_append,List.length_singleton];omega),e,List.nil_append,List.append_assoc];rfl
theorem j0s(l:List (List Int))(a:l.length<=1099511627776)(b:∀ w∈l,w.length<=1099511627776):w02 l=some l:=by
 have h:=Z0p l a b l.length 0 U0 [] (by omega) (D1 (by omega)) (by simp)
 rw[show((0:Nat):Int)=0 from rfl,List.drop_zero,List.nil_append]at h
 unfold w02
 rw[h];rfl
theorem w0r{a:List Int}(b:a.length<=1099511627776):J7 a=some a:=by
 unfold J7
 rw[H0 (by simp;omega)]
 rfl
theorem D0s(l:List (List Int))(i:l.length<=1099511627776)(g:∀ w∈l,w.length<=1099511627776):∀(d k fuel:Nat) (acc:List (List Int)),k+d=l.length->d<fuel->acc.length<=k ->
  O6 l fuel (k:Int) acc=some (acc++l.drop k)
 |d,k,0,acc,c,hf,b=>by omega
 |0,k,fuel+1,acc,c,hf,b=>by
  rw[O6.eq_2,if_neg (by simp only[decide_eq_true_eq];omega),J1 (by omega),List.append_nil]
 |d+1,k,fuel+1,acc,c,hf,b=>by
  have f:k<l.length:=by omega
  have a:=L5 f
  have h:=g _ (List.mem_of_getElem? a)
  have e:=N1 a
  generalize l[k]=w at a h e
  rw[O6.eq_2,if_pos (by simp only[decide_eq_true_eq];omega),P2 a,oB,w0r h,oB,H0 (by simp only[List.length_singleton];omega),oB,A2 f (by omega),
   D0s l i g d (k+1) fuel _ (by omega) (by omega) (by simp only[List.length_append,List.length_singleton];omega),e,List.append_assoc];rfl
theorem R0s(l:List (List Int))(a:l.length<=1099511627776)(b:∀ w∈l,w.length<=1099511627776):h01 l=some l:=by
 have h:=D0s l a b l.length 0 U0 [] (by omega) (D1 (by omega)) (by simp)
 rw[show((0:Nat):Int)=0 from rfl,List.drop_zero,List.nil_append]at h
 unfold h01
 rw[H0 (by omega),oB]
 exact(congrArg (λo=>Option.bind o λy=>some y) h)
def T03(g:l0)(l:Int):Nat->Nat->List Int
 |0,_=>[]
 |d+1,k=>if S0 g (k:Int) l<0 then(k:Int)::T03 g l d (k+1)else T03 g l d (k+1)
def y0d(g:l0)(l:Int):Nat->Nat->List Int
 |0,_=>[]
 |d+1,k=>if S0 g (k:Int) l<0 then y0d g l d (k+1)else(k:Int)::y0d g l d (k+1)
theorem j09(g:l0)(l:Int):∀ d k,(T03 g l d k).length+(y0d g l d k).length=d
 |0,k=>rfl
 |d+1,k=>by
  have:=j09 g l d (k+1)
  unfold T03 y0d
  split<;>simp only[List.length_cons]<;>omega
theorem w0b{g:l0}{l v:Int}:∀ {d k:Nat},v∈T03 g l d k↔∃ j:Nat,v=(j:Int)/\(k<=j/\j<k+d)/\S0 g v l<0
 |0,k=>⟨(λh=>by cases h),λ⟨j,_,h,_⟩=>by omega⟩
 |d+1,k=>by
  have i:=w0b (g:=g) (l:=l) (v:=v) (d:=d) (k:=k+1)
  unfold T03
  split
  ·rename_i c
   rw[List.mem_cons,i]
   constructor
   ·rintro(rfl|⟨j,a,f,b⟩)
    ·exact⟨k,rfl,by omega,c⟩
    ·exact⟨j,a,by omega,b⟩
   ·rintro⟨j,a,f,b⟩
    by_cases e:j=k
    ·left;rw[a,e]
    ·right;exact⟨j,a,by omega,b⟩
  ·rename_i c
   rw[i]
   constructor
   ·rintro⟨j,a,f,b⟩;exact⟨j,a,by omega,b⟩
   ·rintro⟨j,a,f,b⟩
    refine⟨j,a,?_,b⟩
    by_cases e:j=k
    ·rw[a,e]at b;exact absurd b c
    ·omega
theorem K06{g:l0}{l v:Int}:∀ {d k:Nat},v∈y0d g l d k↔∃ j:Nat,v=(j:Int)/\(k<=j/\j<k+d)/\0<=S0 g v l
 |0,k=>⟨(λh=>by cases h),λ⟨j,_,h,_⟩=>by omega⟩
 |d+1,k=>by
  have i:=K06 (g:=g) (l:=l) (v:=v) (d:=d) (k:=k+1)
  unfold y0d
  split
  ·rename_i c
   rw[i]
   constructor
   ·rintro⟨j,a,f,b⟩;exact⟨j,a,by omega,b⟩
   ·rintro⟨j,a,f,b⟩
    refine⟨j,a,?_,b⟩
    by_cases e:j=k
    ·rw[a,e]at b;omega
    ·omega
  ·rename_i c
   rw[List.mem_cons,i]
   constructor
   ·rintro(rfl|⟨j,a,f,b⟩)
    ·exact⟨k,rfl,by omega,by omega⟩
    ·exact⟨j,a,by omega,b⟩
   ·rintro⟨j,a,f,b⟩
    by_cases e:j=k
    ·left;rw[a,e]
    ·right;exact⟨j,a,by omega,b⟩
theorem q07(g:l0)(l:Int):∀ d k,(T03 g l d k).Nodup
 |0,k=>List.nodup_nil
 |d+1,k=>by
  unfold T03
  split
  ·refine List.nodup_cons.2 ⟨λh=>?_,q07 g l d (k+1)⟩
   obtain⟨j,a,b,c⟩:=w0b.1 h
   omega
  ·exact q07 g l d (k+1)
theorem o0a(g:l0)(l:Int):∀ d k,(y0d g l d k).Nodup
 |0,k=>List.nodup_nil
 |d+1,k=>by
  unfold y0d
  split
  ·exact o0a g l d (k+1)
  ·refine List.nodup_cons.2 ⟨λh=>?_,o0a g l d (k+1)⟩
   obtain⟨j,a,b,c⟩:=K06.1 h
   omega
theorem p0n:∀ {a b:List Int},a.Nodup->(∀ x∈a,x∈b)->a.length<=b.length
 | [],b,_,_=>Nat.zero_le _
 |x::a,b,i,h=>by
  obtain⟨f,g⟩:=List.nodup_cons.1 i
  have c:=h x mS
  have:=p0n (b:=b.erase x) g λy d=>(List.mem_erase_of_ne (λe=>f (by rw[←e];exact d))).2 (h y (mC _ d))
  rw[List.length_erase_of_mem c]at this
  have:=List.length_pos_of_mem c
  rw[List.length_cons]
  omega
theorem a0q{g:l0}(hf:K0 g=true)(l:Int):(y0d g l g.2.1.toNat 0).length<=(y0d g (-l) g.2.1.toNat 0).length:=by
 obtain⟨s,w,x,z⟩:=C1 hf
 have m:((y0d g l g.2.1.toNat 0).map λv=>S0 g v l).Nodup:=by
  rw[List.Nodup,List.pairwise_map]
  refine List.Pairwise.imp_of_mem (λ{a b} k d o e=>?_) (o0a g l g.2.1.toNat 0)
  obtain⟨_,_,_,c⟩:=K06.1 k
  obtain⟨_,_,_,i⟩:=K06.1 d
  have f:=J06 hf rfl c
  have h:=J06 hf rfl i
  rw[e]at f
  exact o (f.symm.trans h)
 have:=p0n (b:=y0d g (-l) g.2.1.toNat 0) m λy q=>by
  obtain⟨v,p,rfl⟩:=List.mem_map.1 q
  obtain⟨j,t,u,c⟩:=K06.1 p
  have d:=J06 hf rfl c
  have n:=M03 s v l
  refine K06.2 ⟨(S0 g v l).toNat,by omega,?_,by rw[d];omega⟩
  rcases n with e|e<;>omega
 rwa [List.length_map]at this
theorem K0i{g:l0}(hf:K0 g=true)(l:Int):(T03 g l g.2.1.toNat 0).length=(T03 g (-l) g.2.1.toNat 0).length:=by
 have b:=a0q hf l
 have a:=a0q hf (-l)
 rw[Int.neg_neg]at a
 have c:=j09 g l g.2.1.toNat 0
 have d:=j09 g (-l) g.2.1.toNat 0
 omega
def o0g(l:Int):List Int->List Int->List O0
 |a::A,b::B=>(a,l,b)::o0g l A B
 |_,_=>[]
theorem x0b(l:Int):∀(A B:List Int),A.length=B.length->(o0g l A B).length=A.length
 | [],[],_=>rfl
 |a::A,b::B,h=>by simp only[o0g,List.length_cons,x0b l A B (by simpa using h)]
 | [],b::B,h=>by simp at h
 |a::A,[],h=>by simp at h
theorem M0f(l:Int):∀(A B:List Int) (i:Nat) (a b:Int),A[i]?=some a->B[i]?=some b->(o0g l A B)[i]?=some (a,l,b)
 |x::A,y::B,0,a,b,c,d=>by simp at c d;simp[o0g,c,d]
 |x::A,y::B,i+1,a,b,c,d=>by simp at c d;simpa [o0g] using M0f l A B i a b c d
 | [],B,i,a,b,c,d=>by simp at c
 |x::A,[],i,a,b,c,d=>by simp at d
theorem D0k(l:Int):∀(A B:List Int) (e:O0),e∈o0g l A B->e.2.1=l/\∃ i:Nat,A[i]?=some e.1/\B[i]?=some e.2.2
 |a::A,b::B,e,h=>by
  rcases List.mem_cons.1 h with rfl|h
  ·exact⟨rfl,0,rfl,rfl⟩
  ·obtain⟨c,i,d,f⟩:=D0k l A B e h
   exact⟨c,i+1,by simpa using d,by simpa using f⟩
 | [],B,e,h=>by cases B<;>cases h
 |a::A,[],e,h=>by cases h
def L0i(g:l0)(l:Int):List O0:=o0g l (T03 g l g.2.1.toNat 0) (T03 g (-l) g.2.1.toNat 0)
def nwA(g:l0):Nat->Nat->List O0
 |0,_=>[]
 |d+1,l=>L0i g (l:Int)++nwA g d (l+1)
theorem q0n{g:l0}{e:O0}:∀ {d l:Nat},e∈nwA g d l↔∃ j:Nat,(l<=j/\j<l+d)/\e∈L0i g (j:Int)
 |0,l=>⟨(λh=>by cases h),λ⟨j,h,_⟩=>by omega⟩
 |d+1,l=>by
  rw[nwA,List.mem_append,q0n (d:=d) (l:=l+1)]
  constructor
  ·rintro(h|⟨j,b,a⟩)
   ·exact⟨l,by omega,h⟩
   ·exact⟨j,by omega,a⟩
  ·rintro⟨j,b,a⟩
   by_cases c:j=l
   ·left;rw[←c];exact a
   ·right;exact⟨j,by omega,a⟩
theorem N0f{g:l0}(hf:K0 g=true)(l:Int):(L0i g l).length<=40:=by
 obtain⟨a,b,c,d⟩:=C1 hf
 have:=j09 g l g.2.1.toNat 0
 unfold L0i
 rw[x0b l _ _ (K0i hf l)]
 omega
theorem r0n{g:l0}(hf:K0 g=true):∀ d l,(nwA g d l).length<=40*d
 |0,l=>Nat.zero_le _
 |d+1,l=>by
  have a:=N0f hf (l:Int)
  have b:=r0n hf d (l+1)
  rw[nwA,List.length_append]
  omega
def V05(g:l0):l0:=(g.1,g.2.1,w4 Q0 g.2.2 (nwA g g.1.toNat 1))
def o03(g:l0):l0×Bool:=bif K0 g&&decide (g.2.1*g.1<=120)then(V05 g,true)else((0,0,[]),false)
theorem O0f{d:Type}(c:d->d->Int):∀(a b l:List d),w4 c l (a++b)=w4 c (w4 c l a) b
 | [],b,l=>rfl
 |x::a,b,l=>O0f c a b (g00 c x l)
theorem x0r(A B:List Int)(l r n:Int)(f:A.length=B.length)(m:A.length<=1000):∀(d i fuel:Nat) (es:List O0),i+d=A.length->d<fuel->es.length+d<=100000 ->
  T4 A B l fuel (i:Int) r n es=some (r,n,w4 Q0 es ((o0g l A B).drop i))
 |d,i,0,es,g,hf,h=>by omega
 |0,i,fuel+1,es,g,hf,h=>by
  rw[T4.eq_2,oB,H0 (by omega),oB,if_neg (by simp only[decide_eq_true_eq];omega),J1 (by rw[x0b l A B f];omega)];rfl
 |d+1,i,fuel+1,es,g,hf,h=>by
  have j:i<A.length:=by omega
  have c:=L5 j
  have e:=L5 (show i<B.length by omega)
  generalize A[i]=a at c
  generalize B[i]=b at e
  have p:=M0f l A B i a b c e
  have k:=D00 [(a,l,b)] es
  have o:w4 Q0 es [(a,l,b)]=g00 Q0 (a,l,b) es:=rfl
  rw[o]at k
  simp only[List.length_cons,List.length_nil]at k
  have q:=x0r A B l r n f m d (i+1) fuel (g00 Q0 (a,l,b) es) (by omega) (by omega) (by omega)
  rw[T4.eq_2,oB,H0 (by omega),oB,if_pos (by simp only[decide_eq_true_eq];omega),P2 c,oB,P2 e,oB,M04 _ _ (by omega),oB,A2 j (by omega),q,N1 p]
  rfl
theorem y0r(A B:List Int)(l r n:Int)(f:A.length=B.length)(k:A.length<=1000):∀(d i fuel:Nat) (es:List O0),i+d=A.length->d<fuel->es.length+d<=100000 ->
  W4 A.length A B l fuel (i:Int) r n es=some (r,n,es++(o0g l A B).drop i)
 |d,i,0,es,g,hf,h=>by omega
 |0,i,fuel+1,es,g,hf,h=>by
  rw[W4.eq_2,if_neg (by simp only[decide_eq_true_eq];omega),J1 (by rw[x0b l A B f];omega)];simp
 |d+1,i,fuel+1,es,g,hf,h=>by
  have j:i<A.length:=by omega
  have c:=L5 j
  have e:=L5 (show i<B.length by omega)
  generalize A[i]=a at c
  generalize B[i]=b at e
  have m:=M0f l A B i a b c e
  have o:=y0r A B l r n f k d (i+1) fuel (es ++ [(a,l,b)]) (by omega) (by omega) (by simp;omega)
  rw[W4.eq_2,if_pos (by simp only[decide_eq_true_eq];omega),P2 c,oB,P2 e,oB,H0 (by simp;omega),oB,A2 j (by omega),o,N1 m]
  simp
theorem z0r{g:l0}(i:K0 g=true){l:Int}(n : -3<=l/\l<=3):∀(d k fuel:Nat) (a b:List Int),k+d=g.2.1.toNat->d<fuel->a.length<=k->b.length<=k ->
  l3 g.2.1 g.1 g.2.2 l fuel (k:Int) a b=some (a++T03 g l d k,b++T03 g (-l) d k)
 |d,k,0,a,b,h,hf,c,e=>by omega
 |0,k,fuel+1,a,b,h,hf,c,e=>by
  rw[l3.eq_2,if_neg (by simp only[decide_eq_true_eq];omega)];simp[T03]
 |d+1,k,fuel+1,a,b,h,hf,c,e=>by
  obtain⟨j,u,m,v⟩:=C1 i
  have s:=l02 g (k:Int) l ⟨⟨by omega,by omega⟩,by omega⟩ (by omega)
  have t:=l02 g (k:Int) (-l) ⟨⟨by omega,by omega⟩,by omega⟩ (by omega)
  have p:=C00 j m.2 (k:Int) l
  have q:=C00 j m.2 (k:Int) (-l)
  have f:=λa b c e=>z0r i n d (k+1) fuel a b (by omega) (by omega) c e
  have o:IntKind.i64.wrap ((k:Int)+1)=((k+1:Nat):Int):=by rw[w64 (by omega) (by omega)];omega
  rw[l3.eq_2,if_pos (by simp only[decide_eq_true_eq];omega)]
  simp only[show(g.1,g.2.1,g.2.2)=g from rfl,show IntKind.i64.wrap (0-l) = -l by rw[w64 (by omega) (by omega)];omega,s,t,oB,H0 p,H0 q,o]
  unfold T03
  by_cases c1:S0 g (k:Int) l<0<;>by_cases c2:S0 g (k:Int) (-l)<0
  ·rw[if_pos (decide_eq_true c1),if_pos c1,if_pos c2,if_pos (decide_eq_true c2),H0 (by simp;omega),oB,H0 (by simp;omega),oB,f _ _ (by simp;omega) (by simp;omega)]
   simp
  ·rw[if_pos (decide_eq_true c1),if_pos c1,if_neg c2,if_neg (by simpa using c2),H0 (by simp;omega),oB,f _ _ (by simp;omega) (by omega)]
   simp
  ·rw[if_neg (by simpa using c1),if_neg c1,if_pos c2,if_pos (decide_eq_true c2),H0 (by simp;omega),oB,f _ _ (by omega) (by simp;omega)]
   simp
  ·rw[if_neg (by simpa using c1),if_neg c1,if_neg c2,if_neg (by simpa using c2),f _ _ (by omega) (by omega)]
theorem A0r{g:l0}(i:K0 g=true){l:Int}(n : -3<=l/\l<=3):∀(d k fuel:Nat) (a b:List Int),k+d=g.2.1.toNat->d<fuel->a.length<=k->b.length<=k ->
  A3 g.2.1 g.1 g.2.2 l fuel (k:Int) a b=some (a++T03 g l d k,b++T03 g (-l) d k)
 |d,k,0,a,b,h,hf,c,e=>by omega
 |0,k,fuel+1,a,b,h,hf,c,e=>by
  rw[A3.eq_2,if_neg (by simp only[decide_eq_true_eq];omega)];simp[T03]
 |d+1,k,fuel+1,a,b,h,hf,c,e=>by
  obtain⟨j,u,m,v⟩:=C1 i
  have s:=m02 g (k:Int) l ⟨⟨by omega,by omega⟩,by omega⟩ (by omega)
  have t:=m02 g (k:Int) (-l) ⟨⟨by omega,by omega⟩,by omega⟩ (by omega)
  have p:=C00 j m.2 (k:Int) l
  have q:=C00 j m.2 (k:Int) (-l)
  have f:=λa b c e=>A0r i n d (k+1) fuel a b (by omega) (by omega) c e
  have o:IntKind.i64.wrap ((k:Int)+1)=((k+1:Nat):Int):=by rw[w64 (by omega) (by omega)];omega
  rw[A3.eq_2,if_pos (by simp only[decide_eq_true_eq];omega)]
  simp only[show(g.1,g.2.1,g.2.2)=g from rfl,show IntKind.i64.wrap (0-l) = -l by rw[w64 (by omega) (by omega)];omega,s,t,oB,H0 p,H0 q,o]
  unfold T03
  by_cases c1:S0 g (k:Int) l<0<;>by_cases c2:S0 g (k:Int) (-l)<0
  ·rw[if_pos (decide_eq_true c1),if_pos c1,if_pos c2,if_pos (decide_eq_true c2),H0 (by simp;omega),oB,H0 (by simp;omega),oB,f _ _ (by simp;omega) (by simp;omega)]
   simp
  ·rw[if_pos (decide_eq_true c1),if_pos c1,if_neg c2,if_neg (by simpa using c2),H0 (by simp;omega),oB,f _ _ (by simp;omega) (by omega)]
   simp
  ·rw[if_neg (by simpa using c1),if_neg c1,if_pos c2,if_pos (decide_eq_true c2),H0 (by simp;omega),oB,f _ _ (by omega) (by simp;omega)]
   simp
  ·rw[if_neg (by simpa using c1),if_neg c1,if_neg c2,if_neg (by simpa using c2),f _ _ (by omega) (by omega)]
theorem B0r{g:l0}(a:K0 g=true)(c b:Int):∀(d l fuel:Nat) (es:List O0),l+d=g.1.toNat+1->1<=l->d<fuel->es.length+40*d<=10000 ->
  U4 g.1 g.2.1 g.2.2 fuel (l:Int) c b es=some (c,b,w4 Q0 es (nwA g d l))
 |d,l,0,es,i,h,hf,j=>by omega
 |0,l,fuel+1,es,i,h,hf,j=>by
  rw[U4.eq_2,if_neg (by simp only[decide_eq_true_eq];omega)];rfl
 |d+1,l,fuel+1,es,i,h,hf,j=>by
  obtain⟨p,q,s,t⟩:=C1 a
  have f:=z0r a (l:=(l:Int)) (by omega) g.2.1.toNat 0 U0 [] [] (by omega) (D1 (by omega)) (by simp) (by simp)
  rw[show((0:Nat):Int)=0 from rfl,List.nil_append,List.nil_append]at f
  have m:=j09 g (l:Int) g.2.1.toNat 0
  have e:=x0r (T03 g (l:Int) g.2.1.toNat 0) (T03 g (-(l:Int)) g.2.1.toNat 0) (l:Int) c b (K0i a _) (by omega) (T03 g (l:Int) g.2.1.toNat 0).length 0 U0 es (by omega) (D1 (by omega)) (by omega)
  rw[show((0:Nat):Int)=0 from rfl,List.drop_zero]at e
  have n:=N0f a (l:Int)
  have o:=D00 (L0i g (l:Int)) es
  have k:=B0r a c b d (l+1) fuel (w4 Q0 es (L0i g (l:Int))) (by omega) (by omega) (by omega) (by omega)
  rw[U4.eq_2,if_pos (by simp only[decide_eq_true_eq];omega),f,oB]
  simp only
  rw[e,oB,A2 (show l<1000 by omega) (by omega),nwA,O0f]
  exact k
theorem C0r{g:l0}(a:K0 g=true)(c b:Int):∀(d l fuel:Nat) (es:List O0),l+d=g.1.toNat+1->1<=l->d<fuel->es.length+40*d<=10000 ->
  Y4 g.1 g.2.1 g.2.2 fuel (l:Int) c b es=some (c,b,es++nwA g d l)
 |d,l,0,es,i,h,hf,j=>by omega
 |0,l,fuel+1,es,i,h,hf,j=>by
  rw[Y4.eq_2,if_neg (by simp only[decide_eq_true_eq];omega)];simp[nwA]
 |d+1,l,fuel+1,es,i,h,hf,j=>by
  obtain⟨o,p,q,s⟩:=C1 a
  have f:=A0r a (l:=(l:Int)) (by omega) g.2.1.toNat 0 U0 [] [] (by omega) (D1 (by omega)) (by simp) (by simp)
  rw[show((0:Nat):Int)=0 from rfl,List.nil_append,List.nil_append]at f
  have m:=j09 g (l:Int) g.2.1.toNat 0
  have e:=y0r (T03 g (l:Int) g.2.1.toNat 0) (T03 g (-(l:Int)) g.2.1.toNat 0) (l:Int) c b (K0i a _) (by omega) (T03 g (l:Int) g.2.1.toNat 0).length 0 U0 es (by omega) (D1 (by omega)) (by omega)
  rw[show((0:Nat):Int)=0 from rfl,List.drop_zero]at e
  have n:=N0f a (l:Int)
  have k:=C0r a c b d (l+1) fuel (es++L0i g (l:Int)) (by omega) (by omega) (by omega) (by rw[List.length_append];omega)
  rw[Y4.eq_2,if_pos (by simp only[decide_eq_true_eq];omega),f,oB]
  simp only
  rw[oB,H0 (by omega),oB,e,oB,A2 (show l<1000 by omega) (by omega),nwA,←List.append_assoc]
  exact k
theorem b0q{n r:Int}(a:1<=n/\n<=40)(b:1<=r/\r<=3):IntKind.i64.wrap (n*r)=n*r:=by
 have:r=1∨r=2∨r=3:=by omega
 rcases this with rfl|rfl|rfl<;>exact w64 (by omega) (by omega)
theorem U0l(g:l0)(k:g.2.2.length<=1099511627776):i8 g=some (o03 g):=by
 have d:=H6 g (by omega)
 have j:=J9 g (by omega)
 unfold o03
 cases hf:K0 g with
 |false =>
  rw[hf]at d
  obtain⟨a,b,c⟩:=g
  unfold i8
  simp only[d,oB,Bool.not_false,cond_true,if_true,Bool.false_and,cond_false]
 |true =>
  rw[hf]at d
  obtain⟨l,h,i,m⟩:=C1 hf
  have e:=B0r hf g.1 g.2.1 g.1.toNat 1 U0 g.2.2 (by omega) (by omega) (D1 (by omega)) (by omega)
  rw[show((1:Nat):Int)=1 from rfl]at e
  have f:=b0q i h
  unfold V05
  obtain⟨a,b,c⟩:=g
  simp only at f e h i ⊢
  unfold i8
  simp only[d,oB,Bool.not_true,cond_false,f,Bool.true_and]
  by_cases c1:b*a<=120
  ·rw[if_neg (by simp only[decide_eq_true_eq];omega),decide_eq_true c1,j]
   simp only[oB,e,cond_true]
  ·rw[if_pos (by simp only[decide_eq_true_eq];omega),decide_eq_false c1];rfl
theorem V0l(g:l0)(l:g.2.2.length<=1099511627776):l8 g=some (o03 g):=by
 have d:=A8 g (by omega)
 have k:=l00 g (by omega)
 unfold o03
 cases hf:K0 g with
 |false =>
  rw[hf]at d
  obtain⟨a,b,c⟩:=g
  unfold l8
  simp only[d,oB,Bool.not_false,cond_true,if_true,Bool.false_and,cond_false]
 |true =>
  rw[hf]at d
  obtain⟨n,i,j,o⟩:=C1 hf
  have e:=C0r hf g.1 g.2.1 g.1.toNat 1 U0 g.2.2 (by omega) (by omega) (D1 (by omega)) (by omega)
  rw[show((1:Nat):Int)=1 from rfl]at e
  have h:=b0q j i
  have m:=r0n hf g.1.toNat 1
  have f:=o08 (g.2.2++nwA g g.1.toNat 1) (by rw[List.length_append];omega)
  rw[y0f (S04 (E2 hf))]at f
  unfold V05
  obtain⟨a,b,c⟩:=g
  simp only at h e i j f ⊢
  unfold l8
  simp only[d,oB,Bool.not_true,cond_false,h,Bool.true_and]
  by_cases c1:b*a<=120
  ·rw[if_neg (by simp only[decide_eq_true_eq];omega),decide_eq_true c1,k]
   simp only[oB,e,f,cond_true]
  ·rw[if_pos (by simp only[decide_eq_true_eq];omega),decide_eq_false c1];rfl
theorem P0f{g:l0}{e:O0}:e∈(V05 g).2.2↔e∈g.2.2∨∃ j:Nat,(1<=j/\j<1+g.1.toNat)/\e∈L0i g (j:Int):=by
 unfold V05
 simp only
 rw[S8 p6,q0n]
theorem L06{g:l0}{j:Nat}{e:O0}(h:e∈L0i g (j:Int)):e.2.1=(j:Int)/\(∃ i:Nat,(T03 g (j:Int) g.2.1.toNat 0)[i]?=some e.1/\(T03 g (-(j:Int)) g.2.1.toNat 0)[i]?=some e.2.2) /\
  ((0<=e.1/\e.1.toNat<g.2.1.toNat)/\S0 g e.1 (j:Int)<0)/\((0<=e.2.2/\e.2.2.toNat<g.2.1.toNat)/\S0 g e.2.2 (-(j:Int))<0):=by
 obtain⟨l,i,c,d⟩:=D0k _ _ _ _ h
 obtain⟨a,m,n,f⟩:=w0b.1 (List.mem_of_getElem? c)
 obtain⟨b,o,p,k⟩:=w0b.1 (List.mem_of_getElem? d)
 exact⟨l,⟨i,c,d⟩,⟨by omega,f⟩,⟨by omega,k⟩⟩
theorem E0k{l:List Int}(h:l.Nodup){i j:Nat}{x:Int}(f:l[i]?=some x)(g:l[j]?=some x):i=j:=by
 obtain⟨d,a⟩:=List.getElem?_eq_some_iff.1 f
 obtain⟨e,b⟩:=List.getElem?_eq_some_iff.1 g
 rcases Nat.lt_trichotomy i j with c|c|c
 ·exact absurd (a.trans b.symm) (List.pairwise_iff_getElem.1 h i j d e c)
 ·exact c
 ·exact absurd (b.trans a.symm) (List.pairwise_iff_getElem.1 h j i e d c)
theorem y0b{a b:O0}(c:a.1=b.1)(d:a.2.1=b.2.1)(e:a.2.2=b.2.2):a=b:=by
 obtain⟨f,g,h⟩:=a
 obtain⟨i,j,k⟩:=b
 simp only at c d e
 rw[c,d,e]
theorem s0n{g:l0}(hf:K0 g=true){a b:O0}(d:a∈(V05 g).2.2)(e:b∈(V05 g).2.2)(f:a.2.1=b.2.1)(l:a.1=b.1∨a.2.2=b.2.2):a=b:=by
 obtain⟨p,z,A,B⟩:=C1 hf
 rcases P0f.1 d with d|⟨i,u,d⟩<;>rcases P0f.1 e with e|⟨j,v,e⟩
 ·have c:=h09 hf d
  have o:=h09 hf e
  rw[f]at c
  rcases l with h|h
  ·rw[h]at c
   exact y0b h f (c.1.symm.trans o.1)
  ·rw[h]at c
   exact y0b (c.2.symm.trans o.2) f h
 ·have c:=h09 hf d
  have t:=p a d
  obtain⟨k,_,f3,q⟩:=L06 e
  rw[f,k]at c
  rcases l with h|h
  ·rw[h]at c;omega
  ·rw[h]at c;omega
 ·have c:=h09 hf e
  have t:=p b e
  obtain⟨k,_,f3,q⟩:=L06 d
  rw[←f,k]at c
  rcases l with h|h
  ·rw[←h]at c;omega
  ·rw[←h]at c;omega
 ·obtain⟨k,⟨x,f2,f3⟩,_,_⟩:=L06 d
  obtain⟨w,⟨y,m,n⟩,_,_⟩:=L06 e
  have s:i=j:=by omega
  subst s
  rcases l with h|h
  ·rw[h]at f2
   have:=E0k (q07 _ _ _ _) f2 m
   subst this
   rw[f3]at n
   exact y0b h f (oJ n)
  ·rw[h]at f3
   have:=E0k (q07 _ _ _ _) f3 n
   subst this
   rw[f2]at m
   exact y0b (oJ m) f h
theorem t0n{g:l0}(hf:K0 g=true):inG (V05 g):=λe a=>by
 obtain⟨b,h,j,k⟩:=C1 hf
 rcases P0f.1 a with a|⟨i,f,a⟩
 ·exact b e a
 ·obtain⟨c,_,f3,d⟩:=L06 a
  show(0<=e.1/\e.1<g.2.1)/\(0<=e.2.2/\e.2.2<g.2.1)/\1<=e.2.1/\e.2.1<=g.1
  omega
theorem F0k{g:l0}(hf:K0 g=true):Asc Q0 (V05 g).2.2:=j02 p6 _ _ (S04 (E2 hf))
theorem c0q{g:l0}(hf:K0 g=true)(m:g.2.1*g.1<=120):(V05 g).2.2.length<=120:=by
 obtain⟨q,s,t,u⟩:=C1 hf
 have f:=t0n hf
 have n:=w0c (F0k hf)
 have l:((V05 g).2.2.map λe=>e.1*g.1+(e.2.1-1)).Nodup:=by
  rw[List.Nodup,List.pairwise_map]
  refine List.Pairwise.imp_of_mem (λ{a b} h i o e=>?_) n
  have d:(0<=a.1/\a.1<g.2.1)/\(0<=a.2.2/\a.2.2<g.2.1)/\1<=a.2.1/\a.2.1<=g.1:=f a h
  have j:(0<=b.1/\b.1<g.2.1)/\(0<=b.2.2/\b.2.2<g.2.1)/\1<=b.2.1/\b.2.1<=g.1:=f b i
  have c:g.1=1∨g.1=2∨g.1=3:=by omega
  have:a.1=b.1/\a.2.1=b.2.1:=by
   rcases c with c|c|c<;>rw[c]at e d j<;>omega
  exact o (s0n hf h i this.2 (.inl this.1))
 have:=u00 120 _ l λx p=>by
  obtain⟨e,k,rfl⟩:=List.mem_map.1 p
  have d:(0<=e.1/\e.1<g.2.1)/\(0<=e.2.2/\e.2.2<g.2.1)/\1<=e.2.1/\e.2.1<=g.1:=f e k
  have c:g.1=1∨g.1=2∨g.1=3:=by omega
  rcases c with c|c|c<;>rw[c]at m d ⊢<;>omega
 rwa [List.length_map]at this
theorem G0k{g:l0}(hf:K0 g=true)(h:g.2.1*g.1<=120):K0 (V05 g)=true:=by
 obtain⟨l,j,k,m⟩:=C1 hf
 have f:T0 (V05 g)=true:=(Z00 _).2 ⟨t0n hf,j,k,c0q hf h,F0k hf⟩
 refine(e09 f).2 λa d b e i=>?_
 unfold L04
 cases c:(decide (a.2.1=b.2.1)&&(decide (a.1=b.1) || decide (a.2.2=b.2.2)))with
 |false=>rfl
 |true =>
  simp only[Bool.and_eq_true,Bool.or_eq_true,decide_eq_true_eq]at c
  exact absurd (s0n hf d e c.1 c.2) i
def V01(g:l0)(w:List Int):l0×Bool :=
 bif decide ((V1 g 0 w).2<w.length)then
  (bif(Q1 g).2 then C3 (Q1 g).1 (V1 g 0 w).1 (w.drop (V1 g 0 w).2) g.2.1 else((0,0,[]),false))
 else(g,true)
theorem W0l{g:l0}(hf:K0 g=true){w:List Int}(t:U1 g.1 w=true):x02 g w=some (V01 g w):=by
 unfold V01
 have s:=E2 hf
 obtain⟨B,I,G,J⟩:=C1 hf
 obtain⟨K,H⟩:=g03 t
 have A:∀ x∈w,E5 x:=λx f=>(H x f).1
 have z:(0:Int)<=0/\(0:Int)<g.2.1:=⟨iR _,by omega⟩
 have l:=z0h hf z A (by omega)
 have e:=Z02 g w 0
 have d:=x0l g hf 0 z (w.take (V1 g 0 w).2) (λx f=>A x (List.mem_of_mem_take f)) (by rw[List.length_take];omega)
 rw[n0a,List.length_take,show min (V1 g 0 w).2 w.length=(V1 g 0 w).2 by omega,decide_eq_false (Nat.lt_irrefl _)]at d
 have m:=z04 B G.2 w 0 ⟨by omega,by omega⟩
 have C:=J9 g (by omega)
 have o:=l0b (xs:=w) (k:=(V1 g 0 w).2) e
 have p:=v01 (xs:=w) (k:=(V1 g 0 w).2) e
 have D:=w07 s
 have F:=B08 B w 0 z
 have E:=z00 s
 have i:(Q1 g).2=true->_:=λh=>i06 (g:=(Q1 g).1) (u:=(V1 g 0 w).1) (v:=g.2.1) (w:=w.drop (V1 g 0 w).2) E (by rw[(h03 h).1];simp only;omega) (by rw[(h03 h).1];simp only;omega) (by rw[(h03 h).1];exact i09 t _)
 generalize V1 g 0 w=R at *
 obtain⟨v,n⟩:=R
 obtain⟨a,b,c⟩:=g
 simp only at l d m o p e F i ⊢
 unfold x02
 simp only[l,oB]
 rw[H0 (show I0 ((n:Nat):Int) from⟨by omega,by omega⟩),oB]
 by_cases c1:n<w.length
 ·rw[if_neg (by simp only[decide_eq_true_eq];omega),decide_eq_true c1,o,oB,d]
  simp only[cond_false,oB]
  rw[H0 m,oB,D]
  simp only[oB,cond_true]
  cases hok:(Q1 (a,b,c)).2 with
  |false =>
   generalize Q1 (a,b,c)=q at *
   obtain⟨⟨x,y,z⟩,ok⟩:=q
   simp only at hok
   subst hok
   rfl
  |true =>
   have j:=i hok
   generalize Q1 (a,b,c)=q at *
   obtain⟨⟨x,y,z⟩,ok⟩:=q
   simp only at hok j
   subst hok
   simp only[Bool.not_true,Bool.false_eq_true,if_false,p,oB,j,cond_true]
 ·rw[if_pos (by simp only[decide_eq_true_eq];omega),decide_eq_false c1,C];rfl
theorem X0l{g:l0}(hf:K0 g=true){w:List Int}(s:U1 g.1 w=true):
  ∃ v:Int,I0 v/\R00 g w=some (bif(V01 g w).2 then((V01 g w).1,v,true)else((0,0,[]),0,false)):=by
 unfold V01
 have o:=E2 hf
 obtain⟨e,t,f,H⟩:=C1 hf
 obtain⟨I,G⟩:=g03 s
 have D:∀ x∈w,E5 x:=λx E=>(G x E).1
 have z:(0:Int)<=0/\(0:Int)<g.2.1:=⟨iR _,by omega⟩
 have l:=p0i g e f.2 (by omega) 0 w D (by omega)
 have p:=Z02 g w 0
 have d:=z04 e f.2 w 0 ⟨by omega,by omega⟩
 have m:=v01 (xs:=w) (k:=(V1 g 0 w).2) p
 have A:=x07 o
 have C:=B08 e w 0 z
 have B:=z00 o
 have i:(Q1 g).2=true->_:=λh=>j06 (g:=(Q1 g).1) (u:=(V1 g 0 w).1) (v:=g.2.1) (w:=w.drop (V1 g 0 w).2) B (by rw[(h03 h).1];simp only;omega) (by rw[(h03 h).1];simp only;omega) (by rw[(h03 h).1];exact i09 s _)
 generalize V1 g 0 w=R at *
 obtain⟨v,n⟩:=R
 obtain⟨a,b,c⟩:=g
 simp only at l d m p C i f ⊢
 unfold R00
 simp only[l,oB]
 rw[H0 d,oB,H0 (show I0 ((n:Nat):Int) from⟨by omega,by omega⟩),oB]
 by_cases c1:n<w.length
 ·refine⟨b,⟨by omega,by omega⟩,?_⟩
  rw[if_neg (by simp only[decide_eq_true_eq];omega),decide_eq_true c1,A]
  simp only[oB,cond_true]
  cases hok:(Q1 (a,b,c)).2 with
  |false =>
   generalize Q1 (a,b,c)=q at *
   obtain⟨⟨x,y,z⟩,ok⟩:=q
   simp only at hok
   subst hok
   rfl
  |true =>
   have j:=i hok
   generalize Q1 (a,b,c)=q at *
   obtain⟨⟨x,y,z⟩,ok⟩:=q
   simp only at hok j
   subst hok
   simp only[Bool.not_true,Bool.false_eq_true,if_false,m,oB,j,cond_true]
   generalize C3 (x,y,z) v (w.drop n) b=t at *
   obtain⟨⟨J,K,L⟩,F⟩:=t
   cases F with
   |false=>rfl
   |true=>rfl
 ·refine⟨v,d,?_⟩
  rw[if_pos (by simp only[decide_eq_true_eq];omega),decide_eq_false c1];rfl
def B07(g:l0)(w:List Int):l0×Bool :=
 bif O2 g&&(U1 g.1 w && !f02 g w)then
  (bif(V01 g w).2 then(bif(o03 (V01 g w).1).2 then(p04 (o03 (V01 g w).1).1,true)else((0,0,[]),false))else((0,0,[]),false))
 else((0,0,[]),false)
theorem H0k{g:l0}(hf:K0 g=true)(w:List Int):(V01 g w).1.2.2.length<=120:=by
 have a:=E2 hf
 obtain⟨c,d,e,b⟩:=C1 hf
 have h:=R05 (z00 a) (V1 g 0 w).1 (w.drop (V1 g 0 w).2) g.2.1
 unfold V01
 cases decide ((V1 g 0 w).2<w.length)with
 |false=>exact b
 |true =>
  cases (Q1 g).2 with
  |false=>exact Nat.zero_le _
  |true=>exact h
theorem M0i{g:l0}(h:(o03 g).2=true):T0 (o03 g).1=true/\K0 g=true/\g.2.1*g.1<=120/\o03 g=(V05 g,true):=by
 unfold o03 at h ⊢
 cases c:(K0 g&&decide (g.2.1*g.1<=120))with
 |false=>rw[c]at h;cases h
 |true =>
  rw[Bool.and_eq_true,decide_eq_true_eq]at c
  exact⟨E2 (G0k c.1 c.2),c.1,c.2,rfl⟩
theorem s0o(g:l0)(o:g.2.2.length<=1099511627776)(w:List Int)(m:w.length<=140737488355328):g7 g w=some (B07 g w):=by
 have h0:=J9 g (by omega)
 have e:=T05 g (by omega)
 have d:=F02 g.1 w m
 unfold B07
 cases hc:O2 g with
 |false =>
  rw[hc]at e
  obtain⟨a,b,c⟩:=g
  unfold g7 j8
  simp only[h0,e,oB,Bool.not_false,cond_true,if_true,Bool.false_and,cond_false]
 |true =>
  rw[hc]at e
  have hf:=c8 hc
  cases hwd:U1 g.1 w with
  |false =>
   rw[hwd]at d
   obtain⟨a,b,c⟩:=g
   simp only at d
   unfold g7 j8
   simp only[h0,e,oB,Bool.not_true,Bool.not_false,List.length_singleton,cond_false]
   rw[if_neg (by simp),show U0=9223372036854775807+1 from rfl,V4.eq_2,if_pos (by simp),show gi [w] 0=some w from rfl]
   simp only[oB,d,Bool.not_false,Bool.not_true,Y2,cond_true,if_true,j4,Bool.false_and,Bool.and_false,cond_false]
  |true =>
   rw[hwd]at d
   have k:=y08 (r:=g.1) hc hwd
   have l:=W0l hf hwd
   have f:=U0l (V01 g w).1 (by have:=H0k hf w;omega)
   have i:(o03 (V01 g w).1).2=true->_:=λh=>z08 (M0i h).1
   obtain⟨a,b,c⟩:=g
   simp only at d
   unfold g7 j8
   simp only[h0,e,oB,Bool.not_true,Bool.not_false,List.length_singleton,cond_false]
   rw[if_neg (by simp),show U0=9223372036854775806+1+1 from rfl,V4.eq_2,if_pos (by simp),show gi [w] 0=some w from rfl]
   simp only[oB,d,Bool.not_false,Bool.not_true,O1,cond_false,k,Bool.true_and]
   cases f02 (a,b,c) w with
   |true=>rfl
   |false =>
    simp only[Bool.false_eq_true,if_false,l,oB,Bool.not_false,cond_true]
    generalize V01 (a,b,c) w=q at *
    obtain⟨⟨x,y,z⟩,ok⟩:=q
    cases ok with
    |false=>rfl
    |true =>
     simp only[Bool.not_true,Bool.false_eq_true,if_false,cond_true]
     rw[V4.eq_2,if_neg (by rw[show IntKind.i64.wrap (0+1)=1 by decide];simp)]
     simp only[oB,V0]at f i ⊢
     rw[f]
     generalize o03 (x,y,z)=q2 at *
     obtain⟨⟨p,s,t⟩,n⟩:=q2
     cases n with
     |false=>rfl
     |true =>
      have j:=i rfl
      simp only[oB,Bool.not_true,Bool.false_eq_true,if_false,cond_true]at j ⊢
      rw[j];rfl
theorem t0o(g:l0)(p:g.2.2.length<=1099511627776)(w:List Int)(n:w.length<=140737488355328):i7 g w=some (B07 g w):=by
 have e:=H02 g (by omega)
 have d:=G02 g.1 w n
 unfold B07
 cases hc:O2 g with
 |false =>
  rw[hc]at e
  obtain⟨a,b,c⟩:=g
  unfold i7 n8
  simp only[e,oB,Bool.not_false,cond_true,if_true,Bool.false_and,cond_false]
 |true =>
  rw[hc]at e
  have hf:=c8 hc
  cases hwd:U1 g.1 w with
  |false =>
   rw[hwd]at d
   obtain⟨a,b,c⟩:=g
   simp only at d
   unfold i7 n8
   simp only[e,oB,Bool.not_true,Bool.not_false,List.length_singleton,cond_false]
   rw[if_neg (by simp),show U0=9223372036854775807+1 from rfl,Z4.eq_2,if_pos (by simp),show gi [w] 0=some w from rfl]
   simp only[oB,d,Bool.not_false,Bool.not_true,Y2,cond_true,if_true,j4,Bool.false_and,Bool.and_false,cond_false]
  |true =>
   rw[hwd]at d
   have k:=u0k (r:=g.1) hc hwd
   obtain⟨v,m,l⟩:=X0l hf hwd
   have f:=V0l (V01 g w).1 (by have:=H0k hf w;omega)
   have i:(o03 (V01 g w).1).2=true->_:=λh=>A08 (M0i h).1
   obtain⟨a,b,c⟩:=g
   simp only at d
   unfold i7 n8
   simp only[e,oB,Bool.not_true,Bool.not_false,List.length_singleton,cond_false]
   rw[if_neg (by simp),show U0=9223372036854775806+1+1 from rfl,Z4.eq_2,if_pos (by simp),show gi [w] 0=some w from rfl]
   simp only[oB,d,Bool.not_false,Bool.not_true,O1,cond_false,k,Bool.true_and]
   cases f02 (a,b,c) w with
   |true=>rfl
   |false =>
    simp only[Bool.false_eq_true,if_false,Bool.not_false,cond_true]
    rw[Z4.eq_2,if_neg (by rw[show IntKind.i64.wrap (0+1)=1 by decide];simp)]
    simp only[oB,V0]
    rw[P5.eq_2,if_pos (by simp),show gi [w] 0=some w from rfl]
    simp only[oB,l]
    generalize V01 (a,b,c) w=q at *
    obtain⟨⟨x,y,z⟩,ok⟩:=q
    cases ok with
    |false =>
     simp only[cond_false]
     rw[H0 (show I0 0 from⟨by omega,by omega⟩)];rfl
    |true =>
     simp only[cond_true]
     rw[H0 m]
     simp only[oB,Bool.not_true,Bool.false_eq_true,if_false]
     rw[P5.eq_2,if_neg (by rw[show IntKind.i64.wrap (0+1)=1 by decide];simp)]
     simp only[oB,V0]at f i ⊢
     rw[f]
     generalize o03 (x,y,z)=q2 at *
     obtain⟨⟨s,t,u⟩,o⟩:=q2
     cases o with
     |false=>rfl
     |true =>
      have j:=i rfl
      simp only[oB,Bool.not_true,Bool.false_eq_true,if_false,cond_true]at j ⊢
      rw[j];rfl
end Go.Proofs.YtkjhghloldgioaaGreat
