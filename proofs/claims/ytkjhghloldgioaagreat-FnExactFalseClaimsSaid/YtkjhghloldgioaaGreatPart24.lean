/- Texts of the claim, joined: Plain laws: vertices and edges added; the steps that are mis and others. -/
import Derived.Test.YtkjhghloldgioaaGreatPart23
import Derived.Test.YtkjhghloldgioaaGreatPart17
import Derived.Test.YtkjhghloldgioaaGreatH36
import Derived.Test.YtkjhghloldgioaaGreatPart18
namespace Go.Proofs.YtkjhghloldgioaaGreat
open Go.H
set_option linter.unusedVariables false
set_option linter.unusedSimpArgs false
def Z2(g:j0):j0×Bool:=bif decide (g.2.1<40)then((g.1,g.2.1+1,g.2.2),true)else(g,false)
theorem i0e{g:j0}(a:S0 g=true):M01 g=some (Z2 g):=by
 obtain⟨f,h,e,i⟩:=M2 a
 have b:=O8 g (by omega)
 have d:=M02 g (by omega)
 obtain⟨r,n,es⟩:=g
 simp only at e
 unfold M01 Z2
 simp only[b,d,a,oB,Bool.not_true,cond_false]
 by_cases c:n<40
 ·rw[if_neg (by simp;omega),w64 (by omega) (by omega)];simp[c]
 ·rw[if_pos (by simp;omega)];simp[c]
theorem j0e{g:j0}(a:S0 g=true):O01 g=some (Z2 g):=by
 obtain⟨f,h,e,i⟩:=M2 a
 have b:=D01 g (by omega)
 have d:=Z01 g (by omega)
 obtain⟨r,n,es⟩:=g
 simp only at e
 unfold O01 Z2
 simp only[b,d,a,oB,Bool.not_true,cond_false]
 by_cases c:n<40
 ·rw[if_neg (by simp;omega),w64 (by omega) (by omega)];simp[c]
 ·rw[if_pos (by simp;omega)];simp[c]
theorem l05{g:j0}(a:S0 g=true):S0 (Z2 g).1=true:=by
 unfold Z2
 by_cases c:g.2.1<40
 ·simp only[c,decide_true,cond_true]
  obtain⟨d,f,j,h,i⟩:=(u02 g).1 a
  refine(u02 _).2 ⟨λe b=>?_,f,?_,h,i⟩
  ·have:=d e b
   simp only
   omega
  ·simp only;omega
 ·simp only[c,decide_false,cond_false];exact a
theorem Q0n(es:List K0)(e:K0)(o:es.length<=140737488355328):∀(d k fuel:Nat),k+d=es.length->d<fuel ->
  ∃ X,V1 es e.1 e.2.1 e.2.2 fuel (k:Int)=some X/\((∃ i:Nat,X = .inl (i:Int)/\i<es.length/\e∈es.drop k)∨(X = .inr ()/\e ∉ es.drop k))
 |d,k,0,l,hf=>by omega
 |0,k,fuel+1,l,hf=>by
  rw[V1.eq_2,if_neg (by simp;omega),J1 (by omega)]
  exact⟨_,rfl,.inr ⟨rfl,by simp⟩⟩
 |d+1,k,fuel+1,l,hf=>by
  have a:k<es.length:=by omega
  have f:=O5 a
  generalize es[k]=b at f
  rw[V1.eq_2,if_pos (by simp;omega),J2 f,oB,M1 f]
  simp only[]
  by_cases c:eqE e b=true
  ·rw[if_pos c]
   refine⟨_,rfl,.inl ⟨k,rfl,a,?_⟩⟩
   rw[(I0e _ _).1 c]
   exact mS
  ·rw[if_neg c,Y1 a (by omega)]
   obtain⟨X,m,n⟩:=Q0n es e o d (k+1) fuel (by omega) (by omega)
   refine⟨X,m,?_⟩
   have p:e≠b:=λh=>c ((I0e _ _).2 h)
   rcases n with⟨i,g,j,q⟩|⟨g,j⟩
   ·exact .inl ⟨i,g,j,mC _ q⟩
   ·refine .inr ⟨g,λh=>?_⟩
    rcases List.mem_cons.1 h with h|h
    ·exact p h
    ·exact j h
theorem x0m(es:List K0)(e:K0)(b:es.length<=140737488355328):D3 es e=some (decide (e∈es)):=by
 obtain⟨X,d,a⟩:=Q0n es e b es.length 0 Q0 (by omega) (C1 b)
 obtain⟨g,h,j⟩:=e
 unfold D3 n5
 simp only
 simp only[List.drop_zero]at a
 rw[show(0:Int)=((0:Nat):Int) from rfl,d]
 rcases a with⟨i,rfl,c,f⟩|⟨rfl,c⟩
 ·simp only[oB,E4]
  rw[D0 (show J0 ((i:Nat):Int) from⟨by omega,by omega⟩)]
  simp[f]
 ·simp only[oB,T0]
  rw[D0 (show J0 (-1) from⟨by omega,by omega⟩)]
  simp[c]
def j08(g:j0)(v:Int):List Int->List K0
 | []=>[]
 |x::r=>(bif decide (Y0 g v x<0)then [(v,x,-1)]else [])++j08 g v r
def q0a(g:j0):Nat->Nat->List K0
 |0,_=>[]
 |d+1,v=>j08 g (v:Int) (r6 g.1.toNat 1)++q0a g d (v+1)
theorem P09(g:j0)(v:Int):∀ l,(j08 g v l).length<=l.length
 | []=>Nat.le_refl _
 |x::r=>by
  have:=P09 g v r
  simp only[j08,List.length_append,List.length_cons]
  cases decide (Y0 g v x<0)<;>simp<;>omega
theorem a0l(g:j0)(j:S0 g=true)(v:Int)(a:List Int)(l:∀ x∈a,S4 x)(o:a.length<=1000):∀(d k fuel:Nat) (acc:List K0),k+d=a.length->d<fuel->acc.length+d<=100000 ->
  P3 a g.1 g.2.1 g.2.2 v fuel (k:Int) acc=some (acc++j08 g v (a.drop k))
 |d,k,0,acc,i,hf,f=>by omega
 |0,k,fuel+1,acc,i,hf,f=>by
  rw[P3.eq_2,if_neg (by simp;omega),J1 (by omega)]
  simp[j08]
 |d+1,k,fuel+1,acc,i,hf,f=>by
  obtain⟨p,s,q,t⟩:=M2 j
  have c:k<a.length:=by omega
  have e:=O5 c
  have m:=l _ (List.getElem_mem c)
  generalize a[k]=x at e m
  have n:∀ b:List K0,b.length+d<=100000->P3 a g.1 g.2.1 g.2.2 v fuel ((k+1:Nat):Int) b=some (b++j08 g v (a.drop (k+1))):=λb h=>a0l g j v a l o d (k+1) fuel b (by omega) (by omega) h
  rw[P3.eq_2,if_pos (by simp;omega),J2 e,oB,show(g.1,g.2.1,g.2.2)=g from rfl,G04 g v x m (by omega),oB,D0 (C03 p q.2 v x),oB,Y1 c (by omega),M1 e,j08]
  cases decide (Y0 g v x<0)with
  |true =>
   rw[if_pos rfl,oB,D0 (by simp;omega),oB,n _ (by simp;omega)]
   simp
  |false =>
   rw[if_neg (by simp),n _ (by omega)]
   simp
theorem b0l(g:j0)(j:S0 g=true)(v:Int)(a:List Int)(l:∀ x∈a,S4 x)(o:a.length<=1000):∀(d k fuel:Nat) (acc:List K0),k+d=a.length->d<fuel->acc.length+d<=100000 ->
  Q3 a g.1 g.2.1 g.2.2 v fuel (k:Int) acc=some (acc++j08 g v (a.drop k))
 |d,k,0,acc,i,hf,f=>by omega
 |0,k,fuel+1,acc,i,hf,f=>by
  rw[Q3.eq_2,if_neg (by simp;omega),J1 (by omega)]
  simp[j08]
 |d+1,k,fuel+1,acc,i,hf,f=>by
  obtain⟨p,s,q,t⟩:=M2 j
  have c:k<a.length:=by omega
  have e:=O5 c
  have m:=l _ (List.getElem_mem c)
  generalize a[k]=x at e m
  have n:∀ b:List K0,b.length+d<=100000->Q3 a g.1 g.2.1 g.2.2 v fuel ((k+1:Nat):Int) b=some (b++j08 g v (a.drop (k+1))):=λb h=>b0l g j v a l o d (k+1) fuel b (by omega) (by omega) h
  rw[Q3.eq_2,if_pos (by simp;omega),J2 e,oB,show(g.1,g.2.1,g.2.2)=g from rfl,Y05 g v x m (by omega),oB,D0 (C03 p q.2 v x),oB,Y1 c (by omega),M1 e,j08]
  cases decide (Y0 g v x<0)with
  |true =>
   rw[if_pos rfl,D0 (by simp;omega),oB,n _ (by simp;omega)]
   simp
  |false =>
   rw[if_neg (by simp),n _ (by omega)]
   simp
theorem b0c:∀(d i:Nat) (x:Int),x∈r6 d i->∃ j:Nat,i<=j/\j<i+d/\(x=(j:Int)∨x = -(j:Int))
 |0,i,x,h=>by simp[r6]at h
 |d+1,i,x,h=>by
  simp only[r6,List.mem_cons]at h
  rcases h with rfl|rfl|h
  ·exact⟨i,Nat.le_refl _,by omega,.inl rfl⟩
  ·exact⟨i,Nat.le_refl _,by omega,.inr rfl⟩
  ·obtain⟨j,b,c,a⟩:=b0c d (i+1) x h
   exact⟨j,by omega,by omega,a⟩
theorem c0l(g:j0)(a:O0 g=true):∀(d k fuel:Nat) (acc:List K0),k+d=g.2.1.toNat->d<fuel->acc.length+100*d<=10000 ->
  s5 g.2.1 g.1 g.2.2 fuel (k:Int) acc=some (acc++q0a g d k)
 |d,k,0,acc,c,hf,b=>by omega
 |0,k,fuel+1,acc,c,hf,b=>by
  obtain⟨l,m,n,o⟩:=I1 a
  rw[s5.eq_2,show decide (((k:Nat):Int)<g.2.1)=false by simp;omega]
  simp[chk,q0a]
 |d+1,k,fuel+1,acc,c,hf,b=>by
  obtain⟨l,m,n,o⟩:=I1 a
  have f:=((c06 g).1 a).1
  obtain⟨R,e⟩:∃ R:Nat,g.1=(R:Int):=⟨g.1.toNat,by omega⟩
  have h:∀ x∈r6 g.1.toNat 1,S4 x:=λx i=>by
   obtain⟨j,p,q,s⟩:=b0c _ _ _ i
   refine⟨⟨by omega,by omega⟩,by omega⟩
  have t:=J01 g.1.toNat 1
  have u:=P09 g (k:Int) (r6 g.1.toNat 1)
  have h0:=a0l g f (k:Int) (r6 g.1.toNat 1) h (by omega) (r6 g.1.toNat 1).length 0 Q0 acc (by omega) (C1 (by omega)) (by omega)
  rw[s5.eq_2,show decide (((k:Nat):Int)<g.2.1)=true by simp;omega,H1,show(g.1,g.2.1,g.2.2)=g from rfl,A6 g (by omega),oB,a]
  rw[if_pos (show(bif true then true else false)=true from rfl),show o7 g.1=some (r6 g.1.toNat 1) by rw[e,l0j R (by omega)];rfl,oB,show(0:Int)=((0:Nat):Int) from rfl,h0,oB,Y1 (show k<1000 by omega) (by omega),c0l g a d (k+1) fuel _ (by omega) (by omega) (by simp;omega),q0a]
  simp
theorem d0l(g:j0)(a:O0 g=true):∀(d k fuel:Nat) (acc:List K0),k+d=g.2.1.toNat->d<fuel->acc.length+100*d<=10000 ->
  A5 g.2.1 g.1 g.2.2 fuel (k:Int) acc=some (acc++q0a g d k)
 |d,k,0,acc,c,hf,b=>by omega
 |0,k,fuel+1,acc,c,hf,b=>by
  obtain⟨l,m,n,o⟩:=I1 a
  rw[A5.eq_2,if_neg (by simp;omega)]
  simp[q0a]
 |d+1,k,fuel+1,acc,c,hf,b=>by
  obtain⟨l,m,n,o⟩:=I1 a
  have f:=((c06 g).1 a).1
  obtain⟨R,e⟩:∃ R:Nat,g.1=(R:Int):=⟨g.1.toNat,by omega⟩
  have h:∀ x∈r6 g.1.toNat 1,S4 x:=λx i=>by
   obtain⟨j,p,q,s⟩:=b0c _ _ _ i
   refine⟨⟨by omega,by omega⟩,by omega⟩
  have t:=J01 g.1.toNat 1
  have u:=P09 g (k:Int) (r6 g.1.toNat 1)
  have h0:=b0l g f (k:Int) (r6 g.1.toNat 1) h (by omega) (r6 g.1.toNat 1).length 0 Q0 acc (by omega) (C1 (by omega)) (by omega)
  rw[A5.eq_2,if_pos (by simp;omega),show Y9 g.1=some (r6 g.1.toNat 1) by rw[e,s0m R (by omega)];rfl,oB,show(0:Int)=((0:Nat):Int) from rfl,h0,oB,Y1 (show k<1000 by omega) (by omega),d0l g a d (k+1) fuel _ (by omega) (by omega) (by simp;omega),q0a]
  simp
def P01(g:j0):List K0:=q0a g g.2.1.toNat 0
theorem U0g{g:j0}(hf:O0 g=true):c9 g=some (P01 g):=by
 obtain⟨a,b,c,d⟩:=I1 hf
 have h:=c0l g hf g.2.1.toNat 0 Q0 [] (by omega) (C1 (by omega)) (by simp;omega)
 obtain⟨r,n,es⟩:=g
 unfold c9 P01
 simp only at h ⊢
 rw[show(0:Int)=((0:Nat):Int) from rfl,h];simp
theorem V0g{g:j0}(hf:O0 g=true):d9 g=some (P01 g):=by
 obtain⟨b,c,d,e⟩:=I1 hf
 have h:=d0l g hf g.2.1.toNat 0 Q0 [] (by omega) (C1 (by omega)) (by simp;omega)
 have a:=Z9 g (by omega)
 obtain⟨r,n,es⟩:=g
 unfold d9 P01
 simp only[a,hf,oB]at h ⊢
 rw[if_neg (by simp),show(0:Int)=((0:Nat):Int) from rfl,h];simp
theorem g09{g:j0}(a:S0 g=true)(u:Int)(w:List Int)(v:Int):(o5 g u w v).1.2.2.length<=120:=by
 have q:=(M2 a).2.2.2
 unfold o5
 cases hc:(!w.isEmpty&&decide (g.2.1+(w.length:Int)-1<=40)&&decide (g.2.2.length+w.length<=120))with
 |false=>exact q
 |true =>
  simp only[Bool.and_eq_true,decide_eq_true_eq]at hc
  have b:=N02 (x03 v w u g.2.1) g.2.2
  have c:=O09 v w u g.2.1
  simp only[cond_true]
  omega
theorem y0m(g:Nat):∀(d k:Nat) (x:Int),x∈wo g d k->∃ j:Nat,x=(j:Int)/\k<=j/\j<k+d
 |0,k,x,h=>nomatch h
 |d+1,k,x,h=>by
  unfold wo at h
  split at h
  ·obtain⟨j,a,b,c⟩:=y0m g d (k+1) x h
   exact⟨j,a,by omega,by omega⟩
  ·rcases List.mem_cons.1 h with rfl|h
   ·exact⟨k,rfl,Nat.le_refl _,by omega⟩
   ·obtain⟨j,a,b,c⟩:=y0m g d (k+1) x h
    exact⟨j,a,by omega,by omega⟩
theorem h09(g:Nat):∀(d k:Nat),(wo g d k).Nodup
 |0,k=>List.nodup_nil
 |d+1,k=>by
  unfold wo
  split
  ·exact h09 g d (k+1)
  ·refine List.nodup_cons.2 ⟨λh=>?_,h09 g d (k+1)⟩
   obtain⟨j,a,b,c⟩:=y0m g d (k+1) _ h
   omega
theorem s0j(P:List Int):∀(es:List K0),∀ e∈pE P es,∃ a∈es,e=(getI P a.1,a.2.1,getI P a.2.2)/\0<=getI P a.1/\0<=getI P a.2.2
 | [],e,h=>nomatch h
 |b::r,e,h=>by
  unfold pE at h
  cases hb:decide (0<=getI P b.1)&&decide (0<=getI P b.2.2)
  ·rw[hb]at h
   obtain⟨a,c,d⟩:=s0j P r e h
   exact⟨a,mC _ c,d⟩
  ·rw[hb]at h
   simp only[Bool.and_eq_true,decide_eq_true_eq]at hb
   rcases List.mem_cons.1 h with rfl|h
   ·exact⟨b,mS,rfl,hb.1,hb.2⟩
   ·obtain⟨a,c,d⟩:=s0j P r e h
    exact⟨a,mC _ c,d⟩
theorem P0a{g:j0}{o:List Int}(f:S0 g=true)(b:inV g.2.1.toNat o)(p:1<=o.length)(q:o.length<=40):S0 (z9 g o)=true:=by
 obtain⟨k,l,t,u⟩:=M2 f
 have s:=i0j (plc g.2.1.toNat o) g.2.2
 refine Z0b l ⟨by omega,by omega⟩ (by omega) λe d=>?_
 obtain⟨a,c,rfl,i,j⟩:=s0j _ _ e d
 have h:=k a c
 have m:=(s07 b (x:=a.1) (by omega)).2
 have n:=(s07 b (x:=a.2.2) (by omega)).2
 exact⟨⟨i,m⟩,⟨j,n⟩,h.2.2⟩
theorem d0g{n:Nat}:∀(o:List Int) (k:Nat) (A:List Int),A.length=n->inV n o->o.Nodup->(∀ x,0<=x->getI A x<(k:Int))->(∀ x y,0<=x->0<=y->0<=getI A x->getI A x=getI A y->x=y) ->
  ∀ x y,0<=x->0<=y->0<=getI (a02 A k o) x->getI (a02 A k o) x=getI (a02 A k o) y->x=y
 | [],k,A,h,e,i,c,d=>d
 |v::r,k,A,h,e,i,c,d=>by
  have f:=e v mS
  refine d0g r (k+1) (A.set v.toNat (k:Int)) (by simp[h]) (λw j=>e w (mC _ j)) (List.nodup_cons.1 i).2 (λx b=>?_) (λx y b g h0 a=>?_)
  ·rw[d05 f.1 (by omega) b]
   have:=c x b
   split<;>omega
  ·rw[d05 f.1 (by omega) b]at h0 a
   rw[d05 f.1 (by omega) g]at a
   have l:=c x b
   have m:=c y g
   by_cases c1:x=v
   ·by_cases c2:y=v
    ·rw[c1,c2]
    ·rw[if_pos c1,if_neg c2]at a;omega
   ·by_cases c2:y=v
    ·rw[if_neg c1,if_pos c2]at a;omega
    ·rw[if_neg c1]at h0;rw[if_neg c1,if_neg c2]at a
     exact d x y b g h0 a
theorem t0j{n:Nat}{o:List Int}(d:inV n o)(b:o.Nodup){x y:Int}(a:0<=x)(e:0<=y)(h0:0<=getI (plc n o) x)(c:getI (plc n o) x=getI (plc n o) y):x=y:=by
 refine d0g o 0 (List.replicate n (-1)) (by simp) d b (λx a=>by rw[Y08];omega) (λx y _ _ h _=>by rw[Y08]at h;omega) x y a e h0 c
theorem K0q{es:List K0}(h:es.Pairwise λa b=>Z05 a b=false){a b:K0}(f:a∈es)(i:b∈es)(k:a≠b):Z05 a b=false:=by
 induction es with
 |nil=>cases f
 |cons c r l =>
  obtain⟨e,j⟩:=List.pairwise_cons.1 h
  rcases List.mem_cons.1 f with rfl|g
  ·rcases List.mem_cons.1 i with rfl|d
   ·exact absurd rfl k
   ·exact e b d
  ·rcases List.mem_cons.1 i with rfl|d
   ·rw[Y0c];exact e a g
   ·exact l j g d
theorem U0r{es:List K0}(i:Asc P0 es)(h:∀ a∈es,∀ b∈es,a≠b->Z05 a b=false):es.Pairwise λa b=>Z05 a b=false:=by
 induction es with
 |nil=>exact .nil
 |cons c r k =>
  obtain⟨f,g⟩:=List.pairwise_cons.1 i
  refine List.pairwise_cons.2 ⟨λb d=>h c mS b (mC _ d) λe=>?_,k g λa j b d=>h a (mC _ j) b (mC _ d)⟩
  have:=f b d
  rw[e,B7.refl]at this;omega
theorem h0d{g:j0}(c:S0 g=true):O0 g=true↔∀ a∈g.2.2,∀ b∈g.2.2,a≠b->Z05 a b=false:=by
 rw[c06,f0d]
 exact⟨λh a d b e f=>K0q h.2 d e f,λh=>⟨c,U0r (graph_asc' c) h⟩⟩
where graph_asc' {g:j0} (h:S0 g=true):Asc P0 g.2.2:=((u02 g).1 h).2.2.2.2
theorem i09{g:j0}{o:List Int}(hf:O0 g=true)(j:inV g.2.1.toNat o)(m:o.Nodup)(s:1<=o.length)(t:o.length<=40):O0 (z9 g o)=true:=by
 have i:=l4 hf
 obtain⟨n,F,G,H⟩:=M2 i
 refine(h0d (P0a i j s t)).2 λa u b v z=>?_
 have mem:∀ e∈(z9 g o).2.2,∃ a∈g.2.2,e=(getI (plc g.2.1.toNat o) a.1,a.2.1,getI (plc g.2.1.toNat o) a.2.2)/\0<=getI (plc g.2.1.toNat o) a.1/\0<=getI (plc g.2.1.toNat o) a.2.2:=λe y=>by
  rcases(r00 B7 e _ _).1 y with h|h
  ·cases h
  ·exact s0j _ _ e h
 obtain⟨d,k,rfl,B,C⟩:=mem a u
 obtain⟨f,l,rfl,D,E⟩:=mem b v
 have A:d≠f:=λe=>z (by rw[e])
 have c:=(h0d i).1 hf d k f l A
 have p:=n d k
 have q:=n f l
 unfold Z05 at c ⊢
 simp only[Bool.and_eq_false_iff,Bool.or_eq_false_iff,decide_eq_false_iff_not]at c ⊢
 rcases c with c|⟨w,x⟩
 ·exact .inl c
 ·exact .inr ⟨λe=>w (t0j j m p.1.1 q.1.1 B e),λe=>x (t0j j m p.2.1.1 q.2.1.1 C e)⟩
def d06:Nat->j0->j0
 |0,g=>g
 |d+1,g=>match B00 g with
  |none=>g
  |some k=>d06 d (z9 g (wo k g.2.1.toNat 0))
theorem u0j{g:j0}{k:Nat}(h:B00 g=some k):1<=k/\k<g.2.1.toNat:=by
 have:=b09 _ _ _ h
 omega
theorem i0d{g:j0}(b:S0 g=true){k:Nat}(h:B00 g=some k):inV g.2.1.toNat (wo k g.2.1.toNat 0)/\(wo k g.2.1.toNat 0).length=g.2.1.toNat-1/\1<=(wo k g.2.1.toNat 0).length/\(wo k g.2.1.toNat 0).length<=40:=by
 obtain⟨d,e,f,i⟩:=M2 b
 have c:=u0j h
 have a:=a0g k g.2.1.toNat 0
 rw[if_pos (by omega)]at a
 exact⟨P0k k _ _ 0 (by omega),a,by omega,by omega⟩
theorem g03:∀(d:Nat) {g:j0},O0 g=true->O0 (d06 d g)=true
 |0,g,h=>h
 |d+1,g,h=>by
  unfold d06
  cases e:B00 g with
  |none=>exact h
  |some k =>
   obtain⟨a,f,b,c⟩:=i0d (l4 h) e
   exact g03 d (i09 h a (h09 _ _ _) b c)
theorem e0g(n g:Nat)(i:n<=1000)(u:List Int)(j:u.length=n):∀(d k fuel:Nat) (acc a:List Int),k+d=n->d<fuel->acc.length<=k->a.length<=k ->
  ∃ v,p6 (n:Int) (g:Int) u fuel (k:Int) acc a=some (acc++wo g d k,v)/\v.length+acc.length=a.length+(acc++wo g d k).length
 |d,k,0,acc,a,h,hf,b,f=>by omega
 |0,k,fuel+1,acc,a,h,hf,b,f=>by
  rw[p6.eq_2,if_neg (by simp;omega)];exact⟨a,by simp[wo],by simp[wo]⟩
 |d+1,k,fuel+1,acc,a,h,hf,b,f=>by
  have l:=O5 (show k<u.length by omega)
  generalize u[k]=x at l
  rw[p6.eq_2,if_pos (by simp;omega),Y1 (show k<10000 by omega) (by omega)]
  unfold wo
  by_cases c:k=g
  ·have e:decide ((k:Int)=(g:Int))=true:=decide_eq_true (by omega)
   rw[e,if_neg (by simp),if_pos c]
   exact e0g n g i u j d (k+1) fuel acc a (by omega) (by omega) (by omega) (by omega)
  ·have e:decide ((k:Int)=(g:Int))=false:=decide_eq_false (by omega)
   rw[e,if_pos (show(!false)=true from rfl),if_neg c,D0 (by simp;omega),oB,J2 l,oB,D0 (by simp;omega),oB]
   obtain⟨v,m,o⟩:=e0g n g i u j d (k+1) fuel (acc ++ [(k:Int)]) (a ++ [x]) (by omega) (by omega) (by simp;omega) (by simp;omega)
   refine⟨v,by rw[m];simp,?_⟩
   simp only[List.length_append,List.length_cons,List.length_nil]at o ⊢
   omega
theorem e0l(g:j0)(a:S0 g=true):∀(d k fuel:Nat) (acc:List Int),k+d=g.2.1.toNat->d<fuel->acc.length=k ->
  ∃ u,c7 g.2.1 g.1 g.2.2 fuel (k:Int) acc=some u/\u.length=g.2.1.toNat
 |d,k,0,acc,c,hf,b=>by omega
 |0,k,fuel+1,acc,c,hf,b=>by
  obtain⟨h,i,j,l⟩:=M2 a
  rw[c7.eq_2,show decide (((k:Nat):Int)<g.2.1)=false by simp;omega]
  exact⟨acc,by simp[chk],by omega⟩
 |d+1,k,fuel+1,acc,c,hf,b=>by
  obtain⟨h,i,j,l⟩:=M2 a
  obtain⟨u,e,f⟩:=e0l g a d (k+1) fuel (acc ++ [(k:Int)]) (by omega) (by omega) (by simp;omega)
  rw[c7.eq_2,show decide (((k:Nat):Int)<g.2.1)=true by simp;omega,H1,show(g.1,g.2.1,g.2.2)=g from rfl,O8 g (by omega),oB,a]
  rw[if_pos (show(bif true then true else false)=true from rfl),D0 (by simp;omega),oB,Y1 (show k<1000 by omega) (by omega),e]
  exact⟨u,rfl,f⟩
theorem f0l(f:j0)(n:S0 f=true):∀(d k fuel:Nat) (g:j0) (u:List Int),k+d=40->d<fuel->S0 g=true->u.length=g.2.1.toNat->g.2.1.toNat<=d+1 ->
  ∃ v,(a7 f.1 f.2.1 f.2.2 fuel u (k:Int) g.1 g.2.1 g.2.2).bind (λX=>g9 X (λx=>match x with|(a,b,c,e)=>some ((b,c,e),a)))=some (d06 d g,v)
 |d,k,0,g,u,q,hf,h,w,s=>by omega
 |0,k,fuel+1,g,u,q,hf,h,w,s=>by
  rw[a7.eq_2,show decide (((k:Nat):Int)<40)=false by simp;omega]
  exact⟨u,by simp[chk,g9,d06]⟩
 |d+1,k,fuel+1,g,u,q,hf,h,w,s=>by
  obtain⟨G,H,I,J⟩:=M2 n
  obtain⟨K,L,M,O⟩:=M2 h
  have B:=F0q g h
  rw[a7.eq_2,show decide (((k:Nat):Int)<40)=true by simp;omega,H1,show(f.1,f.2.1,f.2.2)=f from rfl,O8 f (by omega),oB,n]
  rw[if_pos (show(bif true then true else false)=true from rfl),show(g.1,g.2.1,g.2.2)=g from rfl,B]
  unfold d06
  cases e:B00 g with
  |none =>
   simp only[oB]
   rw[D0 (show J0 (-1) from⟨by omega,by omega⟩),oB,if_pos (by simp)]
   exact⟨u,rfl⟩
  |some j =>
   obtain⟨o,y,m,A⟩:=i0d h e
   have F:=u0j e
   obtain⟨N,l⟩:∃ N:Nat,g.2.1=(N:Int):=⟨g.2.1.toNat,by omega⟩
   have i:g.2.1.toNat=N:=by omega
   obtain⟨v,D,E⟩:=e0g N j (by omega) u (by omega) N 0 Q0 [] [] (by omega) (C1 (by omega)) (Nat.le_refl _) (Nat.le_refl _)
   have t:=N0a g.1 N g.2.2 (wo j N 0) (by rw[←l];exact h) (by rw[←i];exact o) (h09 _ _ _) (by rw[←i];exact m) (by rw[←i];omega)
   rw[←l,show(g.1,g.2.1,g.2.2)=g from rfl]at t
   have p:=P0a h o m A
   rw[i]at p y m
   obtain⟨C,z⟩:=f0l f n d (k+1) fuel (z9 g (wo j N 0)) v (by omega) (by omega) p (by simp only[List.nil_append,List.length_nil]at E;show v.length=((wo j N 0).length:Int).toNat;omega) (by show((wo j N 0).length:Int).toNat<=d+1;omega)
   simp only[oB]
   rw[D0 (show J0 ((j:Nat):Int) from⟨by omega,by omega⟩),oB,if_neg (by simp),l,show(0:Int)=((0:Nat):Int) from rfl,D]
   simp only[oB,List.nil_append]
   rw[←l,t]
   simp only[oB]
   rw[Y1 (show k<1000 by omega) (by omega),i]
   exact⟨C,z⟩
def Q06(g:j0):j0:=d06 40 g
theorem f0g{g:j0}(a:S0 g=true):∃ v,Q01 g=some (Q06 g,v):=by
 obtain⟨f,h,i,j⟩:=M2 a
 have e:=M02 g (by omega)
 obtain⟨u,b,d⟩:=e0l g a g.2.1.toNat 0 Q0 [] (by omega) (C1 (by omega)) rfl
 obtain⟨v,c⟩:=f0l g a 40 0 Q0 g u rfl (C1 (by omega)) a d (by omega)
 refine⟨v,?_⟩
 obtain⟨r,n,es⟩:=g
 unfold Q01
 simp only[e,oB]
 simp only at b c
 rw[show(0:Int)=((0:Nat):Int) from rfl,b,oB]
 exact c
theorem g0l:∀(n fuel d:Nat) (left:List Int) (r:Int) (es:List K0),1<=n->n<=40->inN n es->es.length<=120->left.length=n->n<fuel->n<=d+1 ->
  ∃ i,o6 fuel left r (n:Int) es=some (.inl (d06 d (r,(n:Int),es),i))
 |n,0,d,left,r,es,j,l,b,B,C,hf,A=>by omega
 |n,fuel+1,d,left,r,es,j,l,b,B,C,hf,A=>by
  obtain⟨c,x,G,y⟩:=K0k r n es b (by omega) j (by omega)
  have t:=m0j r n es (by omega) c G l (n-1) 1 Q0 (Nat.le_refl _) (by omega) (by omega) (C1 (by omega))
  have z:lf (λv=>decide (k04 (v:Int) es<2) || !L00 c (v:Int)) (n-1) 1=lf (d0d es) (n-1) 1:=Z0f _ _ λk I J=>by
   unfold d0d
   have:=y (k:Int) (by omega) (by omega)
   have m:=X0b es 0 (k:Int)
   congr 2
   cases hb:L00 c (k:Int)
   ·symm;exact decide_eq_false λh=>by rw[this.2 (m.1 h)]at hb;cases hb
   ·symm;exact decide_eq_true (m.2 (this.1 hb))
  rw[z]at t
  have o:B00 (r,(n:Int),es)=lf (d0d es) (n-1) 1:=by simp only[B00,Int.toNat_natCast]
  rw[o6.eq_2,x,oB,show(1:Int)=((1:Nat):Int) from rfl,t,oB]
  cases hlf:lf (d0d es) (n-1) 1 with
  |none =>
   have e:d06 d (r,(n:Int),es)=(r,(n:Int),es):=by
    cases d with
    |zero=>rfl
    |succ d=>unfold d06;rw[o,hlf]
   rw[e]
   exact⟨left,by rw[if_pos (by rfl)]⟩
  |some k =>
   have H:=b09 _ _ _ hlf
   have w:decide ((k:Int)=0)=false:=decide_eq_false (by omega)
   have p:=P0k k n n 0 (by omega)
   have g:=a0g k n 0
   rw[if_pos (by omega)]at g
   have s:=n0j n k (by omega) n 0 Q0 [] (by omega) (C1 (by omega)) (Nat.le_refl _)
   rw[show((0:Nat):Int)=0 from rfl,List.nil_append]at s
   have D:=j0j r n es (wo k n 0) b p (by omega) (by omega) (by omega)
   have E:=M0a (r,(n:Int),es) (wo k n 0)
   have q:=Q0h (r:=r) p b
   have F:IntKind.i64.wrap ((k:Int)+((1:Nat):Int))=((k+1:Nat):Int):=by rw[w64 (by omega) (by omega)];rfl
   obtain⟨a,rfl⟩:∃ a,d=a+1:=⟨d-1,by omega⟩
   have f:z9 (r,(n:Int),es) (wo k n 0)=(r,((n-1:Nat):Int),(z9 (r,(n:Int),es) (wo k n 0)).2.2):=by rw[←g];rfl
   obtain⟨i,u⟩:=g0l (n-1) fuel a (left.take k++left.drop (k+1)) r (z9 (r,(n:Int),es) (wo k n 0)).2.2 (by omega) (by omega) (by rw[g]at q;exact q) (by simp only at E;omega) (by simp only[List.length_append,List.length_take,List.length_drop];omega) (by omega) (by omega)
   refine⟨i,?_⟩
   rw[←f]at u
   have e:d06 (a+1) (r,(n:Int),es)=d06 a (z9 (r,(n:Int),es) (wo k n 0)):=by
    show(match B00 (r,(n:Int),es)with|none=>(r,(n:Int),es)|some k=>d06 a (z9 (r,(n:Int),es) (wo k ((n:Int)).toNat 0)))=_
    rw[o,hlf,Int.toNat_natCast]
   rw[e]
   simp only[w,Bool.false_eq_true,if_false,s,oB,D]
   generalize z9 (r,(n:Int),es) (wo k n 0)=gp at *
   rw[f]
   simp only[F]
   rw[c09 (by omega),oB,L03 (by omega),oB,D0 (by simp only[List.length_take,List.length_drop];omega),oB,u,←f]
theorem T0d{g:j0}(f:S0 g=true):∃ v,z8 g=some (Q06 g,v):=by
 obtain⟨b,i,j,c⟩:=M2 f
 have m:=D01 g (by omega)
 have k:=Z01 g (by omega)
 obtain⟨r,n,es⟩:=g
 simp only at i j c
 obtain⟨N,rfl⟩:∃ N:Nat,n=(N:Int):=⟨n.toNat,by omega⟩
 have l:inN N es:=λe d=>⟨(b e d).1,(b e d).2.1⟩
 obtain⟨u,a,h⟩:=o0j N (by omega) N 0 Q0 [] (by omega) (C1 (by omega)) rfl
 obtain⟨o,p⟩:=g0l N Q0 40 u r es (by omega) (by omega) l c h (C1 (by omega)) (by omega)
 refine⟨o,?_⟩
 unfold z8
 rw[show((0:Nat):Int)=0 from rfl]at a
 simp only[k,oB,m,f,Bool.not_true,Bool.false_eq_true,if_false,a,p,g9]
 rfl
def j0d(g:j0):j0:=J3 (Q06 g)
theorem c0c{g:j0}(hf:O0 g=true):M00 g=(g,[]):=by
 obtain⟨a,b⟩:=(c06 g).1 hf
 unfold M00
 rw[a]
 show B02 40 g=_
 unfold B02
 rw[b]
theorem z0m{g:j0}(hf:O0 g=true):E8 g=some (j0d g):=by
 have b:=l4 hf
 obtain⟨e,f,h,i⟩:=M2 b
 have a:=m0a g (by omega)
 rw[c0c hf]at a
 obtain⟨v,c⟩:=f0g b
 have d:=a09 (Q06 g) (g03 40 hf)
 obtain⟨r,n,es⟩:=g
 unfold E8 j0d
 simp only[a,oB,c]
 simp only[d,oB]
theorem A0m{g:j0}(hf:O0 g=true):H8 g=some (j0d g):=by
 have b:=l4 hf
 obtain⟨e,f,h,i⟩:=M2 b
 have a:=n0a g (by omega)
 rw[c0c hf]at a
 obtain⟨v,c⟩:=T0d b
 have d:=Z08 (Q06 g) (g03 40 hf)
 obtain⟨r,n,es⟩:=g
 unfold H8 j0d
 simp only[a,oB,c]
 simp only[d,oB]
theorem L0q{N r u x v:Int}(a:0<=u/\u<N)(b:0<=v/\v<N)(c:x≠0 /\ -r<=x/\x<=r):(0<=(stp u x v).1/\(stp u x v).1<N)/\(0<=(stp u x v).2.2/\(stp u x v).2.2<N)/\1<=(stp u x v).2.1/\(stp u x v).2.1<=r:=by
 unfold stp
 split<;>(simp only;omega)
theorem h0l{N r v:Int}(f:0<=v/\v<N):∀(w:List Int) (u n:Int),(0<=u/\u<N)->0<=n->n+((w.length-1:Nat):Int)<=N->(∀ x∈w,x≠0 /\ -r<=x/\x<=r) ->
  ∀ e∈x03 v w u n,(0<=e.1/\e.1<N)/\(0<=e.2.2/\e.2.2<N)/\1<=e.2.1/\e.2.1<=r
 | [],u,n,c,h0,d,b,e,a=>nomatch a
 | [x],u,n,c,h0,d,b,e,a=>by
  simp only[x03,List.mem_singleton]at a
  subst a
  exact L0q c f (b x mS)
 |x::y::l,u,n,c,h0,d,b,e,a=>by
  simp only[List.length_cons]at d
  simp only[x03]at a
  rcases List.mem_cons.1 a with rfl|a
  ·exact L0q c ⟨h0,by omega⟩ (b x mS)
  ·exact h0l f (y::l) n (n+1) ⟨h0,by omega⟩ (by omega) (by simp only[List.length_cons];omega) (λz g=>b z (mC _ g)) e a
theorem R06{g:j0}{u v:Int}{w:List Int}(b:S0 g=true)(o:0<=u/\u<g.2.1)(p:0<=v/\v<g.2.1)(c:U2 g.1 w=true):S0 (o5 g u w v).1=true:=by
 obtain⟨f,i,q,s,j⟩:=(u02 g).1 b
 obtain⟨t,k⟩:=O04 c
 unfold o5
 cases hc:(!w.isEmpty&&decide (g.2.1+(w.length:Int)-1<=40)&&decide (g.2.2.length+w.length<=120))with
 |false=>exact b
 |true =>
  simp only[Bool.and_eq_true,decide_eq_true_eq,Bool.not_eq_true',List.isEmpty_eq_false_iff]at hc
  have n:1<=w.length:=by
   have:=List.length_pos_iff.2 hc.1.1;omega
  have l:=N02 (x03 v w u g.2.1) g.2.2
  have m:=O09 v w u g.2.1
  simp only[cond_true]
  refine(u02 _).2 ⟨λe a=>?_,i,⟨by simp only;omega,by simp only;omega⟩,by simp only;omega,I03 B7 _ _ j⟩
  simp only at a ⊢
  rcases(r00 B7 e _ _).1 a with h|h
  ·have:=f e h
   omega
  ·exact h0l ⟨by omega,by omega⟩ w u g.2.1 ⟨by omega,by omega⟩ (by omega) (iR _) (λx d=>(k x d).2) e h
theorem c08(g:j0)(u:Int)(w:List Int)(v:Int):(o5 g u w v).1.1=g.1:=by
 unfold o5
 cases (!w.isEmpty&&decide (g.2.1+(w.length:Int)-1<=40)&&decide (g.2.2.length+w.length<=120))<;>rfl
def r0a:List (List Int)->j0->j0
 | [],g=>g
 |w::r,g=>r0a r (o5 g 0 w 0).1
theorem U0d:∀(ws:List (List Int)) {g:j0},S0 g=true->(∀ w∈ws,U2 g.1 w=true)->S0 (r0a ws g)=true
 | [],g,a,b=>a
 |w::r,g,a,b=>by
  obtain⟨e,f,h,i⟩:=M2 a
  exact U0d r (R06 a ⟨iR _,by omega⟩ ⟨iR _,by omega⟩ (b w mS)) λd c=>by
   rw[c08];exact b d (mC _ c)
theorem i0l{g:j0}{w:List Int}(a:S0 g=true)(b:U2 g.1 w=true):j02 g w=some (o5 g 0 w 0):=by
 obtain⟨c,d,e,f⟩:=M2 a
 have h:=o0a a (u:=0) (v:=0) ⟨iR _,by omega⟩ ⟨iR _,by omega⟩ b
 obtain⟨r,n,es⟩:=g
 unfold j02
 simp only[h,oB]
theorem j0l{g:j0}{w:List Int}(a:S0 g=true)(b:U2 g.1 w=true):n02 g w=some (o5 g 0 w 0):=by
 obtain⟨c,d,e,f⟩:=M2 a
 have h:=p0a a (u:=0) (v:=0) ⟨iR _,by omega⟩ ⟨iR _,by omega⟩ b
 obtain⟨r,n,es⟩:=g
 unfold n02
 simp only[h,oB]
theorem X0h(ws:List (List Int))(i:ws.length<=1000):∀(d k fuel:Nat) (g:j0),k+d=ws.length->d<fuel->S0 g=true->(∀ w∈ws,U2 g.1 w=true) ->
  P7 ws fuel (k:Int) g.1 g.2.1 g.2.2=some (r0a (ws.drop k) g)
 |d,k,0,g,h,hf,a,b=>by omega
 |0,k,fuel+1,g,h,hf,a,b=>by
  rw[P7.eq_2,if_neg (by simp;omega),J1 (by omega)];rfl
 |d+1,k,fuel+1,g,h,hf,a,b=>by
  have c:k<ws.length:=by omega
  have f:=O5 c
  have e:=b _ (List.getElem_mem c)
  generalize ws[k]=w at f e
  obtain⟨l,m,n,o⟩:=M2 a
  have j:=X0h ws i d (k+1) fuel (o5 g 0 w 0).1 (by omega) (by omega) (R06 a ⟨iR _,by omega⟩ ⟨iR _,by omega⟩ e) (by rw[c08];exact b)
  rw[P7.eq_2,if_pos (by simp;omega),J2 f,oB,show(g.1,g.2.1,g.2.2)=g from rfl,i0l a e,oB,Y1 c (by omega),M1 f]
  exact j
theorem Y0h(ws:List (List Int))(m:ws.length<=1000):∀(d k fuel:Nat) (g:j0),k+d=ws.length->d<fuel->S0 g=true->(∀ w∈ws,U2 g.1 w=true) ->
  O6 ws fuel (k:Int) g.1 g.2.1 g.2.2=some (r0a (ws.drop k) g)
 |d,k,0,g,l,hf,a,b=>by omega
 |0,k,fuel+1,g,l,hf,a,b=>by
  rw[O6.eq_2,if_neg (by simp;omega),J1 (by omega)];rfl
 |d+1,k,fuel+1,g,l,hf,a,b=>by
  have f:k<ws.length:=by omega
  have i:=O5 f
  have h:=b _ (List.getElem_mem f)
  generalize ws[k]=w at i h
  obtain⟨n,o,p,q⟩:=M2 a
  have j:=Y0h ws m d (k+1) fuel (o5 g 0 w 0).1 (by omega) (by omega) (R06 a ⟨iR _,by omega⟩ ⟨iR _,by omega⟩ h) (by rw[c08];exact b)
  rw[O6.eq_2,if_pos (by simp;omega),J2 i,oB,Y1 f (by omega),M1 i]
  by_cases c:w = []
  ·subst c
   rw[if_neg (by simp)]
   have e:(o5 g 0 [] 0).1=g:=rfl
   rw[e]at j
   rw[j]
   show _=some (r0a (ws.drop (k+1)) (o5 g 0 [] 0).1)
   rw[e]
  ·have:0<w.length:=List.length_pos_iff.2 c
   rw[if_pos (by simp;omega),show(g.1,g.2.1,g.2.2)=g from rfl,j0l a h,oB]
   exact j
def t07(r:Int)(ws:List (List Int)):j0×Bool:=bif L6 r ws then(r0a ws (r,1,[]),true)else((0,0,[]),false)
theorem u07{r:Int}{ws:List (List Int)}(h:L6 r ws=true):(1<=r/\r<=3)/\ws.length<=6/\∀ w∈ws,U2 r w=true:=by
 simp only[L6,inR,Bool.and_eq_true,decide_eq_true_eq]at h
 refine⟨h.1.1.1,h.1.1.2,?_⟩
 have a:∀ {ws:List (List Int)},e0e r ws=true->∀ w∈ws,U2 r w=true:=by
  intro ws
  induction ws with
  |nil=>intro _ w a;cases a
  |cons v l b =>
   intro h w a
   simp only[e0e,Bool.and_eq_true]at h
   rcases List.mem_cons.1 a with rfl|a
   ·exact h.1
   ·exact b h.2 w a
 exact a h.1.2
theorem k0d{r:Int}(b:1<=r/\r<=3):S0 (r,1,[])=true:=(u02 _).2 ⟨(λe a=>by cases a),b,⟨by simp,by simp⟩,by simp,List.Pairwise.nil⟩
theorem v0j(r:Int)(ws:List (List Int))(c:ws.length<=140737488355328)(e:T8 ws):k02 r ws=some (t07 r ws):=by
 have a:=U08 r ws c e
 unfold k02 t07
 rw[a,oB]
 cases hA:L6 r ws with
 |false=>rfl
 |true =>
  obtain⟨d,g,f⟩:=u07 hA
  have h:=X0h ws (by omega) ws.length 0 Q0 (r,1,[]) (by omega) (C1 (by omega)) (k0d d) f
  have b:i02 r=some ((r,1,[]),true):=by
   unfold i02
   rw[y02,oB,if_neg (by simp[inR];omega)]
  rw[if_neg (by simp),b,oB]
  simp only[]at h ⊢
  rw[show(0:Int)=((0:Nat):Int) from rfl,h]
  rfl
theorem w0j(r:Int)(ws:List (List Int))(c:ws.length<=140737488355328)(e:T8 ws):o02 r ws=some (t07 r ws):=by
 have a:=V08 r ws c e
 unfold o02 t07
 rw[a,oB]
 cases hA:L6 r ws with
 |false=>rfl
 |true =>
  obtain⟨d,g,f⟩:=u07 hA
  have h:=Y0h ws (by omega) ws.length 0 Q0 (r,1,[]) (by omega) (C1 (by omega)) (k0d d) f
  have b:m02 r=some ((r,1,[]),true):=by
   unfold m02
   rw[v03,oB,if_neg (by simp[inR];omega)]
  rw[if_neg (by simp),b,oB]
  simp only[]at h ⊢
  rw[show(0:Int)=((0:Nat):Int) from rfl,h]
  rfl
theorem g0g:∀(d:Nat) {g:j0},S0 g=true->g.2.1.toNat<=d+1->B00 (d06 d g)=none
 |0,g,a,h=>by
  cases e:B00 g with
  |none=>exact e
  |some k=>have:=u0j e;omega
 |d+1,g,a,h=>by
  unfold d06
  cases e:B00 g with
  |none=>exact e
  |some k =>
   obtain⟨b,i,c,f⟩:=i0d a e
   exact g0g d (P0a a b c f) (by show(((wo k g.2.1.toNat 0).length:Nat):Int).toNat<=d+1;omega)
theorem M0o{g:j0}(hf:O0 g=true){v x y z:Int}(q:y∈V00 v x g.2.2)(s:z∈V00 v x g.2.2):y=z:=by
 obtain⟨e,o,l⟩:=U8.1 q
 obtain⟨k,p,m⟩:=U8.1 s
 by_cases hne:e=k
 ·subst hne
  rcases l with⟨a,b,c,rfl⟩|⟨a,b,c,rfl⟩<;>rcases m with⟨h,i,j,rfl⟩|⟨h,i,j,rfl⟩<;>first|rfl|omega
 ·have f:=(h0d (l4 hf)).1 hf e o k p hne
  unfold Z05 at f
  simp only[Bool.and_eq_false_iff,Bool.or_eq_false_iff,decide_eq_false_iff_not]at f
  rcases l with⟨a,b,c,d⟩|⟨a,b,c,d⟩<;>rcases m with⟨h,i,j,n⟩|⟨h,i,j,n⟩<;>first|omega|(exfalso;rcases f with f|⟨t,u⟩<;>omega)
theorem d08(g:j0)(v x:Int):(Y0 g v x = -1/\V00 v x g.2.2 = [])∨Y0 g v x∈V00 v x g.2.2:=by
 unfold Y0
 cases e:B03 g v x with
 |nil =>
  left
  refine⟨rfl,List.eq_nil_iff_forall_not_mem.2 λy b=>?_⟩
  have:y∈B03 g v x:=(r00 t03 y _ _).2 (.inr b)
  rw[e]at this;cases this
 |cons a l=>exact .inr (G0h (by rw[e];exact mS))
theorem d0c{g:j0}(hf:O0 g=true){v x y:Int}(a:y∈V00 v x g.2.2):Y0 g v x=y:=by
 rcases d08 g v x with⟨_,h⟩|h
 ·rw[h]at a;cases a
 ·exact M0o hf h a
theorem k0l:∀(d i j:Nat),i<=j->j<i+d->(j:Int)∈r6 d i /\ -(j:Int)∈r6 d i
 |0,i,j,e,f=>by omega
 |d+1,i,j,e,f=>by
  simp only[r6,List.mem_cons]
  by_cases c:j=i
  ·subst c;simp
  ·obtain⟨a,b⟩:=k0l d (i+1) j (by omega) (by omega)
   exact⟨.inr (.inr a),.inr (.inr b)⟩
theorem Z0h(g:j0)(v:Int):∀(b u:List Int) (x:Int),x∈b->0<=Y0 g v x->Y0 g v x∈w03 g v b u
 |y::r,u,x,a,h0=>by
  rw[w03]
  rcases List.mem_cons.1 a with rfl|a
  ·obtain⟨t,e⟩:=T03 g v r (r08 u (Y0 g v x))
   rw[e]
   refine List.mem_append_left _ ?_
   unfold r08
   split
   ·exact List.mem_append_right _ (List.mem_singleton.2 rfl)
   ·rename_i h
    by_cases hm:Y0 g v x∈u
    ·exact hm
    ·exact absurd ⟨h0,hm⟩ h
  ·exact Z0h g v r _ x a h0
theorem Q0a(g:j0)(a:List Int):∀(f i:Nat) (u:List Int),∃ t,a00 g a f i u=u++t
 |0,i,u=>⟨[],by simp[a00]⟩
 |f+1,i,u=>by
  unfold a00
  split
  ·rename_i v _
   obtain⟨d,b⟩:=T03 g v a u
   obtain⟨e,c⟩:=Q0a g a f (i+1) (w03 g v a u)
   exact⟨d++e,by rw[c,b,List.append_assoc]⟩
  ·exact⟨[],by simp⟩
theorem i0g{r:Int}{n:Nat}{es:List K0}(m:inG (r,(n:Int),es))(a:List Int):∀(f i:Nat) (u:List Int),gud n u->n+1<=f+i->i<=u.length ->
  (∀ j,j<i->∀ v,u[j]?=some v->∀ x∈a,0<=Y0 (r,(n:Int),es) v x->Y0 (r,(n:Int),es) v x∈u) ->
  ∀ v∈a00 (r,(n:Int),es) a f i u,∀ x∈a,0<=Y0 (r,(n:Int),es) v x->Y0 (r,(n:Int),es) v x∈a00 (r,(n:Int),es) a f i u
 |0,i,u,g,q,o,k=>by have:=s00 n u g.1 g.2;omega
 |f+1,i,u,g,q,o,k=>by
  unfold a00
  cases e:u[i]? with
  |none =>
   have:i=u.length:=by have:=List.getElem?_eq_none_iff.1 e;omega
   show ∀ v∈u,∀ x∈a,0<=Y0 (r,(n:Int),es) v x->Y0 (r,(n:Int),es) v x∈u
   intro v b x h h0
   obtain⟨j,l⟩:=List.getElem?_of_mem b
   exact k j (by have:=(List.getElem?_eq_some_iff.1 l).1;omega) v l x h h0
  |some w =>
   have p:=(List.getElem?_eq_some_iff.1 e).1
   obtain⟨t,d⟩:=T03 (r,(n:Int),es) w a u
   refine i0g m a f (i+1) _ (C05 m w a u g) (by omega) (by rw[d,List.length_append];omega) λj l v b x h h0=>?_
   by_cases c:j=i
   ·subst c
    rw[d,List.getElem?_append_left p,e]at b
    cases b
    exact Z0h _ _ a u x h h0
   ·rw[d,List.getElem?_append_left (by omega)]at b
    rw[d]
    exact List.mem_append_left _ (k j (by omega) v b x h h0)
theorem j0g(g:j0):∃ t,N6 g=0::t:=by
 obtain⟨t,e⟩:=Q0a g (r6 g.1.toNat 1) (g.2.1.toNat+1) 0 [0]
 exact⟨t,e⟩
theorem l0l{g:j0}(hf:O0 g=true){x:Int}(h:Rch g.2.2 0 x):x∈N6 g:=by
 obtain⟨l,q,s,w⟩:=I1 hf
 have m:=j0g g
 have c:∀ v∈N6 g,∀ x∈r6 g.1.toNat 1,0<=Y0 g v x->Y0 g v x∈N6 g:=by
  obtain⟨r,n,es⟩:=g
  simp only at q s
  obtain⟨N,rfl⟩:∃ N:Nat,n=(N:Int):=⟨n.toNat,by omega⟩
  exact i0g l _ (((N:Int)).toNat+1) 0 [0] ⟨by simp,λx f=>by simp at f;subst f;omega⟩ (by simp only[Int.toNat_natCast];omega) (Nat.zero_le _) (λj d=>by omega)
 refine Rch.sub (P:=λx=>x∈N6 g) ?_ (λe b=>?_) h
 ·obtain⟨t,e⟩:=m
  rw[e];exact mS
 ·have u:=l e b
  obtain⟨j,d⟩:∃ j:Nat,e.2.1=(j:Int):=⟨e.2.1.toNat,by omega⟩
  obtain⟨o,p⟩:=k0l g.1.toNat 1 j (by omega) (by omega)
  have i:Y0 g e.1 (j:Int)=e.2.2:=d0c hf (U8.2 ⟨e,b,.inl ⟨by omega,d,rfl,rfl⟩⟩)
  have k:Y0 g e.2.2 (-(j:Int))=e.1:=d0c hf (U8.2 ⟨e,b,.inr ⟨by omega,by omega,rfl,rfl⟩⟩)
  constructor
  ·intro a
   have:=c e.1 a (j:Int) o (by rw[i];omega)
   rwa [i]at this
  ·intro a
   have:=c e.2.2 a (-(j:Int)) p (by rw[k];omega)
   rwa [k]at this
theorem x0j{a:Nat->Bool}:∀ {d v:Nat},lf a d v=none->∀ k,v<=k->k<v+d->a k=false
 |0,v,h,k,b,e=>by omega
 |d+1,v,h,k,b,e=>by
  unfold lf at h
  cases hb:a v with
  |true=>rw[hb]at h;cases h
  |false =>
   rw[hb]at h
   by_cases c:k=v
   ·rw[c];exact hb
   ·exact x0j (d:=d) (v:=v+1) h k (by omega) (by omega)
theorem k0g{a:Nat->Bool}:∀ {d v:Nat},(∀ k,v<=k->k<v+d->a k=false)->lf a d v=none
 |0,v,h=>rfl
 |d+1,v,h=>by
  unfold lf
  rw[h v (Nat.le_refl _) (by omega)]
  exact k0g λk b c=>h k (by omega) (by omega)
theorem a0i{g:j0}(hf:O0 g=true)(b:B00 g=none){x:Int}(h0:0<=x)(d:x<g.2.1):x∈N6 g:=by
 refine l0l hf ?_
 by_cases c:x=0
 ·subst c;exact .base
 ·have:=x0j b x.toNat (by omega) (by omega)
  unfold d0d at this
  simp only[Bool.or_eq_false_iff,Bool.not_eq_false',decide_eq_true_eq]at this
  have a:=this.2
  rw[show((x.toNat:Nat):Int)=x by omega]at a
  exact(X0b _ _ _).1 a
theorem b0i{n:Nat}:∀(o:List Int) (k:Nat) (A:List Int),A.length=n->inV n o->o.Nodup->∀(i:Nat) (v:Int),o[i]?=some v->getI (a02 A k o) v=((k+i:Nat):Int)
 | [],k,A,c,b,f,i,v,a=>by simp at a
 |w::r,k,A,c,b,f,i,v,a=>by
  have e:=b w mS
  obtain⟨g,h⟩:=List.nodup_cons.1 f
  cases i with
  |zero =>
   simp at a;subst a
   rw[a02,V0f r _ _ w (by simp[c]) (λu d=>b u (mC _ d)) e.1 g,d05 e.1 (by omega) e.1,if_pos rfl];rfl
  |succ i =>
   rw[a02,b0i r (k+1) _ (by simp[c]) (λu d=>b u (mC _ d)) h i v (by simpa using a)]
   omega
theorem M0q{n:Nat}{o:List Int}(c:inV n o)(a:o.Nodup){i:Nat}{v:Int}(b:o[i]?=some v):getI (plc n o) v=(i:Int):=by
 have:=b0i o 0 (List.replicate n (-1)) (by simp) c a i v b
 rw[Nat.zero_add]at this;exact this
theorem B0m(P:List Int):∀(es:List K0),(∀ e∈es,0<=getI P e.1/\0<=getI P e.2.2)->pE P es=es.map λe=>(getI P e.1,e.2.1,getI P e.2.2)
 | [],h=>rfl
 |e::r,h=>by
  have a:=h e mS
  unfold pE
  rw[show(decide (0<=getI P e.1)&&decide (0<=getI P e.2.2))=true by simp[a.1,a.2],B0m P r λb c=>h b (mC _ c)]
  rfl
theorem c0i(e:K0):∀ {l:List K0},e ∉ l->(o01 P0 e l).Perm (e::l)
 | [],_=>List.Perm.refl _
 |y::l,h=>by
  have d:=c0i e (l:=l) λb=>h (mC _ b)
  unfold o01
  split
  ·exact List.Perm.refl _
  ·split
   ·rename_i c
    exact absurd (B7.eq _ _ c) λa=>h (by rw[a];exact mS)
   ·exact(List.Perm.cons y d).trans (List.Perm.swap e y l)
theorem V0d:∀(r acc:List K0),(acc++r).Nodup->(Y5 P0 acc r).Perm (acc++r)
 | [],acc,h=>by simp[Y5]
 |x::r,acc,h=>by
  have a:(acc++x::r).Perm (x::(acc++r)):=List.perm_middle
  have b:=a.nodup_iff.1 h
  have f:x ∉ acc:=λd=>(List.nodup_cons.1 b).1 (List.mem_append_left _ d)
  have e:=c0i x f
  have c:(o01 P0 x acc++r).Perm (x::(acc++r)):=e.append_right r
  rw[Y5]
  exact((V0d r _ (c.nodup_iff.2 b)).trans c).trans a.symm
theorem N0o(v:Int){l a:List K0}(h:l.Perm a):k04 v l=k04 v a:=by
 induction h with
 |nil=>rfl
 |cons x _ d=>simp only[k04,d]
 |swap x y l=>simp only[k04];omega
 |trans _ _ b c=>rw[b,c]
theorem m0l{a:Int->Int}{v:Int}:∀(es:List K0),(∀ e∈es,(a e.1=a v↔e.1=v)/\(a e.2.2=a v↔e.2.2=v))->k04 (a v) (es.map λe=>(a e.1,e.2.1,a e.2.2))=k04 v es
 | [],h=>rfl
 |e::r,h=>by
  obtain⟨b,d⟩:=h e mS
  have i:=m0l r λf g=>h f (mC _ g)
  simp only[List.map_cons,k04,i,u0q]
  congr 2
  ·by_cases c:e.1=v
   ·rw[if_pos (b.2 c),if_pos c]
   ·rw[if_neg λq=>c (b.1 q),if_neg c]
  ·by_cases c:e.2.2=v
   ·rw[if_pos (d.2 c),if_pos c]
   ·rw[if_neg λq=>c (d.1 q),if_neg c]
theorem N0q:∀(m:Nat) (o:List Int),(∀ i:Nat,i<m->(i:Int)∈o)->m<=o.length
 |0,o,h=>Nat.zero_le _
 |m+1,o,h=>by
  have a:=h m (by omega)
  have b:=N0q m (o.erase (m:Int)) λi c=>(List.mem_erase_of_ne (by omega)).2 (h i (by omega))
  rw[List.length_erase_of_mem a]at b
  have:=List.length_pos_of_mem a
  omega
theorem O0o{es:List K0}(c:Asc P0 es):es.Nodup:=by
 refine List.Pairwise.imp (λ{a b} h e=>?_) c
 rw[e,B7.refl]at h;omega
theorem n0l{es:List K0}(a:Asc P0 es):Y5 P0 [] es=es :=
 K0a B7 (I03 B7 _ _ .nil) a λx=>by rw[r00 B7];simp
theorem C0m{t:j0}(hf:O0 t=true)(ab:B00 t=none):j2 (J3 t)=true:=by
 have av:=l4 hf
 obtain⟨A,aT,aU,aV⟩:=I1 hf
 have ak:=g0d av
 obtain⟨⟨M,G⟩,aE⟩:=N09 hf
 have aB:=s00 _ _ M G
 have Y:∀ x:Int,0<=x->x<t.2.1->x∈N6 t:=λx h0 d=>a0i hf ab h0 d
 obtain⟨aW,aK⟩:=j0g t
 obtain⟨n,ad⟩:∃ n:Nat,t.2.1=(n:Int):=⟨t.2.1.toNat,by omega⟩
 have Q:t.2.1.toNat=n:=by omega
 rw[Q]at G aB
 have ag:(N6 t).length=n:=by
  have:=N0q n (N6 t) λi F=>Y _ (by omega) (by omega)
  omega
 let P:Int->Int:=getI (plc n (N6 t))
 have K:∀(i:Nat) (v:Int),(N6 t)[i]?=some v->P v=(i:Int):=λi v F=>M0q G M F
 have L:∀ x:Int,0<=x->x<t.2.1->0<=P x/\P x<(n:Int):=λx h0 d=>by
  obtain⟨i,F⟩:=List.getElem?_of_mem (Y x h0 d)
  have:=(List.getElem?_eq_some_iff.1 F).1
  rw[K i x F];omega
 have B:∀ x y:Int,0<=x->x<t.2.1->0<=y->y<t.2.1->P x=P y->x=y:=λx y h0 d p aQ h=>t0j G M h0 p (L x h0 d).1 h
 have S:P 0=0:=K 0 0 (by rw[aK];rfl)
 have aF:pE (plc n (N6 t)) t.2.2=t.2.2.map λe=>(P e.1,e.2.1,P e.2.2):=B0m _ _ λe g=>by
  have:=A e g
  exact⟨(L e.1 this.1.1 this.1.2).1,(L e.2.2 this.2.1.1 this.2.1.2).1⟩
 have J:J3 t=(t.1,(n:Int),Y5 P0 [] (t.2.2.map λe=>(P e.1,e.2.1,P e.2.2))):=by
  unfold J3 z9
  rw[Q,aF,ag]
 have ay:∀ e∈t.2.2,∀ j∈t.2.2,((P e.1,e.2.1,P e.2.2):K0)=(P j.1,j.2.1,P j.2.2)->e=j:=λe g j U h=>by
  have a:=A e g
  have b:=A j U
  simp only[Prod.mk.injEq]at h
  have d:=B _ _ a.1.1 a.1.2 b.1.1 b.1.2 h.1
  have p:=B _ _ a.2.1.1 a.2.1.2 b.2.1.1 b.2.1.2 h.2.2
  obtain⟨aN,H,X⟩:=e
  obtain⟨aO,aP,f2⟩:=j
  simp only at d p h
  rw[d,p,h.2.1]
 have aD:(t.2.2.map λe=>((P e.1,e.2.1,P e.2.2):K0)).Nodup:=by
  have:=O0o ak
  rw[List.Nodup,List.pairwise_map]
  exact List.Pairwise.imp_of_mem (λ{a b} ao C h e=>h (ay a ao b C e)) this
 have O:∀ j,j∈(J3 t).2.2↔∃ e∈t.2.2,j=(P e.1,e.2.1,P e.2.2):=λj=>by
  rw[J]
  simp only
  rw[r00 B7]
  simp only[List.not_mem_nil,false_or,List.mem_map]
  exact⟨λ⟨e,d,p⟩=>⟨e,d,p.symm⟩,λ⟨e,d,p⟩=>⟨e,d,p.symm⟩⟩
 have I:O0 (J3 t)=true:=i09 hf (by rw[Q];exact G) M aE (by omega)
 have Z:=l4 I
 have D:(J3 t).2.1=(n:Int):=by rw[J]
 have ar:∀ v:Int,0<=v->v<t.2.1->k04 (P v) (J3 t).2.2=k04 v t.2.2:=λv h0 d=>by
  rw[J]
  simp only
  rw[N0o _ (V0d _ [] (by simpa using aD)),List.nil_append]
  refine m0l _ λe g=>?_
  have:=A e g
  exact⟨⟨λh=>B _ _ this.1.1 this.1.2 h0 d h,λh=>by rw[h]⟩,⟨λh=>B _ _ this.2.1.1 this.2.1.2 h0 d h,λh=>by rw[h]⟩⟩
 have aH:∀ x,Rch t.2.2 0 x->Rch (J3 t).2.2 0 (P x):=λx s =>
  Rch.sub (P:=λx=>Rch (J3 t).2.2 0 (P x)) (by show Rch _ 0 (P 0);rw[S];exact .base) (λe g=>Rch.closed (P e.1,e.2.1,P e.2.2) ((O _).2 ⟨e,g,rfl⟩)) s
 have aA:B00 (J3 t)=none:=by
  unfold B00
  refine k0g λk aS aL=>?_
  rw[D,Int.toNat_natCast]at aL
  obtain⟨v,w⟩:∃ v,(N6 t)[k]?=some v:=⟨_,List.getElem?_eq_getElem (by omega)⟩
  have aJ:=G v (List.mem_of_getElem? w)
  have T:=K k v w
  have aR:v≠0:=λh=>by rw[h,S]at T;omega
  have C:=x0j ab v.toNat (by omega) (by omega)
  unfold d0d at C ⊢
  rw[show((v.toNat:Nat):Int)=v by omega]at C
  simp only[Bool.or_eq_false_iff,Bool.not_eq_false',decide_eq_true_eq,decide_eq_false_iff_not]at C ⊢
  refine⟨?_,?_⟩
  ·rw[←T,ar v aJ.1 (by omega)];exact C.1
  ·rw[←T]
   exact(X0b _ _ _).2 (aH v ((X0b _ _ _).1 C.2))
 have ae:∀ v x:Int,0<=v->v<t.2.1->(Y0 t v x = -1/\Y0 (J3 t) (P v) x = -1)∨((0<=Y0 t v x/\Y0 t v x<t.2.1)/\Y0 (J3 t) (P v) x=P (Y0 t v x)):=λv x h0 d=>by
  rcases d08 t v x with⟨H,X⟩|H
  ·left
   refine⟨H,?_⟩
   rcases d08 (J3 t) (P v) x with⟨R,aM⟩|R
   ·exact R
   ·exfalso
    obtain⟨j,U,V⟩:=U8.1 R
    obtain⟨e,g,rfl⟩:=(O j).1 U
    have E:=A e g
    have:∃ y,y∈V00 v x t.2.2:=by
     rcases V with⟨a,b,c,_⟩|⟨a,b,c,_⟩
     ·exact⟨_,U8.2 ⟨e,g,.inl ⟨a,b,B _ _ E.1.1 E.1.2 h0 d c,rfl⟩⟩⟩
     ·exact⟨_,U8.2 ⟨e,g,.inr ⟨a,b,B _ _ E.2.1.1 E.2.1.2 h0 d c,rfl⟩⟩⟩
    obtain⟨y,ai⟩:=this
    rw[X]at ai;cases ai
  ·right
   generalize Y0 t v x=y at H
   obtain⟨e,g,V⟩:=U8.1 H
   have E:=A e g
   rcases V with⟨a,b,c,rfl⟩|⟨a,b,c,rfl⟩
   ·exact⟨E.2.1,d0c I (U8.2 ⟨_,(O _).2 ⟨e,g,rfl⟩,.inl ⟨a,b,by show P e.1=P v;rw[c],rfl⟩⟩)⟩
   ·exact⟨E.1,d0c I (U8.2 ⟨_,(O _).2 ⟨e,g,rfl⟩,.inr ⟨a,b,by show P e.2.2=P v;rw[c],rfl⟩⟩)⟩
 have aj:∀ u:List Int,gud n u->∀ x∈u,0<=x/\x<t.2.1:=λu o x s=>by have:=o.2 x s;omega
 have ax:inG (t.1,(n:Int),t.2.2):=by
  have:=A
  intro e g
  have:=A e g
  rw[ad]at this;exact this
 have au:(t.1,(n:Int),t.2.2)=t:=by
  rw[←ad]
 have an:∀(u:List Int) (y z:Int),gud n u->(y = -1/\z = -1)∨((0<=y/\y<t.2.1)/\z=P y)->r08 (u.map P) z=(r08 u y).map P:=λu y z o h=>by
  unfold r08
  rcases h with⟨rfl,rfl⟩|⟨⟨h0,d⟩,rfl⟩
  ·rw[if_neg (by omega),if_neg (by omega)]
  ·have ac:P y∈u.map P↔y∈u:=by
    constructor
    ·intro h
     obtain⟨x,s,e⟩:=List.mem_map.1 h
     have:=aj u o x s
     rw[←B x y this.1 this.2 h0 d e];exact s
    ·exact λh=>List.mem_map.2 ⟨y,h,rfl⟩
   by_cases c:y∈u
   ·rw[if_neg λq=>q.2 (ac.2 c),if_neg λq=>q.2 c]
   ·rw[if_pos ⟨(L y h0 d).1,λq=>c (ac.1 q)⟩,if_pos ⟨h0,c⟩];simp
 have al:∀(v:Int),0<=v->v<t.2.1->∀(m u:List Int),gud n u->w03 (J3 t) (P v) m (u.map P)=(w03 t v m u).map P:=λv h0 d m=>by
  induction m with
  |nil=>intro u o;rfl
  |cons x l W =>
   intro u o
   have s:Y0 t v x = -1∨(0<=Y0 t v x/\Y0 t v x<(n:Int)):=by
    rcases ae v x h0 d with⟨a,_⟩|⟨a,_⟩
    ·exact .inl a
    ·exact .inr (by omega)
   rw[w03,w03,an u _ _ o (ae v x h0 d),W _ (I0n o s)]
 have am:∀(f i:Nat) (u:List Int) (m:List Int),gud n u->a00 (J3 t) m f i (u.map P)=(a00 t m f i u).map P:=λf=>by
  induction f with
  |zero=>intro i u m o;rfl
  |succ f W =>
   intro i u m o
   unfold a00
   rw[List.getElem?_map]
   cases e:u[i]? with
   |none=>rfl
   |some v =>
    have w:=aj u o v (List.mem_of_getElem? e)
    have aw:gud n (w03 t v m u):=by
     have:=C05 ax v m u o
     rw[au]at this;exact this
    simp only[Option.map_some]
    rw[al v w.1 w.2 m u o]
    exact W (i+1) _ m aw
 have ah:N6 (J3 t)=(N6 t).map P:=by
  have d:(J3 t).1=t.1:=by rw[J]
  have p:=am (n+1) 0 [0] (r6 t.1.toNat 1) ⟨by simp,λx s=>by simp at s;subst s;omega⟩
  rw[List.map_cons,List.map_nil,S]at p
  show a00 (J3 t) (r6 (J3 t).1.toNat 1) ((J3 t).2.1.toNat+1) 0 [0]=(a00 t (r6 t.1.toNat 1) (t.2.1.toNat+1) 0 [0]).map P
  rw[d,D,Q,Int.toNat_natCast]
  exact p
 have az:∀ i:Nat,i<n->(N6 (J3 t))[i]?=some (i:Int):=λi F=>by
  rw[ah,List.getElem?_map]
  obtain⟨v,w⟩:∃ v,(N6 t)[i]?=some v:=⟨_,List.getElem?_eq_getElem (by omega)⟩
  rw[w,Option.map_some,K i v w]
 obtain⟨⟨aq,af⟩,_⟩:=N09 I
 rw[D,Int.toNat_natCast]at af
 have N:∀ x:Int,0<=x->x<(n:Int)->getI (plc n (N6 (J3 t))) x=x:=λx h0 d=>by
  have:=M0q af aq (az x.toNat (by omega))
  rw[show((x.toNat:Nat):Int)=x by omega]at this;exact this
 have aC:(N6 (J3 t)).length=n:=by rw[ah,List.length_map,ag]
 have aa:=(M2 Z).1
 have ap:J3 (J3 t)=J3 t:=by
  have aG:pE (plc n (N6 (J3 t))) (J3 t).2.2=(J3 t).2.2:=by
   rw[B0m _ _ λe g=>by
    have:=aa e g
    rw[D]at this
    exact⟨by rw[N _ this.1.1 this.1.2];exact this.1.1,by rw[N _ this.2.1.1 this.2.1.2];exact this.2.1.1⟩]
   refine(List.map_congr_left λe g=>?_).trans (List.map_id _)
   have:=aa e g
   rw[D]at this
   rw[N _ this.1.1 this.1.2,N _ this.2.1.1 this.2.1.2];rfl
  show z9 (J3 t) (N6 (J3 t))=J3 t
  unfold z9
  rw[D,Int.toNat_natCast,aG,n0l (g0d Z),aC]
  rw[←D]
 unfold j2
 rw[I,aA,ap]
 simp[M0f]
theorem P0o{g:j0}(hf:O0 g=true):j2 (j0d g)=true:=by
 have a:=l4 hf
 have:=(M2 a).2.2.1
 exact C0m (g03 40 hf) (g0g 40 a (by omega))
theorem o0l{r:Int}{w:List Int}(h:U2 r w=true):∀ k,k<=w.length->M03 [] (w.take k)=(w.take k).reverse
 |0,_=>rfl
 |k+1,i=>by
  have g:=o0l h k (by omega)
  have b:=O5 (show k<w.length by omega)
  generalize w[k]=x at b
  have f:w.take (k+1)=w.take k ++ [x]:=z0n b
  rw[f,l0g,g,List.reverse_append]
  show n03 (w.take k).reverse x=x::(w.take k).reverse
  cases k with
  |zero=>rfl
  |succ j =>
   have c:=O5 (show j<w.length by omega)
   generalize w[j]=y at c
   rw[z0n c,List.reverse_append]
   show n03 (y::(w.take j).reverse) x=_
   have d:=h
   simp only[U2,Bool.and_eq_true,decide_eq_true_eq]at d
   have a:=L09 d.2 (j+1) (Nat.zero_le _) (by omega)
   unfold n05 at a
   rw[b]at a
   simp only[Nat.add_sub_cancel,c,Bool.or_eq_false_iff,show decide (0<j+1)=true by simp,Bool.true_and]at a
   have e:e0c y x=false:=by unfold e0c ng;rw[a.2,Bool.and_false]
   simp only[n03,e,cond_false]
   rfl
theorem n0g{r:Int}{w:List Int}(h:U2 r w=true):(M03 [] w).reverse=w:=by
 have:=o0l h w.length (Nat.le_refl _)
 rw[List.take_length]at this
 rw[this,List.reverse_reverse]
def m01(g:j0)(w:List Int):Bool:=decide ((O2 g 0 w).2=w.length)&&decide ((O2 g 0 w).1=0)
theorem B5{g:j0}(h:j2 g=true):O0 g=true:=by
 unfold j2 at h
 simp only[Bool.and_eq_true]at h
 exact h.1
theorem j09{r:Int}{g:j0}{w:List Int}(i:j2 g=true)(j:U2 r w=true):t00 g w=some (m01 g w):=by
 have hf:=B5 i
 obtain⟨o,s,p,t⟩:=I1 hf
 obtain⟨u,k⟩:=O04 j
 have f:=o03 w (λx e=>(k x e).1.1) (by omega)
 rw[n0g j]at f
 have l:=t0q g hf 0 ⟨iR _,by omega⟩ w (λx e=>(k x e).1) (by omega)
 have m:=b08 g (by omega)
 have h:l3 g=some true:=by
  obtain⟨a,b,c⟩:=g
  unfold l3
  simp only[m,i,oB]
 have n:=W08 o p.2 w 0 ⟨by omega,by omega⟩
 have q:=a06 g w 0
 unfold m01
 obtain⟨a,b,c⟩:=g
 unfold t00
 simp only[f,oB,l]
 by_cases d:(O2 (a,b,c) 0 w).2<w.length
 ·simp only[decide_eq_true d,cond_true]
  rw[D0 (show J0 (-1) from⟨by omega,by omega⟩),oB,h]
  have:decide ((O2 (a,b,c) 0 w).2=w.length)=false:=decide_eq_false (by omega)
  rw[this];rfl
 ·simp only[decide_eq_false d,cond_false]
  rw[D0 n,oB,h]
  have:decide ((O2 (a,b,c) 0 w).2=w.length)=true:=decide_eq_true (by omega)
  rw[this]
  simp only[oB,cond_true,Bool.true_and]
def rdw(g:j0):Int->List Int->Option Int
 |v,[]=>some v
 |v,x::w=>if Y0 g v x<0 then none else rdw g (Y0 g v x) w
theorem e0i(g:j0):∀(w:List Int) (v u:Int),rdw g v w=some u↔((O2 g v w).2=w.length/\(O2 g v w).1=u)
 | [],v,u=>by simp[rdw,O2]
 |x::w,v,u=>by
  have a:=e0i g w (Y0 g v x) u
  unfold rdw O2
  by_cases c:Y0 g v x<0
  ·rw[if_pos c,if_pos c];simp
  ·rw[if_neg c,if_neg c,a];simp
theorem R0o(g:j0)(w:List Int):m01 g w=true↔rdw g 0 w=some 0:=by
 unfold m01
 rw[e0i];simp
theorem R0n(g:j0):∀(a b:List Int) (v:Int),rdw g v (a++b)=(rdw g v a).bind λu=>rdw g u b
 | [],b,v=>rfl
 |x::a,b,v=>by
  have d:=R0n g a b (Y0 g v x)
  show(if Y0 g v x<0 then none else rdw g (Y0 g v x) (a++b))=(if Y0 g v x<0 then none else rdw g (Y0 g v x) a).bind λu=>rdw g u b
  by_cases c:Y0 g v x<0
  ·rw[if_pos c,if_pos c];rfl
  ·rw[if_neg c,if_neg c];exact d
theorem f0i{g:j0}(hf:O0 g=true){v x u:Int}(h:Y0 g v x=u)(h0:0<=u):Y0 g u (-x)=v:=by
 rcases d08 g v x with⟨e,_⟩|e
 ·omega
 ·rw[h]at e
  obtain⟨d,i,f⟩:=U8.1 e
  refine d0c hf (U8.2 ⟨d,i,?_⟩)
  rcases f with⟨a,b,c,rfl⟩|⟨a,b,c,rfl⟩
  ·exact .inr ⟨by omega,by omega,rfl,c.symm⟩
  ·exact .inl ⟨by omega,b,rfl,c.symm⟩
structure Mor (a b:j0) (f:Int->Int):Prop where
 base:f 0=0
 rng:∀ v,0<=v->v<a.2.1->0<=f v/\f v<b.2.1
 step:∀ v x,0<=v->v<a.2.1->0<=Y0 a v x->Y0 b (f v) x=f (Y0 a v x)
theorem Mor.rdw{a b:j0}{f:Int->Int}(m:Mor a b f)(i:inG a):∀(w:List Int) (v u:Int),0<=v->v<a.2.1->rdw a v w=some u->rdw b (f v) w=some (f u)
 | [],v,u,h0,g,h=>by
  simp only[Go.Proofs.YtkjhghloldgioaaGreat.rdw,Option.some.injEq]at h ⊢
  rw[h]
 |x::w,v,u,h0,g,h=>by
  unfold Go.Proofs.YtkjhghloldgioaaGreat.rdw at h ⊢
  by_cases c:Y0 a v x<0
  ·rw[if_pos c]at h;cases h
  ·rw[if_neg c]at h
   have j:=m.step v x h0 g (by omega)
   have d:0<=Y0 a v x/\Y0 a v x<a.2.1:=by
    rcases j04 i v x with e|e
    ·omega
    ·exact e
   have k:=m.rng _ d.1 d.2
   rw[j,if_neg (by omega)]
   exact Mor.rdw m i w _ u d.1 d.2 h
theorem Mor.loop{a b:j0}{f:Int->Int}(m:Mor a b f)(c:O0 a=true){w:List Int}(h:m01 a w=true):m01 b w=true:=by
 obtain⟨d,e,g,i⟩:=I1 c
 rw[R0o]at h ⊢
 have:=m.rdw d w 0 0 (iR _) (by omega) h
 rwa [m.base]at this
abbrev Im:=List Int×List Int
def D0m(a b:Im):Prop:=(∃ t,b.2=a.2++t)/\∀ v∈a.2,getI b.1 v=getI a.1 v
theorem D0m.refl(s:Im):D0m s s:=⟨⟨[],by simp⟩,λ_ _=>rfl⟩
theorem D0m.trans{b c d:Im}(h:D0m b c)(j:D0m c d):D0m b d:=by
 obtain⟨⟨t,e⟩,f⟩:=h
 obtain⟨⟨k,g⟩,i⟩:=j
 exact⟨⟨t++k,by rw[g,e,List.append_assoc]⟩,λv a=>(i v (by rw[e];exact List.mem_append_left _ a)).trans (f v a)⟩
def S0s(a b:j0)(v x:Int)(s:Im):Prop:=0<=Y0 a v x->Y0 a v x∈s.2/\Y0 b (getI s.1 v) x=getI s.1 (Y0 a v x)
theorem S0s.le{a b:j0}{v x:Int}{c g:Im}(j:v∈c.2)(h:S0s a b v x c)(l:D0m c g):S0s a b v x g:=λh0=>by
 obtain⟨d,i⟩:=h h0
 obtain⟨⟨t,e⟩,f⟩:=l
 exact⟨by rw[e];exact List.mem_append_left _ d,by rw[f v j,f _ d];exact i⟩
theorem S0o{g:j0}(h:j2 g=true):B00 g=none:=by
 unfold j2 at h
 simp only[Bool.and_eq_true,Option.isNone_iff_eq_none]at h
 exact h.2.1
theorem T0o{a b:List Int}(c:s0a a)(d:s0a b):s0a (a++b):=λx e=>by
 rcases List.mem_append.1 e with h|h
 ·exact c x h
 ·exact d x h
theorem o05(w:List Int)(hl:w.length<=1099511627776)(n0:Nat)(hn:n0<=1099511627776):∀(d k fuel:Nat) (s:List Int),k+d=w.length->d<fuel->s.length<=n0+k ->
  z7 w fuel (k:Int) s.reverse=some (M03 s (w.drop k)).reverse
 |d,k,0,s,hk,hf,hsl=>by omega
 |0,k,fuel+1,s,hk,hf,hsl=>by
  rw[z7.eq_2,if_neg (by simp;omega),J1 (by omega)]
  rfl
 |d+1,k,fuel+1,s,hk,hf,hsl=>by
  have hkl:k<w.length:=by omega
  have hx:=O5 hkl
  generalize w[k]=x at hx
  have next:=o05 w hl n0 hn d (k+1) fuel (n03 s x) (by omega) (by omega) (by have:=l0d s x;omega)
  rw[M1 hx]
  show _=some (M03 (n03 s x) (w.drop (k+1))).reverse
  rw[←next,z7.eq_2,if_pos (by simp;omega),J2 hx,oB,oB,D0 (by rw[List.length_reverse];omega),oB,oB,oB]
  rw[Y1 hkl (by omega:w.length<=9223372036854775807)]
  cases s with
  |nil =>
   have hz:decide ((((([]:List Int).reverse).length:Nat):Int)>0)=false:=rfl
   simp only[hz,L1,oB,cond_false,Bool.false_eq_true,if_false]
   rw[D0 (by simp)]
   rfl
  |cons l t =>
   have hp:decide ((((l::t).reverse.length:Nat):Int)>0)=true:=by simp
   have hpr:IntKind.i64.wrap ((((l::t).reverse.length:Nat):Int)-1)=((t.length:Nat):Int):=by
    rw[C0f (by simp) (by simp only[List.length_cons]at hsl;simp only[List.length_reverse,List.length_cons];omega)];simp
   have hpush:(grd (((l::t).reverse.length + [x].length)*8<=140737488355328))=some ():=D0 (by simp only[List.length_cons]at hsl;simp only[List.length_reverse,List.length_cons,List.length_nil];omega)
   have hlen:(grd ((l::t).reverse.length<=9223372036854775807))=some ():=D0 (by rw[List.length_reverse];omega)
   simp only[hp,hpr,H1,oB,cond_true,J2 m0g,L0b,n03]
   have hcc:(!(l == 0) && !(l == -9223372036854775808)&&(x == IntKind.i64.wrap (0-l)))=e0c l x:=rfl
   rw[hcc]
   cases hc:e0c l x with
   |true =>
    simp only[if_true,cond_true,hlen,oB]
    rw[D0 (by simp only[List.length_reverse,List.length_cons];omega),oB,Int.toNat_natCast,d0i]
   |false =>
    simp only[Bool.false_eq_true,if_false,cond_false,hpush,hlen,oB]
    exact congrArg _ (List.reverse_cons ..).symm
def p0l:List (List Int)->Nat
 | []=>0
 |w::r=>w.length+p0l r
def E0m(s:List Int):List (List Int)->List Int
 | []=>s
 |w::r=>E0m (M03 s w) r
theorem p05(ws:List (List Int))(g:ws.length<=1099511627776):∀(d k fuel:Nat) (a:List Int),k+d=ws.length->d<fuel->a.length+p0l (ws.drop k)<=1099511627776 ->
  I8 ws fuel (k:Int) a.reverse=some (E0m a (ws.drop k)).reverse
 |d,k,0,a,e,hf,b=>by omega
 |0,k,fuel+1,a,e,hf,b=>by
  rw[I8.eq_2,if_neg (by simp;omega),J1 (by omega)]
  rfl
 |d+1,k,fuel+1,a,e,hf,b=>by
  have f:k<ws.length:=by omega
  have c:=O5 f
  generalize ws[k]=w at c
  rw[M1 c]at b ⊢
  simp only[p0l]at b
  have h:=v07 w a
  have h0:=o05 w (by omega) a.length (by omega) w.length 0 Q0 a (by omega) (C1 (by omega)) (by omega)
  rw[show((0:Nat):Int)=0 from rfl,List.drop_zero]at h0
  rw[I8.eq_2,if_pos (by simp;omega),J2 c,oB,h0,oB,Y1 f (by omega:ws.length<=9223372036854775807)]
  exact p05 ws g d (k+1) fuel (M03 a w) (by omega) (by omega) (by omega)
theorem S06(ws:List (List Int))(b:ws.length<=1099511627776)(a:p0l ws<=1099511627776):d00 ws=some (E0m [] ws).reverse:=by
 unfold d00
 have h:=p05 ws b ws.length 0 Q0 [] (by omega) (C1 (by omega)) (by simpa using a)
 rw[show((0:Nat):Int)=0 from rfl,List.drop_zero,List.reverse_nil]at h
 rw[h]
 rfl
abbrev Tr8:=List (Option (List Int))×List Int
def trS(g:j0)(v x:Int)(s:Tr8):Tr8:=if 0<=Y0 g v x/\Y0 g v x ∉ s.2 then(s.1.set (Y0 g v x).toNat (some ((C7 s.1 v).getD [] ++ [x])),s.2 ++ [Y0 g v x])else s
def R0a(g:j0)(v:Int):List Int->Tr8->Tr8
 | [],s=>s
 |x::r,s=>R0a g v r (trS g v x s)
def n04(g:j0)(b:List Int):Nat->Nat->Tr8->Tr8
 |0,i,a=>a
 |f+1,i,a=>match a.2[i]? with
  |some v=>n04 g b f (i+1) (R0a g v b a)
  |none=>a
def A3(g:j0)(p:Int):List Int:=a00 g (r6 g.1.toNat 1) (g.2.1.toNat+1) 0 [p]
def N03(g:j0)(p:Int):Tr8:=n04 g (r6 g.1.toNat 1) (g.2.1.toNat+1) 0 ((List.replicate g.2.1.toNat none).set p.toNat (some []),[p])
theorem S0n(g:j0)(v x:Int)(s:Tr8):(trS g v x s).2=r08 s.2 (Y0 g v x):=by
 unfold trS r08
 split<;>rfl
theorem o0g(g:j0)(v:Int):∀(b:List Int) (a:Tr8),(R0a g v b a).2=w03 g v b a.2
 | [],a=>rfl
 |x::r,a=>by rw[R0a,o0g g v r,S0n];rfl
theorem g0i(g:j0)(b:List Int):∀(f i:Nat) (a:Tr8),(n04 g b f i a).2=a00 g b f i a.2
 |0,i,a=>rfl
 |f+1,i,a=>by
  unfold n04 a00
  cases a.2[i]? with
  |none=>rfl
  |some v=>simp only[g0i g b f,o0g]
theorem k09(g:j0)(p:Int):(N03 g p).2=A3 g p:=g0i _ _ _ _ _
structure TOk (g:j0) (p:Int) (n:Nat) (s:Tr8):Prop where
 ok:WOk n s.1 s.2
 gd:gud n s.2
 base:p∈s.2
 word:C7 s.1 p=some []
 par:∀ y∈s.2,y≠p->∃ v∈s.2,∃ x,x∈r6 g.1.toNat 1/\Y0 g v x=y/\∃ a,C7 s.1 v=some a/\C7 s.1 y=some (a ++ [x])
 red:∀ y∈s.2,∀ a,C7 s.1 y=some a->Red a.reverse=true
theorem WOk.add{n:Nat}{b:List (Option (List Int))}{u:List Int}(a:WOk n b u){y:Int}(d:0<=y)(h:y<(n:Int))(v x:Int):WOk n (b.set y.toNat (some ((C7 b v).getD [] ++ [x]))) (u ++ [y]):=by
 have e:=a.short v
 refine⟨by simp[a.len],λz h0 f=>?_,λz=>?_⟩
 ·rw[K01 d (by have:=a.len;omega) h0]
  by_cases c:z=y
  ·rw[if_pos c];simp[c]
  ·rw[if_neg c,a.iff z h0 f];simp[c]
 ·by_cases hz:0<=z
  ·rw[K01 d (by have:=a.len;omega) hz]
   by_cases c:z=y
   ·rw[if_pos c];simp;exact e
   ·rw[if_neg c];have:=a.short z;simp only[List.length_append];omega
  ·have g:C7 (b.set y.toNat (some ((C7 b v).getD [] ++ [x]))) z=C7 (b.set y.toNat (some ((C7 b v).getD [] ++ [x]))) 0:=by
    unfold C7;rw[show z.toNat=(0:Int).toNat by omega]
   rw[g,K01 d (by have:=a.len;omega) (iR 0)]
   by_cases c:(0:Int)=y
   ·rw[if_pos c];simp;exact e
   ·rw[if_neg c];have:=a.short 0;simp only[List.length_append];omega
theorem WOk.get{n:Nat}{b:List (Option (List Int))}{u:List Int}(f:WOk n b u){v:Int}(h0:0<=v)(c:v<(n:Int))(d:v∈u):∃ a,C7 b v=some a:=by
 cases e:C7 b v with
 |none=>exact absurd d ((f.iff v h0 c).1 (by rw[e];rfl))
 |some a=>exact⟨a,rfl⟩
theorem I04{R:Nat}(b:R<=900){x:Int}(a:x∈r6 R 1):S4 x/\x≠0 /\ -(R:Int)<=x/\x<=(R:Int):=by
 obtain⟨j,c,d,e⟩:=b0c _ _ _ a
 exact⟨⟨⟨by omega,by omega⟩,by omega⟩,by omega,by omega,by omega⟩
theorem Q0q{l x:Int}(a:S4 l)(h:e0c l x=true):x = -l:=by
 unfold e0c at h
 simp only[Bool.and_eq_true,beq_iff_eq]at h
 rw[h.2];exact K0b a.1 a.2
theorem TOk.add{g:j0}(hf:O0 g=true){p:Int}{n:Nat}(S:g.2.1=(n:Int)){B:Tr8}(h:TOk g p n B){v x:Int}(j:v∈B.2)(N:x∈r6 g.1.toNat 1):TOk g p n (trS g v x B):=by
 obtain⟨Q,T,U,V⟩:=I1 hf
 unfold trS
 split
 ·rename_i c
  obtain⟨o,s⟩:=c
  have P:Y0 g v x<(n:Int):=by
   rcases j04 Q v x with e|e<;>omega
  obtain⟨m,u⟩:=B
  obtain⟨ok,q,base,I,F,G⟩:=h
  simp only at j o s ok q base I F G ⊢
  have D:=q.2 v j
  obtain⟨a,i⟩:=ok.get D.1 D.2 j
  have R:=ok.len
  have keep:∀ z∈u,C7 (m.set (Y0 g v x).toNat (some ((C7 m v).getD [] ++ [x]))) z=C7 m z:=λz K=>by
   have:=q.2 z K
   rw[K01 o (by omega) this.1,if_neg λ(e:z=Y0 g v x)=>s (by rw[←e];exact K)]
  have new:C7 (m.set (Y0 g v x).toNat (some ((C7 m v).getD [] ++ [x]))) (Y0 g v x)=some (a ++ [x]):=by
   rw[K01 o (by omega) o,if_pos rfl,i];rfl
  refine⟨ok.add o P v x,⟨List.nodup_append.2 ⟨q.1,by simp,λa i b f=>?_⟩,λy d=>?_⟩,List.mem_append_left _ base,?_,λy d O=>?_,λy d b f=>?_⟩
  ·simp at f;subst f;exact λe=>s (e▸i)
  ·rcases List.mem_append.1 d with d|d
   ·exact q.2 y d
   ·simp at d;subst d;omega
  ·rw[keep p base];exact I
  ·rcases List.mem_append.1 d with d|d
   ·obtain⟨H,A,L,E,C,b,w,k⟩:=F y d O
    exact⟨H,List.mem_append_left _ A,L,E,C,b,by rw[keep H A];exact w,by rw[keep y d];exact k⟩
   ·simp at d;subst d
    exact⟨v,List.mem_append_left _ j,x,N,rfl,a,by rw[keep v j];exact i,new⟩
  ·rcases List.mem_append.1 d with d|d
   ·rw[keep y d]at f;exact G y d b f
   ·simp at d;subst d
    rw[new]at f;cases f
    have J:=G v j a i
    rw[List.reverse_append]
    show Red (x::a.reverse)=true
    cases e:a.reverse with
    |nil=>rfl
    |cons l t =>
     rw[e]at J
     unfold Red
     rw[J,Bool.and_true]
     cases hc:e0c l x with
     |false=>rfl
     |true =>
      exfalso
      have M:v≠p:=λw=>by
       subst w
       rw[I]at i;cases i;simp at e
      obtain⟨H,A,L,E,C,b,w,k⟩:=F v j M
      rw[i]at k
      injection k with k
      rw[k,List.reverse_append]at e
      simp only[List.reverse_cons,List.reverse_nil,List.nil_append,List.cons_append,List.cons.injEq]at e
      rw[←e.1]at hc
      have:=Q0q (I04 (by omega) E).1 hc
      have f:=f0i hf C D.1
      rw[←this]at f
      exact s (f▸A)
 ·exact h
theorem J0e(g:j0)(v x:Int)(s:Tr8):∃ t,(trS g v x s).2=s.2++t:=by rw[S0n];exact W0f _ _
theorem p0g(g:j0)(v:Int)(b:List Int)(a:Tr8):∃ t,(R0a g v b a).2=a.2++t:=by rw[o0g];exact T03 _ _ _ _
theorem TOk.inn{g:j0}(hf:O0 g=true){p:Int}{n:Nat}(d:g.2.1=(n:Int)){v:Int}:∀(f:List Int) {a:Tr8},TOk g p n a->v∈a.2->(∀ x∈f,x∈r6 g.1.toNat 1)->TOk g p n (R0a g v f a)
 | [],a,h,c,b=>h
 |x::r,a,h,c,b=>by
  obtain⟨t,e⟩:=J0e g v x a
  exact TOk.inn hf d r (h.add hf d c (b x mS)) (by rw[e];exact List.mem_append_left _ c) λy i=>b y (mC _ i)
theorem TOk.out{g:j0}(hf:O0 g=true){p:Int}{n:Nat}(b:g.2.1=(n:Int)):∀(f i:Nat) {a:Tr8},TOk g p n a->TOk g p n (n04 g (r6 g.1.toNat 1) f i a)
 |0,i,a,h=>h
 |f+1,i,a,h=>by
  unfold n04
  cases e:a.2[i]? with
  |none=>exact h
  |some v=>exact TOk.out hf b f (i+1) (h.inn hf b _ (List.mem_of_getElem? e) λx c=>c)
theorem R0q(N:Nat)(x:Int):C7 (List.replicate N (none:Option (List Int))) x=none:=by
 unfold C7
 rw[List.getD_eq_getElem?_getD,List.getElem?_replicate];split<;>rfl
theorem Q09(g:j0){p:Int}{N:Nat}(d:0<=p/\p<(N:Int)):TOk g p N ((List.replicate N none).set p.toNat (some []),[p]):=by
 have f:∀ x,0<=x->C7 ((List.replicate N (none:Option (List Int))).set p.toNat (some [])) x=if x=p then some []else none:=λx h0=>by
  rw[K01 d.1 (by simp;omega) h0,R0q]
 refine⟨⟨by simp,λx h0 k=>?_,λx=>?_⟩,⟨by simp,λx j=>by simp at j;subst j;exact d⟩,by simp,?_,λy b h=>?_,λy b a i=>?_⟩
 ·simp only
  rw[f x h0]
  by_cases c:x=p
  ·rw[if_pos c];simp[c]
  ·rw[if_neg c];simp[c]
 ·have:∀ x,0<=x->((C7 ((List.replicate N (none:Option (List Int))).set p.toNat (some [])) x).getD []).length<=1:=λx h0=>by
   rw[f x h0];split<;>simp
  by_cases hz:0<=x
  ·exact this x hz
  ·have e:C7 ((List.replicate N (none:Option (List Int))).set p.toNat (some [])) x=C7 ((List.replicate N (none:Option (List Int))).set p.toNat (some [])) 0:=by
    unfold C7;rw[show x.toNat=(0:Int).toNat by omega]
   simp only
   rw[e];exact this 0 (iR 0)
 ·simp only
  rw[f p d.1,if_pos rfl]
 ·simp at b;exact absurd b h
 ·simp at b;subst b
  simp only at i
  rw[f y d.1,if_pos rfl]at i
  cases i;rfl
theorem R09{g:j0}(hf:O0 g=true){p:Int}(a:0<=p/\p<g.2.1):TOk g p g.2.1.toNat (N03 g p):=by
 obtain⟨b,c,d,e⟩:=I1 hf
 exact TOk.out hf (by omega) _ _ (Q09 g ⟨a.1,by omega⟩)
theorem p0s{g:j0}(hf:O0 g=true)(p:Int){n:Nat}(u:g.2.1=(n:Int))(b:List Int)(s:∀ x∈b,x∈r6 g.1.toNat 1)(B:b.length<=1000000)(v:Int):∀(d k fuel:Nat) (a:Tr8),TOk g p n a->v∈a.2->k+d=b.length->d<fuel ->
  I3 b g.1 g.2.1 g.2.2 v fuel (k:Int) a.1 a.2=some (R0a g v (b.drop k) a)
 |d,k,0,a,c,e,m,hf=>by omega
 |0,k,fuel+1,a,c,e,m,hf=>by
  rw[I3.eq_2,if_neg (by simp;omega),J1 (by omega)];rfl
 |d+1,k,fuel+1,a,c,e,m,G=>by
  obtain⟨z,K,F,L⟩:=I1 hf
  have q:k<b.length:=by omega
  have i:=O5 q
  have j:=s _ (List.mem_of_getElem? i)
  have o:=M1 i
  generalize b[k]=x at i j o
  have D:=(I04 (by omega) j).1
  have H:=s00 n a.2 c.gd.1 c.gd.2
  have I:=j04 z v x
  have C:=c.add hf u e j
  obtain⟨t,A⟩:=J0e g v x a
  have E:=p0s hf p u b s B v d (k+1) fuel (trS g v x a) C (by rw[A];exact List.mem_append_left _ e) (by omega) (by omega)
  have f:=c.ok
  have w:=c.gd.2 v e
  rw[I3.eq_2,if_pos (by simp;omega),o,R0a,←E]
  simp only[J2 i,oB,show(g.1,g.2.1,g.2.2)=g from rfl,Y05 g v x D (by omega),D0 (C03 z F.2 v x),Y1 q (show b.length<=9223372036854775807 by omega)]
  unfold trS
  generalize Y0 g v x=y at *
  by_cases c1:0<=y
  ·have l:y<(n:Int):=by omega
   simp only[show decide (y ≥ 0)=true by simpa using c1,H1,giO f.len c1 l,oB,cond_true]
   by_cases c2:y∈a.2
   ·have : ¬ ((C7 a.1 y).isNone=true):=λh=>(f.iff y c1 l).1 h c2
    rw[if_neg this,if_neg λh=>h.2 c2]
   ·have:(C7 a.1 y).isNone=true:=(f.iff y c1 l).2 c2
    have J:=f.short v
    rw[if_pos this,if_pos ⟨c1,c2⟩,giO f.len w.1 w.2,oB,L0n (by omega),oB,D0 (by simp;omega),oB,D0 (by simp;omega),oB]
  ·simp only[show decide (y ≥ 0)=false by simpa using c1,L1,oB,cond_false]
   rw[if_neg (by simp),if_neg λh=>c1 h.1]
theorem q0s{g:j0}(hf:O0 g=true)(p:Int){n:Nat}(d:g.2.1=(n:Int)):∀(f i fuel:Nat) (a:Tr8),TOk g p n a->i<=a.2.length->n+1<=i+f->f<fuel ->
  E5 g.1 g.2.1 g.2.2 fuel (i:Int) a.1 a.2=some (n04 g (r6 g.1.toNat 1) f i a)
 |f,i,0,a,c,j,h,hf=>by omega
 |0,i,fuel+1,a,c,j,h,hf=>by have:=s00 n a.2 c.gd.1 c.gd.2;omega
 |f+1,i,fuel+1,a,c,j,h,o=>by
  obtain⟨s,u,w,y⟩:=I1 hf
  have q:=s00 n a.2 c.gd.1 c.gd.2
  rw[E5.eq_2,oB,D0 (by omega),oB]
  by_cases hk:i<a.2.length
  ·have b:=O5 hk
   generalize a.2[i]=v at b
   have k:=List.mem_of_getElem? b
   have h0:=p0s hf p d (r6 g.1.toNat 1) (λx b=>b) (by rw[J01];omega) v (r6 g.1.toNat 1).length 0 Q0 a c k (by omega) (C1 (by rw[J01];omega))
   rw[show((0:Nat):Int)=0 from rfl,List.drop_zero]at h0
   obtain⟨t,e⟩:=p0g g v (r6 g.1.toNat 1) a
   have m:=q0s hf p d f (i+1) fuel _ (c.inn hf d _ k λx b=>b) (by rw[e,List.length_append];omega) (by omega) (by omega)
   have l:Y9 g.1=some (r6 g.1.toNat 1):=by
    have:=s0m g.1.toNat (by omega)
    rwa [show((g.1.toNat:Nat):Int)=g.1 by omega]at this
   rw[if_pos (by simpa using hk),J2 b,oB,l,oB,h0,oB]
   simp only[Y1 hk (show a.2.length<=9223372036854775807 by omega),n04,b]
   exact m
  ·have b:a.2[i]?=none:=List.getElem?_eq_none (by omega)
   rw[if_neg (by simpa using hk)]
   simp only[n04,b]
def e08(g:j0)(p:Int):List (List Int):=(N03 g p).1.map λo=>o.getD []
theorem q0g{g:j0}(hf:O0 g=true){p:Int}(f:0<=p/\p<g.2.1):O7 g p=some (A3 g p,e08 g p):=by
 obtain⟨h,i,j,l⟩:=I1 hf
 have d:g.2.1=((g.2.1.toNat:Nat):Int):=by omega
 have h0:=q0s hf p d (g.2.1.toNat+1) 0 Q0 _ (Q09 g (N:=g.2.1.toNat) ⟨f.1,by omega⟩) (by simp) (by omega) (C1 (by omega))
 have e:gi (List.replicate g.2.1.toNat (none:Option (List Int))) p=some none:=by
  have:=J2 (xs:=List.replicate g.2.1.toNat (none:Option (List Int))) (k:=p.toNat) (x:=none) (by rw[List.getElem?_replicate,if_pos (by omega)])
  rwa [show((p.toNat:Nat):Int)=p by omega]at this
 rw[←k09]
 unfold e08 N03
 obtain⟨a,b,c⟩:=g
 simp only at *
 unfold O7
 simp only
 rw[D0 (by omega),oB,e,oB]
 rw[show((0:Nat):Int)=0 from rfl]at h0
 rw[h0]
 rfl
def tw(g:j0)(p v:Int):List Int:=(C7 (N03 g p).1 v).getD []
structure W0g (g:j0) (p:Int) (t:Int->List Int):Prop where
 z:t p = []
 par:∀ y∈A3 g p,y≠p->∃ v∈A3 g p,∃ x,x∈r6 g.1.toNat 1/\Y0 g v x=y/\t y=t v ++ [x]
 red:∀ y∈A3 g p,Red (t y).reverse=true
 len:∀ y,(t y).length<=40
theorem D05{g:j0}(hf:O0 g=true){p:Int}(k:0<=p/\p<g.2.1):W0g g p (tw g p):=by
 obtain⟨o,q,s,t⟩:=I1 hf
 have h:=R09 hf k
 have e:=k09 g p
 refine⟨by unfold tw;rw[h.word];rfl,λy b n=>?_,λy b=>?_,λy=>?_⟩
 ·rw[←e]at b ⊢
  obtain⟨v,l,x,m,f,a,i,j⟩:=h.par y b n
  exact⟨v,l,x,m,f,by unfold tw;rw[i,j];rfl⟩
 ·rw[←e]at b
  have d:=h.gd.2 y b
  obtain⟨a,c⟩:=h.ok.get d.1 d.2 b
  unfold tw
  rw[c]
  exact h.red y b a c
 ·have:=h.ok.short y
  have:=s00 _ _ h.gd.1 h.gd.2
  unfold tw
  omega
theorem f05{g:j0}(hf:O0 g=true){p:Int}(a:0<=p/\p<g.2.1):gud g.2.1.toNat (A3 g p):=by
 rw[←k09];exact(R09 hf a).gd
theorem f0c(g:j0)(p:Int):∃ t,A3 g p=p::t:=by
 obtain⟨t,e⟩:=Q0a g (r6 g.1.toNat 1) (g.2.1.toNat+1) 0 [p]
 exact⟨t,e⟩
theorem W0g.ind{g:j0}{p:Int}{t:Int->List Int}(h:W0g g p t)(P:Int->Prop)(h0:P p)(d:∀ v∈A3 g p,∀ y∈A3 g p,∀ x,x∈r6 g.1.toNat 1->Y0 g v x=y->t y=t v ++ [x]->P v->P y):∀(k:Nat) (y:Int),(t y).length<=k->y∈A3 g p->P y
 |k,y,a,f=>by
  by_cases c:y=p
  ·rw[c];exact h0
  ·obtain⟨v,e,x,j,i,b⟩:=h.par y f c
   cases k with
   |zero=>rw[b]at a;simp at a
   |succ k=>exact d v e y f x j i b (W0g.ind h P h0 d k v (by rw[b]at a;simp at a;omega) e)
theorem W0g.induct{g:j0}{p:Int}{t:Int->List Int}(h:W0g g p t){P:Int->Prop}(h0:P p)(a:∀ v∈A3 g p,∀ y∈A3 g p,∀ x,x∈r6 g.1.toNat 1->Y0 g v x=y->t y=t v ++ [x]->P v->P y){y:Int}(b:y∈A3 g p):P y:=h.ind P h0 a _ y (Nat.le_refl _) b
theorem V0r{g:j0}{v x y:Int}(h:Y0 g v x=y)(h0:0<=y):rdw g v [x]=some y:=by
 unfold rdw
 rw[if_neg (by omega),h];rfl
theorem W0g.rd{g:j0}(hf:O0 g=true){p:Int}(d:0<=p/\p<g.2.1){t:Int->List Int}(h:W0g g p t){y:Int}(a:y∈A3 g p):rdw g p (t y)=some y:=by
 refine h.induct (P:=λy=>rdw g p (t y)=some y) ?_ (λv f y a x i b c e=>?_) a
 ·rw[h.z];rfl
 ·rw[c,R0n,e,oB]
  exact V0r b ((f05 hf d).2 y a).1
theorem W0g.let{g:j0}{p:Int}{t:Int->List Int}(h:W0g g p t){y:Int}(c:y∈A3 g p):∀ x∈t y,x∈r6 g.1.toNat 1:=by
 refine h.induct (P:=λy=>∀ x∈t y,x∈r6 g.1.toNat 1) ?_ (λv i y c x b f d e=>?_) c
 ·rw[h.z];exact λx b=>by cases b
 ·rw[d]
  intro z a
  rcases List.mem_append.1 a with a|a
  ·exact e z a
  ·simp at a;rw[a];exact b
def W0d(w:List Int):Int:=w.getLastD 0
theorem h0i(a:List Int)(x:Int):W0d (a ++ [x])=x:=by unfold W0d;simp
def tE(g:j0)(v:Int):K0:=stp (Y0 g v (-(W0d (tw g 0 v)))) (W0d (tw g 0 v)) v
def o04(g:j0):List K0:=Y5 P0 [] ((A3 g 0).tail.map (tE g))
theorem r0g{g:j0}(hf:O0 g=true){p:Int}(b:0<=p/\p<g.2.1){v:Int}(d:0<=v/\v<g.2.1):gi (e08 g p) v=some (tw g p v):=by
 have h:=R09 hf b
 have c:=h.ok.len
 have a:v.toNat<(N03 g p).1.length:=by omega
 have:=J2 (xs:=e08 g p) (k:=v.toNat) (x:=tw g p v) (by
  unfold e08 tw C7
  rw[List.getElem?_map,List.getElem?_eq_getElem a,List.getD_eq_getElem?_getD,List.getElem?_eq_getElem a];rfl)
 rwa [show((v.toNat:Nat):Int)=v by omega]at this
theorem S0q{g:j0}(hf:O0 g=true){v:Int}:v∈(A3 g 0).tail↔v∈A3 g 0/\v≠0:=by
 obtain⟨f,i,j,k⟩:=I1 hf
 obtain⟨t,e⟩:=f0c g 0
 have b:=(f05 hf (p:=0) ⟨by omega,by omega⟩).1
 rw[e]at b ⊢
 have:=(List.nodup_cons.1 b).1
 constructor
 ·intro h
  exact⟨mC _ h,λc=>this (c▸h)⟩
 ·rintro⟨a,d⟩
  rcases List.mem_cons.1 a with a|a
  ·exact absurd a d
  ·exact a
theorem T0n{g:j0}(hf:O0 g=true):∀(d k fuel:Nat) (acc:List K0),k+d=(A3 g 0).tail.length->d<fuel->acc.length<=k ->
  g7 (A3 g 0).tail (e08 g 0) g.1 g.2.1 g.2.2 fuel (k:Int) acc=some (acc++((A3 g 0).tail.drop k).map (tE g))
 |d,k,0,acc,j,s,i=>by omega
 |0,k,fuel+1,acc,j,s,i=>by
  rw[g7.eq_2,if_neg (by simp only[decide_eq_true_eq];omega),J1 (by omega)];simp
 |d+1,k,fuel+1,acc,j,F,i=>by
  obtain⟨C,L,D,M⟩:=I1 hf
  have f:(0:Int)<=0/\(0:Int)<g.2.1:=⟨by omega,by omega⟩
  have h:=D05 hf f
  have e:=f05 hf f
  have G:=s00 _ _ e.1 e.2
  have m:k<(A3 g 0).tail.length:=by omega
  have J:(A3 g 0).tail.length<=40:=by rw[List.length_tail];omega
  have b:=O5 m
  have n:=List.mem_of_getElem? b
  have l:=M1 b
  generalize (A3 g 0).tail[k]=v at b n l
  obtain⟨o,z⟩:=(S0q hf).1 n
  have A:=e.2 v o
  obtain⟨u,K,x,B,E,c⟩:=h.par v o z
  have a:=I04 (by omega) B
  have H:(tw g 0 v).length=(tw g 0 u).length+1:=by rw[c];simp
  have I:=h.len u
  have q:gi (tw g 0 v) (IntKind.i64.wrap (((tw g 0 v).length:Nat)-1))=some x:=by
   rw[w64 (by omega) (by omega),show(((tw g 0 v).length:Nat):Int)-1=(((tw g 0 u).length:Nat):Int) by omega]
   refine J2 ?_
   rw[c,List.getElem?_append_right (Nat.le_refl _)];simp
  have y:tE g v=stp (Y0 g v (-x)) x v:=by unfold tE;rw[c,h0i]
  have w:S4 (-x):=⟨⟨by have:=a.2.2;omega,by have:=a.2.2;omega⟩,by have:=a.2.2;omega⟩
  have p:=T0n hf d (k+1) fuel (acc ++ [tE g v]) (by omega) (by omega) (by simp;omega)
  rw[g7.eq_2,if_pos (by simp only[decide_eq_true_eq];omega),J2 b,oB,r0g hf f ⟨A.1,by omega⟩,oB,q,oB,K0b a.1.1 a.1.2,show(g.1,g.2.1,g.2.2)=g from rfl,Y05 g v (-x) w (by omega),oB,D0 (C03 C D.2 v _),oB,v0m _ x v a.1,oB,←y,Y1 m (by omega),l,List.map_cons]
  generalize tE g v=t at p ⊢
  obtain⟨N,O,P⟩:=t
  simp only
  rw[D0 (by simp;omega),oB]
  rw[p]
  simp
theorem q0l{g:j0}(hf:O0 g=true):R01 g=some (o04 g):=by
 obtain⟨n,o,p,q⟩:=I1 hf
 have f:(0:Int)<=0/\(0:Int)<g.2.1:=⟨by omega,by omega⟩
 have d:=f05 hf f
 have m:=s00 _ _ d.1 d.2
 have i:=q0g hf f
 obtain⟨t,h⟩:=f0c g 0
 have j:j06 (A3 g 0) 1 (((A3 g 0).length:Nat):Int)=some (A3 g 0).tail:=by
  have:=L03 (xs:=A3 g 0) (k:=1) (by rw[h];simp)
  rw[show((1:Nat):Int)=1 from rfl]at this
  rw[this,List.drop_one]
 have e:=T0n hf (A3 g 0).tail.length 0 Q0 [] (by omega) (C1 (by rw[List.length_tail];omega)) (by simp)
 rw[show((0:Nat):Int)=0 from rfl,List.drop_zero,List.nil_append]at e
 have l:=V0b ((A3 g 0).tail.map (tE g)) (by rw[List.length_map,List.length_tail];omega)
 unfold o04
 obtain⟨a,b,c⟩:=g
 simp only at *
 unfold R01
 simp only[i,oB,j,e,l]
def C02(g:j0):List K0:=g.2.2.filter λe => !decide (e∈o04 g)
theorem i0i{g:j0}(hf:O0 g=true):(o04 g).length<=40:=by
 obtain⟨c,d,e,f⟩:=I1 hf
 have a:=f05 hf (p:=0) ⟨by omega,by omega⟩
 have b:=s00 _ _ a.1 a.2
 unfold o04
 have:=N02 ((A3 g 0).tail.map (tE g)) []
 rw[List.length_map,List.length_tail,List.length_nil]at this
 omega
theorem U0n(a:List K0)(q:a.length<=1000)(es:List K0)(t:es.length<=1000):∀(d k fuel:Nat) (acc:List K0),k+d=es.length->d<fuel->acc.length<=k ->
  H5 es a fuel (k:Int) acc=some (acc++(es.drop k).filter λe => !decide (e∈a))
 |d,k,0,acc,l,s,j=>by omega
 |0,k,fuel+1,acc,l,s,j=>by
  rw[H5.eq_2,if_neg (by simp only[decide_eq_true_eq];omega),J1 (by omega)];simp
 |d+1,k,fuel+1,acc,l,u,j=>by
  have n:k<es.length:=by omega
  have b:=O5 n
  have m:=M1 b
  generalize es[k]=e at b m
  have o:=λp h=>U0n a q es t d (k+1) fuel p (by omega) (by omega) h
  obtain⟨f,g,i⟩:=e
  rw[H5.eq_2,if_pos (by simp only[decide_eq_true_eq];omega),J2 b,oB]
  simp only[x0m a (f,g,i) (by omega),oB,Y1 n (show es.length<=9223372036854775807 by omega),m,List.filter_cons]
  by_cases c:(f,g,i)∈a
  ·simp only[decide_eq_true c,Bool.not_true,Bool.false_eq_true,if_false]
   exact o acc (by omega)
  ·simp only[decide_eq_false c,Bool.not_false,if_true]
   rw[D0 (by simp;omega),oB,o _ (by simp;omega)]
   simp
theorem W0r{g:j0}(hf:O0 g=true):q01 g=some (C02 g):=by
 obtain⟨i,j,k,l⟩:=I1 hf
 have e:=Z9 g (by omega)
 have f:=q0l hf
 have h:=i0i hf
 have d:=U0n (o04 g) (by omega) g.2.2 (by omega) g.2.2.length 0 Q0 [] (by omega) (C1 (by omega)) (by simp)
 rw[show((0:Nat):Int)=0 from rfl,List.drop_zero,List.nil_append]at d
 unfold C02
 obtain⟨a,b,c⟩:=g
 simp only at *
 unfold q01
 simp only[e,hf,oB,f,Bool.not_true,Bool.false_eq_true,if_false,d]
theorem m0d{g:j0}{e:K0}:e∈C02 g↔e∈g.2.2/\e ∉ o04 g:=by
 unfold C02
 rw[List.mem_filter]
 simp
def bw(g:j0)(e:K0):List Int:=tw g 0 e.1 ++ [e.2.1]++inv (tw g 0 e.2.2)
def D03(g:j0):List (List Int):=(C02 g).map λe=>(M03 [] (bw g e)).reverse
theorem T0s{g:j0}(hf:O0 g=true)(e:K0):(bw g e).length<=81:=by
 obtain⟨d,f,h,i⟩:=I1 hf
 have a:=D05 hf (p:=0) ⟨by omega,by omega⟩
 have b:=a.len e.1
 have c:=a.len e.2.2
 unfold bw
 simp only[List.length_append,y05,List.length_singleton]
 omega
theorem V0n{g:j0}(hf:O0 g=true)(es:List K0)(m:∀ e∈es,e∈g.2.2)(v:es.length<=1000):∀(d k fuel:Nat) (acc:List (List Int)),k+d=es.length->d<fuel->acc.length<=k ->
  K8 es (e08 g 0) fuel (k:Int) acc=some (acc++(es.drop k).map λe=>(M03 [] (bw g e)).reverse)
 |d,k,0,acc,j,u,i=>by omega
 |0,k,fuel+1,acc,j,u,i=>by
  rw[K8.eq_2,if_neg (by simp only[decide_eq_true_eq];omega),J1 (by omega)];simp
 |d+1,k,fuel+1,acc,j,B,i=>by
  obtain⟨x,C,D,E⟩:=I1 hf
  have b:(0:Int)<=0/\(0:Int)<g.2.1:=⟨by omega,by omega⟩
  have f:=D05 hf b
  have o:k<es.length:=by omega
  have a:=O5 o
  have n:=m _ (List.mem_of_getElem? a)
  have l:=M1 a
  generalize es[k]=e at a l n
  have c:=x e n
  have s:=f.len e.1
  have t:=f.len e.2.2
  have w:=λq h=>V0n hf es m v d (k+1) fuel q (by omega) (by omega) h
  have p:d00 [tw g 0 e.1,[e.2.1],inv (tw g 0 e.2.2)]=some (M03 [] (bw g e)).reverse:=by
   rw[S06 _ (by simp) (by simp only[p0l,y05,List.length_singleton];omega)]
   unfold bw E0m
   simp only[E0m,l0g]
  obtain⟨y,z,A⟩:=e
  rw[K8.eq_2,if_pos (by simp only[decide_eq_true_eq];omega),J2 a,oB]
  simp only at c p s t ⊢
  rw[r0g hf b c.1,oB,oB,r0g hf b c.2.1,oB,H04 _ (by omega),oB,oB,p,oB,oB,D0 (by simp;omega),oB,Y1 o (show es.length<=9223372036854775807 by omega),w _ (by simp;omega),l]
  simp
theorem X0r{g:j0}(f:j2 g=true):T02 g=some (D03 g):=by
 have hf:=B5 f
 obtain⟨m,n,o,q⟩:=I1 hf
 have h:=p01 g (by omega)
 have i:=W0r hf
 have j:=q0g hf (p:=0) ⟨by omega,by omega⟩
 have l:(C02 g).length<=g.2.2.length:=List.length_filter_le _ _
 have d:=V0n hf (C02 g) (λe k=>(m0d.1 k).1) (by omega) (C02 g).length 0 Q0 [] (by omega) (C1 (by omega)) (by simp)
 rw[show((0:Nat):Int)=0 from rfl,List.drop_zero,List.nil_append]at d
 unfold D03
 obtain⟨a,b,c⟩:=g
 simp only at *
 unfold T02
 simp only[h,f,oB,i,j,Bool.not_true,Bool.false_eq_true,if_false,d]
theorem U0s{x:Int}(h:S4 x):ng x = -x:=K0b h.1 h.2
theorem F0m{x:Int}(h:S4 x):S4 (-x):=⟨⟨by have:=h.1.2;have:=h.2;omega,by have:=h.1.1;have:=h.2;omega⟩,by have:=h.1.2;omega⟩
theorem y0j{w:List Int}(a:∀ x∈w,S4 x):∀ x∈inv w,S4 x:=λx b=>by
 simp only[inv,List.mem_reverse,List.mem_map]at b
 obtain⟨y,c,rfl⟩:=b
 rw[U0s (a y c)];exact F0m (a y c)
theorem U0o{s:List Int}{x y:Int}(h:y∈n03 s x):y∈s∨y=x:=by
 cases s with
 |nil=>simp[n03]at h;exact .inr h
 |cons l t =>
  simp only[n03]at h
  cases c:e0c l x with
  |true=>rw[c]at h;exact .inl (mC _ h)
  |false =>
   rw[c]at h
   rcases List.mem_cons.1 h with h|h
   ·exact .inr h
   ·exact .inl h
theorem r0l:∀(w s:List Int) {y:Int},y∈M03 s w->y∈s∨y∈w
 | [],s,y,h => .inl h
 |x::w,s,y,h=>by
  rcases r0l w (n03 s x) h with h|h
  ·rcases U0o h with h|rfl
   ·exact .inl h
   ·exact .inr mS
  ·exact .inr (mC _ h)
theorem T0q{g:j0}(h:j2 g=true){v:Int}(h0:0<=v)(a:v<g.2.1):v∈A3 g 0:=a0i (B5 h) (S0o h) h0 a
theorem s0g{g:j0}(a:j2 g=true){v:Int}(h0:0<=v)(b:v<g.2.1):∀ x∈tw g 0 v,S4 x/\x≠0:=λx d=>by
 have hf:=B5 a
 obtain⟨e,f,h,i⟩:=I1 hf
 have c:=D05 hf (p:=0) ⟨by omega,by omega⟩
 have:=I04 (by omega) (c.let (T0q a h0 b) x d)
 exact⟨this.1,this.2.1⟩
theorem V0o{g:j0}(c:j2 g=true){e:K0}(d:e∈g.2.2):∀ x∈bw g e,S4 x:=λx a=>by
 obtain⟨h,i,j,k⟩:=I1 (B5 c)
 have b:=h e d
 unfold bw at a
 rcases List.mem_append.1 a with a|a
 ·rcases List.mem_append.1 a with a|a
  ·exact(s0g c b.1.1 b.1.2 x a).1
  ·simp at a;subst a
   exact⟨⟨by omega,by omega⟩,by omega⟩
 ·exact y0j (λy f=>(s0g c b.2.1.1 b.2.1.2 y f).1) x a
def T06(b:j0)(ws:List (List Int)):Bool:=j2 b&&ws.all λw=>m01 b (M03 [] w).reverse
theorem j0i(g:j0):∀ d k,(q0a g d k).length<=d*(r6 g.1.toNat 1).length
 |0,k=>Nat.zero_le _
 |d+1,k=>by
  have a:=P09 g (k:Int) (r6 g.1.toNat 1)
  have b:=j0i g d (k+1)
  rw[q0a,List.length_append,Nat.succ_mul]
  omega
theorem X0d{g:j0}(hf:O0 g=true):(P01 g).length<=1000:=by
 obtain⟨b,c,d,e⟩:=I1 hf
 have h:=j0i g g.2.1.toNat 0
 rw[J01]at h
 unfold P01
 have a:g.2.1.toNat*(2*g.1.toNat)<=40*(2*3):=Nat.mul_le_mul (by omega) (by omega)
 omega
def P04(g:j0):Bool:=j2 g&&decide ((P01 g).length=0)
theorem r0t(n:Nat):decide (((n:Nat):Int)=0)=decide (n=0):=by
 by_cases c:n=0
 ·rw[decide_eq_true c,decide_eq_true (by omega)]
 ·rw[decide_eq_false c,decide_eq_false (by omega)]
theorem w07{g:j0}(h:j2 g=true):O0 g=true:=by
 unfold j2 at h
 simp only[Bool.and_eq_true]at h
 exact h.1
theorem s0l(g:j0)(i:g.2.2.length<=140737488355328):e00 g=some (P04 g):=by
 have d:=b08 g i
 have f:j2 g=true->c9 g=some (P01 g):=λc=>U0g (w07 c)
 have h:j2 g=true->(P01 g).length<=1000:=λc=>X0d (w07 c)
 unfold P04
 obtain⟨a,b,c⟩:=g
 unfold e00 l3
 simp only[d,oB]
 cases e:j2 (a,b,c)with
 |false=>rfl
 |true =>
  have:=h e
  simp only[H1,f e,oB,cond_true,Bool.true_and]
  rw[D0 (by omega),oB,r0t]
theorem t0l(g:j0)(i:g.2.2.length<=140737488355328):f00 g=some (P04 g):=by
 have d:=p01 g i
 have f:j2 g=true->d9 g=some (P01 g):=λc=>V0g (w07 c)
 have h:j2 g=true->(P01 g).length<=1000:=λc=>X0d (w07 c)
 unfold P04
 obtain⟨a,b,c⟩:=g
 unfold f00
 simp only[d,oB]
 cases e:j2 (a,b,c)with
 |false=>rfl
 |true =>
  have:=h e
  simp only[H1,f e,oB,cond_true,Bool.true_and]
  rw[D0 (by omega),oB,r0t]
theorem U0q{g:j0}(h:P04 g=true):j2 g=true:=by
 unfold P04 at h
 simp only[Bool.and_eq_true]at h
 exact h.1
def k08(g:j0)(v:Int):List Int:=v::wo v.toNat g.2.1.toNat 0
def n0d(g:j0)(v:Int):j0:=j0d (z9 g (k08 g v))
theorem V0q(g:Nat):∀(d k:Nat),(g:Int) ∉ wo g d k
 |0,k,h=>nomatch h
 |d+1,k,h=>by
  unfold wo at h
  split at h
  ·exact V0q g d (k+1) h
  ·rcases List.mem_cons.1 h with h|h
   ·omega
   ·exact V0q g d (k+1) h
theorem t0g{g:j0}(hf:O0 g=true){v:Int}(b:0<=v/\v<g.2.1):inV g.2.1.toNat (k08 g v)/\(k08 g v).Nodup/\(k08 g v).length=g.2.1.toNat:=by
 obtain⟨c,d,e,f⟩:=I1 hf
 refine⟨λx a=>?_,?_,?_⟩
 ·rcases List.mem_cons.1 a with rfl|a
  ·omega
  ·exact P0k _ _ _ _ (by omega) x a
 ·refine List.nodup_cons.2 ⟨λh=>?_,h09 _ _ _⟩
  have:=V0q v.toNat g.2.1.toNat 0
  rw[show((v.toNat:Nat):Int)=v by omega]at this
  exact this h
 ·unfold k08
  rw[List.length_cons,a0g,if_pos (by omega)]
  omega
theorem o0d{g:j0}(hf:O0 g=true){v:Int}(c:0<=v/\v<g.2.1):O0 (z9 g (k08 g v))=true:=by
 obtain⟨e,f,h,i⟩:=I1 hf
 obtain⟨a,b,d⟩:=t0g hf c
 exact i09 hf a b (by omega) (by omega)
theorem W0o{g:j0}(hf:O0 g=true){v:Int}(a:0<=v/\v<g.2.1):j2 (n0d g v)=true:=P0o (o0d hf a)
theorem W0q(n:Nat)(v:Int)(h0:0<=v)(i:n<=1000):∀(d k fuel:Nat) (acc:List Int),k+d=n->d<fuel->acc.length<=k+1 ->
  V4 (n:Int) v fuel (k:Int) acc=some (acc++wo v.toNat d k)
 |d,k,0,acc,b,hf,a=>by omega
 |0,k,fuel+1,acc,b,hf,a=>by
  rw[V4.eq_2,if_neg (by simp only[decide_eq_true_eq];omega)];simp[wo]
 |d+1,k,fuel+1,acc,b,hf,a=>by
  have f:=λg h=>W0q n v h0 i d (k+1) fuel g (by omega) (by omega) h
  rw[V4.eq_2,if_pos (by simp only[decide_eq_true_eq];omega),Y1 (show k<10000 by omega) (by omega)]
  unfold wo
  by_cases c:k=v.toNat
  ·have e:decide ((k:Int)=v)=true:=decide_eq_true (by omega)
   rw[e,if_neg (by simp),if_pos c,f _ (by omega)]
  ·have e:decide ((k:Int)=v)=false:=decide_eq_false (by omega)
   rw[e,if_pos (show(!false)=true from rfl),if_neg c,D0 (by simp;omega),oB,f _ (by simp;omega)]
   simp
theorem r0s(n:Nat)(v:Int):∀(fuel:Nat) (k:Int) (acc:List Int),R7 (n:Int) v fuel k acc=V4 (n:Int) v fuel k acc
 |0,k,acc=>rfl
 |fuel+1,k,acc=>by
  rw[R7.eq_2,V4.eq_2]
  simp only[r0s n v fuel]
theorem G0m{g:j0}(hf:O0 g=true){v:Int}(e:0<=v/\v<g.2.1):g8 g v=some (n0d g v,true):=by
 obtain⟨p,s,l,t⟩:=I1 hf
 obtain⟨i,j,m⟩:=t0g hf e
 have h:=A6 g (by omega)
 rw[hf]at h
 have d:=W0q g.2.1.toNat v e.1 (by omega) g.2.1.toNat 0 Q0 [v] (by omega) (C1 (by omega)) (by simp)
 have k:=z0m (o0d hf e)
 have f:=N0a g.1 g.2.1.toNat g.2.2 (k08 g v) (by rw[show((g.2.1.toNat:Nat):Int)=g.2.1 by omega];exact l4 hf) i j (by omega) (by omega)
 rw[show((0:Nat):Int)=0 from rfl]at d
 rw[show((g.2.1.toNat:Nat):Int)=g.2.1 by omega]at d f
 rw[show [v]++wo v.toNat g.2.1.toNat 0=k08 g v from rfl]at d
 rw[show(g.1,g.2.1,g.2.2)=g from rfl]at f
 unfold n0d
 generalize k08 g v=o at *
 generalize n:z9 g o=q at *
 obtain⟨a,b,c⟩:=g
 obtain⟨u,w,x⟩:=q
 simp only at d e l ⊢
 unfold g8
 simp only[h,oB,Bool.not_true,Bool.not_false,H1,y02,cond_false]
 rw[w64 (by omega) (by omega),show inR 0 (b-1) v=true by simp[inR];omega]
 simp only[Bool.not_true,Bool.false_eq_true,if_false,d,oB,f,k]
theorem H0m{g:j0}(hf:O0 g=true){v:Int}(f:0<=v/\v<g.2.1):o9 g v=some (n0d g v,true):=by
 obtain⟨n,w,p,x⟩:=I1 hf
 obtain⟨j,s,t⟩:=t0g hf f
 have i:=Z9 g (by omega)
 rw[hf]at i
 have m:=J0q (l4 hf) f
 have d:=W0q g.2.1.toNat v f.1 (by omega) g.2.1.toNat 0 Q0 [v] (by omega) (C1 (by omega)) (by simp)
 rw[←r0s]at d
 have k:=A0m (o0d hf f)
 have h:=j0j g.1 g.2.1.toNat g.2.2 (k08 g v) (λe l=>by have:=n e l;omega) j (by omega) (by omega) (by omega)
 rw[show((0:Nat):Int)=0 from rfl]at d
 rw[show((g.2.1.toNat:Nat):Int)=g.2.1 by omega]at d h
 rw[show [v]++wo v.toNat g.2.1.toNat 0=k08 g v from rfl]at d
 rw[show(g.1,g.2.1,g.2.2)=g from rfl]at h
 unfold n0d
 generalize k08 g v=o at *
 generalize u:z9 g o=q at *
 obtain⟨a,b,c⟩:=g
 obtain⟨y,z,A⟩:=q
 simp only at d f p ⊢
 unfold o9
 simp only[i,oB,Bool.not_true,Bool.not_false,H1,m,cond_false]
 simp only[Bool.false_eq_true,if_false,d,oB,h,k]
theorem u0l{g:j0}(h:j2 g=true):g.2.2.length<=120/\(1<=g.2.1/\g.2.1<=40)/\(1<=g.1/\g.1<=3):=by
 obtain⟨d,a,b,c⟩:=I1 (w07 h)
 exact⟨c,b,a⟩
def isS(o:Option (List Int)):Bool:=o.isSome
def gtD(o:Option (List Int)):List Int:=o.getD []
theorem giM{b e:Type}{f:b->e}{a:List b}{n:Nat}(h:a.length=n){x:Int}(h0:0<=x)(g:x<(n:Int)){y:b}(d:gi a x=some y):gi (a.map f) x=some (f y):=by
 obtain⟨_,c⟩:=a0j d
 have:=J2 (xs:=a.map f) (k:=x.toNat) (x:=f y) (by rw[List.getElem?_map,c];rfl)
 rwa [show((x.toNat:Nat):Int)=x by omega]at this
theorem X0q{g:j0}(hf:O0 g=true)(p:Int){n:Nat}(G:g.2.1=(n:Int))(j:List Int)(F:∀ x∈j,x∈r6 g.1.toNat 1)(N:j.length<=1000000)(i:Nat)(v:Int):∀(d k fuel:Nat) (c:Tr8),TOk g p n c->c.2[i]?=some v->k+d=j.length->d<fuel ->
  P6 j (i:Int) g.1 g.2.1 g.2.2 fuel (k:Int) (c.1.map isS) (c.1.map gtD) c.2=some ((R0a g v (j.drop k) c).1.map isS,(R0a g v (j.drop k) c).1.map gtD,(R0a g v (j.drop k) c).2)
 |d,k,0,c,m,u,C,hf=>by omega
 |0,k,fuel+1,c,m,u,C,hf=>by
  rw[P6.eq_2,if_neg (by simp only[decide_eq_true_eq];omega),J1 (by omega)];rfl
 |d+1,k,fuel+1,c,m,w,C,T=>by
  obtain⟨I,W,S,X⟩:=I1 hf
  have E:k<j.length:=by omega
  have z:=O5 E
  have B:=F _ (List.mem_of_getElem? z)
  have D:=M1 z
  generalize j[k]=x at z B D
  have Q:=(I04 (by omega) B).1
  have U:=s00 n c.2 m.gd.1 m.gd.2
  have V:=j04 I v x
  have u:=List.mem_of_getElem? w
  have O:=m.add hf G u B
  obtain⟨t,J⟩:=J0e g v x c
  have R:=X0q hf p G j F N i v d (k+1) fuel (trS g v x c) O (by rw[J,List.getElem?_append_left (List.getElem?_eq_some_iff.1 w).1];exact w) (by omega) (by omega)
  have l:=m.ok
  have o:=m.gd.2 v u
  have H:=l.short v
  obtain⟨a,A⟩:=l.get o.1 o.2 u
  have P:gi c.1 v=some (some a):=by rw[giO l.len o.1 o.2,A]
  rw[A]at H
  rw[P6.eq_2,if_pos (by simp only[decide_eq_true_eq];omega),D,R0a,←R]
  simp only[J2 w,J2 z,oB,show(g.1,g.2.1,g.2.2)=g from rfl,G04 g v x Q (by omega),D0 (C03 I S.2 v x),Y1 E (show j.length<=9223372036854775807 by omega),giM (f:=gtD) l.len o.1 o.2 P]
  unfold trS
  generalize Y0 g v x=y at *
  by_cases c1:0<=y
  ·have q:y<(n:Int):=by omega
   have M:=giM (f:=isS) l.len c1 q (giO l.len c1 q)
   have L:=giM (f:=gtD) l.len c1 q (giO l.len c1 q)
   simp only[show decide (y ≥ 0)=true by simpa using c1,H1,M,L,oB,cond_true]
   by_cases c2:y∈c.2
   ·have:isS (C7 c.1 y)=true:=by
     have s : ¬ ((C7 c.1 y).isNone=true):=λh=>(l.iff y c1 q).1 h c2
     unfold isS
     cases e:C7 c.1 y with
     |none=>rw[e]at s;exact absurd rfl s
     |some b=>rfl
    rw[this,if_neg (by simp),if_neg λh=>h.2 c2]
   ·have:isS (C7 c.1 y)=false:=by
     have s:(C7 c.1 y).isNone=true:=(l.iff y c1 q).2 c2
     unfold isS
     cases e:C7 c.1 y with
     |none=>rfl
     |some b=>rw[e]at s;cases s
    have K:gtD (some a)=a:=rfl
    simp only[Option.getD_some]at H
    rw[this,if_pos (by simp),if_pos ⟨c1,c2⟩,K,D0 (by omega),oB,D0 (by simp;omega),oB,D0 (by simp;omega),oB,A]
    simp only[List.map_set,Option.getD_some]
    rfl
  ·simp only[show decide (y ≥ 0)=false by simpa using c1,L1,oB,cond_false]
   rw[if_neg (by simp),if_neg λh=>c1 h.1]
theorem Y0q{g:j0}(hf:O0 g=true)(p:Int){n:Nat}(d:g.2.1=(n:Int)):∀(f i fuel:Nat) (a:Tr8),TOk g p n a->i<=a.2.length->n+1<=i+f->f<fuel ->
  Y8 (r6 g.1.toNat 1) g.1 g.2.1 g.2.2 fuel (i:Int) (a.1.map isS) (a.1.map gtD) a.2=some ((n04 g (r6 g.1.toNat 1) f i a).1.map isS,(n04 g (r6 g.1.toNat 1) f i a).1.map gtD,(n04 g (r6 g.1.toNat 1) f i a).2)
 |f,i,0,a,c,j,h,hf=>by omega
 |0,i,fuel+1,a,c,j,h,hf=>by have:=s00 n a.2 c.gd.1 c.gd.2;omega
 |f+1,i,fuel+1,a,c,j,h,m=>by
  obtain⟨q,s,u,w⟩:=I1 hf
  have o:=s00 n a.2 c.gd.1 c.gd.2
  rw[Y8.eq_2,oB,D0 (by omega),oB]
  by_cases hk:i<a.2.length
  ·have b:=O5 hk
   generalize a.2[i]=v at b
   have k:=List.mem_of_getElem? b
   have h0:=X0q hf p d (r6 g.1.toNat 1) (λx b=>b) (by rw[J01];omega) i v (r6 g.1.toNat 1).length 0 Q0 a c b (by omega) (C1 (by rw[J01];omega))
   rw[show((0:Nat):Int)=0 from rfl,List.drop_zero]at h0
   obtain⟨t,e⟩:=p0g g v (r6 g.1.toNat 1) a
   have l:=Y0q hf p d f (i+1) fuel _ (c.inn hf d _ k λx b=>b) (by rw[e,List.length_append];omega) (by omega) (by omega)
   rw[if_pos (by simpa using hk),h0,oB]
   simp only[Y1 hk (show a.2.length<=9223372036854775807 by omega),n04,b]
   exact l
  ·have b:a.2[i]?=none:=List.getElem?_eq_none (by omega)
   rw[if_neg (by simpa using hk)]
   simp only[n04,b]
theorem z0j{g:j0}(hf:O0 g=true){p:Int}(i:0<=p/\p<g.2.1):q02 g p=some ((N03 g p).1.map isS,(N03 g p).1.map gtD):=by
 obtain⟨l,m,n,o⟩:=I1 hf
 have h:g.2.1=((g.2.1.toNat:Nat):Int):=by omega
 have h0:=Y0q hf p h (g.2.1.toNat+1) 0 Q0 _ (Q09 g (N:=g.2.1.toNat) ⟨i.1,by omega⟩) (by simp) (by omega) (C1 (by omega))
 have d:=l0j g.1.toNat (by omega)
 rw[show((g.1.toNat:Nat):Int)=g.1 by omega]at d
 have rep:∀ {j:Type} (z:j),gi (List.replicate g.2.1.toNat z) p=some z:=λz=>by
  have:=J2 (xs:=List.replicate g.2.1.toNat z) (k:=p.toNat) (x:=z) (by rw[List.getElem?_replicate,if_pos (by omega)])
  rwa [show((p.toNat:Nat):Int)=p by omega]at this
 have e:((List.replicate g.2.1.toNat (none:Option (List Int))).set p.toNat (some [])).map isS=(List.replicate g.2.1.toNat false).set p.toNat true:=by
  rw[List.map_set,List.map_replicate];rfl
 have f:((List.replicate g.2.1.toNat (none:Option (List Int))).set p.toNat (some [])).map gtD=(List.replicate g.2.1.toNat ([]:List Int)).set p.toNat []:=by
  rw[List.map_set,List.map_replicate];rfl
 rw[e,f]at h0
 unfold N03
 obtain⟨a,b,c⟩:=g
 simp only at *
 unfold q02
 simp only
 rw[D0 (by omega),oB,D0 (by omega),oB,rep false,oB,rep [],oB,d,oB]
 rw[show((0:Nat):Int)=0 from rfl]at h0
 rw[h0]
 rfl
def A0j(g:j0)(u v:Int):List Int×Bool:=bif O0 g&&(inR 0 (g.2.1-1) u&&inR 0 (g.2.1-1) v)then(match C7 (N03 g u).1 v with
 |some w=>(w,true)
 |none=>([],false))else([],false)
theorem Z0q{n u:Int}(h:inR 0 (n-1) u=true):0<=u/\u<n:=by
 simp only[inR,Bool.and_eq_true,decide_eq_true_eq]at h
 omega
theorem V0s(g:j0)(a:S0 g=true)(u:Int):J4 g u=some (inR 0 (g.2.1-1) u):=by
 obtain⟨c,d,b,e⟩:=M2 a
 obtain⟨r,n,es⟩:=g
 simp only at b
 unfold J4
 simp only[v03]
 rw[w64 (by omega) (by omega)]
 rfl
theorem X0o{g:j0}(hf:O0 g=true){u v:Int}(a:0<=u/\u<g.2.1):(gtD (C7 (N03 g u).1 v)).length<=40:=by
 obtain⟨b,c,d,e⟩:=I1 hf
 have h:=R09 hf a
 have:=h.ok.short v
 have:=s00 _ _ h.gd.1 h.gd.2
 unfold gtD
 omega
theorem I0m(g:j0)(o:g.2.2.length<=140737488355328)(u v:Int):p9 g u v=some (A0j g u v):=by
 have d:=A6 g o
 unfold A0j
 cases hf:O0 g with
 |false =>
  obtain⟨a,b,c⟩:=g
  unfold p9
  simp only[d,hf,oB,Bool.not_false,Bool.not_true,L1,cond_true]
  rfl
 |true =>
  obtain⟨s,t,k,x⟩:=I1 hf
  cases hu:inR 0 (g.2.1-1) u with
  |false =>
   obtain⟨a,b,c⟩:=g
   unfold p9
   simp only at hu k
   simp only[d,hf,oB,Bool.not_false,Bool.not_true,H1,cond_false,y02]
   rw[w64 (by omega) (by omega),hu]
   rfl
  |true =>
   cases hv:inR 0 (g.2.1-1) v with
   |false =>
    obtain⟨a,b,c⟩:=g
    unfold p9
    simp only at hu hv k
    simp only[d,hf,oB,Bool.not_false,Bool.not_true,H1,cond_false,y02]
    rw[w64 (by omega) (by omega),hu]
    simp only[Bool.not_true,Bool.not_false,oB,cond_false,H1,hv]
    rfl
   |true =>
    have j:=Z0q hu
    have i:=Z0q hv
    have p:=z0j hf j
    have h:=(R09 hf j).ok
    have l:=giM (f:=isS) h.len i.1 (by omega) (giO h.len i.1 (by omega))
    have m:=giM (f:=gtD) h.len i.1 (by omega) (giO h.len i.1 (by omega))
    have n:=X0o hf (v:=v) j
    obtain⟨a,b,c⟩:=g
    unfold p9
    simp only at hu hv k l m
    simp only[d,hf,oB,Bool.not_false,Bool.not_true,H1,cond_false,y02]
    rw[w64 (by omega) (by omega),hu]
    simp only[Bool.not_true,Bool.not_false,oB,cond_false,H1,hv,Bool.false_eq_true,if_false,p,l,m,Bool.and_self,cond_true]
    cases e:C7 (N03 (a,b,c) u).1 v with
    |none=>rfl
    |some w =>
     rw[e]at n
     have q:gtD (some w)=w:=rfl
     rw[q]at n ⊢
     rw[show isS (some w)=true from rfl,if_neg (by simp),D0 (by simp only[List.length_nil];omega),oB,List.nil_append]
def f08(g:j0)(v:Int):List Int:=(A0j g 0 v).1
theorem l09(g:j0)(d:g.2.2.length<=140737488355328)(v:Int):g01 g v=some (f08 g v):=by
 have h:=I0m g d 0 v
 unfold f08
 obtain⟨a,b,c⟩:=g
 unfold g01
 simp only[h,oB]
theorem V09(a b:List Int)(c:s0a a)(d:s0a b)(e:a.length+b.length<=1099511627776):c00 a b=some (M03 [] (a++b)).reverse:=by
 unfold c00
 rw[D0 (by simp only[List.length_nil];omega),oB,D0 (by simp only[List.length_append,List.length_nil];omega),oB,List.nil_append,
  o03 _ (T0o c d) (by simp only[List.length_append];omega)]
 rfl
theorem Y0d{c:Type}(b:c->c->Int)(x:c):∀(a l:List c),Y5 b l (a ++ [x])=o01 b x (Y5 b l a)
 | [],l=>rfl
 |y::a,l=>by
  show Y5 b (o01 b y l) (a ++ [x])=o01 b x (Y5 b (o01 b y l) a)
  exact Y0d b x a _
def tEW(g:j0)(W:List (Option (List Int)))(v:Int):K0:=stp (Y0 g v (-(W0d (gtD (C7 W v))))) (W0d (gtD (C7 W v))) v
def p0d(g:j0)(s:Tr8):List K0:=Y5 P0 [] (s.2.tail.map (tEW g s.1))
theorem Y0o{g:j0}(hf:O0 g=true){p:Int}{n:Nat}(D:g.2.1=(n:Int)){d:Tr8}(h:TOk g p n d){v x:Int}(i:v∈d.2)(c:0<=Y0 g v x/\Y0 g v x ∉ d.2):
  p0d g (trS g v x d)=o01 P0 (stp v x (Y0 g v x)) (p0d g d)/\(trS g v x d).2=d.2 ++ [Y0 g v x]:=by
 obtain⟨C,F,G,H⟩:=I1 hf
 have E:Y0 g v x<(n:Int):=by
  rcases j04 C v x with e|e<;>omega
 unfold trS
 rw[if_pos c]
 obtain⟨b,u⟩:=d
 obtain⟨f,k⟩:=c
 simp only at k i
 refine⟨?_,rfl⟩
 have w:=h.ok.len
 simp only at w
 have l:=λ(z:Int) (j:0<=z)=>K01 (A:=b) (y:=some ((C7 b v).getD [] ++ [x])) f (by omega) j
 have t:u≠[]:=λe=>by rw[e]at i;cases i
 have s:(u ++ [Y0 g v x]).tail=u.tail ++ [Y0 g v x]:=by
  cases u with
  |nil=>exact absurd rfl t
  |cons a r=>rfl
 unfold p0d
 simp only
 rw[s,List.map_append,List.map_singleton,Y0d]
 have o:tEW g (b.set (Y0 g v x).toNat (some ((C7 b v).getD [] ++ [x]))) (Y0 g v x)=stp v x (Y0 g v x):=by
  unfold tEW
  rw[l _ f,if_pos rfl]
  show stp (Y0 g (Y0 g v x) (-(W0d ((C7 b v).getD [] ++ [x])))) (W0d ((C7 b v).getD [] ++ [x])) (Y0 g v x)=_
  rw[h0i,f0i hf rfl f]
 have q:u.tail.map (tEW g (b.set (Y0 g v x).toNat (some ((C7 b v).getD [] ++ [x]))))=u.tail.map (tEW g b):=by
  refine List.map_congr_left λz j=>?_
  have m:=List.mem_of_mem_tail j
  have B:=h.gd.2 z m
  unfold tEW
  rw[l z B.1,if_neg λe=>k (by rw[←e];exact m)]
 rw[o,q]
theorem a0r(g:j0)(v x:Int)(s:Tr8)(c : ¬ (0<=Y0 g v x/\Y0 g v x ∉ s.2)):trS g v x s=s:=by
 unfold trS;rw[if_neg c]
theorem b0r(g:j0)(s:Tr8):(p0d g s).length<=s.2.length:=by
 unfold p0d
 have:=N02 (s.2.tail.map (tEW g s.1)) []
 rw[List.length_map,List.length_tail,List.length_nil]at this
 omega
theorem W0n{g:j0}(hf:O0 g=true)(p:Int){n:Nat}(o:g.2.1=(n:Int))(b:List Int)(z:∀ x∈b,x∈r6 g.1.toNat 1)(H:b.length<=1000000)(i:Nat)(v:Int):∀(d k fuel:Nat) (a:Tr8),TOk g p n a->a.2[i]?=some v->k+d=b.length->d<fuel ->
  E6 b (i:Int) g.1 g.2.1 g.2.2 fuel (p0d g a) (k:Int) a.2=some (p0d g (R0a g v (b.drop k) a),(R0a g v (b.drop k) a).2)
 |d,k,0,a,f,j,s,hf=>by omega
 |0,k,fuel+1,a,f,j,s,hf=>by
  rw[E6.eq_2,if_neg (by simp only[decide_eq_true_eq];omega),J1 (by omega)];rfl
 |d+1,k,fuel+1,a,f,e,s,L=>by
  obtain⟨A,P,K,Q⟩:=I1 hf
  have w:k<b.length:=by omega
  have l:=O5 w
  have q:=z _ (List.mem_of_getElem? l)
  have u:=M1 l
  generalize b[k]=x at l q u
  have m:=I04 (by omega) q
  have M:=s00 n a.2 f.gd.1 f.gd.2
  have N:=j04 A v x
  have j:=List.mem_of_getElem? e
  have I:=f.add hf o j q
  obtain⟨t,G⟩:=J0e g v x a
  have J:=W0n hf p o b z H i v d (k+1) fuel (trS g v x a) I (by rw[G,List.getElem?_append_left (List.getElem?_eq_some_iff.1 e).1];exact e) (by omega) (by omega)
  have O:=b0r g a
  rw[E6.eq_2,if_pos (by simp only[decide_eq_true_eq];omega),u,R0a,←J]
  simp only[J2 e,J2 l,oB,show(g.1,g.2.1,g.2.2)=g from rfl,G04 g v x m.1 (by omega),D0 (C03 A K.2 v x),Y1 w (show b.length<=9223372036854775807 by omega)]
  by_cases c:0<=Y0 g v x/\Y0 g v x ∉ a.2
  ·obtain⟨C,D⟩:=Y0o hf o f j c
   rw[C,D]
   have E:decide (Y0 g v x<0)=false:=decide_eq_false (by omega)
   have F:gi (a.2 ++ [Y0 g v x]) (i:Int)=some v:=J2 (by rw[List.getElem?_append_left (List.getElem?_eq_some_iff.1 e).1];exact e)
   rw[E]
   simp only[Bool.not_false,H1,M09 a.2 _ (show a.2.length<=9223372036854775807 by omega),decide_eq_false c.2,oB,cond_false,Bool.false_eq_true,if_false,F]
   rw[D0 (by simp;omega),oB]
   generalize Y0 g v x=y at *
   by_cases cx:x>0
   ·rw[if_pos (by simpa using cx),E06 _ _ (by omega),oB]
    unfold stp
    rw[if_neg (by omega)]
   ·rw[if_neg (by simpa using cx),E06 _ _ (by omega),oB,K0b m.1.1 m.1.2]
    unfold stp
    rw[if_pos (by have:=m.2.1;omega)]
  ·rw[a0r g v x a c]
   by_cases c1:0<=Y0 g v x
   ·have B:Y0 g v x∈a.2:=Classical.byContradiction λh=>c ⟨c1,h⟩
    rw[show decide (Y0 g v x<0)=false from decide_eq_false (by omega)]
    simp only[Bool.not_false,H1,M09 a.2 _ (show a.2.length<=9223372036854775807 by omega),decide_eq_true B,oB,cond_false,if_true]
   ·rw[show decide (Y0 g v x<0)=true from decide_eq_true (by omega)]
    simp only[Bool.not_true,L1,oB,cond_true,if_true]
theorem X0n{g:j0}(hf:O0 g=true)(p:Int){n:Nat}(d:g.2.1=(n:Int)):∀(f i fuel:Nat) (a:Tr8),TOk g p n a->i<=a.2.length->n+1<=i+f->f<fuel ->
  L9 (r6 g.1.toNat 1) g.1 g.2.1 g.2.2 fuel (p0d g a) (i:Int) a.2=some (p0d g (n04 g (r6 g.1.toNat 1) f i a),(n04 g (r6 g.1.toNat 1) f i a).2)
 |f,i,0,a,c,j,h,hf=>by omega
 |0,i,fuel+1,a,c,j,h,hf=>by have:=s00 n a.2 c.gd.1 c.gd.2;omega
 |f+1,i,fuel+1,a,c,j,h,m=>by
  obtain⟨q,s,u,w⟩:=I1 hf
  have o:=s00 n a.2 c.gd.1 c.gd.2
  rw[L9.eq_2,oB,D0 (by omega),oB]
  by_cases hk:i<a.2.length
  ·have b:=O5 hk
   generalize a.2[i]=v at b
   have k:=List.mem_of_getElem? b
   have h0:=W0n hf p d (r6 g.1.toNat 1) (λx b=>b) (by rw[J01];omega) i v (r6 g.1.toNat 1).length 0 Q0 a c b (by omega) (C1 (by rw[J01];omega))
   rw[show((0:Nat):Int)=0 from rfl,List.drop_zero]at h0
   obtain⟨t,e⟩:=p0g g v (r6 g.1.toNat 1) a
   have l:=X0n hf p d f (i+1) fuel _ (c.inn hf d _ k λx b=>b) (by rw[e,List.length_append];omega) (by omega) (by omega)
   rw[if_pos (by simpa using hk),h0,oB]
   simp only[Y1 hk (show a.2.length<=9223372036854775807 by omega),n04,b]
   exact l
  ·have b:a.2[i]?=none:=List.getElem?_eq_none (by omega)
   rw[if_neg (by simpa using hk)]
   simp only[n04,b]
theorem Z0o{g:j0}(hf:O0 g=true):U02 g=some (o04 g):=by
 obtain⟨j,k,l,m⟩:=I1 hf
 have h:g.2.1=((g.2.1.toNat:Nat):Int):=by omega
 have h0:=X0n hf 0 h (g.2.1.toNat+1) 0 Q0 _ (Q09 g (N:=g.2.1.toNat) ⟨iR _,by omega⟩) (by simp) (by omega) (C1 (by omega))
 have d:=l0j g.1.toNat (by omega)
 rw[show((g.1.toNat:Nat):Int)=g.1 by omega]at d
 have i:=A6 g (by omega)
 have e:p0d g (n04 g (r6 g.1.toNat 1) (g.2.1.toNat+1) 0 ((List.replicate g.2.1.toNat none).set (0:Int).toNat (some []),[0]))=o04 g:=by
  show p0d g (N03 g 0)=_
  unfold p0d o04
  rw[k09]
  rfl
 rw[e]at h0
 have f:p0d g ((List.replicate g.2.1.toNat none).set (0:Int).toNat (some []),[0]) = []:=rfl
 rw[f,show((0:Nat):Int)=0 from rfl]at h0
 obtain⟨a,b,c⟩:=g
 simp only at *
 unfold U02
 simp only[i,hf,oB,Bool.not_true,Bool.false_eq_true,if_false,d,h0]
theorem s0s(a es:List K0)(j:Nat){e:K0}(o:es[j]?=some e)(y:a.length<=1000):∀(d k fuel:Nat) (b:Bool),k+d=a.length->d<fuel ->
  J6 a es (j:Int) fuel b (k:Int)=some (b || decide (e∈a.drop k))
 |d,k,0,b,m,hf=>by omega
 |0,k,fuel+1,b,m,hf=>by
  rw[J6.eq_2,if_neg (by simp only[decide_eq_true_eq];omega),J1 (by omega)];simp
 |d+1,k,fuel+1,b,m,z=>by
  have p:k<a.length:=by omega
  have f:=O5 p
  have n:=M1 f
  generalize a[k]=t at f n
  have q:=λw=>s0s a es j o y d (k+1) fuel w (by omega) (by omega)
  obtain⟨s,u,v⟩:=t
  obtain⟨g,i,l⟩:=e
  rw[J6.eq_2,if_pos (by simp only[decide_eq_true_eq];omega),n,Y1 p (by omega)]
  cases b with
  |true =>
   simp only[Bool.not_true,L1,oB,cond_true,q,Bool.true_or]
  |false =>
   simp only[Bool.not_false,H1,J2 f,J2 o,oB,cond_false,q,Bool.false_or]
   by_cases c:(s,u,v)=(g,i,l)
   ·rw[c];simp[eqE]
   ·have x : ¬ (g,i,l)=(s,u,v):=λh=>c h.symm
    unfold eqE
    rw[decide_eq_false c,Bool.false_or]
    simp only[List.mem_cons,x,false_or]
theorem v0l{g:j0}(hf:O0 g=true)(a:List K0)(f:a.length<=1000):∀(d k fuel:Nat) (acc:List K0),k+d=g.2.2.length->d<fuel->acc.length<=k ->
  I5 g.2.2 g.1 g.2.1 a fuel (k:Int) acc=some (acc++(g.2.2.drop k).filter λe => !decide (e∈a))
 |d,k,0,acc,j,t,i=>by omega
 |0,k,fuel+1,acc,j,t,i=>by
  rw[I5.eq_2,show decide ((k:Int)<((g.2.2.length:Nat):Int))=false from decide_eq_false (by omega),J1 (by omega)]
  simp only[L1,oB,cond_false,Bool.false_eq_true,if_false,List.filter_nil,List.append_nil]
 |d+1,k,fuel+1,acc,j,v,i=>by
  obtain⟨w,x,y,z⟩:=I1 hf
  have m:k<g.2.2.length:=by omega
  have b:=O5 m
  have l:=M1 b
  generalize g.2.2[k]=e at b l
  have u:=A6 g (by omega)
  have n:=λo h=>v0l hf a f d (k+1) fuel o (by omega) (by omega) h
  have h0:=s0s a g.2.2 k b f a.length 0 Q0 false (by omega) (C1 (by omega))
  rw[show((0:Nat):Int)=0 from rfl,List.drop_zero,Bool.false_or]at h0
  obtain⟨p,q,s⟩:=e
  rw[I5.eq_2,show decide ((k:Int)<((g.2.2.length:Nat):Int))=true from decide_eq_true (by omega)]
  simp only[H1,show(g.1,g.2.1,g.2.2)=g from rfl,u,hf,oB,cond_true,if_true,h0,J2 b,Y1 m (show g.2.2.length<=9223372036854775807 by omega),l,List.filter_cons]
  by_cases c:(p,q,s)∈a
  ·simp only[decide_eq_true c,Bool.not_true,Bool.false_eq_true,if_false]
   exact n acc (by omega)
  ·simp only[decide_eq_false c,Bool.not_false,if_true]
   rw[D0 (by simp;omega),oB,n _ (by simp;omega)]
   simp
theorem c0r{g:j0}(hf:O0 g=true):r01 g=some (C02 g):=by
 obtain⟨h,i,j,k⟩:=I1 hf
 have e:=Z0o hf
 have f:=i0i hf
 have d:=v0l hf (o04 g) (by omega) g.2.2.length 0 Q0 [] (by omega) (C1 (by omega)) (by simp)
 rw[show((0:Nat):Int)=0 from rfl,List.drop_zero,List.nil_append]at d
 unfold C02
 obtain⟨a,b,c⟩:=g
 simp only at *
 unfold r01
 simp only[e,oB,d]
theorem t0s(es:List K0)(e:K0)(v:es.length<=1000):∀(d k fuel:Nat) (b:Bool),k+d=es.length->d<fuel ->
  r9 es e.1 e.2.1 e.2.2 fuel b (k:Int)=some (b || decide (e∈es.drop k))
 |d,k,0,b,l,hf=>by omega
 |0,k,fuel+1,b,l,hf=>by
  rw[r9.eq_2,if_neg (by simp only[decide_eq_true_eq];omega),J1 (by omega)];simp
 |d+1,k,fuel+1,b,l,w=>by
  have n:k<es.length:=by omega
  have a:=O5 n
  have m:=M1 a
  generalize es[k]=t at a m
  have f:=λs=>t0s es e v d (k+1) fuel s (by omega) (by omega)
  obtain⟨o,p,q⟩:=t
  obtain⟨g,i,j⟩:=e
  simp only at f
  rw[r9.eq_2,if_pos (by simp only[decide_eq_true_eq];omega),m,Y1 n (by omega)]
  cases b with
  |true =>
   simp only[Bool.not_true,L1,oB,cond_true,f,Bool.true_or]
  |false =>
   simp only[Bool.not_false,H1,J2 a,oB,cond_false,f,Bool.false_or]
   by_cases c:(o,p,q)=(g,i,j)
   ·rw[c];simp[eqE]
   ·have u : ¬ (g,i,j)=(o,p,q):=λh=>c h.symm
    unfold eqE
    rw[decide_eq_false c,Bool.false_or]
    simp only[List.mem_cons,u,false_or]
theorem Z0d{g:j0}(hf:O0 g=true){v:Int}(a:0<=v/\v<g.2.1):f08 g v=tw g 0 v:=by
 obtain⟨b,c,d,e⟩:=I1 hf
 unfold f08 A0j tw
 rw[hf,show inR 0 (g.2.1-1) 0=true by simp[inR];omega,show inR 0 (g.2.1-1) v=true by simp[inR];omega]
 simp only[Bool.and_self,cond_true]
 cases C7 (N03 g 0).1 v with
 |none=>rfl
 |some w=>rfl
theorem d0r{g:j0}(hf:O0 g=true){v:Int}(d:0<=v/\v<g.2.1):∀ x∈tw g 0 v,S4 x:=by
 obtain⟨f,i,j,k⟩:=I1 hf
 have c:(0:Int)<=0/\(0:Int)<g.2.1:=⟨by omega,by omega⟩
 have h:=R09 hf c
 by_cases hm:v∈A3 g 0
 ·exact λx b=>(I04 (by omega) ((D05 hf c).let hm x b)).1
 ·have:tw g 0 v = []:=by
   unfold tw
   rw[←k09]at hm
   have:=(h.ok.iff v d.1 (by omega)).2 hm
   cases e:C7 (N03 g 0).1 v with
   |none=>rfl
   |some a=>rw[e]at this;cases this
  rw[this]
  exact λx b=>by cases b
theorem e0r{g:j0}(hf:O0 g=true){e:K0}(j:e∈g.2.2):y03 g e=some (M03 [] (bw g e)).reverse:=by
 obtain⟨s,z,A,B⟩:=I1 hf
 have q:(0:Int)<=0/\(0:Int)<g.2.1:=⟨by omega,by omega⟩
 have i:=D05 hf q
 have f:=s e j
 have w:=i.len e.1
 have y:=i.len e.2.2
 have o:=A6 g (by omega)
 have h:=t0s g.2.2 e (by omega) g.2.2.length 0 Q0 false (by omega) (C1 (by omega))
 rw[show((0:Nat):Int)=0 from rfl,List.drop_zero,Bool.false_or,decide_eq_true j]at h
 have k:=l09 g (by omega) e.1
 rw[Z0d hf f.1]at k
 have l:=l09 g (by omega) e.2.2
 rw[Z0d hf f.2.1]at l
 have m:=d0r hf f.1
 have n:=d0r hf f.2.1
 have p:=V09 (tw g 0 e.1 ++ [e.2.1]) (inv (tw g 0 e.2.2)) (λx d=>by
  rcases List.mem_append.1 d with d|d
  ·exact(m x d).1
  ·simp at d;rw[d];have:=f.2.2;exact⟨by omega,by omega⟩) (λx d=>(y0j n x d).1) (by simp[y05];omega)
 unfold bw
 obtain⟨a,b,c⟩:=g
 obtain⟨t,u,v⟩:=e
 simp only at *
 unfold y03
 simp only[h,oB,o,hf,Bool.not_true,cond_false,Bool.false_eq_true,if_false,k,l]
 rw[D0 (by simp;omega),oB,h03 _ (by omega),oB,p,oB]
theorem w0l{g:j0}(hf:O0 g=true)(es:List K0)(i:∀ e∈es,e∈g.2.2)(p:es.length<=1000):∀(d k fuel:Nat) (acc:List (List Int)),k+d=es.length->d<fuel->acc.length<=k ->
  L8 es g.1 g.2.1 g.2.2 fuel (k:Int) acc=some (acc++(es.drop k).map λe=>(M03 [] (bw g e)).reverse)
 |d,k,0,acc,c,o,b=>by omega
 |0,k,fuel+1,acc,c,o,b=>by
  rw[L8.eq_2,if_neg (by simp only[decide_eq_true_eq];omega),J1 (by omega)];simp
 |d+1,k,fuel+1,acc,c,v,b=>by
  have l:k<es.length:=by omega
  have a:=O5 l
  have j:=i _ (List.mem_of_getElem? a)
  have f:=M1 a
  generalize es[k]=e at a f j
  have n:=e0r hf j
  have q:=λm h=>w0l hf es i p d (k+1) fuel m (by omega) (by omega) h
  obtain⟨s,t,u⟩:=e
  rw[L8.eq_2,if_pos (by simp only[decide_eq_true_eq];omega),J2 a,oB]
  simp only[show(g.1,g.2.1,g.2.2)=g from rfl]
  rw[n,oB,D0 (by simp;omega),oB,Y1 l (show es.length<=9223372036854775807 by omega),q _ (by simp;omega),f]
  simp
theorem X03(g:j0)(d:g.2.2.length<=140737488355328):l3 g=some (j2 g):=by
 have:=b08 g d
 obtain⟨a,b,c⟩:=g
 unfold l3
 show(C01 (a,b,c)).bind (λe=>some e)=_
 rw[this];rfl
theorem f0r{g:j0}(f:j2 g=true):V02 g=some (D03 g):=by
 have hf:=B5 f
 obtain⟨l,m,n,o⟩:=I1 hf
 have h:=X03 g (by omega)
 have i:=c0r hf
 have k:(C02 g).length<=g.2.2.length:=List.length_filter_le _ _
 have d:=w0l hf (C02 g) (λe j=>(m0d.1 j).1) (by omega) (C02 g).length 0 Q0 [] (by omega) (C1 (by omega)) (by simp)
 rw[show((0:Nat):Int)=0 from rfl,List.drop_zero,List.nil_append]at d
 unfold D03
 obtain⟨a,b,c⟩:=g
 simp only at *
 unfold V02
 simp only[h,f,oB,i,Bool.not_true,Bool.false_eq_true,if_false,d]
theorem Y0n{g:j0}(hf:O0 g=true){w:List Int}(k:∀ x∈w,S4 x)(j:w.length<=140737488355328):J9 g w=some (m01 g w):=by
 obtain⟨e,m,f,n⟩:=I1 hf
 have h:=s0q g e f.2 (by omega) 0 w k j
 have i:=W08 e f.2 w 0 ⟨by omega,by omega⟩
 have l:=a06 g w 0
 unfold m01
 obtain⟨a,b,c⟩:=g
 unfold J9
 simp only[h,oB]
 rw[D0 i,oB,D0 (show J0 (((O2 (a,b,c) 0 w).2:Nat):Int) from⟨by omega,by omega⟩),oB]
 by_cases d:(O2 (a,b,c) 0 w).2=w.length
 ·rw[decide_eq_true d,show decide ((((O2 (a,b,c) 0 w).2:Nat):Int)=((w.length:Nat):Int))=true from decide_eq_true (by omega)]
  simp
 ·rw[decide_eq_false d,show decide ((((O2 (a,b,c) 0 w).2:Nat):Int)=((w.length:Nat):Int))=false from decide_eq_false (by omega)]
  simp
theorem g0c(w:List Int)(a:w.length<=1099511627776):J8 w=some (M03 [] w).reverse:=by
 unfold J8
 rw[S06 [w] (by simp) (by simp only[p0l];omega)]
 rfl
theorem u0g{w:List Int}(a:∀ x∈w,S4 x):∀ x∈(M03 [] w).reverse,S4 x:=λx b=>by
 rcases r0l w [] (List.mem_reverse.1 b)with h|h
 ·cases h
 ·exact a x h
theorem g0r{g:j0}(hf:O0 g=true)(ws:List (List Int))(i:∀ w∈ws,(∀ x∈w,S4 x)/\w.length<=1099511627776)(j:ws.length<=1099511627776):∀(d k fuel:Nat),k+d=ws.length->d<fuel ->
  a6 ws g.1 g.2.1 g.2.2 fuel (k:Int)=some (bif(ws.drop k).all λw=>m01 g (M03 [] w).reverse then .inr ()else .inl false)
 |d,k,0,c,f=>by omega
 |0,k,fuel+1,c,f=>by
  rw[a6.eq_2,if_neg (by simp only[decide_eq_true_eq];omega),J1 (by omega)];rfl
 |d+1,k,fuel+1,c,f=>by
  have h:k<ws.length:=by omega
  have a:=O5 h
  have b:=i _ (List.mem_of_getElem? a)
  have e:=M1 a
  generalize ws[k]=w at a b e
  have l:=v07 w []
  have m:=g0r hf ws i j d (k+1) fuel (by omega) (by omega)
  rw[a6.eq_2,if_pos (by simp only[decide_eq_true_eq];omega),J2 a,oB,g0c w b.2,oB,show(g.1,g.2.1,g.2.2)=g from rfl,Y0n hf (u0g b.1) (by rw[List.length_reverse];simp only[List.length_nil]at l;omega),oB,Y1 h (by omega),m,e,List.all_cons]
  cases m01 g (M03 [] w).reverse<;>rfl
theorem X0g(b:j0)(g:b.2.2.length<=140737488355328)(ws:List (List Int))(h:∀ w∈ws,(∀ x∈w,S4 x)/\w.length<=1099511627776)(f:ws.length<=1099511627776):K9 b ws=some (T06 b ws):=by
 have e:=p01 b g
 have d:j2 b=true->_:=λc=>g0r (B5 c) ws h f ws.length 0 Q0 (by omega) (C1 (by omega))
 rw[show((0:Nat):Int)=0 from rfl,List.drop_zero]at d
 unfold T06
 obtain⟨a,b,c⟩:=b
 unfold K9
 simp only[e,oB]
 cases cb:j2 (a,b,c)with
 |false=>rfl
 |true =>
  have:=d cb
  simp only at this
  simp only[Bool.not_true,Bool.false_eq_true,if_false,this,oB,Bool.true_and]
  cases ws.all λw=>m01 (a,b,c) (M03 [] w).reverse<;>rfl
theorem h0r{g:j0}(a:j2 g=true):(∀ w∈D03 g,(∀ x∈w,S4 x)/\w.length<=81)/\(D03 g).length<=120:=by
 obtain⟨h,i,j,k⟩:=I1 (B5 a)
 refine⟨λw b=>?_,?_⟩
 ·unfold D03 at b
  obtain⟨e,d,rfl⟩:=List.mem_map.1 b
  refine⟨u0g (V0o a (m0d.1 d).1),?_⟩
  have c:=v07 (bw g e) []
  have f:=T0s (B5 a) e
  rw[List.length_reverse]
  simp only[List.length_nil]at c
  omega
 ·unfold D03
  rw[List.length_map]
  have:(C02 g).length<=g.2.2.length:=List.length_filter_le _ _
  omega
def h0c(g:j0):j0:=J3 (Q06 (M00 g).1)
theorem x0l{g:j0}(f:S0 g=true):E8 g=some (h0c g):=by
 obtain⟨m,o,p,s⟩:=M2 f
 have h:=m0a g (by omega)
 have hf:=d09 f
 obtain⟨v,d⟩:=f0g (l4 hf)
 have e:=a09 (Q06 (M00 g).1) (g03 40 hf)
 unfold h0c
 obtain⟨r,n,es⟩:=g
 unfold E8
 generalize M00 (r,n,es)=q at *
 obtain⟨⟨a,b,c⟩,l⟩:=q
 simp only[h,oB]
 simp only at d e
 generalize Q06 (a,b,c)=q2 at *
 obtain⟨i,j,k⟩:=q2
 simp only[d,oB,e]
theorem y0l{g:j0}(f:S0 g=true):H8 g=some (h0c g):=by
 obtain⟨m,o,p,s⟩:=M2 f
 have h:=n0a g (by omega)
 have hf:=d09 f
 obtain⟨v,d⟩:=T0d (l4 hf)
 have e:=Z08 (Q06 (M00 g).1) (g03 40 hf)
 unfold h0c
 obtain⟨r,n,es⟩:=g
 unfold H8
 generalize M00 (r,n,es)=q at *
 obtain⟨⟨a,b,c⟩,l⟩:=q
 simp only[h,oB]
 simp only at d e
 generalize Q06 (a,b,c)=q2 at *
 obtain⟨i,j,k⟩:=q2
 simp only[d,oB,e]
def t0a(r:Int)(ws:List (List Int)):j0×Bool:=bif L6 r ws then(h0c (r0a ws (r,1,[])),true)else((0,0,[]),false)
theorem v0g{r:Int}{ws:List (List Int)}(h:L6 r ws=true):S0 (r0a ws (r,1,[]))=true:=by
 obtain⟨a,c,b⟩:=u07 h
 exact U0d ws (k0d a) b
theorem a0p(r:Int)(ws:List (List Int))(i:ws.length<=140737488355328)(j:T8 ws):v01 r ws=some (t0a r ws):=by
 have d:=v0j r ws i j
 have e:L6 r ws=true->_:=λh=>x0l (v0g h)
 unfold v01 t0a
 unfold t07 at d
 cases hA:L6 r ws with
 |false=>rw[hA]at d;simp only[cond_false]at d;simp[d]
 |true =>
  rw[hA]at d
  simp only[cond_true]at d
  have f:=e hA
  generalize r0a ws (r,1,[])=g at *
  obtain⟨a,b,c⟩:=g
  simp only[d,oB,f,Bool.not_true,Bool.false_eq_true,if_false,cond_true]
theorem b0p(r:Int)(ws:List (List Int))(i:ws.length<=140737488355328)(j:T8 ws):w01 r ws=some (t0a r ws):=by
 have d:=w0j r ws i j
 have e:L6 r ws=true->_:=λh=>y0l (v0g h)
 unfold w01 t0a
 unfold t07 at d
 cases hA:L6 r ws with
 |false=>rw[hA]at d;simp only[cond_false]at d;simp[d]
 |true =>
  rw[hA]at d
  simp only[cond_true]at d
  have f:=e hA
  generalize r0a ws (r,1,[])=g at *
  obtain⟨a,b,c⟩:=g
  simp only[d,oB,f,Bool.not_true,Bool.false_eq_true,if_false,cond_true]
def g05(g:j0)(ws:List (List Int)):Bool:=j2 g&&((t0a g.1 ws).2&&M0f g (t0a g.1 ws).1)
theorem k0i(g:j0)(h:g.2.2.length<=140737488355328)(ws:List (List Int))(i:ws.length<=140737488355328)(j:T8 ws):J5 g ws=some (g05 g ws):=by
 have e:=a0p g.1 ws i j
 have d:=X03 g h
 have f:=L0h g (t0a g.1 ws).1 (by omega)
 unfold g05
 obtain⟨a,b,c⟩:=g
 simp only at *
 unfold J5
 generalize t0a a ws=q at *
 obtain⟨⟨x,y,z⟩,ok⟩:=q
 simp only[e,oB]
 cases ok<;>cases hc:j2 (a,b,c)<;>rw[hc]at d<;>simp[d,f,H1,L1]
theorem l0i(g:j0)(h:g.2.2.length<=140737488355328)(ws:List (List Int))(i:ws.length<=140737488355328)(j:T8 ws):K5 g ws=some (g05 g ws):=by
 have e:=b0p g.1 ws i j
 have d:=p01 g h
 have f:=J0h g (t0a g.1 ws).1 (by omega)
 unfold g05
 obtain⟨a,b,c⟩:=g
 simp only at *
 unfold K5
 generalize t0a a ws=q at *
 obtain⟨⟨x,y,z⟩,ok⟩:=q
 cases ok<;>cases hc:j2 (a,b,c)<;>rw[hc]at d<;>simp[e,d,f,H1,L1]
theorem w0g{r:Int}{g:j0}{w:List Int}(e:j2 g=true)(f:U2 r w=true):h01 g w=some (m01 g w):=by
 have hf:=B5 e
 obtain⟨l,m,n,o⟩:=I1 hf
 obtain⟨p,k⟩:=O04 f
 have d:=g0c w (by omega)
 rw[n0g f]at d
 have h:=Y0n hf (λx j=>(k x j).1) (by omega)
 have i:=p01 g (by omega)
 obtain⟨a,b,c⟩:=g
 unfold h01
 simp only[i,e,oB,H1,d,h,cond_true]
theorem Z0n{r:Int}{g:j0}(b:j2 g=true)(ws:List (List Int))(j:∀ w∈ws,U2 r w=true)(l:ws.length<=1099511627776):∀(d k fuel:Nat),k+d=ws.length->d<fuel ->
  d6 ws g.1 g.2.1 g.2.2 fuel (k:Int)=some (bif(ws.drop k).all λw=>m01 g w then .inr ()else .inl false)
 |d,k,0,c,f=>by omega
 |0,k,fuel+1,c,f=>by
  rw[d6.eq_2,if_neg (by simp only[decide_eq_true_eq];omega),J1 (by omega)];rfl
 |d+1,k,fuel+1,c,f=>by
  have h:k<ws.length:=by omega
  have a:=O5 h
  have i:=j _ (List.mem_of_getElem? a)
  have e:=M1 a
  generalize ws[k]=w at a i e
  have m:=Z0n b ws j l d (k+1) fuel (by omega) (by omega)
  rw[d6.eq_2,if_pos (by simp only[decide_eq_true_eq];omega),J2 a,oB,show(g.1,g.2.1,g.2.2)=g from rfl,j09 b i,oB,Y1 h (by omega),m,e,List.all_cons]
  cases m01 g w<;>rfl
theorem J0m{r:Int}{g:j0}(d:j2 g=true)(ws:List (List Int))(i:∀ w∈ws,U2 r w=true)(h:ws.length<=1099511627776):W00 g ws=some (ws.all λw=>m01 g w):=by
 obtain⟨j,k,l,m⟩:=I1 (B5 d)
 have f:=X03 g (by omega)
 have e:=Z0n d ws i h ws.length 0 Q0 (by omega) (C1 (by omega))
 rw[show((0:Nat):Int)=0 from rfl,List.drop_zero]at e
 obtain⟨a,b,c⟩:=g
 simp only at *
 unfold W00
 simp only[e,oB]
 cases ws.all λw=>m01 (a,b,c) w
 ·rfl
 ·simp[g9,f,d]
theorem K0m{r:Int}{g:j0}(a:j2 g=true)(ws:List (List Int))(b:∀ w∈ws,U2 r w=true)(c:ws.length<=1099511627776):K9 g ws=some (ws.all λw=>m01 g w):=by
 obtain⟨j,k,m,n⟩:=I1 (B5 a)
 rw[X0g g (by omega) ws (λw h=>by
  obtain⟨o,i⟩:=O04 (b w h)
  exact⟨λx e=>(i x e).1,by omega⟩) c]
 unfold T06
 rw[a,Bool.true_and]
 have:∀ l:List (List Int),(∀ w∈l,U2 r w=true)->(l.all λw=>m01 g (M03 [] w).reverse)=l.all λw=>m01 g w:=by
  intro l
  induction l with
  |nil=>intro _;rfl
  |cons w t f =>
   intro h
   simp only[List.all_cons,n0g (h w mS),f λv d=>h v (mC _ d)]
 rw[this ws b]
def G06(g:j0)(v:Int):j0×Bool:=bif O0 g&&inR 0 (g.2.1-1) v then(n0d g v,true)else(g,false)
theorem a0e(g:j0)(h:g.2.2.length<=1099511627776)(v:Int):g8 g v=some (G06 g v):=by
 unfold G06
 cases hf:O0 g with
 |false =>
  have d:=A6 g (by omega)
  have e:=M02 g (by omega)
  rw[hf]at d
  obtain⟨a,b,c⟩:=g
  unfold g8
  simp only[d,oB,Bool.not_false,Bool.not_true,L1,cond_true,if_true,e,Bool.false_and,cond_false]
 |true =>
  cases hv:inR 0 (g.2.1-1) v with
  |true=>exact G0m hf (by simp only[inR,Bool.and_eq_true,decide_eq_true_eq]at hv;omega)
  |false =>
   obtain⟨i,j,f,k⟩:=I1 hf
   have d:=A6 g (by omega)
   have e:=M02 g (by omega)
   rw[hf]at d
   obtain⟨a,b,c⟩:=g
   simp only at hv f
   unfold g8
   simp only[d,oB,Bool.not_false,Bool.not_true,H1,y02,w64 (show -9223372036854775808<=b-1 by omega) (show b-1<=9223372036854775807 by omega),hv,cond_false,if_true,e,Bool.true_and]
theorem b0e(g:j0)(i:g.2.2.length<=1099511627776)(v:Int):o9 g v=some (G06 g v):=by
 unfold G06
 cases hf:O0 g with
 |false =>
  have d:=Z9 g (by omega)
  have e:=Z01 g (by omega)
  rw[hf]at d
  obtain⟨a,b,c⟩:=g
  unfold o9
  simp only[d,oB,Bool.not_false,Bool.not_true,L1,cond_true,if_true,e,Bool.false_and,cond_false]
 |true =>
  cases hv:inR 0 (g.2.1-1) v with
  |true=>exact H0m hf (by simp only[inR,Bool.and_eq_true,decide_eq_true_eq]at hv;omega)
  |false =>
   obtain⟨j,k,h,l⟩:=I1 hf
   have d:=Z9 g (by omega)
   have e:=Z01 g (by omega)
   have f:=V0s g (l4 hf) v
   rw[hf]at d
   rw[hv]at f
   obtain⟨a,b,c⟩:=g
   simp only at hv h
   unfold o9
   simp only[d,oB,Bool.not_false,Bool.not_true,H1,f,cond_false,if_true,e,Bool.true_and]
theorem x0g(g:j0):∀(w:List Int) (v:Int),O2 g v (w.take (O2 g v w).2)=O2 g v w
 | [],v=>rfl
 |x::w,v=>by
  have a:=x0g g w (Y0 g v x)
  by_cases c:Y0 g v x<0
  ·have e:O2 g v (x::w)=(v,0):=by rw[O2,if_pos c]
   rw[e];rfl
  ·have e:O2 g v (x::w)=((O2 g (Y0 g v x) w).1,(O2 g (Y0 g v x) w).2+1):=by rw[O2,if_neg c]
   rw[e,List.take_succ_cons,O2,if_neg c,a]
theorem y0g{g:j0}(a:inG g):∀(w:List Int) (v:Int),(0<=v/\v<g.2.1)->0<=(O2 g v w).1/\(O2 g v w).1<g.2.1
 | [],v,h=>h
 |x::w,v,h=>by
  unfold O2
  split
  ·exact h
  ·rename_i c
   have b:=j04 a v x
   refine y0g a w _ ?_
   rcases b with e|e<;>omega
theorem m0i{b a:Int}{w:List Int}:∀ {d k:Nat},(∀ i,k<=i->i<k+d->n05 b a w i=false)->J03 b a w d k=true
 |0,k,h=>rfl
 |d+1,k,h=>by
  unfold J03
  rw[h k (Nat.le_refl _) (by omega),m0i λi c e=>h i (by omega) (by omega)]
  rfl
theorem n0i{r:Int}{w:List Int}(h:U2 r w=true)(n:Nat):U2 r (w.drop n)=true:=by
 simp only[U2,Bool.and_eq_true,decide_eq_true_eq]at h ⊢
 refine⟨⟨h.1.1,by rw[List.length_drop];omega⟩,m0i λi d c=>?_⟩
 have a:=L09 h.2 (n+i) (Nat.zero_le _) (by rw[List.length_drop]at c;omega)
 unfold n05 at a ⊢
 rw[List.getElem?_drop,List.getElem?_drop]
 cases hw:w[n+i]? with
 |none=>rw[hw]at a;exact a
 |some x =>
  rw[hw]at a
  simp only[Bool.or_eq_false_iff]at a ⊢
  refine⟨a.1,?_⟩
  cases i with
  |zero=>rfl
  |succ j =>
   have b:=a.2
   rw[show n+(j+1)-1=n+j by omega]at b
   rw[show n+(j+1-1)=n+j by omega]
   rw[show decide (0<n+(j+1))=true from decide_eq_true (by omega)]at b
   rw[show decide (0<j+1)=true from decide_eq_true (by omega)]
   exact b
def i01(g:j0)(w:List Int):j0×Bool :=
 bif j2 g&&U2 g.1 w then
  (bif decide ((O2 g 0 w).2<w.length)then
   (bif(Z2 g).2 then
    (bif(o5 (Z2 g).1 (O2 g 0 w).1 (w.drop (O2 g 0 w).2) g.2.1).2 then G06 (o5 (Z2 g).1 (O2 g 0 w).1 (w.drop (O2 g 0 w).2) g.2.1).1 g.2.1 else((0,0,[]),false))
   else((0,0,[]),false))
  else G06 g (O2 g 0 w).1)
 else((0,0,[]),false)
theorem o0i{g:j0}(f:inG g)(j:g.2.1<=40)(e:g.2.2.length<=1099511627776)(w:List Int)(l:∀ x∈w,S4 x)(n:w.length<=140737488355328):∀(d k fuel:Nat) (v:Int),k+d=w.length->d<fuel ->
  K6 w g.1 g.2.1 g.2.2 fuel v (k:Int)=some (bif decide ((O2 g v (w.drop k)).2<d)then .inl (((k+(O2 g v (w.drop k)).2:Nat):Int))else .inr ())
 |d,k,0,v,b,hf=>by omega
 |0,k,fuel+1,v,b,hf=>by
  rw[K6.eq_2,if_neg (by simp only[decide_eq_true_eq];omega),J1 (by omega)]
  rfl
 |d+1,k,fuel+1,v,b,hf=>by
  have i:k<w.length:=by omega
  have a:=O5 i
  have m:=l _ (List.mem_of_getElem? a)
  have c:=M1 a
  generalize w[k]=x at a m c
  rw[K6.eq_2,if_pos (by simp only[decide_eq_true_eq];omega),J2 a,oB,show(g.1,g.2.1,g.2.2)=g from rfl,G04 g v x m e,oB,D0 (C03 f j v x),oB,c]
  unfold O2
  by_cases h:Y0 g v x<0
  ·rw[if_pos (by simpa using h),if_pos h]
   simp
  ·rw[if_neg (by simpa using h),if_neg h,Y1 i (by omega),o0i f j e w l n d (k+1) fuel _ (by omega) (by omega)]
   simp only[Nat.add_lt_add_iff_right]
   rw[show k+1+(O2 g (Y0 g v x) (w.drop (k+1))).2=k+((O2 g (Y0 g v x) (w.drop (k+1))).2+1) by omega]
theorem c0p{g:j0}(hf:O0 g=true){v:Int}(f:0<=v/\v<g.2.1){w:List Int}(i:∀ x∈w,S4 x)(a:w.length<=140737488355328):t01 g v w=some (((O2 g v w).2:Nat):Int):=by
 obtain⟨j,l,b,m⟩:=I1 hf
 have d:=A6 g (by omega)
 have h:=o0i j b.2 (by omega) w i a w.length 0 Q0 v (by omega) (C1 a)
 rw[show((0:Nat):Int)=0 from rfl,List.drop_zero,Nat.zero_add]at h
 have k:=a06 g w v
 obtain⟨r,n,es⟩:=g
 simp only at f b h
 have e:inR 0 (n-1) v=true:=by simp only[inR,Bool.and_eq_true,decide_eq_true_eq];omega
 unfold t01
 simp only[d,hf,oB,Bool.not_true,Bool.not_false,H1,y02,w64 (show -9223372036854775808<=n-1 by omega) (show n-1<=9223372036854775807 by omega),e,cond_false,Bool.false_eq_true,if_false,h]
 by_cases c:(O2 (r,n,es) v w).2<w.length
 ·rw[decide_eq_true c];rfl
 ·rw[decide_eq_false c,show(O2 (r,n,es) v w).2=w.length by omega];rfl
theorem S09{g:j0}(h:(Z2 g).2=true):Z2 g=((g.1,g.2.1+1,g.2.2),true)/\g.2.1<40:=by
 unfold Z2 at h ⊢
 by_cases c:g.2.1<40
 ·simp[c]
 ·simp[c]at h
theorem L0m(g:j0)(K:g.2.2.length<=140737488355328)(w:List Int)(L:w.length<=140737488355328):d5 g w=some (i01 g w):=by
 have d:=X03 g K
 have e:=w05 g.1 w L
 unfold i01
 cases hc:j2 g with
 |false =>
  rw[hc]at d
  obtain⟨a,b,c⟩:=g
  unfold d5
  simp only[d,oB,Bool.not_false,Bool.not_true,L1,cond_true,if_true,Bool.false_and,cond_false]
 |true =>
  cases hwd:U2 g.1 w with
  |false =>
   rw[hc]at d
   rw[hwd]at e
   obtain⟨a,b,c⟩:=g
   simp only at e
   unfold d5
   simp only[d,oB,Bool.not_false,Bool.not_true,H1,e,cond_false,if_true,Bool.true_and]
  |true =>
   have hf:=B5 hc
   have B:=l4 hf
   obtain⟨F,G,N,Q⟩:=I1 hf
   obtain⟨S,O⟩:=O04 hwd
   have E:∀ x∈w,S4 x:=λx l=>(O x l).1
   have z:(0:Int)<=0/\(0:Int)<g.2.1:=⟨iR _,by omega⟩
   have p:=c0p hf z E (by omega)
   have j:=a06 g w 0
   have i:=t0q g hf 0 z (w.take (O2 g 0 w).2) (λx l=>E x (List.mem_of_mem_take l)) (by rw[List.length_take];omega)
   rw[x0g,List.length_take,show min (O2 g 0 w).2 w.length=(O2 g 0 w).2 by omega,decide_eq_false (Nat.lt_irrefl _)]at i
   have s:=W08 F N.2 w 0 ⟨by omega,by omega⟩
   have H:=M02 g (by omega)
   have t:=c09 (xs:=w) (k:=(O2 g 0 w).2) j
   have A:=L03 (xs:=w) (k:=(O2 g 0 w).2) j
   have I:=i0e B
   have J:=y0g F w 0 z
   have D:=a0e g (by omega) (O2 g 0 w).1
   have C:=l05 B
   have m:(Z2 g).2=true->_:=λh=>o0a (g:=(Z2 g).1) (u:=(O2 g 0 w).1) (v:=g.2.1) (w:=w.drop (O2 g 0 w).2) C (by rw[(S09 h).1];simp only;omega) (by rw[(S09 h).1];simp only;omega) (by rw[(S09 h).1];exact n0i hwd _)
   have P:=g09 C (O2 g 0 w).1 (w.drop (O2 g 0 w).2) g.2.1
   have f:=a0e (o5 (Z2 g).1 (O2 g 0 w).1 (w.drop (O2 g 0 w).2) g.2.1).1 (by omega) g.2.1
   rw[hc]at d
   rw[hwd]at e
   generalize O2 g 0 w=R at *
   obtain⟨v,n⟩:=R
   obtain⟨a,b,c⟩:=g
   simp only at e p i s t A j J D f m ⊢
   unfold d5
   simp only[d,oB,Bool.not_true,Bool.not_false,H1,e,cond_false,Bool.false_eq_true,if_false,p,Bool.true_and,cond_true]
   rw[D0 (show J0 ((n:Nat):Int) from⟨by omega,by omega⟩),oB,t,oB,i]
   simp only[cond_false,oB]
   rw[D0 s]
   simp only[oB,H]
   by_cases c1:n<w.length
   ·rw[if_pos (by simp only[decide_eq_true_eq];omega),decide_eq_true c1,I]
    simp only[oB,cond_true]
    cases hok:(Z2 (a,b,c)).2 with
    |false =>
     generalize Z2 (a,b,c)=q at *
     obtain⟨⟨x,y,z⟩,ok⟩:=q
     simp only at hok
     subst hok
     rfl
    |true =>
     have o:=m hok
     generalize Z2 (a,b,c)=q at *
     obtain⟨⟨x,y,z⟩,ok⟩:=q
     simp only at hok o f
     subst hok
     simp only[Bool.not_true,Bool.false_eq_true,if_false,A,oB,o,cond_true]
     generalize o5 (x,y,z) v (w.drop n) b=G at *
     obtain⟨⟨T,U,V⟩,M⟩:=G
     cases M with
     |false=>rfl
     |true=>simp only[Bool.not_true,Bool.false_eq_true,if_false,cond_true]at f ⊢;rw[f];rfl
   ·rw[if_neg (by simp only[decide_eq_true_eq];omega),decide_eq_false c1,D];rfl
theorem M0m(g:j0)(G:g.2.2.length<=140737488355328)(w:List Int)(H:w.length<=140737488355328):i5 g w=some (i01 g w):=by
 have d:=p01 g G
 have e:=x05 g.1 w H
 unfold i01
 cases hc:j2 g with
 |false =>
  rw[hc]at d
  obtain⟨a,b,c⟩:=g
  unfold i5
  simp only[d,oB,Bool.not_false,Bool.not_true,L1,cond_true,if_true,Bool.false_and,cond_false]
 |true =>
  cases hwd:U2 g.1 w with
  |false =>
   rw[hc]at d
   rw[hwd]at e
   obtain⟨a,b,c⟩:=g
   simp only at e
   unfold i5
   simp only[d,oB,Bool.not_false,Bool.not_true,H1,e,cond_false,if_true,Bool.true_and]
  |true =>
   have hf:=B5 hc
   have t:=l4 hf
   obtain⟨j,D,l,N⟩:=I1 hf
   obtain⟨O,L⟩:=O04 hwd
   have I:∀ x∈w,S4 x:=λx J=>(L x J).1
   have z:(0:Int)<=0/\(0:Int)<g.2.1:=⟨iR _,by omega⟩
   have p:=s0q g j l.2 (by omega) 0 w I (by omega)
   have B:=a06 g w 0
   have i:=W08 j l.2 w 0 ⟨by omega,by omega⟩
   have s:=L03 (xs:=w) (k:=(O2 g 0 w).2) B
   have E:=j0e t
   have F:=y0g j w 0 z
   have C:=b0e g (by omega) (O2 g 0 w).1
   have A:=l05 t
   have m:(Z2 g).2=true->_:=λh=>p0a (g:=(Z2 g).1) (u:=(O2 g 0 w).1) (v:=g.2.1) (w:=w.drop (O2 g 0 w).2) A (by rw[(S09 h).1];simp only;omega) (by rw[(S09 h).1];simp only;omega) (by rw[(S09 h).1];exact n0i hwd _)
   have M:=g09 A (O2 g 0 w).1 (w.drop (O2 g 0 w).2) g.2.1
   have f:=b0e (o5 (Z2 g).1 (O2 g 0 w).1 (w.drop (O2 g 0 w).2) g.2.1).1 (by omega) g.2.1
   rw[hc]at d
   rw[hwd]at e
   generalize O2 g 0 w=R at *
   obtain⟨v,n⟩:=R
   obtain⟨a,b,c⟩:=g
   simp only at e p i s B F C f m ⊢
   unfold i5 Q04
   simp only[d,oB,Bool.not_true,Bool.not_false,H1,e,cond_false,Bool.false_eq_true,if_false,p,Bool.true_and,cond_true]
   rw[D0 i,oB,D0 (show J0 ((n:Nat):Int) from⟨by omega,by omega⟩),oB]
   by_cases c1:n<w.length
   ·rw[if_neg (by simp only[decide_eq_true_eq];omega),decide_eq_true c1,E]
    simp only[oB,cond_true]
    cases hok:(Z2 (a,b,c)).2 with
    |false =>
     generalize Z2 (a,b,c)=q at *
     obtain⟨⟨x,y,z⟩,ok⟩:=q
     simp only at hok
     subst hok
     simp only[Bool.not_false,if_true,oB]
     rw[D0 (show J0 0 from⟨by omega,by omega⟩)]
     rfl
    |true =>
     have o:=m hok
     generalize Z2 (a,b,c)=q at *
     obtain⟨⟨x,y,z⟩,ok⟩:=q
     simp only at hok o f
     subst hok
     simp only[Bool.not_true,Bool.false_eq_true,if_false,s,oB,o,cond_true]
     generalize o5 (x,y,z) v (w.drop n) b=D at *
     obtain⟨⟨P,Q,S⟩,K⟩:=D
     cases K with
     |false =>
      simp only[Bool.not_false,if_true,oB]
      rw[D0 (show J0 0 from⟨by omega,by omega⟩)]
      rfl
     |true =>
      simp only at l
      simp only[Bool.not_true,Bool.false_eq_true,if_false,cond_true,oB]at f ⊢
      rw[D0 (show J0 b from⟨by omega,by omega⟩),oB,f];rfl
   ·rw[if_pos (by simp only[decide_eq_true_eq];omega),decide_eq_false c1]
    simp only[oB,Bool.not_true,Bool.false_eq_true,if_false,cond_false]
    rw[D0 i,oB,C];rfl
def h05(g:j0):Int:=bif j2 g then(g.2.2.length:Int)-g.2.1+1 else -1
theorem z0g(g:j0)(e:g.2.2.length<=140737488355328):v02 g=some (h05 g)/\J0 (h05 g):=by
 have d:=X03 g e
 unfold h05
 cases hc:j2 g with
 |false =>
  rw[hc]at d
  obtain⟨a,b,c⟩:=g
  unfold v02
  simp only[d,oB,Bool.not_false,if_true,cond_false]
  exact⟨trivial,⟨by omega,by omega⟩⟩
 |true =>
  obtain⟨i,j,f,h⟩:=I1 (B5 hc)
  rw[hc]at d
  obtain⟨a,b,c⟩:=g
  simp only at f h
  unfold v02
  simp only[d,oB,Bool.not_true,Bool.false_eq_true,if_false,cond_true]
  rw[w64 (x:=((c.length:Nat):Int)-b) (by omega) (by omega),w64 (by omega) (by omega)]
  exact⟨rfl,⟨by omega,by omega⟩⟩
theorem N0m(g:j0)(e:g.2.2.length<=140737488355328):w02 g=some (h05 g):=by
 have d:=p01 g e
 unfold h05
 cases hc:j2 g with
 |false =>
  rw[hc]at d
  obtain⟨a,b,c⟩:=g
  unfold w02
  simp only[d,oB,Bool.not_false,if_true,cond_false]
 |true =>
  obtain⟨i,j,f,h⟩:=I1 (B5 hc)
  rw[hc]at d
  obtain⟨a,b,c⟩:=g
  simp only at f h
  unfold w02
  simp only[d,oB,Bool.not_true,Bool.false_eq_true,if_false,cond_true]
  rw[w64 (x:=((c.length:Nat):Int)-b) (by omega) (by omega),w64 (by omega) (by omega)]
def J04(g:j0):Int:=bif P04 g then g.2.1 else -1
theorem u0a(g:j0)(f:g.2.2.length<=140737488355328):W02 g=some (J04 g)/\J0 (J04 g):=by
 have d:=s0l g f
 have e:P04 g=true->_:=λh=>I1 (B5 (U0q h))
 unfold J04
 obtain⟨a,b,c⟩:=g
 unfold W02
 cases hc:P04 (a,b,c)with
 |false =>
  rw[hc]at d
  simp only[d,oB,Bool.not_false,if_true,cond_false]
  exact⟨trivial,⟨by omega,by omega⟩⟩
 |true =>
  rw[hc]at d
  obtain⟨j,k,i,l⟩:=e hc
  simp only at i
  simp only[d,oB,Bool.not_true,Bool.false_eq_true,if_false,cond_true]
  exact⟨trivial,⟨by omega,by omega⟩⟩
theorem Y0g(g:j0)(e:g.2.2.length<=140737488355328):X02 g=some (J04 g):=by
 have d:=t0l g e
 unfold J04
 obtain⟨a,b,c⟩:=g
 unfold X02
 cases hc:P04 (a,b,c)with
 |false =>
  rw[hc]at d
  simp only[d,oB,Bool.not_false,if_true,cond_false]
 |true =>
  rw[hc]at d
  simp only[d,oB,Bool.not_true,Bool.false_eq_true,if_false,cond_true]
def exO(bs:List (List Int))(k:Int):Option (List Int):=if 0<k/\k<=(bs.length:Int)then some (bs.getD (k.toNat-1) [])else if k<0 /\ -(bs.length:Int)<=k then some (inv (bs.getD ((-k).toNat-1) []))else none
def exP(bs:List (List Int))(k:Int):List Int:=(exO bs k).getD []
def i0c(bs:List (List Int))(l:List Int):List Int:=(M03 [] ((l.take 200).flatMap (exP bs))).reverse
def BOk(bs:List (List Int)):Prop:=(∀ w∈bs,(∀ x∈w,S4 x)/\w.length<=1000)/\bs.length<=1000
theorem x07{bs:List (List Int)}{k:Nat}(h:k<bs.length):bs.getD k []∈bs:=by
 rw[List.getD_eq_getElem?_getD,List.getElem?_eq_getElem h];exact List.getElem_mem h
theorem Y0r{bs:List (List Int)}(h:BOk bs){k:Int}{w:List Int}(e:exO bs k=some w):w.length<=1000/\∀ x∈w,J0 x:=by
 unfold exO at e
 split at e
 ·rename_i c
  have a:=x07 (bs:=bs) (k:=k.toNat-1) (by omega)
  simp only[Option.some.injEq]at e
  rw[←e]
  exact⟨(h.1 _ a).2,λx b=>((h.1 _ a).1 x b).1⟩
 ·split at e
  ·rename_i c
   have a:=x07 (bs:=bs) (k:=(-k).toNat-1) (by omega)
   simp only[Option.some.injEq]at e
   rw[←e]
   exact⟨by rw[y05];exact(h.1 _ a).2,λx b=>(y0j (h.1 _ a).1 x b).1⟩
  ·cases e
theorem a0o{bs:List (List Int)}(h:BOk bs)(k:Int):(exP bs k).length<=1000/\∀ x∈exP bs k,J0 x:=by
 unfold exP
 cases e:exO bs k with
 |none=>exact⟨by simp,λx a=>by cases a⟩
 |some w=>exact Y0r h e
theorem K0e{bs:List (List Int)}{k:Nat}(h:k<bs.length):gi bs (k:Int)=some (bs.getD k []):=by
 refine J2 ?_
 rw[List.getD_eq_getElem?_getD,List.getElem?_eq_getElem h];rfl
theorem E01{bs:List (List Int)}(h:BOk bs):∀ l:List Int,(l.flatMap (exP bs)).length<=1000*l.length/\∀ x∈l.flatMap (exP bs),J0 x
 | []=>⟨by simp,λx a=>by cases a⟩
 |k::r=>by
  have b:=a0o h k
  have c:=E01 h r
  rw[List.flatMap_cons]
  refine⟨by rw[List.length_append,List.length_cons];omega,λx a=>?_⟩
  rcases List.mem_append.1 a with a|a
  ·exact b.2 x a
  ·exact c.2 x a
theorem i0r{bs:List (List Int)}(h:BOk bs)(l:List Int):∀(d k fuel:Nat) (acc:List Int),k+d=(l.take 200).length->d<fuel->acc.length<=1000*k ->
  U5 l bs fuel (k:Int) acc=some (acc++((l.take 200).drop k).flatMap (exP bs))
 |d,k,0,acc,b,hf,j=>by omega
 |0,k,fuel+1,acc,b,hf,j=>by
  rw[List.length_take]at b
  have e:(bif(decide ((k:Int)<((l.length:Nat):Int)))then(decide ((k:Int)<200))else false)=false:=by
   by_cases c:(k:Int)<((l.length:Nat):Int)
   ·rw[decide_eq_true c,cond_true];exact decide_eq_false (by omega)
   ·rw[decide_eq_false c,cond_false]
  rw[U5.eq_2,e,if_neg (by simp),List.drop_eq_nil_of_le (by rw[List.length_take];omega)];simp
 |d+1,k,fuel+1,acc,b,hf,j=>by
  have t:k<(l.take 200).length:=by omega
  rw[List.length_take]at b
  have o:k<l.length:=by omega
  have s:=h.2
  have i:=O5 o
  have m:(l.take 200).drop k=l[k]::(l.take 200).drop (k+1):=M1 (by rw[List.getElem?_take,if_pos (by omega)];exact i)
  generalize l[k]=x at i m
  have u:=a0o h x
  have a:=λn q=>i0r h l d (k+1) fuel n (by rw[List.length_take];omega) (by omega) q
  have e:(bif(decide ((k:Int)<((l.length:Nat):Int)))then(decide ((k:Int)<200))else false)=true:=by
   rw[decide_eq_true (by omega),cond_true];exact decide_eq_true (by omega)
  rw[U5.eq_2,e,if_pos rfl,m,List.flatMap_cons]
  simp only[J2 i,oB,Y1 (show k<1000 by omega) (show(1000:Nat)<=9223372036854775807 by omega)]
  unfold exP exO
  by_cases c1:0<x
  ·rw[decide_eq_true (show x>0 from c1)]
   simp only[H1,oB,cond_true]
   by_cases c2:x<=(bs.length:Int)
   ·have g:=x07 (bs:=bs) (k:=x.toNat-1) (by omega)
    have p:=(h.1 _ g).2
    have f:gi bs (IntKind.i64.wrap (x-1))=some (bs.getD (x.toNat-1) []):=by
     rw[w64 (by omega) (by omega),show x-1=((x.toNat-1:Nat):Int) by omega];exact K0e (by omega)
    rw[if_pos (by simpa using c2),if_pos ⟨c1,c2⟩,f,oB,D0 (by omega),oB,a _ (by rw[List.length_append];omega)]
    simp only[Option.getD_some,List.append_assoc]
    rfl
   ·rw[if_neg (by simpa using c2),decide_eq_false (show ¬ x<0 by omega)]
    simp only[L1,oB,cond_false]
    rw[if_neg (by simp),if_neg (λq=>c2 q.2),if_neg (λq=>by omega),a _ (by omega)]
    simp only[Option.getD_none,List.nil_append]
    rfl
  ·rw[decide_eq_false (show ¬ x>0 from c1)]
   simp only[L1,oB,cond_false]
   rw[if_neg (by simp),if_neg (λq=>c1 q.1)]
   by_cases c3:x<0
   ·rw[decide_eq_true c3]
    simp only[H1,oB,cond_true]
    rw[w64 (x:=0-((bs.length:Nat):Int)) (by omega) (by omega)]
    by_cases c2 : -(bs.length:Int)<=x
    ·have g:=x07 (bs:=bs) (k:=(-x).toNat-1) (by omega)
     have p:=(h.1 _ g).2
     have f:gi bs (IntKind.i64.wrap ((IntKind.i64.wrap (0-x))-1))=some (bs.getD ((-x).toNat-1) []):=by
      rw[w64 (x:=0-x) (by omega) (by omega),w64 (by omega) (by omega),show 0-x-1=(((-x).toNat-1:Nat):Int) by omega];exact K0e (by omega)
     rw[if_pos (by simp only[decide_eq_true_eq];omega),if_pos ⟨c3,c2⟩,f,oB,h03 _ (by omega),oB,D0 (by rw[y05];omega),oB,a _ (by rw[List.length_append,y05];omega)]
     simp only[Option.getD_some,List.append_assoc]
     rfl
    ·rw[if_neg (by simp only[decide_eq_true_eq];omega),if_neg (λq=>c2 q.2),a _ (by omega)]
     simp only[Option.getD_none,List.nil_append]
     rfl
   ·rw[decide_eq_false c3]
    simp only[L1,oB,cond_false]
    rw[if_neg (by simp),if_neg (λq=>c3 q.1),a _ (by omega)]
    simp only[Option.getD_none,List.nil_append]
    rfl
theorem d0p{bs:List (List Int)}(h:BOk bs)(l:List Int):r02 bs l=some (i0c bs l):=by
 have a:=i0r h l (l.take 200).length 0 Q0 [] (by omega) (C1 (by rw[List.length_take];omega)) (by simp)
 rw[show((0:Nat):Int)=0 from rfl,List.drop_zero,List.nil_append]at a
 have b:=E01 h (l.take 200)
 have d:(l.take 200).length<=200:=by rw[List.length_take];omega
 unfold r02 i0c
 rw[a,oB,o03 _ (λx c=>b.2 x c) (by omega)]
 rfl
theorem p0i:∀(ws:List (List Int)) (s:List Int),E0m s ws=M03 s ws.flatten
 | [],s=>rfl
 |w::r,s=>by rw[E0m,p0i r,List.flatten_cons,l0g]
theorem e06(bs:List (List Int)):∀ l:List Int,(l.filterMap (exO bs)).flatten=l.flatMap (exP bs)
 | []=>rfl
 |k::r=>by
  rw[List.flatMap_cons,←e06 bs r,List.filterMap_cons]
  unfold exP
  cases exO bs k with
  |none=>rfl
  |some w=>rfl
theorem q0i:∀ ws:List (List Int),p0l ws=ws.flatten.length
 | []=>rfl
 |w::r=>by rw[p0l,q0i r,List.flatten_cons,List.length_append]
theorem j0r{bs:List (List Int)}(h:BOk bs)(l:List Int)(n:l.length<=200):∀(d k fuel:Nat) (acc:List (List Int)),k+d=l.length->d<fuel->acc.length<=k ->
  V5 l bs fuel (k:Int) acc=some (acc++(l.drop k).filterMap (exO bs))
 |d,k,0,acc,f,hf,e=>by omega
 |0,k,fuel+1,acc,f,hf,e=>by
  rw[V5.eq_2,if_neg (by simp only[decide_eq_true_eq];omega),J1 (by omega)];simp
 |d+1,k,fuel+1,acc,f,hf,e=>by
  have m:k<l.length:=by omega
  have o:=h.2
  have b:=O5 m
  have g:=M1 b
  generalize l[k]=x at b g
  have c:=λj q=>j0r h l n d (k+1) fuel j (by omega) (by omega) q
  rw[V5.eq_2,if_pos (by simp only[decide_eq_true_eq];omega),g,List.filterMap_cons]
  simp only[J2 b,oB,Y1 (show k<1000 by omega) (show(1000:Nat)<=9223372036854775807 by omega),v03,w64 (x:=0-((bs.length:Nat):Int)) (by omega) (by omega)]
  unfold exO
  by_cases c1:0<x/\x<=(bs.length:Int)
  ·have i:=x07 (bs:=bs) (k:=x.toNat-1) (by omega)
   have a:gi bs (IntKind.i64.wrap (x-1))=some (bs.getD (x.toNat-1) []):=by
    rw[w64 (by omega) (by omega),show x-1=((x.toNat-1:Nat):Int) by omega];exact K0e (by omega)
   rw[if_pos (show inR 1 ((bs.length:Nat):Int) x=true by simp only[inR,Bool.and_eq_true,decide_eq_true_eq];omega),if_pos c1,a,oB,D0 (by simp;omega),oB,c _ (by simp;omega)]
   simp only[List.append_assoc]
   rfl
  ·rw[if_neg (show ¬ inR 1 ((bs.length:Nat):Int) x=true by simp only[inR,Bool.and_eq_true,decide_eq_true_eq];omega),if_neg c1]
   by_cases c2:x<0 /\ -(bs.length:Int)<=x
   ·have i:=x07 (bs:=bs) (k:=(-x).toNat-1) (by omega)
    have p:=(h.1 _ i).2
    have a:gi bs (IntKind.i64.wrap ((IntKind.i64.wrap (0-x))-1))=some (bs.getD ((-x).toNat-1) []):=by
     rw[w64 (x:=0-x) (by omega) (by omega),w64 (by omega) (by omega),show 0-x-1=(((-x).toNat-1:Nat):Int) by omega];exact K0e (by omega)
    rw[if_pos (show inR (0-((bs.length:Nat):Int)) (-1) x=true by simp only[inR,Bool.and_eq_true,decide_eq_true_eq];omega),if_pos c2,a,oB,H04 _ (by omega),oB,D0 (by simp;omega),oB,c _ (by simp;omega)]
    simp only[List.append_assoc]
    rfl
   ·rw[if_neg (show ¬ inR (0-((bs.length:Nat):Int)) (-1) x=true by simp only[inR,Bool.and_eq_true,decide_eq_true_eq];omega),if_neg c2,c _ (by omega)]
    rfl
theorem e0p{bs:List (List Int)}(h:BOk bs)(l:List Int):s02 bs l=some (i0c bs l):=by
 have b:(l.take 200).length<=200:=by rw[List.length_take];omega
 have a:=j0r h (l.take 200) b (l.take 200).length 0 Q0 [] (by omega) (C1 (by omega)) (by simp)
 rw[show((0:Nat):Int)=0 from rfl,List.drop_zero,List.nil_append]at a
 have e:=E01 h (l.take 200)
 have d:j06 l 0 (if 200<((l.length:Nat):Int)then 200 else((l.length:Nat):Int))=some (l.take 200):=by
  by_cases c:200<((l.length:Nat):Int)
  ·rw[if_pos c];exact c09 (k:=200) (by omega)
  ·rw[if_neg c,c09 (Nat.le_refl _),List.take_of_length_le (Nat.le_refl _),List.take_of_length_le (by omega)]
 have f:((l.take 200).filterMap (exO bs)).length<=200:=Nat.le_trans (List.length_filterMap_le _ _) b
 unfold s02 i0c
 rw[d,oB,a,oB,S06 _ (by omega) (by rw[q0i,e06];omega),p0i,e06]
 rfl
theorem k0r(a b:List Int)(i:a.length=b.length)(g:a.length<=9223372036854775807):∀(d k fuel:Nat),k+d=a.length->d<fuel ->
  D4 a b fuel (k:Int)=some (bif eqW (a.drop k) (b.drop k)then .inr ()else .inl false)
 |d,k,0,f,hf=>by omega
 |0,k,fuel+1,f,hf=>by
  rw[D4.eq_2,if_neg (by simp;omega),J1 (by omega),J1 (by omega)]
  rfl
 |d+1,k,fuel+1,f,hf=>by
  have c:=O5 (show k<a.length by omega)
  have e:=O5 (show k<b.length by omega)
  have next:=k0r a b i g d (k+1) fuel (by omega) (by omega)
  generalize a[k]=x at c
  generalize b[k]=y at e
  rw[D4.eq_2,if_pos (by simp;omega),J2 c,oB,J2 e,oB,M1 c,M1 e]
  unfold eqW at next ⊢
  by_cases h:x=y
  ·rw[if_neg (by simpa using h),Y1 (show k<a.length by omega) g,next]
   simp[h]
  ·rw[if_pos (by simpa using h)]
   simp[h]
theorem y07{a b:List Int}(c:a.length<=9223372036854775807):m00 a b=some (eqW a b):=by
 unfold m00
 by_cases h:a.length=b.length
 ·rw[if_neg (by simp[h])]
  have:=k0r a b h (by omega) a.length 0 Q0 (by omega) (G0f c)
  rw[show((0:Nat):Int)=0 from rfl]at this
  rw[this]
  simp only[List.drop_zero,oB]
  unfold eqW
  by_cases h2:a=b
  ·simp[h2,g9]
  ·simp[h2,g9]
 ·rw[if_pos (by simp;omega)]
  unfold eqW
  have : ¬ a=b:=λe=>h (by rw[e])
  simp[this]
theorem p04(a b:List Int):∀(fuel:Nat) (k:Int),E7 a b fuel k=D4 a b fuel k
 |0,k=>rfl
 |fuel+1,k=>by
  rw[E7.eq_2,D4.eq_2]
  simp only[p04 a b fuel]
theorem q0d{a b:List Int}(c:a.length<=9223372036854775807):u01 a b=some (eqW a b):=by
 rw[←y07 c]
 unfold u01 m00
 rw[p04]
theorem D0l{ws:U1}{n:Nat}(h:i6 ws<=n)(b:n<=140737488355328):ws.length<=140737488355328/\T8 ws:=by
 unfold i6 at h
 exact⟨by omega,λw a=>by have:=F0b (m:=I4) a;unfold I4 at this h;omega⟩
end Go.Proofs.YtkjhghloldgioaaGreat
