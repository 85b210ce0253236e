/- Texts of the claim, joined: Plain laws: vertices and edges added; the steps that are mis and others. -/
import Derived.Test.YtkjhghloldgioaaGreatPart23
import Derived.Test.YtkjhghloldgioaaGreatPart17
import Derived.Test.YtkjhghloldgioaaGreatH36
import Derived.Test.YtkjhghloldgioaaGreatPart18
namespace Go.Proofs.YtkjhghloldgioaaGreat
open Go.H
set_option linter.unusedVariables false
set_option linter.unusedSimpArgs false
def I3(g:j0):j0×Bool:=bif decide (g.2.1<40)then((g.1,g.2.1+1,g.2.2),true)else(g,false)
theorem U0e{g:j0}(a:V0 g=true):k02 g=some (I3 g):=by
 obtain⟨f,h,e,i⟩:=U2 a
 have b:=o9 g (by omega)
 have d:=B02 g (by omega)
 obtain⟨r,n,es⟩:=g
 simp only at e
 unfold k02 I3
 simp only[b,d,a,oB,Bool.not_true,cond_false]
 by_cases c:n<40
 ·rw[if_neg (by simp;omega),w64 (by omega) (by omega)];simp[c]
 ·rw[if_pos (by simp;omega)];simp[c]
theorem V0e{g:j0}(a:V0 g=true):m02 g=some (I3 g):=by
 obtain⟨f,h,e,i⟩:=U2 a
 have b:=Y01 g (by omega)
 have d:=Z01 g (by omega)
 obtain⟨r,n,es⟩:=g
 simp only at e
 unfold m02 I3
 simp only[b,d,a,oB,Bool.not_true,cond_false]
 by_cases c:n<40
 ·rw[if_neg (by simp;omega),w64 (by omega) (by omega)];simp[c]
 ·rw[if_pos (by simp;omega)];simp[c]
theorem P05{g:j0}(a:V0 g=true):V0 (I3 g).1=true:=by
 unfold I3
 by_cases c:g.2.1<40
 ·simp only[c,decide_true,cond_true]
  obtain⟨d,f,j,h,i⟩:=(V02 g).1 a
  refine(V02 _).2 ⟨λe b=>?_,f,?_,h,i⟩
  ·have:=d e b
   simp only
   omega
  ·simp only;omega
 ·simp only[c,decide_false,cond_false];exact a
theorem Y0o(es:List N0)(e:N0)(o:es.length<=140737488355328):∀(d k fuel:Nat),k+d=es.length->d<fuel ->
  ∃ X,D2 es e.1 e.2.1 e.2.2 fuel (k:Int)=some X/\((∃ i:Nat,X = .inl (i:Int)/\i<es.length/\e∈es.drop k)∨(X = .inr ()/\e ∉ es.drop k))
 |d,k,0,l,hf=>by omega
 |0,k,fuel+1,l,hf=>by
  rw[D2.eq_2,if_neg (by simp;omega),I1 (by omega)]
  exact⟨_,rfl,.inr ⟨rfl,by simp⟩⟩
 |d+1,k,fuel+1,l,hf=>by
  have a:k<es.length:=by omega
  have f:=E5 a
  generalize es[k]=b at f
  rw[D2.eq_2,if_pos (by simp;omega),P2 f,oB,O1 f]
  simp only[]
  by_cases c:eqE e b=true
  ·rw[if_pos c]
   refine⟨_,rfl,.inl ⟨k,rfl,a,?_⟩⟩
   rw[(u0f _ _).1 c]
   exact mS
  ·rw[if_neg c,C2 a (by omega)]
   obtain⟨X,m,n⟩:=Y0o es e o d (k+1) fuel (by omega) (by omega)
   refine⟨X,m,?_⟩
   have p:e≠b:=λh=>c ((u0f _ _).2 h)
   rcases n with⟨i,g,j,q⟩|⟨g,j⟩
   ·exact .inl ⟨i,g,j,mC _ q⟩
   ·refine .inr ⟨g,λh=>?_⟩
    rcases List.mem_cons.1 h with h|h
    ·exact p h
    ·exact j h
theorem D0n(es:List N0)(e:N0)(b:es.length<=140737488355328):Q3 es e=some (decide (e∈es)):=by
 obtain⟨X,d,a⟩:=Y0o es e b es.length 0 T0 (by omega) (D1 b)
 obtain⟨g,h,j⟩:=e
 unfold Q3 K5
 simp only
 simp only[List.drop_zero]at a
 rw[show(0:Int)=((0:Nat):Int) from rfl,d]
 rcases a with⟨i,rfl,c,f⟩|⟨rfl,c⟩
 ·simp only[oB,T4]
  rw[H0 (show J0 ((i:Nat):Int) from⟨by omega,by omega⟩)]
  simp[f]
 ·simp only[oB,U0]
  rw[H0 (show J0 (-1) from⟨by omega,by omega⟩)]
  simp[c]
def T08(g:j0)(v:Int):List Int->List N0
 | []=>[]
 |x::r=>(bif decide (j1 g v x<0)then [(v,x,-1)]else [])++T08 g v r
def f0b(g:j0):Nat->Nat->List N0
 |0,_=>[]
 |d+1,v=>T08 g (v:Int) (M6 g.1.toNat 1)++f0b g d (v+1)
theorem D0a(g:j0)(v:Int):∀ l,(T08 g v l).length<=l.length
 | []=>Nat.le_refl _
 |x::r=>by
  have:=D0a g v r
  simp only[T08,List.length_append,List.length_cons]
  cases decide (j1 g v x<0)<;>simp<;>omega
theorem b0m(g:j0)(j:V0 g=true)(v:Int)(a:List Int)(l:∀ x∈a,l5 x)(o:a.length<=1000):∀(d k fuel:Nat) (acc:List N0),k+d=a.length->d<fuel->acc.length+d<=100000 ->
  f4 a g.1 g.2.1 g.2.2 v fuel (k:Int) acc=some (acc++T08 g v (a.drop k))
 |d,k,0,acc,i,hf,f=>by omega
 |0,k,fuel+1,acc,i,hf,f=>by
  rw[f4.eq_2,if_neg (by simp;omega),I1 (by omega)]
  simp[T08]
 |d+1,k,fuel+1,acc,i,hf,f=>by
  obtain⟨p,s,q,t⟩:=U2 j
  have c:k<a.length:=by omega
  have e:=E5 c
  have m:=l _ (List.getElem_mem c)
  generalize a[k]=x at e m
  have n:∀ b:List N0,b.length+d<=100000->f4 a g.1 g.2.1 g.2.2 v fuel ((k+1:Nat):Int) b=some (b++T08 g v (a.drop (k+1))):=λb h=>b0m g j v a l o d (k+1) fuel b (by omega) (by omega) h
  rw[f4.eq_2,if_pos (by simp;omega),P2 e,oB,show(g.1,g.2.1,g.2.2)=g from rfl,f05 g v x m (by omega),oB,H0 (c04 p q.2 v x),oB,C2 c (by omega),O1 e,T08]
  cases decide (j1 g v x<0)with
  |true =>
   rw[if_pos rfl,oB,H0 (by simp;omega),oB,n _ (by simp;omega)]
   simp
  |false =>
   rw[if_neg (by simp),n _ (by omega)]
   simp
theorem c0m(g:j0)(j:V0 g=true)(v:Int)(a:List Int)(l:∀ x∈a,l5 x)(o:a.length<=1000):∀(d k fuel:Nat) (acc:List N0),k+d=a.length->d<fuel->acc.length+d<=100000 ->
  i4 a g.1 g.2.1 g.2.2 v fuel (k:Int) acc=some (acc++T08 g v (a.drop k))
 |d,k,0,acc,i,hf,f=>by omega
 |0,k,fuel+1,acc,i,hf,f=>by
  rw[i4.eq_2,if_neg (by simp;omega),I1 (by omega)]
  simp[T08]
 |d+1,k,fuel+1,acc,i,hf,f=>by
  obtain⟨p,s,q,t⟩:=U2 j
  have c:k<a.length:=by omega
  have e:=E5 c
  have m:=l _ (List.getElem_mem c)
  generalize a[k]=x at e m
  have n:∀ b:List N0,b.length+d<=100000->i4 a g.1 g.2.1 g.2.2 v fuel ((k+1:Nat):Int) b=some (b++T08 g v (a.drop (k+1))):=λb h=>c0m g j v a l o d (k+1) fuel b (by omega) (by omega) h
  rw[i4.eq_2,if_pos (by simp;omega),P2 e,oB,show(g.1,g.2.1,g.2.2)=g from rfl,F06 g v x m (by omega),oB,H0 (c04 p q.2 v x),oB,C2 c (by omega),O1 e,T08]
  cases decide (j1 g v x<0)with
  |true =>
   rw[if_pos rfl,H0 (by simp;omega),oB,n _ (by simp;omega)]
   simp
  |false =>
   rw[if_neg (by simp),n _ (by omega)]
   simp
theorem P0c:∀(d i:Nat) (x:Int),x∈M6 d i->∃ j:Nat,i<=j/\j<i+d/\(x=(j:Int)∨x = -(j:Int))
 |0,i,x,h=>by simp[M6]at h
 |d+1,i,x,h=>by
  simp only[M6,List.mem_cons]at h
  rcases h with rfl|rfl|h
  ·exact⟨i,Nat.le_refl _,by omega,.inl rfl⟩
  ·exact⟨i,Nat.le_refl _,by omega,.inr rfl⟩
  ·obtain⟨j,b,c,a⟩:=P0c d (i+1) x h
   exact⟨j,by omega,by omega,a⟩
theorem d0m(g:j0)(a:O0 g=true):∀(d k fuel:Nat) (acc:List N0),k+d=g.2.1.toNat->d<fuel->acc.length+100*d<=10000 ->
  P5 g.2.1 g.1 g.2.2 fuel (k:Int) acc=some (acc++f0b g d k)
 |d,k,0,acc,c,hf,b=>by omega
 |0,k,fuel+1,acc,c,hf,b=>by
  obtain⟨l,m,n,o⟩:=J1 a
  rw[P5.eq_2,show decide (((k:Nat):Int)<g.2.1)=false by simp;omega]
  simp[chk,f0b]
 |d+1,k,fuel+1,acc,c,hf,b=>by
  obtain⟨l,m,n,o⟩:=J1 a
  have f:=((J06 g).1 a).1
  obtain⟨R,e⟩:∃ R:Nat,g.1=(R:Int):=⟨g.1.toNat,by omega⟩
  have h:∀ x∈M6 g.1.toNat 1,l5 x:=λx i=>by
   obtain⟨j,p,q,s⟩:=P0c _ _ _ i
   refine⟨⟨by omega,by omega⟩,by omega⟩
  have t:=h02 g.1.toNat 1
  have u:=D0a g (k:Int) (M6 g.1.toNat 1)
  have h0:=b0m g f (k:Int) (M6 g.1.toNat 1) h (by omega) (M6 g.1.toNat 1).length 0 T0 acc (by omega) (D1 (by omega)) (by omega)
  rw[P5.eq_2,show decide (((k:Nat):Int)<g.2.1)=true by simp;omega,H1,show(g.1,g.2.1,g.2.2)=g from rfl,O6 g (by omega),oB,a]
  rw[if_pos (show(bif true then true else false)=true from rfl),show M7 g.1=some (M6 g.1.toNat 1) by rw[e,i0k R (by omega)];rfl,oB,show(0:Int)=((0:Nat):Int) from rfl,h0,oB,C2 (show k<1000 by omega) (by omega),d0m g a d (k+1) fuel _ (by omega) (by omega) (by simp;omega),f0b]
  simp
theorem e0m(g:j0)(a:O0 g=true):∀(d k fuel:Nat) (acc:List N0),k+d=g.2.1.toNat->d<fuel->acc.length+100*d<=10000 ->
  Q5 g.2.1 g.1 g.2.2 fuel (k:Int) acc=some (acc++f0b g d k)
 |d,k,0,acc,c,hf,b=>by omega
 |0,k,fuel+1,acc,c,hf,b=>by
  obtain⟨l,m,n,o⟩:=J1 a
  rw[Q5.eq_2,if_neg (by simp;omega)]
  simp[f0b]
 |d+1,k,fuel+1,acc,c,hf,b=>by
  obtain⟨l,m,n,o⟩:=J1 a
  have f:=((J06 g).1 a).1
  obtain⟨R,e⟩:∃ R:Nat,g.1=(R:Int):=⟨g.1.toNat,by omega⟩
  have h:∀ x∈M6 g.1.toNat 1,l5 x:=λx i=>by
   obtain⟨j,p,q,s⟩:=P0c _ _ _ i
   refine⟨⟨by omega,by omega⟩,by omega⟩
  have t:=h02 g.1.toNat 1
  have u:=D0a g (k:Int) (M6 g.1.toNat 1)
  have h0:=c0m g f (k:Int) (M6 g.1.toNat 1) h (by omega) (M6 g.1.toNat 1).length 0 T0 acc (by omega) (D1 (by omega)) (by omega)
  rw[Q5.eq_2,if_pos (by simp;omega),show t00 g.1=some (M6 g.1.toNat 1) by rw[e,y0n R (by omega)];rfl,oB,show(0:Int)=((0:Nat):Int) from rfl,h0,oB,C2 (show k<1000 by omega) (by omega),e0m g a d (k+1) fuel _ (by omega) (by omega) (by simp;omega),f0b]
  simp
def n02(g:j0):List N0:=f0b g g.2.1.toNat 0
theorem M0h{g:j0}(hf:O0 g=true):I9 g=some (n02 g):=by
 obtain⟨a,b,c,d⟩:=J1 hf
 have h:=d0m g hf g.2.1.toNat 0 T0 [] (by omega) (D1 (by omega)) (by simp;omega)
 obtain⟨r,n,es⟩:=g
 unfold I9 n02
 simp only at h ⊢
 rw[show(0:Int)=((0:Nat):Int) from rfl,h];simp
theorem N0h{g:j0}(hf:O0 g=true):J9 g=some (n02 g):=by
 obtain⟨b,c,d,e⟩:=J1 hf
 have h:=e0m g hf g.2.1.toNat 0 T0 [] (by omega) (D1 (by omega)) (by simp;omega)
 have a:=u00 g (by omega)
 obtain⟨r,n,es⟩:=g
 unfold J9 n02
 simp only[a,hf,oB]at h ⊢
 rw[if_neg (by simp),show(0:Int)=((0:Nat):Int) from rfl,h];simp
theorem R09{g:j0}(a:V0 g=true)(u:Int)(w:List Int)(v:Int):(L5 g u w v).1.2.2.length<=120:=by
 have q:=(U2 a).2.2.2
 unfold L5
 cases hc:(!w.isEmpty&&decide (g.2.1+(w.length:Int)-1<=40)&&decide (g.2.2.length+w.length<=120))with
 |false=>exact q
 |true =>
  simp only[Bool.and_eq_true,decide_eq_true_eq]at hc
  have b:=n03 (X03 v w u g.2.1) g.2.2
  have c:=C0a v w u g.2.1
  simp only[cond_true]
  omega
theorem E0n(g:Nat):∀(d k:Nat) (x:Int),x∈wo g d k->∃ j:Nat,x=(j:Int)/\k<=j/\j<k+d
 |0,k,x,h=>nomatch h
 |d+1,k,x,h=>by
  unfold wo at h
  split at h
  ·obtain⟨j,a,b,c⟩:=E0n g d (k+1) x h
   exact⟨j,a,by omega,by omega⟩
  ·rcases List.mem_cons.1 h with rfl|h
   ·exact⟨k,rfl,Nat.le_refl _,by omega⟩
   ·obtain⟨j,a,b,c⟩:=E0n g d (k+1) x h
    exact⟨j,a,by omega,by omega⟩
theorem S09(g:Nat):∀(d k:Nat),(wo g d k).Nodup
 |0,k=>List.nodup_nil
 |d+1,k=>by
  unfold wo
  split
  ·exact S09 g d (k+1)
  ·refine List.nodup_cons.2 ⟨λh=>?_,S09 g d (k+1)⟩
   obtain⟨j,a,b,c⟩:=E0n g d (k+1) _ h
   omega
theorem p0k(P:List Int):∀(es:List N0),∀ e∈pE P es,∃ a∈es,e=(getI P a.1,a.2.1,getI P a.2.2)/\0<=getI P a.1/\0<=getI P a.2.2
 | [],e,h=>nomatch h
 |b::r,e,h=>by
  unfold pE at h
  cases hb:decide (0<=getI P b.1)&&decide (0<=getI P b.2.2)
  ·rw[hb]at h
   obtain⟨a,c,d⟩:=p0k P r e h
   exact⟨a,mC _ c,d⟩
  ·rw[hb]at h
   simp only[Bool.and_eq_true,decide_eq_true_eq]at hb
   rcases List.mem_cons.1 h with rfl|h
   ·exact⟨b,mS,rfl,hb.1,hb.2⟩
   ·obtain⟨a,c,d⟩:=p0k P r e h
    exact⟨a,mC _ c,d⟩
theorem D0b{g:j0}{o:List Int}(f:V0 g=true)(b:inV g.2.1.toNat o)(p:1<=o.length)(q:o.length<=40):V0 (S9 g o)=true:=by
 obtain⟨k,l,t,u⟩:=U2 f
 have s:=f0k (plc g.2.1.toNat o) g.2.2
 refine N0c l ⟨by omega,by omega⟩ (by omega) λe d=>?_
 obtain⟨a,c,rfl,i,j⟩:=p0k _ _ e d
 have h:=k a c
 have m:=(d08 b (x:=a.1) (by omega)).2
 have n:=(d08 b (x:=a.2.2) (by omega)).2
 exact⟨⟨i,m⟩,⟨j,n⟩,h.2.2⟩
theorem U0g{n:Nat}:∀(o:List Int) (k:Nat) (A:List Int),A.length=n->inV n o->o.Nodup->(∀ x,0<=x->getI A x<(k:Int))->(∀ x y,0<=x->0<=y->0<=getI A x->getI A x=getI A y->x=y) ->
  ∀ x y,0<=x->0<=y->0<=getI (C02 A k o) x->getI (C02 A k o) x=getI (C02 A k o) y->x=y
 | [],k,A,h,e,i,c,d=>d
 |v::r,k,A,h,e,i,c,d=>by
  have f:=e v mS
  refine U0g r (k+1) (A.set v.toNat (k:Int)) (by simp[h]) (λw j=>e w (mC _ j)) (List.nodup_cons.1 i).2 (λx b=>?_) (λx y b g h0 a=>?_)
  ·rw[H05 f.1 (by omega) b]
   have:=c x b
   split<;>omega
  ·rw[H05 f.1 (by omega) b]at h0 a
   rw[H05 f.1 (by omega) g]at a
   have l:=c x b
   have m:=c y g
   by_cases c1:x=v
   ·by_cases c2:y=v
    ·rw[c1,c2]
    ·rw[if_pos c1,if_neg c2]at a;omega
   ·by_cases c2:y=v
    ·rw[if_neg c1,if_pos c2]at a;omega
    ·rw[if_neg c1]at h0;rw[if_neg c1,if_neg c2]at a
     exact d x y b g h0 a
theorem q0k{n:Nat}{o:List Int}(d:inV n o)(b:o.Nodup){x y:Int}(a:0<=x)(e:0<=y)(h0:0<=getI (plc n o) x)(c:getI (plc n o) x=getI (plc n o) y):x=y:=by
 refine U0g o 0 (List.replicate n (-1)) (by simp) d b (λx a=>by rw[J09];omega) (λx y _ _ h _=>by rw[J09]at h;omega) x y a e h0 c
theorem O0r{es:List N0}(h:es.Pairwise λa b=>G06 a b=false){a b:N0}(f:a∈es)(i:b∈es)(k:a≠b):G06 a b=false:=by
 induction es with
 |nil=>cases f
 |cons c r l =>
  obtain⟨e,j⟩:=List.pairwise_cons.1 h
  rcases List.mem_cons.1 f with rfl|g
  ·rcases List.mem_cons.1 i with rfl|d
   ·exact absurd rfl k
   ·exact e b d
  ·rcases List.mem_cons.1 i with rfl|d
   ·rw[J0d];exact e a g
   ·exact l j g d
theorem c0t{es:List N0}(i:Asc S0 es)(h:∀ a∈es,∀ b∈es,a≠b->G06 a b=false):es.Pairwise λa b=>G06 a b=false:=by
 induction es with
 |nil=>exact .nil
 |cons c r k =>
  obtain⟨f,g⟩:=List.pairwise_cons.1 i
  refine List.pairwise_cons.2 ⟨λb d=>h c mS b (mC _ d) λe=>?_,k g λa j b d=>h a (mC _ j) b (mC _ d)⟩
  have:=f b d
  rw[e,U7.refl]at this;omega
theorem S0d{g:j0}(c:V0 g=true):O0 g=true↔∀ a∈g.2.2,∀ b∈g.2.2,a≠b->G06 a b=false:=by
 rw[J06,Q0d]
 exact⟨λh a d b e f=>O0r h.2 d e f,λh=>⟨c,c0t (graph_asc' c) h⟩⟩
where graph_asc' {g:j0} (h:V0 g=true):Asc S0 g.2.2:=((V02 g).1 h).2.2.2.2
theorem T09{g:j0}{o:List Int}(hf:O0 g=true)(j:inV g.2.1.toNat o)(m:o.Nodup)(s:1<=o.length)(t:o.length<=40):O0 (S9 g o)=true:=by
 have i:=P4 hf
 obtain⟨n,F,G,H⟩:=U2 i
 refine(S0d (D0b i j s t)).2 λa u b v z=>?_
 have mem:∀ e∈(S9 g o).2.2,∃ a∈g.2.2,e=(getI (plc g.2.1.toNat o) a.1,a.2.1,getI (plc g.2.1.toNat o) a.2.2)/\0<=getI (plc g.2.1.toNat o) a.1/\0<=getI (plc g.2.1.toNat o) a.2.2:=λe y=>by
  rcases(I00 U7 e _ _).1 y with h|h
  ·cases h
  ·exact p0k _ _ e h
 obtain⟨d,k,rfl,B,C⟩:=mem a u
 obtain⟨f,l,rfl,D,E⟩:=mem b v
 have A:d≠f:=λe=>z (by rw[e])
 have c:=(S0d i).1 hf d k f l A
 have p:=n d k
 have q:=n f l
 unfold G06 at c ⊢
 simp only[Bool.and_eq_false_iff,Bool.or_eq_false_iff,decide_eq_false_iff_not]at c ⊢
 rcases c with c|⟨w,x⟩
 ·exact .inl c
 ·exact .inr ⟨λe=>w (q0k j m p.1.1 q.1.1 B e),λe=>x (q0k j m p.2.1.1 q.2.1.1 C e)⟩
def K06:Nat->j0->j0
 |0,g=>g
 |d+1,g=>match R00 g with
  |none=>g
  |some k=>K06 d (S9 g (wo k g.2.1.toNat 0))
theorem r0k{g:j0}{k:Nat}(h:R00 g=some k):1<=k/\k<g.2.1.toNat:=by
 have:=M09 _ _ _ h
 omega
theorem T0d{g:j0}(b:V0 g=true){k:Nat}(h:R00 g=some k):inV g.2.1.toNat (wo k g.2.1.toNat 0)/\(wo k g.2.1.toNat 0).length=g.2.1.toNat-1/\1<=(wo k g.2.1.toNat 0).length/\(wo k g.2.1.toNat 0).length<=40:=by
 obtain⟨d,e,f,i⟩:=U2 b
 have c:=r0k h
 have a:=R0g k g.2.1.toNat 0
 rw[if_pos (by omega)]at a
 exact⟨Q0l k _ _ 0 (by omega),a,by omega,by omega⟩
theorem H03:∀(d:Nat) {g:j0},O0 g=true->O0 (K06 d g)=true
 |0,g,h=>h
 |d+1,g,h=>by
  unfold K06
  cases e:R00 g with
  |none=>exact h
  |some k =>
   obtain⟨a,f,b,c⟩:=T0d (P4 h) e
   exact H03 d (T09 h a (S09 _ _ _) b c)
theorem V0g(n g:Nat)(i:n<=1000)(u:List Int)(j:u.length=n):∀(d k fuel:Nat) (acc a:List Int),k+d=n->d<fuel->acc.length<=k->a.length<=k ->
  ∃ v,L6 (n:Int) (g:Int) u fuel (k:Int) acc a=some (acc++wo g d k,v)/\v.length+acc.length=a.length+(acc++wo g d k).length
 |d,k,0,acc,a,h,hf,b,f=>by omega
 |0,k,fuel+1,acc,a,h,hf,b,f=>by
  rw[L6.eq_2,if_neg (by simp;omega)];exact⟨a,by simp[wo],by simp[wo]⟩
 |d+1,k,fuel+1,acc,a,h,hf,b,f=>by
  have l:=E5 (show k<u.length by omega)
  generalize u[k]=x at l
  rw[L6.eq_2,if_pos (by simp;omega),C2 (show k<10000 by omega) (by omega)]
  unfold wo
  by_cases c:k=g
  ·have e:decide ((k:Int)=(g:Int))=true:=decide_eq_true (by omega)
   rw[e,if_neg (by simp),if_pos c]
   exact V0g n g i u j d (k+1) fuel acc a (by omega) (by omega) (by omega) (by omega)
  ·have e:decide ((k:Int)=(g:Int))=false:=decide_eq_false (by omega)
   rw[e,if_pos (show(!false)=true from rfl),if_neg c,H0 (by simp;omega),oB,P2 l,oB,H0 (by simp;omega),oB]
   obtain⟨v,m,o⟩:=V0g n g i u j d (k+1) fuel (acc ++ [(k:Int)]) (a ++ [x]) (by omega) (by omega) (by simp;omega) (by simp;omega)
   refine⟨v,by rw[m];simp,?_⟩
   simp only[List.length_append,List.length_cons,List.length_nil]at o ⊢
   omega
theorem f0m(g:j0)(a:V0 g=true):∀(d k fuel:Nat) (acc:List Int),k+d=g.2.1.toNat->d<fuel->acc.length=k ->
  ∃ u,A7 g.2.1 g.1 g.2.2 fuel (k:Int) acc=some u/\u.length=g.2.1.toNat
 |d,k,0,acc,c,hf,b=>by omega
 |0,k,fuel+1,acc,c,hf,b=>by
  obtain⟨h,i,j,l⟩:=U2 a
  rw[A7.eq_2,show decide (((k:Nat):Int)<g.2.1)=false by simp;omega]
  exact⟨acc,by simp[chk],by omega⟩
 |d+1,k,fuel+1,acc,c,hf,b=>by
  obtain⟨h,i,j,l⟩:=U2 a
  obtain⟨u,e,f⟩:=f0m g a d (k+1) fuel (acc ++ [(k:Int)]) (by omega) (by omega) (by simp;omega)
  rw[A7.eq_2,show decide (((k:Nat):Int)<g.2.1)=true by simp;omega,H1,show(g.1,g.2.1,g.2.2)=g from rfl,o9 g (by omega),oB,a]
  rw[if_pos (show(bif true then true else false)=true from rfl),H0 (by simp;omega),oB,C2 (show k<1000 by omega) (by omega),e]
  exact⟨u,rfl,f⟩
theorem g0m(f:j0)(n:V0 f=true):∀(d k fuel:Nat) (g:j0) (u:List Int),k+d=40->d<fuel->V0 g=true->u.length=g.2.1.toNat->g.2.1.toNat<=d+1 ->
  ∃ v,(z7 f.1 f.2.1 f.2.2 fuel u (k:Int) g.1 g.2.1 g.2.2).bind (λX=>K9 X (λx=>match x with|(a,b,c,e)=>some ((b,c,e),a)))=some (K06 d g,v)
 |d,k,0,g,u,q,hf,h,w,s=>by omega
 |0,k,fuel+1,g,u,q,hf,h,w,s=>by
  rw[z7.eq_2,show decide (((k:Nat):Int)<40)=false by simp;omega]
  exact⟨u,by simp[chk,K9,K06]⟩
 |d+1,k,fuel+1,g,u,q,hf,h,w,s=>by
  obtain⟨G,H,I,J⟩:=U2 n
  obtain⟨K,L,M,O⟩:=U2 h
  have B:=J0r g h
  rw[z7.eq_2,show decide (((k:Nat):Int)<40)=true by simp;omega,H1,show(f.1,f.2.1,f.2.2)=f from rfl,o9 f (by omega),oB,n]
  rw[if_pos (show(bif true then true else false)=true from rfl),show(g.1,g.2.1,g.2.2)=g from rfl,B]
  unfold K06
  cases e:R00 g with
  |none =>
   simp only[oB]
   rw[H0 (show J0 (-1) from⟨by omega,by omega⟩),oB,if_pos (by simp)]
   exact⟨u,rfl⟩
  |some j =>
   obtain⟨o,y,m,A⟩:=T0d h e
   have F:=r0k e
   obtain⟨N,l⟩:∃ N:Nat,g.2.1=(N:Int):=⟨g.2.1.toNat,by omega⟩
   have i:g.2.1.toNat=N:=by omega
   obtain⟨v,D,E⟩:=V0g N j (by omega) u (by omega) N 0 T0 [] [] (by omega) (D1 (by omega)) (Nat.le_refl _) (Nat.le_refl _)
   have t:=B0b g.1 N g.2.2 (wo j N 0) (by rw[←l];exact h) (by rw[←i];exact o) (S09 _ _ _) (by rw[←i];exact m) (by rw[←i];omega)
   rw[←l,show(g.1,g.2.1,g.2.2)=g from rfl]at t
   have p:=D0b h o m A
   rw[i]at p y m
   obtain⟨C,z⟩:=g0m f n d (k+1) fuel (S9 g (wo j N 0)) v (by omega) (by omega) p (by simp only[List.nil_append,List.length_nil]at E;show v.length=((wo j N 0).length:Int).toNat;omega) (by show((wo j N 0).length:Int).toNat<=d+1;omega)
   simp only[oB]
   rw[H0 (show J0 ((j:Nat):Int) from⟨by omega,by omega⟩),oB,if_neg (by simp),l,show(0:Int)=((0:Nat):Int) from rfl,D]
   simp only[oB,List.nil_append]
   rw[←l,t]
   simp only[oB]
   rw[C2 (show k<1000 by omega) (by omega),i]
   exact⟨C,z⟩
def A07(g:j0):j0:=K06 40 g
theorem W0g{g:j0}(a:V0 g=true):∃ v,o02 g=some (A07 g,v):=by
 obtain⟨f,h,i,j⟩:=U2 a
 have e:=B02 g (by omega)
 obtain⟨u,b,d⟩:=f0m g a g.2.1.toNat 0 T0 [] (by omega) (D1 (by omega)) rfl
 obtain⟨v,c⟩:=g0m g a 40 0 T0 g u rfl (D1 (by omega)) a d (by omega)
 refine⟨v,?_⟩
 obtain⟨r,n,es⟩:=g
 unfold o02
 simp only[e,oB]
 simp only at b c
 rw[show(0:Int)=((0:Nat):Int) from rfl,b,oB]
 exact c
theorem i0m:∀(n fuel d:Nat) (left:List Int) (r:Int) (es:List N0),1<=n->n<=40->inN n es->es.length<=120->left.length=n->n<fuel->n<=d+1 ->
  ∃ i,K6 fuel left r (n:Int) es=some (.inl (K06 d (r,(n:Int),es),i))
 |n,0,d,left,r,es,j,l,b,B,C,hf,A=>by omega
 |n,fuel+1,d,left,r,es,j,l,b,B,C,hf,A=>by
  obtain⟨c,x,G,y⟩:=L0l r n es b (by omega) j (by omega)
  have t:=j0k r n es (by omega) c G l (n-1) 1 T0 (Nat.le_refl _) (by omega) (by omega) (D1 (by omega))
  have z:lf (λv=>decide (K04 (v:Int) es<2) || !b01 c (v:Int)) (n-1) 1=lf (O0d es) (n-1) 1:=Q0g _ _ λk I J=>by
   unfold O0d
   have:=y (k:Int) (by omega) (by omega)
   have m:=L0c es 0 (k:Int)
   congr 2
   cases hb:b01 c (k:Int)
   ·symm;exact decide_eq_false λh=>by rw[this.2 (m.1 h)]at hb;cases hb
   ·symm;exact decide_eq_true (m.2 (this.1 hb))
  rw[z]at t
  have o:R00 (r,(n:Int),es)=lf (O0d es) (n-1) 1:=by simp only[R00,Int.toNat_natCast]
  rw[K6.eq_2,x,oB,show(1:Int)=((1:Nat):Int) from rfl,t,oB]
  cases hlf:lf (O0d es) (n-1) 1 with
  |none =>
   have e:K06 d (r,(n:Int),es)=(r,(n:Int),es):=by
    cases d with
    |zero=>rfl
    |succ d=>unfold K06;rw[o,hlf]
   rw[e]
   exact⟨left,by rw[if_pos (by rfl)]⟩
  |some k =>
   have H:=M09 _ _ _ hlf
   have w:decide ((k:Int)=0)=false:=decide_eq_false (by omega)
   have p:=Q0l k n n 0 (by omega)
   have g:=R0g k n 0
   rw[if_pos (by omega)]at g
   have s:=k0k n k (by omega) n 0 T0 [] (by omega) (D1 (by omega)) (Nat.le_refl _)
   rw[show((0:Nat):Int)=0 from rfl,List.nil_append]at s
   have D:=g0k r n es (wo k n 0) b p (by omega) (by omega) (by omega)
   have E:=A0b (r,(n:Int),es) (wo k n 0)
   have q:=J0i (r:=r) p b
   have F:IntKind.i64.wrap ((k:Int)+((1:Nat):Int))=((k+1:Nat):Int):=by rw[w64 (by omega) (by omega)];rfl
   obtain⟨a,rfl⟩:∃ a,d=a+1:=⟨d-1,by omega⟩
   have f:S9 (r,(n:Int),es) (wo k n 0)=(r,((n-1:Nat):Int),(S9 (r,(n:Int),es) (wo k n 0)).2.2):=by rw[←g];rfl
   obtain⟨i,u⟩:=i0m (n-1) fuel a (left.take k++left.drop (k+1)) r (S9 (r,(n:Int),es) (wo k n 0)).2.2 (by omega) (by omega) (by rw[g]at q;exact q) (by simp only at E;omega) (by simp only[List.length_append,List.length_take,List.length_drop];omega) (by omega) (by omega)
   refine⟨i,?_⟩
   rw[←f]at u
   have e:K06 (a+1) (r,(n:Int),es)=K06 a (S9 (r,(n:Int),es) (wo k n 0)):=by
    show(match R00 (r,(n:Int),es)with|none=>(r,(n:Int),es)|some k=>K06 a (S9 (r,(n:Int),es) (wo k ((n:Int)).toNat 0)))=_
    rw[o,hlf,Int.toNat_natCast]
   rw[e]
   simp only[w,Bool.false_eq_true,if_false,s,oB,D]
   generalize S9 (r,(n:Int),es) (wo k n 0)=gp at *
   rw[f]
   simp only[F]
   rw[N09 (by omega),oB,m04 (by omega),oB,H0 (by simp only[List.length_take,List.length_drop];omega),oB,u,←f]
theorem D0e{g:j0}(f:V0 g=true):∃ v,U8 g=some (A07 g,v):=by
 obtain⟨b,i,j,c⟩:=U2 f
 have m:=Y01 g (by omega)
 have k:=Z01 g (by omega)
 obtain⟨r,n,es⟩:=g
 simp only at i j c
 obtain⟨N,rfl⟩:∃ N:Nat,n=(N:Int):=⟨n.toNat,by omega⟩
 have l:inN N es:=λe d=>⟨(b e d).1,(b e d).2.1⟩
 obtain⟨u,a,h⟩:=l0k N (by omega) N 0 T0 [] (by omega) (D1 (by omega)) rfl
 obtain⟨o,p⟩:=i0m N T0 40 u r es (by omega) (by omega) l c h (D1 (by omega)) (by omega)
 refine⟨o,?_⟩
 unfold U8
 rw[show((0:Nat):Int)=0 from rfl]at a
 simp only[k,oB,m,f,Bool.not_true,Bool.false_eq_true,if_false,a,p,K9]
 rfl
def U0d(g:j0):j0:=T3 (A07 g)
theorem Q0c{g:j0}(hf:O0 g=true):c01 g=(g,[]):=by
 obtain⟨a,b⟩:=(J06 g).1 hf
 unfold c01
 rw[a]
 show a03 40 g=_
 unfold a03
 rw[b]
theorem F0n{g:j0}(hf:O0 g=true):b9 g=some (U0d g):=by
 have b:=P4 hf
 obtain⟨e,f,h,i⟩:=U2 b
 have a:=b0b g (by omega)
 rw[Q0c hf]at a
 obtain⟨v,c⟩:=W0g b
 have d:=L09 (A07 g) (H03 40 hf)
 obtain⟨r,n,es⟩:=g
 unfold b9 U0d
 simp only[a,oB,c]
 simp only[d,oB]
theorem G0n{g:j0}(hf:O0 g=true):c9 g=some (U0d g):=by
 have b:=P4 hf
 obtain⟨e,f,h,i⟩:=U2 b
 have a:=c0b g (by omega)
 rw[Q0c hf]at a
 obtain⟨v,c⟩:=D0e b
 have d:=K09 (A07 g) (H03 40 hf)
 obtain⟨r,n,es⟩:=g
 unfold c9 U0d
 simp only[a,oB,c]
 simp only[d,oB]
theorem P0r{N r u x v:Int}(a:0<=u/\u<N)(b:0<=v/\v<N)(c:x≠0 /\ -r<=x/\x<=r):(0<=(stp u x v).1/\(stp u x v).1<N)/\(0<=(stp u x v).2.2/\(stp u x v).2.2<N)/\1<=(stp u x v).2.1/\(stp u x v).2.1<=r:=by
 unfold stp
 split<;>(simp only;omega)
theorem j0m{N r v:Int}(f:0<=v/\v<N):∀(w:List Int) (u n:Int),(0<=u/\u<N)->0<=n->n+((w.length-1:Nat):Int)<=N->(∀ x∈w,x≠0 /\ -r<=x/\x<=r) ->
  ∀ e∈X03 v w u n,(0<=e.1/\e.1<N)/\(0<=e.2.2/\e.2.2<N)/\1<=e.2.1/\e.2.1<=r
 | [],u,n,c,h0,d,b,e,a=>nomatch a
 | [x],u,n,c,h0,d,b,e,a=>by
  simp only[X03,List.mem_singleton]at a
  subst a
  exact P0r c f (b x mS)
 |x::y::l,u,n,c,h0,d,b,e,a=>by
  simp only[List.length_cons]at d
  simp only[X03]at a
  rcases List.mem_cons.1 a with rfl|a
  ·exact P0r c ⟨h0,by omega⟩ (b x mS)
  ·exact j0m f (y::l) n (n+1) ⟨h0,by omega⟩ (by omega) (by simp only[List.length_cons];omega) (λz g=>b z (mC _ g)) e a
theorem B07{g:j0}{u v:Int}{w:List Int}(b:V0 g=true)(o:0<=u/\u<g.2.1)(p:0<=v/\v<g.2.1)(c:C3 g.1 w=true):V0 (L5 g u w v).1=true:=by
 obtain⟨f,i,q,s,j⟩:=(V02 g).1 b
 obtain⟨t,k⟩:=r05 c
 unfold L5
 cases hc:(!w.isEmpty&&decide (g.2.1+(w.length:Int)-1<=40)&&decide (g.2.2.length+w.length<=120))with
 |false=>exact b
 |true =>
  simp only[Bool.and_eq_true,decide_eq_true_eq,Bool.not_eq_true',List.isEmpty_eq_false_iff]at hc
  have n:1<=w.length:=by
   have:=List.length_pos_iff.2 hc.1.1;omega
  have l:=n03 (X03 v w u g.2.1) g.2.2
  have m:=C0a v w u g.2.1
  simp only[cond_true]
  refine(V02 _).2 ⟨λe a=>?_,i,⟨by simp only;omega,by simp only;omega⟩,by simp only;omega,j04 U7 _ _ j⟩
  simp only at a ⊢
  rcases(I00 U7 e _ _).1 a with h|h
  ·have:=f e h
   omega
  ·exact j0m ⟨by omega,by omega⟩ w u g.2.1 ⟨by omega,by omega⟩ (by omega) (iR _) (λx d=>(k x d).2) e h
theorem M08(g:j0)(u:Int)(w:List Int)(v:Int):(L5 g u w v).1.1=g.1:=by
 unfold L5
 cases (!w.isEmpty&&decide (g.2.1+(w.length:Int)-1<=40)&&decide (g.2.2.length+w.length<=120))<;>rfl
def g0b:List (List Int)->j0->j0
 | [],g=>g
 |w::r,g=>g0b r (L5 g 0 w 0).1
theorem E0e:∀(ws:List (List Int)) {g:j0},V0 g=true->(∀ w∈ws,C3 g.1 w=true)->V0 (g0b ws g)=true
 | [],g,a,b=>a
 |w::r,g,a,b=>by
  obtain⟨e,f,h,i⟩:=U2 a
  exact E0e r (B07 a ⟨iR _,by omega⟩ ⟨iR _,by omega⟩ (b w mS)) λd c=>by
   rw[M08];exact b d (mC _ c)
theorem k0m{g:j0}{w:List Int}(a:V0 g=true)(b:C3 g.1 w=true):I02 g w=some (L5 g 0 w 0):=by
 obtain⟨c,d,e,f⟩:=U2 a
 have h:=d0b a (u:=0) (v:=0) ⟨iR _,by omega⟩ ⟨iR _,by omega⟩ b
 obtain⟨r,n,es⟩:=g
 unfold I02
 simp only[h,oB]
theorem l0m{g:j0}{w:List Int}(a:V0 g=true)(b:C3 g.1 w=true):M02 g w=some (L5 g 0 w 0):=by
 obtain⟨c,d,e,f⟩:=U2 a
 have h:=e0b a (u:=0) (v:=0) ⟨iR _,by omega⟩ ⟨iR _,by omega⟩ b
 obtain⟨r,n,es⟩:=g
 unfold M02
 simp only[h,oB]
theorem Q0i(ws:List (List Int))(i:ws.length<=1000):∀(d k fuel:Nat) (g:j0),k+d=ws.length->d<fuel->V0 g=true->(∀ w∈ws,C3 g.1 w=true) ->
  p8 ws fuel (k:Int) g.1 g.2.1 g.2.2=some (g0b (ws.drop k) g)
 |d,k,0,g,h,hf,a,b=>by omega
 |0,k,fuel+1,g,h,hf,a,b=>by
  rw[p8.eq_2,if_neg (by simp;omega),I1 (by omega)];rfl
 |d+1,k,fuel+1,g,h,hf,a,b=>by
  have c:k<ws.length:=by omega
  have f:=E5 c
  have e:=b _ (List.getElem_mem c)
  generalize ws[k]=w at f e
  obtain⟨l,m,n,o⟩:=U2 a
  have j:=Q0i ws i d (k+1) fuel (L5 g 0 w 0).1 (by omega) (by omega) (B07 a ⟨iR _,by omega⟩ ⟨iR _,by omega⟩ e) (by rw[M08];exact b)
  rw[p8.eq_2,if_pos (by simp;omega),P2 f,oB,show(g.1,g.2.1,g.2.2)=g from rfl,k0m a e,oB,C2 c (by omega),O1 f]
  exact j
theorem R0i(ws:List (List Int))(m:ws.length<=1000):∀(d k fuel:Nat) (g:j0),k+d=ws.length->d<fuel->V0 g=true->(∀ w∈ws,C3 g.1 w=true) ->
  g7 ws fuel (k:Int) g.1 g.2.1 g.2.2=some (g0b (ws.drop k) g)
 |d,k,0,g,l,hf,a,b=>by omega
 |0,k,fuel+1,g,l,hf,a,b=>by
  rw[g7.eq_2,if_neg (by simp;omega),I1 (by omega)];rfl
 |d+1,k,fuel+1,g,l,hf,a,b=>by
  have f:k<ws.length:=by omega
  have i:=E5 f
  have h:=b _ (List.getElem_mem f)
  generalize ws[k]=w at i h
  obtain⟨n,o,p,q⟩:=U2 a
  have j:=R0i ws m d (k+1) fuel (L5 g 0 w 0).1 (by omega) (by omega) (B07 a ⟨iR _,by omega⟩ ⟨iR _,by omega⟩ h) (by rw[M08];exact b)
  rw[g7.eq_2,if_pos (by simp;omega),P2 i,oB,C2 f (by omega),O1 i]
  by_cases c:w = []
  ·subst c
   rw[if_neg (by simp)]
   have e:(L5 g 0 [] 0).1=g:=rfl
   rw[e]at j
   rw[j]
   show _=some (g0b (ws.drop (k+1)) (L5 g 0 [] 0).1)
   rw[e]
  ·have:0<w.length:=List.length_pos_iff.2 c
   rw[if_pos (by simp;omega),show(g.1,g.2.1,g.2.2)=g from rfl,l0m a h,oB]
   exact j
def e08(r:Int)(ws:List (List Int)):j0×Bool:=bif a7 r ws then(g0b ws (r,1,[]),true)else((0,0,[]),false)
theorem f08{r:Int}{ws:List (List Int)}(h:a7 r ws=true):(1<=r/\r<=3)/\ws.length<=6/\∀ w∈ws,C3 r w=true:=by
 simp only[a7,inR,Bool.and_eq_true,decide_eq_true_eq]at h
 refine⟨h.1.1.1,h.1.1.2,?_⟩
 have a:∀ {ws:List (List Int)},Q0e r ws=true->∀ w∈ws,C3 r w=true:=by
  intro ws
  induction ws with
  |nil=>intro _ w a;cases a
  |cons v l b =>
   intro h w a
   simp only[Q0e,Bool.and_eq_true]at h
   rcases List.mem_cons.1 a with rfl|a
   ·exact h.1
   ·exact b h.2 w a
 exact a h.1.2
theorem V0d{r:Int}(b:1<=r/\r<=3):V0 (r,1,[])=true:=(V02 _).2 ⟨(λe a=>by cases a),b,⟨by simp,by simp⟩,by simp,List.Pairwise.nil⟩
theorem s0k(r:Int)(ws:List (List Int))(c:ws.length<=140737488355328)(e:w9 ws):J02 r ws=some (e08 r ws):=by
 have a:=F09 r ws c e
 unfold J02 e08
 rw[a,oB]
 cases hA:a7 r ws with
 |false=>rfl
 |true =>
  obtain⟨d,g,f⟩:=f08 hA
  have h:=Q0i ws (by omega) ws.length 0 T0 (r,1,[]) (by omega) (D1 (by omega)) (V0d d) f
  have b:H02 r=some ((r,1,[]),true):=by
   unfold H02
   rw[A02,oB,if_neg (by simp[inR];omega)]
  rw[if_neg (by simp),b,oB]
  simp only[]at h ⊢
  rw[show(0:Int)=((0:Nat):Int) from rfl,h]
  rfl
theorem t0k(r:Int)(ws:List (List Int))(c:ws.length<=140737488355328)(e:w9 ws):N02 r ws=some (e08 r ws):=by
 have a:=G09 r ws c e
 unfold N02 e08
 rw[a,oB]
 cases hA:a7 r ws with
 |false=>rfl
 |true =>
  obtain⟨d,g,f⟩:=f08 hA
  have h:=R0i ws (by omega) ws.length 0 T0 (r,1,[]) (by omega) (D1 (by omega)) (V0d d) f
  have b:L02 r=some ((r,1,[]),true):=by
   unfold L02
   rw[m03,oB,if_neg (by simp[inR];omega)]
  rw[if_neg (by simp),b,oB]
  simp only[]at h ⊢
  rw[show(0:Int)=((0:Nat):Int) from rfl,h]
  rfl
theorem X0g:∀(d:Nat) {g:j0},V0 g=true->g.2.1.toNat<=d+1->R00 (K06 d g)=none
 |0,g,a,h=>by
  cases e:R00 g with
  |none=>exact e
  |some k=>have:=r0k e;omega
 |d+1,g,a,h=>by
  unfold K06
  cases e:R00 g with
  |none=>exact e
  |some k =>
   obtain⟨b,i,c,f⟩:=T0d a e
   exact X0g d (D0b a b c f) (by show(((wo k g.2.1.toNat 0).length:Nat):Int).toNat<=d+1;omega)
theorem T0p{g:j0}(hf:O0 g=true){v x y z:Int}(q:y∈m01 v x g.2.2)(s:z∈m01 v x g.2.2):y=z:=by
 obtain⟨e,o,l⟩:=z9.1 q
 obtain⟨k,p,m⟩:=z9.1 s
 by_cases hne:e=k
 ·subst hne
  rcases l with⟨a,b,c,rfl⟩|⟨a,b,c,rfl⟩<;>rcases m with⟨h,i,j,rfl⟩|⟨h,i,j,rfl⟩<;>first|rfl|omega
 ·have f:=(S0d (P4 hf)).1 hf e o k p hne
  unfold G06 at f
  simp only[Bool.and_eq_false_iff,Bool.or_eq_false_iff,decide_eq_false_iff_not]at f
  rcases l with⟨a,b,c,d⟩|⟨a,b,c,d⟩<;>rcases m with⟨h,i,j,n⟩|⟨h,i,j,n⟩<;>first|omega|(exfalso;rcases f with f|⟨t,u⟩<;>omega)
theorem N08(g:j0)(v x:Int):(j1 g v x = -1/\m01 v x g.2.2 = [])∨j1 g v x∈m01 v x g.2.2:=by
 unfold j1
 cases e:b04 g v x with
 |nil =>
  left
  refine⟨rfl,List.eq_nil_iff_forall_not_mem.2 λy b=>?_⟩
  have:y∈b04 g v x:=(I00 U03 y _ _).2 (.inr b)
  rw[e]at this;cases this
 |cons a l=>exact .inr (z0i (by rw[e];exact mS))
theorem R0c{g:j0}(hf:O0 g=true){v x y:Int}(a:y∈m01 v x g.2.2):j1 g v x=y:=by
 rcases N08 g v x with⟨_,h⟩|h
 ·rw[h]at a;cases a
 ·exact T0p hf h a
theorem m0m:∀(d i j:Nat),i<=j->j<i+d->(j:Int)∈M6 d i /\ -(j:Int)∈M6 d i
 |0,i,j,e,f=>by omega
 |d+1,i,j,e,f=>by
  simp only[M6,List.mem_cons]
  by_cases c:j=i
  ·subst c;simp
  ·obtain⟨a,b⟩:=m0m d (i+1) j (by omega) (by omega)
   exact⟨.inr (.inr a),.inr (.inr b)⟩
theorem S0i(g:j0)(v:Int):∀(b u:List Int) (x:Int),x∈b->0<=j1 g v x->j1 g v x∈W03 g v b u
 |y::r,u,x,a,h0=>by
  rw[W03]
  rcases List.mem_cons.1 a with rfl|a
  ·obtain⟨t,e⟩:=u04 g v r (c09 u (j1 g v x))
   rw[e]
   refine List.mem_append_left _ ?_
   unfold c09
   split
   ·exact List.mem_append_right _ (List.mem_singleton.2 rfl)
   ·rename_i h
    by_cases hm:j1 g v x∈u
    ·exact hm
    ·exact absurd ⟨h0,hm⟩ h
  ·exact S0i g v r _ x a h0
theorem E0b(g:j0)(a:List Int):∀(f i:Nat) (u:List Int),∃ t,v00 g a f i u=u++t
 |0,i,u=>⟨[],by simp[v00]⟩
 |f+1,i,u=>by
  unfold v00
  split
  ·rename_i v _
   obtain⟨d,b⟩:=u04 g v a u
   obtain⟨e,c⟩:=E0b g a f (i+1) (W03 g v a u)
   exact⟨d++e,by rw[c,b,List.append_assoc]⟩
  ·exact⟨[],by simp⟩
theorem Y0g{r:Int}{n:Nat}{es:List N0}(m:inG (r,(n:Int),es))(a:List Int):∀(f i:Nat) (u:List Int),gud n u->n+1<=f+i->i<=u.length ->
  (∀ j,j<i->∀ v,u[j]?=some v->∀ x∈a,0<=j1 (r,(n:Int),es) v x->j1 (r,(n:Int),es) v x∈u) ->
  ∀ v∈v00 (r,(n:Int),es) a f i u,∀ x∈a,0<=j1 (r,(n:Int),es) v x->j1 (r,(n:Int),es) v x∈v00 (r,(n:Int),es) a f i u
 |0,i,u,g,q,o,k=>by have:=J00 n u g.1 g.2;omega
 |f+1,i,u,g,q,o,k=>by
  unfold v00
  cases e:u[i]? with
  |none =>
   have:i=u.length:=by have:=List.getElem?_eq_none_iff.1 e;omega
   show ∀ v∈u,∀ x∈a,0<=j1 (r,(n:Int),es) v x->j1 (r,(n:Int),es) v x∈u
   intro v b x h h0
   obtain⟨j,l⟩:=List.getElem?_of_mem b
   exact k j (by have:=(List.getElem?_eq_some_iff.1 l).1;omega) v l x h h0
  |some w =>
   have p:=(List.getElem?_eq_some_iff.1 e).1
   obtain⟨t,d⟩:=u04 (r,(n:Int),es) w a u
   refine Y0g m a f (i+1) _ (h06 m w a u g) (by omega) (by rw[d,List.length_append];omega) λj l v b x h h0=>?_
   by_cases c:j=i
   ·subst c
    rw[d,List.getElem?_append_left p,e]at b
    cases b
    exact S0i _ _ a u x h h0
   ·rw[d,List.getElem?_append_left (by omega)]at b
    rw[d]
    exact List.mem_append_left _ (k j (by omega) v b x h h0)
theorem Z0g(g:j0):∃ t,d7 g=0::t:=by
 obtain⟨t,e⟩:=E0b g (M6 g.1.toNat 1) (g.2.1.toNat+1) 0 [0]
 exact⟨t,e⟩
theorem n0m{g:j0}(hf:O0 g=true){x:Int}(h:Rch g.2.2 0 x):x∈d7 g:=by
 obtain⟨l,q,s,w⟩:=J1 hf
 have m:=Z0g g
 have c:∀ v∈d7 g,∀ x∈M6 g.1.toNat 1,0<=j1 g v x->j1 g v x∈d7 g:=by
  obtain⟨r,n,es⟩:=g
  simp only at q s
  obtain⟨N,rfl⟩:∃ N:Nat,n=(N:Int):=⟨n.toNat,by omega⟩
  exact Y0g l _ (((N:Int)).toNat+1) 0 [0] ⟨by simp,λx f=>by simp at f;subst f;omega⟩ (by simp only[Int.toNat_natCast];omega) (Nat.zero_le _) (λj d=>by omega)
 refine Rch.sub (P:=λx=>x∈d7 g) ?_ (λe b=>?_) h
 ·obtain⟨t,e⟩:=m
  rw[e];exact mS
 ·have u:=l e b
  obtain⟨j,d⟩:∃ j:Nat,e.2.1=(j:Int):=⟨e.2.1.toNat,by omega⟩
  obtain⟨o,p⟩:=m0m g.1.toNat 1 j (by omega) (by omega)
  have i:j1 g e.1 (j:Int)=e.2.2:=R0c hf (z9.2 ⟨e,b,.inl ⟨by omega,d,rfl,rfl⟩⟩)
  have k:j1 g e.2.2 (-(j:Int))=e.1:=R0c hf (z9.2 ⟨e,b,.inr ⟨by omega,by omega,rfl,rfl⟩⟩)
  constructor
  ·intro a
   have:=c e.1 a (j:Int) o (by rw[i];omega)
   rwa [i]at this
  ·intro a
   have:=c e.2.2 a (-(j:Int)) p (by rw[k];omega)
   rwa [k]at this
theorem u0k{a:Nat->Bool}:∀ {d v:Nat},lf a d v=none->∀ k,v<=k->k<v+d->a k=false
 |0,v,h,k,b,e=>by omega
 |d+1,v,h,k,b,e=>by
  unfold lf at h
  cases hb:a v with
  |true=>rw[hb]at h;cases h
  |false =>
   rw[hb]at h
   by_cases c:k=v
   ·rw[c];exact hb
   ·exact u0k (d:=d) (v:=v+1) h k (by omega) (by omega)
theorem a0h{a:Nat->Bool}:∀ {d v:Nat},(∀ k,v<=k->k<v+d->a k=false)->lf a d v=none
 |0,v,h=>rfl
 |d+1,v,h=>by
  unfold lf
  rw[h v (Nat.le_refl _) (by omega)]
  exact a0h λk b c=>h k (by omega) (by omega)
theorem T0i{g:j0}(hf:O0 g=true)(b:R00 g=none){x:Int}(h0:0<=x)(d:x<g.2.1):x∈d7 g:=by
 refine n0m hf ?_
 by_cases c:x=0
 ·subst c;exact .base
 ·have:=u0k b x.toNat (by omega) (by omega)
  unfold O0d at this
  simp only[Bool.or_eq_false_iff,Bool.not_eq_false',decide_eq_true_eq]at this
  have a:=this.2
  rw[show((x.toNat:Nat):Int)=x by omega]at a
  exact(L0c _ _ _).1 a
theorem U0i{n:Nat}:∀(o:List Int) (k:Nat) (A:List Int),A.length=n->inV n o->o.Nodup->∀(i:Nat) (v:Int),o[i]?=some v->getI (C02 A k o) v=((k+i:Nat):Int)
 | [],k,A,c,b,f,i,v,a=>by simp at a
 |w::r,k,A,c,b,f,i,v,a=>by
  have e:=b w mS
  obtain⟨g,h⟩:=List.nodup_cons.1 f
  cases i with
  |zero =>
   simp at a;subst a
   rw[C02,M0g r _ _ w (by simp[c]) (λu d=>b u (mC _ d)) e.1 g,H05 e.1 (by omega) e.1,if_pos rfl];rfl
  |succ i =>
   rw[C02,U0i r (k+1) _ (by simp[c]) (λu d=>b u (mC _ d)) h i v (by simpa using a)]
   omega
theorem Q0r{n:Nat}{o:List Int}(c:inV n o)(a:o.Nodup){i:Nat}{v:Int}(b:o[i]?=some v):getI (plc n o) v=(i:Int):=by
 have:=U0i o 0 (List.replicate n (-1)) (by simp) c a i v b
 rw[Nat.zero_add]at this;exact this
theorem H0n(P:List Int):∀(es:List N0),(∀ e∈es,0<=getI P e.1/\0<=getI P e.2.2)->pE P es=es.map λe=>(getI P e.1,e.2.1,getI P e.2.2)
 | [],h=>rfl
 |e::r,h=>by
  have a:=h e mS
  unfold pE
  rw[show(decide (0<=getI P e.1)&&decide (0<=getI P e.2.2))=true by simp[a.1,a.2],H0n P r λb c=>h b (mC _ c)]
  rfl
theorem V0i(e:N0):∀ {l:List N0},e ∉ l->(H01 S0 e l).Perm (e::l)
 | [],_=>List.Perm.refl _
 |y::l,h=>by
  have d:=V0i e (l:=l) λb=>h (mC _ b)
  unfold H01
  split
  ·exact List.Perm.refl _
  ·split
   ·rename_i c
    exact absurd (U7.eq _ _ c) λa=>h (by rw[a];exact mS)
   ·exact(List.Perm.cons y d).trans (List.Perm.swap e y l)
theorem F0e:∀(r acc:List N0),(acc++r).Nodup->(C6 S0 acc r).Perm (acc++r)
 | [],acc,h=>by simp[C6]
 |x::r,acc,h=>by
  have a:(acc++x::r).Perm (x::(acc++r)):=List.perm_middle
  have b:=a.nodup_iff.1 h
  have f:x ∉ acc:=λd=>(List.nodup_cons.1 b).1 (List.mem_append_left _ d)
  have e:=V0i x f
  have c:(H01 S0 x acc++r).Perm (x::(acc++r)):=e.append_right r
  rw[C6]
  exact((F0e r _ (c.nodup_iff.2 b)).trans c).trans a.symm
theorem U0p(v:Int){l a:List N0}(h:l.Perm a):K04 v l=K04 v a:=by
 induction h with
 |nil=>rfl
 |cons x _ d=>simp only[K04,d]
 |swap x y l=>simp only[K04];omega
 |trans _ _ b c=>rw[b,c]
theorem o0m{a:Int->Int}{v:Int}:∀(es:List N0),(∀ e∈es,(a e.1=a v↔e.1=v)/\(a e.2.2=a v↔e.2.2=v))->K04 (a v) (es.map λe=>(a e.1,e.2.1,a e.2.2))=K04 v es
 | [],h=>rfl
 |e::r,h=>by
  obtain⟨b,d⟩:=h e mS
  have i:=o0m r λf g=>h f (mC _ g)
  simp only[List.map_cons,K04,i,y0r]
  congr 2
  ·by_cases c:e.1=v
   ·rw[if_pos (b.2 c),if_pos c]
   ·rw[if_neg λq=>c (b.1 q),if_neg c]
  ·by_cases c:e.2.2=v
   ·rw[if_pos (d.2 c),if_pos c]
   ·rw[if_neg λq=>c (d.1 q),if_neg c]
theorem R0r:∀(m:Nat) (o:List Int),(∀ i:Nat,i<m->(i:Int)∈o)->m<=o.length
 |0,o,h=>Nat.zero_le _
 |m+1,o,h=>by
  have a:=h m (by omega)
  have b:=R0r m (o.erase (m:Int)) λi c=>(List.mem_erase_of_ne (by omega)).2 (h i (by omega))
  rw[List.length_erase_of_mem a]at b
  have:=List.length_pos_of_mem a
  omega
theorem V0p{es:List N0}(c:Asc S0 es):es.Nodup:=by
 refine List.Pairwise.imp (λ{a b} h e=>?_) c
 rw[e,U7.refl]at h;omega
theorem p0m{es:List N0}(a:Asc S0 es):C6 S0 [] es=es :=
 y0b U7 (j04 U7 _ _ .nil) a λx=>by rw[I00 U7];simp
theorem I0n{t:j0}(hf:O0 t=true)(ab:R00 t=none):I2 (T3 t)=true:=by
 have av:=P4 hf
 obtain⟨A,aT,aU,aV⟩:=J1 hf
 have ak:=R0d av
 obtain⟨⟨M,G⟩,aE⟩:=B0a hf
 have aB:=J00 _ _ M G
 have Y:∀ x:Int,0<=x->x<t.2.1->x∈d7 t:=λx h0 d=>T0i hf ab h0 d
 obtain⟨aW,aK⟩:=Z0g t
 obtain⟨n,ad⟩:∃ n:Nat,t.2.1=(n:Int):=⟨t.2.1.toNat,by omega⟩
 have Q:t.2.1.toNat=n:=by omega
 rw[Q]at G aB
 have ag:(d7 t).length=n:=by
  have:=R0r n (d7 t) λi F=>Y _ (by omega) (by omega)
  omega
 let P:Int->Int:=getI (plc n (d7 t))
 have K:∀(i:Nat) (v:Int),(d7 t)[i]?=some v->P v=(i:Int):=λi v F=>Q0r G M F
 have L:∀ x:Int,0<=x->x<t.2.1->0<=P x/\P x<(n:Int):=λx h0 d=>by
  obtain⟨i,F⟩:=List.getElem?_of_mem (Y x h0 d)
  have:=(List.getElem?_eq_some_iff.1 F).1
  rw[K i x F];omega
 have B:∀ x y:Int,0<=x->x<t.2.1->0<=y->y<t.2.1->P x=P y->x=y:=λx y h0 d p aQ h=>q0k G M h0 p (L x h0 d).1 h
 have S:P 0=0:=K 0 0 (by rw[aK];rfl)
 have aF:pE (plc n (d7 t)) t.2.2=t.2.2.map λe=>(P e.1,e.2.1,P e.2.2):=H0n _ _ λe g=>by
  have:=A e g
  exact⟨(L e.1 this.1.1 this.1.2).1,(L e.2.2 this.2.1.1 this.2.1.2).1⟩
 have J:T3 t=(t.1,(n:Int),C6 S0 [] (t.2.2.map λe=>(P e.1,e.2.1,P e.2.2))):=by
  unfold T3 S9
  rw[Q,aF,ag]
 have ay:∀ e∈t.2.2,∀ j∈t.2.2,((P e.1,e.2.1,P e.2.2):N0)=(P j.1,j.2.1,P j.2.2)->e=j:=λe g j U h=>by
  have a:=A e g
  have b:=A j U
  simp only[Prod.mk.injEq]at h
  have d:=B _ _ a.1.1 a.1.2 b.1.1 b.1.2 h.1
  have p:=B _ _ a.2.1.1 a.2.1.2 b.2.1.1 b.2.1.2 h.2.2
  obtain⟨aN,H,X⟩:=e
  obtain⟨aO,aP,f2⟩:=j
  simp only at d p h
  rw[d,p,h.2.1]
 have aD:(t.2.2.map λe=>((P e.1,e.2.1,P e.2.2):N0)).Nodup:=by
  have:=V0p ak
  rw[List.Nodup,List.pairwise_map]
  exact List.Pairwise.imp_of_mem (λ{a b} ao C h e=>h (ay a ao b C e)) this
 have O:∀ j,j∈(T3 t).2.2↔∃ e∈t.2.2,j=(P e.1,e.2.1,P e.2.2):=λj=>by
  rw[J]
  simp only
  rw[I00 U7]
  simp only[List.not_mem_nil,false_or,List.mem_map]
  exact⟨λ⟨e,d,p⟩=>⟨e,d,p.symm⟩,λ⟨e,d,p⟩=>⟨e,d,p.symm⟩⟩
 have I:O0 (T3 t)=true:=T09 hf (by rw[Q];exact G) M aE (by omega)
 have Z:=P4 I
 have D:(T3 t).2.1=(n:Int):=by rw[J]
 have ar:∀ v:Int,0<=v->v<t.2.1->K04 (P v) (T3 t).2.2=K04 v t.2.2:=λv h0 d=>by
  rw[J]
  simp only
  rw[U0p _ (F0e _ [] (by simpa using aD)),List.nil_append]
  refine o0m _ λe g=>?_
  have:=A e g
  exact⟨⟨λh=>B _ _ this.1.1 this.1.2 h0 d h,λh=>by rw[h]⟩,⟨λh=>B _ _ this.2.1.1 this.2.1.2 h0 d h,λh=>by rw[h]⟩⟩
 have aH:∀ x,Rch t.2.2 0 x->Rch (T3 t).2.2 0 (P x):=λx s =>
  Rch.sub (P:=λx=>Rch (T3 t).2.2 0 (P x)) (by show Rch _ 0 (P 0);rw[S];exact .base) (λe g=>Rch.closed (P e.1,e.2.1,P e.2.2) ((O _).2 ⟨e,g,rfl⟩)) s
 have aA:R00 (T3 t)=none:=by
  unfold R00
  refine a0h λk aS aL=>?_
  rw[D,Int.toNat_natCast]at aL
  obtain⟨v,w⟩:∃ v,(d7 t)[k]?=some v:=⟨_,List.getElem?_eq_getElem (by omega)⟩
  have aJ:=G v (List.mem_of_getElem? w)
  have T:=K k v w
  have aR:v≠0:=λh=>by rw[h,S]at T;omega
  have C:=u0k ab v.toNat (by omega) (by omega)
  unfold O0d at C ⊢
  rw[show((v.toNat:Nat):Int)=v by omega]at C
  simp only[Bool.or_eq_false_iff,Bool.not_eq_false',decide_eq_true_eq,decide_eq_false_iff_not]at C ⊢
  refine⟨?_,?_⟩
  ·rw[←T,ar v aJ.1 (by omega)];exact C.1
  ·rw[←T]
   exact(L0c _ _ _).2 (aH v ((L0c _ _ _).1 C.2))
 have ae:∀ v x:Int,0<=v->v<t.2.1->(j1 t v x = -1/\j1 (T3 t) (P v) x = -1)∨((0<=j1 t v x/\j1 t v x<t.2.1)/\j1 (T3 t) (P v) x=P (j1 t v x)):=λv x h0 d=>by
  rcases N08 t v x with⟨H,X⟩|H
  ·left
   refine⟨H,?_⟩
   rcases N08 (T3 t) (P v) x with⟨R,aM⟩|R
   ·exact R
   ·exfalso
    obtain⟨j,U,V⟩:=z9.1 R
    obtain⟨e,g,rfl⟩:=(O j).1 U
    have E:=A e g
    have:∃ y,y∈m01 v x t.2.2:=by
     rcases V with⟨a,b,c,_⟩|⟨a,b,c,_⟩
     ·exact⟨_,z9.2 ⟨e,g,.inl ⟨a,b,B _ _ E.1.1 E.1.2 h0 d c,rfl⟩⟩⟩
     ·exact⟨_,z9.2 ⟨e,g,.inr ⟨a,b,B _ _ E.2.1.1 E.2.1.2 h0 d c,rfl⟩⟩⟩
    obtain⟨y,ai⟩:=this
    rw[X]at ai;cases ai
  ·right
   generalize j1 t v x=y at H
   obtain⟨e,g,V⟩:=z9.1 H
   have E:=A e g
   rcases V with⟨a,b,c,rfl⟩|⟨a,b,c,rfl⟩
   ·exact⟨E.2.1,R0c I (z9.2 ⟨_,(O _).2 ⟨e,g,rfl⟩,.inl ⟨a,b,by show P e.1=P v;rw[c],rfl⟩⟩)⟩
   ·exact⟨E.1,R0c I (z9.2 ⟨_,(O _).2 ⟨e,g,rfl⟩,.inr ⟨a,b,by show P e.2.2=P v;rw[c],rfl⟩⟩)⟩
 have aj:∀ u:List Int,gud n u->∀ x∈u,0<=x/\x<t.2.1:=λu o x s=>by have:=o.2 x s;omega
 have ax:inG (t.1,(n:Int),t.2.2):=by
  have:=A
  intro e g
  have:=A e g
  rw[ad]at this;exact this
 have au:(t.1,(n:Int),t.2.2)=t:=by
  rw[←ad]
 have an:∀(u:List Int) (y z:Int),gud n u->(y = -1/\z = -1)∨((0<=y/\y<t.2.1)/\z=P y)->c09 (u.map P) z=(c09 u y).map P:=λu y z o h=>by
  unfold c09
  rcases h with⟨rfl,rfl⟩|⟨⟨h0,d⟩,rfl⟩
  ·rw[if_neg (by omega),if_neg (by omega)]
  ·have ac:P y∈u.map P↔y∈u:=by
    constructor
    ·intro h
     obtain⟨x,s,e⟩:=List.mem_map.1 h
     have:=aj u o x s
     rw[←B x y this.1 this.2 h0 d e];exact s
    ·exact λh=>List.mem_map.2 ⟨y,h,rfl⟩
   by_cases c:y∈u
   ·rw[if_neg λq=>q.2 (ac.2 c),if_neg λq=>q.2 c]
   ·rw[if_pos ⟨(L y h0 d).1,λq=>c (ac.1 q)⟩,if_pos ⟨h0,c⟩];simp
 have al:∀(v:Int),0<=v->v<t.2.1->∀(m u:List Int),gud n u->W03 (T3 t) (P v) m (u.map P)=(W03 t v m u).map P:=λv h0 d m=>by
  induction m with
  |nil=>intro u o;rfl
  |cons x l W =>
   intro u o
   have s:j1 t v x = -1∨(0<=j1 t v x/\j1 t v x<(n:Int)):=by
    rcases ae v x h0 d with⟨a,_⟩|⟨a,_⟩
    ·exact .inl a
    ·exact .inr (by omega)
   rw[W03,W03,an u _ _ o (ae v x h0 d),W _ (Q0o o s)]
 have am:∀(f i:Nat) (u:List Int) (m:List Int),gud n u->v00 (T3 t) m f i (u.map P)=(v00 t m f i u).map P:=λf=>by
  induction f with
  |zero=>intro i u m o;rfl
  |succ f W =>
   intro i u m o
   unfold v00
   rw[List.getElem?_map]
   cases e:u[i]? with
   |none=>rfl
   |some v =>
    have w:=aj u o v (List.mem_of_getElem? e)
    have aw:gud n (W03 t v m u):=by
     have:=h06 ax v m u o
     rw[au]at this;exact this
    simp only[Option.map_some]
    rw[al v w.1 w.2 m u o]
    exact W (i+1) _ m aw
 have ah:d7 (T3 t)=(d7 t).map P:=by
  have d:(T3 t).1=t.1:=by rw[J]
  have p:=am (n+1) 0 [0] (M6 t.1.toNat 1) ⟨by simp,λx s=>by simp at s;subst s;omega⟩
  rw[List.map_cons,List.map_nil,S]at p
  show v00 (T3 t) (M6 (T3 t).1.toNat 1) ((T3 t).2.1.toNat+1) 0 [0]=(v00 t (M6 t.1.toNat 1) (t.2.1.toNat+1) 0 [0]).map P
  rw[d,D,Q,Int.toNat_natCast]
  exact p
 have az:∀ i:Nat,i<n->(d7 (T3 t))[i]?=some (i:Int):=λi F=>by
  rw[ah,List.getElem?_map]
  obtain⟨v,w⟩:∃ v,(d7 t)[i]?=some v:=⟨_,List.getElem?_eq_getElem (by omega)⟩
  rw[w,Option.map_some,K i v w]
 obtain⟨⟨aq,af⟩,_⟩:=B0a I
 rw[D,Int.toNat_natCast]at af
 have N:∀ x:Int,0<=x->x<(n:Int)->getI (plc n (d7 (T3 t))) x=x:=λx h0 d=>by
  have:=Q0r af aq (az x.toNat (by omega))
  rw[show((x.toNat:Nat):Int)=x by omega]at this;exact this
 have aC:(d7 (T3 t)).length=n:=by rw[ah,List.length_map,ag]
 have aa:=(U2 Z).1
 have ap:T3 (T3 t)=T3 t:=by
  have aG:pE (plc n (d7 (T3 t))) (T3 t).2.2=(T3 t).2.2:=by
   rw[H0n _ _ λe g=>by
    have:=aa e g
    rw[D]at this
    exact⟨by rw[N _ this.1.1 this.1.2];exact this.1.1,by rw[N _ this.2.1.1 this.2.1.2];exact this.2.1.1⟩]
   refine(List.map_congr_left λe g=>?_).trans (List.map_id _)
   have:=aa e g
   rw[D]at this
   rw[N _ this.1.1 this.1.2,N _ this.2.1.1 this.2.1.2];rfl
  show S9 (T3 t) (d7 (T3 t))=T3 t
  unfold S9
  rw[D,Int.toNat_natCast,aG,p0m (R0d Z),aC]
  rw[←D]
 unfold I2
 rw[I,aA,ap]
 simp[D0g]
theorem W0p{g:j0}(hf:O0 g=true):I2 (U0d g)=true:=by
 have a:=P4 hf
 have:=(U2 a).2.2.1
 exact I0n (H03 40 hf) (X0g 40 a (by omega))
theorem q0m{r:Int}{w:List Int}(h:C3 r w=true):∀ k,k<=w.length->n04 [] (w.take k)=(w.take k).reverse
 |0,_=>rfl
 |k+1,i=>by
  have g:=q0m h k (by omega)
  have b:=E5 (show k<w.length by omega)
  generalize w[k]=x at b
  have f:w.take (k+1)=w.take k ++ [x]:=H0o b
  rw[f,b0h,g,List.reverse_append]
  show O03 (w.take k).reverse x=x::(w.take k).reverse
  cases k with
  |zero=>rfl
  |succ j =>
   have c:=E5 (show j<w.length by omega)
   generalize w[j]=y at c
   rw[H0o c,List.reverse_append]
   show O03 (y::(w.take j).reverse) x=_
   have d:=h
   simp only[C3,Bool.and_eq_true,decide_eq_true_eq]at d
   have a:=z0a d.2 (j+1) (Nat.zero_le _) (by omega)
   unfold R05 at a
   rw[b]at a
   simp only[Nat.add_sub_cancel,c,Bool.or_eq_false_iff,show decide (0<j+1)=true by simp,Bool.true_and]at a
   have e:S0c y x=false:=by unfold S0c ng;rw[a.2,Bool.and_false]
   simp only[O03,e,cond_false]
   rfl
theorem d0h{r:Int}{w:List Int}(h:C3 r w=true):(n04 [] w).reverse=w:=by
 have:=q0m h w.length (Nat.le_refl _)
 rw[List.take_length]at this
 rw[this,List.reverse_reverse]
def F01(g:j0)(w:List Int):Bool:=decide ((Y2 g 0 w).2=w.length)&&decide ((Y2 g 0 w).1=0)
theorem R5{g:j0}(h:I2 g=true):O0 g=true:=by
 unfold I2 at h
 simp only[Bool.and_eq_true]at h
 exact h.1
theorem U09{r:Int}{g:j0}{w:List Int}(i:I2 g=true)(j:C3 r w=true):K00 g w=some (F01 g w):=by
 have hf:=R5 i
 obtain⟨o,s,p,t⟩:=J1 hf
 obtain⟨u,k⟩:=r05 j
 have f:=Q03 w (λx e=>(k x e).1.1) (by omega)
 rw[d0h j]at f
 have l:=x0r g hf 0 ⟨iR _,by omega⟩ w (λx e=>(k x e).1) (by omega)
 have m:=L08 g (by omega)
 have h:L3 g=some true:=by
  obtain⟨a,b,c⟩:=g
  unfold L3
  simp only[m,i,oB]
 have n:=H09 o p.2 w 0 ⟨by omega,by omega⟩
 have q:=H06 g w 0
 unfold F01
 obtain⟨a,b,c⟩:=g
 unfold K00
 simp only[f,oB,l]
 by_cases d:(Y2 (a,b,c) 0 w).2<w.length
 ·simp only[decide_eq_true d,cond_true]
  rw[H0 (show J0 (-1) from⟨by omega,by omega⟩),oB,h]
  have:decide ((Y2 (a,b,c) 0 w).2=w.length)=false:=decide_eq_false (by omega)
  rw[this];rfl
 ·simp only[decide_eq_false d,cond_false]
  rw[H0 n,oB,h]
  have:decide ((Y2 (a,b,c) 0 w).2=w.length)=true:=decide_eq_true (by omega)
  rw[this]
  simp only[oB,cond_true,Bool.true_and]
def rdw(g:j0):Int->List Int->Option Int
 |v,[]=>some v
 |v,x::w=>if j1 g v x<0 then none else rdw g (j1 g v x) w
theorem X0i(g:j0):∀(w:List Int) (v u:Int),rdw g v w=some u↔((Y2 g v w).2=w.length/\(Y2 g v w).1=u)
 | [],v,u=>by simp[rdw,Y2]
 |x::w,v,u=>by
  have a:=X0i g w (j1 g v x) u
  unfold rdw Y2
  by_cases c:j1 g v x<0
  ·rw[if_pos c,if_pos c];simp
  ·rw[if_neg c,if_neg c,a];simp
theorem Y0p(g:j0)(w:List Int):F01 g w=true↔rdw g 0 w=some 0:=by
 unfold F01
 rw[X0i];simp
theorem Z0o(g:j0):∀(a b:List Int) (v:Int),rdw g v (a++b)=(rdw g v a).bind λu=>rdw g u b
 | [],b,v=>rfl
 |x::a,b,v=>by
  have d:=Z0o g a b (j1 g v x)
  show(if j1 g v x<0 then none else rdw g (j1 g v x) (a++b))=(if j1 g v x<0 then none else rdw g (j1 g v x) a).bind λu=>rdw g u b
  by_cases c:j1 g v x<0
  ·rw[if_pos c,if_pos c];rfl
  ·rw[if_neg c,if_neg c];exact d
theorem Y0i{g:j0}(hf:O0 g=true){v x u:Int}(h:j1 g v x=u)(h0:0<=u):j1 g u (-x)=v:=by
 rcases N08 g v x with⟨e,_⟩|e
 ·omega
 ·rw[h]at e
  obtain⟨d,i,f⟩:=z9.1 e
  refine R0c hf (z9.2 ⟨d,i,?_⟩)
  rcases f with⟨a,b,c,rfl⟩|⟨a,b,c,rfl⟩
  ·exact .inr ⟨by omega,by omega,rfl,c.symm⟩
  ·exact .inl ⟨by omega,b,rfl,c.symm⟩
structure Mor (a b:j0) (f:Int->Int):Prop where
 base:f 0=0
 rng:∀ v,0<=v->v<a.2.1->0<=f v/\f v<b.2.1
 step:∀ v x,0<=v->v<a.2.1->0<=j1 a v x->j1 b (f v) x=f (j1 a v x)
theorem Mor.rdw{a b:j0}{f:Int->Int}(m:Mor a b f)(i:inG a):∀(w:List Int) (v u:Int),0<=v->v<a.2.1->rdw a v w=some u->rdw b (f v) w=some (f u)
 | [],v,u,h0,g,h=>by
  simp only[Go.Proofs.YtkjhghloldgioaaGreat.rdw,Option.some.injEq]at h ⊢
  rw[h]
 |x::w,v,u,h0,g,h=>by
  unfold Go.Proofs.YtkjhghloldgioaaGreat.rdw at h ⊢
  by_cases c:j1 a v x<0
  ·rw[if_pos c]at h;cases h
  ·rw[if_neg c]at h
   have j:=m.step v x h0 g (by omega)
   have d:0<=j1 a v x/\j1 a v x<a.2.1:=by
    rcases J04 i v x with e|e
    ·omega
    ·exact e
   have k:=m.rng _ d.1 d.2
   rw[j,if_neg (by omega)]
   exact Mor.rdw m i w _ u d.1 d.2 h
theorem Mor.loop{a b:j0}{f:Int->Int}(m:Mor a b f)(c:O0 a=true){w:List Int}(h:F01 a w=true):F01 b w=true:=by
 obtain⟨d,e,g,i⟩:=J1 c
 rw[Y0p]at h ⊢
 have:=m.rdw d w 0 0 (iR _) (by omega) h
 rwa [m.base]at this
abbrev Im:=List Int×List Int
def J0n(a b:Im):Prop:=(∃ t,b.2=a.2++t)/\∀ v∈a.2,getI b.1 v=getI a.1 v
theorem J0n.refl(s:Im):J0n s s:=⟨⟨[],by simp⟩,λ_ _=>rfl⟩
theorem J0n.trans{b c d:Im}(h:J0n b c)(j:J0n c d):J0n b d:=by
 obtain⟨⟨t,e⟩,f⟩:=h
 obtain⟨⟨k,g⟩,i⟩:=j
 exact⟨⟨t++k,by rw[g,e,List.append_assoc]⟩,λv a=>(i v (by rw[e];exact List.mem_append_left _ a)).trans (f v a)⟩
def a0u(a b:j0)(v x:Int)(s:Im):Prop:=0<=j1 a v x->j1 a v x∈s.2/\j1 b (getI s.1 v) x=getI s.1 (j1 a v x)
theorem a0u.le{a b:j0}{v x:Int}{c g:Im}(j:v∈c.2)(h:a0u a b v x c)(l:J0n c g):a0u a b v x g:=λh0=>by
 obtain⟨d,i⟩:=h h0
 obtain⟨⟨t,e⟩,f⟩:=l
 exact⟨by rw[e];exact List.mem_append_left _ d,by rw[f v j,f _ d];exact i⟩
theorem Z0p{g:j0}(h:I2 g=true):R00 g=none:=by
 unfold I2 at h
 simp only[Bool.and_eq_true,Option.isNone_iff_eq_none]at h
 exact h.2.1
theorem a0q{a b:List Int}(c:h0b a)(d:h0b b):h0b (a++b):=λx e=>by
 rcases List.mem_append.1 e with h|h
 ·exact c x h
 ·exact d x h
theorem S05(w:List Int)(hl:w.length<=1099511627776)(n0:Nat)(hn:n0<=1099511627776):∀(d k fuel:Nat) (s:List Int),k+d=w.length->d<fuel->s.length<=n0+k ->
  Q7 w fuel (k:Int) s.reverse=some (n04 s (w.drop k)).reverse
 |d,k,0,s,hk,hf,hsl=>by omega
 |0,k,fuel+1,s,hk,hf,hsl=>by
  rw[Q7.eq_2,if_neg (by simp;omega),I1 (by omega)]
  rfl
 |d+1,k,fuel+1,s,hk,hf,hsl=>by
  have hkl:k<w.length:=by omega
  have hx:=E5 hkl
  generalize w[k]=x at hx
  have next:=S05 w hl n0 hn d (k+1) fuel (O03 s x) (by omega) (by omega) (by have:=W0d s x;omega)
  rw[O1 hx]
  show _=some (n04 (O03 s x) (w.drop (k+1))).reverse
  rw[←next,Q7.eq_2,if_pos (by simp;omega),P2 hx,oB,oB,H0 (by rw[List.length_reverse];omega),oB,oB,oB]
  rw[C2 hkl (by omega:w.length<=9223372036854775807)]
  cases s with
  |nil =>
   have hz:decide ((((([]:List Int).reverse).length:Nat):Int)>0)=false:=rfl
   simp only[hz,K1,oB,cond_false,Bool.false_eq_true,if_false]
   rw[H0 (by simp)]
   rfl
  |cons l t =>
   have hp:decide ((((l::t).reverse.length:Nat):Int)>0)=true:=by simp
   have hpr:IntKind.i64.wrap ((((l::t).reverse.length:Nat):Int)-1)=((t.length:Nat):Int):=by
    rw[t0g (by simp) (by simp only[List.length_cons]at hsl;simp only[List.length_reverse,List.length_cons];omega)];simp
   have hpush:(grd (((l::t).reverse.length + [x].length)*8<=140737488355328))=some ():=H0 (by simp only[List.length_cons]at hsl;simp only[List.length_reverse,List.length_cons,List.length_nil];omega)
   have hlen:(grd ((l::t).reverse.length<=9223372036854775807))=some ():=H0 (by rw[List.length_reverse];omega)
   simp only[hp,hpr,H1,oB,cond_true,P2 c0h,z0c,O03]
   have hcc:(!(l == 0) && !(l == -9223372036854775808)&&(x == IntKind.i64.wrap (0-l)))=S0c l x:=rfl
   rw[hcc]
   cases hc:S0c l x with
   |true =>
    simp only[if_true,cond_true,hlen,oB]
    rw[H0 (by simp only[List.length_reverse,List.length_cons];omega),oB,Int.toNat_natCast,W0i]
   |false =>
    simp only[Bool.false_eq_true,if_false,cond_false,hpush,hlen,oB]
    exact congrArg _ (List.reverse_cons ..).symm
def r0m:List (List Int)->Nat
 | []=>0
 |w::r=>w.length+r0m r
def K0n(s:List Int):List (List Int)->List Int
 | []=>s
 |w::r=>K0n (n04 s w) r
theorem T05(ws:List (List Int))(g:ws.length<=1099511627776):∀(d k fuel:Nat) (a:List Int),k+d=ws.length->d<fuel->a.length+r0m (ws.drop k)<=1099511627776 ->
  d9 ws fuel (k:Int) a.reverse=some (K0n a (ws.drop k)).reverse
 |d,k,0,a,e,hf,b=>by omega
 |0,k,fuel+1,a,e,hf,b=>by
  rw[d9.eq_2,if_neg (by simp;omega),I1 (by omega)]
  rfl
 |d+1,k,fuel+1,a,e,hf,b=>by
  have f:k<ws.length:=by omega
  have c:=E5 f
  generalize ws[k]=w at c
  rw[O1 c]at b ⊢
  simp only[r0m]at b
  have h:=g08 w a
  have h0:=S05 w (by omega) a.length (by omega) w.length 0 T0 a (by omega) (D1 (by omega)) (by omega)
  rw[show((0:Nat):Int)=0 from rfl,List.drop_zero]at h0
  rw[d9.eq_2,if_pos (by simp;omega),P2 c,oB,h0,oB,C2 f (by omega:ws.length<=9223372036854775807)]
  exact T05 ws g d (k+1) fuel (n04 a w) (by omega) (by omega) (by omega)
theorem C07(ws:List (List Int))(b:ws.length<=1099511627776)(a:r0m ws<=1099511627776):y00 ws=some (K0n [] ws).reverse:=by
 unfold y00
 have h:=T05 ws b ws.length 0 T0 [] (by omega) (D1 (by omega)) (by simpa using a)
 rw[show((0:Nat):Int)=0 from rfl,List.drop_zero,List.reverse_nil]at h
 rw[h]
 rfl
abbrev Tr8:=List (Option (List Int))×List Int
def trS(g:j0)(v x:Int)(s:Tr8):Tr8:=if 0<=j1 g v x/\j1 g v x ∉ s.2 then(s.1.set (j1 g v x).toNat (some ((V7 s.1 v).getD [] ++ [x])),s.2 ++ [j1 g v x])else s
def F0b(g:j0)(v:Int):List Int->Tr8->Tr8
 | [],s=>s
 |x::r,s=>F0b g v r (trS g v x s)
def N04(g:j0)(b:List Int):Nat->Nat->Tr8->Tr8
 |0,i,a=>a
 |f+1,i,a=>match a.2[i]? with
  |some v=>N04 g b f (i+1) (F0b g v b a)
  |none=>a
def M3(g:j0)(p:Int):List Int:=v00 g (M6 g.1.toNat 1) (g.2.1.toNat+1) 0 [p]
def o04(g:j0)(p:Int):Tr8:=N04 g (M6 g.1.toNat 1) (g.2.1.toNat+1) 0 ((List.replicate g.2.1.toNat none).set p.toNat (some []),[p])
theorem a0p(g:j0)(v x:Int)(s:Tr8):(trS g v x s).2=c09 s.2 (j1 g v x):=by
 unfold trS c09
 split<;>rfl
theorem e0h(g:j0)(v:Int):∀(b:List Int) (a:Tr8),(F0b g v b a).2=W03 g v b a.2
 | [],a=>rfl
 |x::r,a=>by rw[F0b,e0h g v r,a0p];rfl
theorem Z0i(g:j0)(b:List Int):∀(f i:Nat) (a:Tr8),(N04 g b f i a).2=v00 g b f i a.2
 |0,i,a=>rfl
 |f+1,i,a=>by
  unfold N04 v00
  cases a.2[i]? with
  |none=>rfl
  |some v=>simp only[Z0i g b f,e0h]
theorem V09(g:j0)(p:Int):(o04 g p).2=M3 g p:=Z0i _ _ _ _ _
structure TOk (g:j0) (p:Int) (n:Nat) (s:Tr8):Prop where
 ok:WOk n s.1 s.2
 gd:gud n s.2
 base:p∈s.2
 word:V7 s.1 p=some []
 par:∀ y∈s.2,y≠p->∃ v∈s.2,∃ x,x∈M6 g.1.toNat 1/\j1 g v x=y/\∃ a,V7 s.1 v=some a/\V7 s.1 y=some (a ++ [x])
 red:∀ y∈s.2,∀ a,V7 s.1 y=some a->Red a.reverse=true
theorem WOk.add{n:Nat}{b:List (Option (List Int))}{u:List Int}(a:WOk n b u){y:Int}(d:0<=y)(h:y<(n:Int))(v x:Int):WOk n (b.set y.toNat (some ((V7 b v).getD [] ++ [x]))) (u ++ [y]):=by
 have e:=a.short v
 refine⟨by simp[a.len],λz h0 f=>?_,λz=>?_⟩
 ·rw[i02 d (by have:=a.len;omega) h0]
  by_cases c:z=y
  ·rw[if_pos c];simp[c]
  ·rw[if_neg c,a.iff z h0 f];simp[c]
 ·by_cases hz:0<=z
  ·rw[i02 d (by have:=a.len;omega) hz]
   by_cases c:z=y
   ·rw[if_pos c];simp;exact e
   ·rw[if_neg c];have:=a.short z;simp only[List.length_append];omega
  ·have g:V7 (b.set y.toNat (some ((V7 b v).getD [] ++ [x]))) z=V7 (b.set y.toNat (some ((V7 b v).getD [] ++ [x]))) 0:=by
    unfold V7;rw[show z.toNat=(0:Int).toNat by omega]
   rw[g,i02 d (by have:=a.len;omega) (iR 0)]
   by_cases c:(0:Int)=y
   ·rw[if_pos c];simp;exact e
   ·rw[if_neg c];have:=a.short 0;simp only[List.length_append];omega
theorem WOk.get{n:Nat}{b:List (Option (List Int))}{u:List Int}(f:WOk n b u){v:Int}(h0:0<=v)(c:v<(n:Int))(d:v∈u):∃ a,V7 b v=some a:=by
 cases e:V7 b v with
 |none=>exact absurd d ((f.iff v h0 c).1 (by rw[e];rfl))
 |some a=>exact⟨a,rfl⟩
theorem h05{R:Nat}(b:R<=900){x:Int}(a:x∈M6 R 1):l5 x/\x≠0 /\ -(R:Int)<=x/\x<=(R:Int):=by
 obtain⟨j,c,d,e⟩:=P0c _ _ _ a
 exact⟨⟨⟨by omega,by omega⟩,by omega⟩,by omega,by omega,by omega⟩
theorem U0r{l x:Int}(a:l5 l)(h:S0c l x=true):x = -l:=by
 unfold S0c at h
 simp only[Bool.and_eq_true,beq_iff_eq]at h
 rw[h.2];exact y0c a.1 a.2
theorem TOk.add{g:j0}(hf:O0 g=true){p:Int}{n:Nat}(S:g.2.1=(n:Int)){B:Tr8}(h:TOk g p n B){v x:Int}(j:v∈B.2)(N:x∈M6 g.1.toNat 1):TOk g p n (trS g v x B):=by
 obtain⟨Q,T,U,V⟩:=J1 hf
 unfold trS
 split
 ·rename_i c
  obtain⟨o,s⟩:=c
  have P:j1 g v x<(n:Int):=by
   rcases J04 Q v x with e|e<;>omega
  obtain⟨m,u⟩:=B
  obtain⟨ok,q,base,I,F,G⟩:=h
  simp only at j o s ok q base I F G ⊢
  have D:=q.2 v j
  obtain⟨a,i⟩:=ok.get D.1 D.2 j
  have R:=ok.len
  have keep:∀ z∈u,V7 (m.set (j1 g v x).toNat (some ((V7 m v).getD [] ++ [x]))) z=V7 m z:=λz K=>by
   have:=q.2 z K
   rw[i02 o (by omega) this.1,if_neg λ(e:z=j1 g v x)=>s (by rw[←e];exact K)]
  have new:V7 (m.set (j1 g v x).toNat (some ((V7 m v).getD [] ++ [x]))) (j1 g v x)=some (a ++ [x]):=by
   rw[i02 o (by omega) o,if_pos rfl,i];rfl
  refine⟨ok.add o P v x,⟨List.nodup_append.2 ⟨q.1,by simp,λa i b f=>?_⟩,λy d=>?_⟩,List.mem_append_left _ base,?_,λy d O=>?_,λy d b f=>?_⟩
  ·simp at f;subst f;exact λe=>s (e▸i)
  ·rcases List.mem_append.1 d with d|d
   ·exact q.2 y d
   ·simp at d;subst d;omega
  ·rw[keep p base];exact I
  ·rcases List.mem_append.1 d with d|d
   ·obtain⟨H,A,L,E,C,b,w,k⟩:=F y d O
    exact⟨H,List.mem_append_left _ A,L,E,C,b,by rw[keep H A];exact w,by rw[keep y d];exact k⟩
   ·simp at d;subst d
    exact⟨v,List.mem_append_left _ j,x,N,rfl,a,by rw[keep v j];exact i,new⟩
  ·rcases List.mem_append.1 d with d|d
   ·rw[keep y d]at f;exact G y d b f
   ·simp at d;subst d
    rw[new]at f;cases f
    have J:=G v j a i
    rw[List.reverse_append]
    show Red (x::a.reverse)=true
    cases e:a.reverse with
    |nil=>rfl
    |cons l t =>
     rw[e]at J
     unfold Red
     rw[J,Bool.and_true]
     cases hc:S0c l x with
     |false=>rfl
     |true =>
      exfalso
      have M:v≠p:=λw=>by
       subst w
       rw[I]at i;cases i;simp at e
      obtain⟨H,A,L,E,C,b,w,k⟩:=F v j M
      rw[i]at k
      injection k with k
      rw[k,List.reverse_append]at e
      simp only[List.reverse_cons,List.reverse_nil,List.nil_append,List.cons_append,List.cons.injEq]at e
      rw[←e.1]at hc
      have:=U0r (h05 (by omega) E).1 hc
      have f:=Y0i hf C D.1
      rw[←this]at f
      exact s (f▸A)
 ·exact h
theorem v0f(g:j0)(v x:Int)(s:Tr8):∃ t,(trS g v x s).2=s.2++t:=by rw[a0p];exact N0g _ _
theorem f0h(g:j0)(v:Int)(b:List Int)(a:Tr8):∃ t,(F0b g v b a).2=a.2++t:=by rw[e0h];exact u04 _ _ _ _
theorem TOk.inn{g:j0}(hf:O0 g=true){p:Int}{n:Nat}(d:g.2.1=(n:Int)){v:Int}:∀(f:List Int) {a:Tr8},TOk g p n a->v∈a.2->(∀ x∈f,x∈M6 g.1.toNat 1)->TOk g p n (F0b g v f a)
 | [],a,h,c,b=>h
 |x::r,a,h,c,b=>by
  obtain⟨t,e⟩:=v0f g v x a
  exact TOk.inn hf d r (h.add hf d c (b x mS)) (by rw[e];exact List.mem_append_left _ c) λy i=>b y (mC _ i)
theorem TOk.out{g:j0}(hf:O0 g=true){p:Int}{n:Nat}(b:g.2.1=(n:Int)):∀(f i:Nat) {a:Tr8},TOk g p n a->TOk g p n (N04 g (M6 g.1.toNat 1) f i a)
 |0,i,a,h=>h
 |f+1,i,a,h=>by
  unfold N04
  cases e:a.2[i]? with
  |none=>exact h
  |some v=>exact TOk.out hf b f (i+1) (h.inn hf b _ (List.mem_of_getElem? e) λx c=>c)
theorem V0r(N:Nat)(x:Int):V7 (List.replicate N (none:Option (List Int))) x=none:=by
 unfold V7
 rw[List.getD_eq_getElem?_getD,List.getElem?_replicate];split<;>rfl
theorem E0a(g:j0){p:Int}{N:Nat}(d:0<=p/\p<(N:Int)):TOk g p N ((List.replicate N none).set p.toNat (some []),[p]):=by
 have f:∀ x,0<=x->V7 ((List.replicate N (none:Option (List Int))).set p.toNat (some [])) x=if x=p then some []else none:=λx h0=>by
  rw[i02 d.1 (by simp;omega) h0,V0r]
 refine⟨⟨by simp,λx h0 k=>?_,λx=>?_⟩,⟨by simp,λx j=>by simp at j;subst j;exact d⟩,by simp,?_,λy b h=>?_,λy b a i=>?_⟩
 ·simp only
  rw[f x h0]
  by_cases c:x=p
  ·rw[if_pos c];simp[c]
  ·rw[if_neg c];simp[c]
 ·have:∀ x,0<=x->((V7 ((List.replicate N (none:Option (List Int))).set p.toNat (some [])) x).getD []).length<=1:=λx h0=>by
   rw[f x h0];split<;>simp
  by_cases hz:0<=x
  ·exact this x hz
  ·have e:V7 ((List.replicate N (none:Option (List Int))).set p.toNat (some [])) x=V7 ((List.replicate N (none:Option (List Int))).set p.toNat (some [])) 0:=by
    unfold V7;rw[show x.toNat=(0:Int).toNat by omega]
   simp only
   rw[e];exact this 0 (iR 0)
 ·simp only
  rw[f p d.1,if_pos rfl]
 ·simp at b;exact absurd b h
 ·simp at b;subst b
  simp only at i
  rw[f y d.1,if_pos rfl]at i
  cases i;rfl
theorem F0a{g:j0}(hf:O0 g=true){p:Int}(a:0<=p/\p<g.2.1):TOk g p g.2.1.toNat (o04 g p):=by
 obtain⟨b,c,d,e⟩:=J1 hf
 exact TOk.out hf (by omega) _ _ (E0a g ⟨a.1,by omega⟩)
theorem x0t{g:j0}(hf:O0 g=true)(p:Int){n:Nat}(u:g.2.1=(n:Int))(b:List Int)(s:∀ x∈b,x∈M6 g.1.toNat 1)(B:b.length<=1000000)(v:Int):∀(d k fuel:Nat) (a:Tr8),TOk g p n a->v∈a.2->k+d=b.length->d<fuel ->
  S3 b g.1 g.2.1 g.2.2 v fuel (k:Int) a.1 a.2=some (F0b g v (b.drop k) a)
 |d,k,0,a,c,e,m,hf=>by omega
 |0,k,fuel+1,a,c,e,m,hf=>by
  rw[S3.eq_2,if_neg (by simp;omega),I1 (by omega)];rfl
 |d+1,k,fuel+1,a,c,e,m,G=>by
  obtain⟨z,K,F,L⟩:=J1 hf
  have q:k<b.length:=by omega
  have i:=E5 q
  have j:=s _ (List.mem_of_getElem? i)
  have o:=O1 i
  generalize b[k]=x at i j o
  have D:=(h05 (by omega) j).1
  have H:=J00 n a.2 c.gd.1 c.gd.2
  have I:=J04 z v x
  have C:=c.add hf u e j
  obtain⟨t,A⟩:=v0f g v x a
  have E:=x0t hf p u b s B v d (k+1) fuel (trS g v x a) C (by rw[A];exact List.mem_append_left _ e) (by omega) (by omega)
  have f:=c.ok
  have w:=c.gd.2 v e
  rw[S3.eq_2,if_pos (by simp;omega),o,F0b,←E]
  simp only[P2 i,oB,show(g.1,g.2.1,g.2.2)=g from rfl,F06 g v x D (by omega),H0 (c04 z F.2 v x),C2 q (show b.length<=9223372036854775807 by omega)]
  unfold trS
  generalize j1 g v x=y at *
  by_cases c1:0<=y
  ·have l:y<(n:Int):=by omega
   simp only[show decide (y ≥ 0)=true by simpa using c1,H1,giO f.len c1 l,oB,cond_true]
   by_cases c2:y∈a.2
   ·have : ¬ ((V7 a.1 y).isNone=true):=λh=>(f.iff y c1 l).1 h c2
    rw[if_neg this,if_neg λh=>h.2 c2]
   ·have:(V7 a.1 y).isNone=true:=(f.iff y c1 l).2 c2
    have J:=f.short v
    rw[if_pos this,if_pos ⟨c1,c2⟩,giO f.len w.1 w.2,oB,T0o (by omega),oB,H0 (by simp;omega),oB,H0 (by simp;omega),oB]
  ·simp only[show decide (y ≥ 0)=false by simpa using c1,K1,oB,cond_false]
   rw[if_neg (by simp),if_neg λh=>c1 h.1]
theorem y0t{g:j0}(hf:O0 g=true)(p:Int){n:Nat}(d:g.2.1=(n:Int)):∀(f i fuel:Nat) (a:Tr8),TOk g p n a->i<=a.2.length->n+1<=i+f->f<fuel ->
  T5 g.1 g.2.1 g.2.2 fuel (i:Int) a.1 a.2=some (N04 g (M6 g.1.toNat 1) f i a)
 |f,i,0,a,c,j,h,hf=>by omega
 |0,i,fuel+1,a,c,j,h,hf=>by have:=J00 n a.2 c.gd.1 c.gd.2;omega
 |f+1,i,fuel+1,a,c,j,h,o=>by
  obtain⟨s,u,w,y⟩:=J1 hf
  have q:=J00 n a.2 c.gd.1 c.gd.2
  rw[T5.eq_2,oB,H0 (by omega),oB]
  by_cases hk:i<a.2.length
  ·have b:=E5 hk
   generalize a.2[i]=v at b
   have k:=List.mem_of_getElem? b
   have h0:=x0t hf p d (M6 g.1.toNat 1) (λx b=>b) (by rw[h02];omega) v (M6 g.1.toNat 1).length 0 T0 a c k (by omega) (D1 (by rw[h02];omega))
   rw[show((0:Nat):Int)=0 from rfl,List.drop_zero]at h0
   obtain⟨t,e⟩:=f0h g v (M6 g.1.toNat 1) a
   have m:=y0t hf p d f (i+1) fuel _ (c.inn hf d _ k λx b=>b) (by rw[e,List.length_append];omega) (by omega) (by omega)
   have l:t00 g.1=some (M6 g.1.toNat 1):=by
    have:=y0n g.1.toNat (by omega)
    rwa [show((g.1.toNat:Nat):Int)=g.1 by omega]at this
   rw[if_pos (by simpa using hk),P2 b,oB,l,oB,h0,oB]
   simp only[C2 hk (show a.2.length<=9223372036854775807 by omega),N04,b]
   exact m
  ·have b:a.2[i]?=none:=List.getElem?_eq_none (by omega)
   rw[if_neg (by simpa using hk)]
   simp only[N04,b]
def O08(g:j0)(p:Int):List (List Int):=(o04 g p).1.map λo=>o.getD []
theorem g0h{g:j0}(hf:O0 g=true){p:Int}(f:0<=p/\p<g.2.1):o8 g p=some (M3 g p,O08 g p):=by
 obtain⟨h,i,j,l⟩:=J1 hf
 have d:g.2.1=((g.2.1.toNat:Nat):Int):=by omega
 have h0:=y0t hf p d (g.2.1.toNat+1) 0 T0 _ (E0a g (N:=g.2.1.toNat) ⟨f.1,by omega⟩) (by simp) (by omega) (D1 (by omega))
 have e:gi (List.replicate g.2.1.toNat (none:Option (List Int))) p=some none:=by
  have:=P2 (xs:=List.replicate g.2.1.toNat (none:Option (List Int))) (k:=p.toNat) (x:=none) (by rw[List.getElem?_replicate,if_pos (by omega)])
  rwa [show((p.toNat:Nat):Int)=p by omega]at this
 rw[←V09]
 unfold O08 o04
 obtain⟨a,b,c⟩:=g
 simp only at *
 unfold o8
 simp only
 rw[H0 (by omega),oB,e,oB]
 rw[show((0:Nat):Int)=0 from rfl]at h0
 rw[h0]
 rfl
def tw(g:j0)(p v:Int):List Int:=(V7 (o04 g p).1 v).getD []
structure O0h (g:j0) (p:Int) (t:Int->List Int):Prop where
 z:t p = []
 par:∀ y∈M3 g p,y≠p->∃ v∈M3 g p,∃ x,x∈M6 g.1.toNat 1/\j1 g v x=y/\t y=t v ++ [x]
 red:∀ y∈M3 g p,Red (t y).reverse=true
 len:∀ y,(t y).length<=40
theorem i06{g:j0}(hf:O0 g=true){p:Int}(k:0<=p/\p<g.2.1):O0h g p (tw g p):=by
 obtain⟨o,q,s,t⟩:=J1 hf
 have h:=F0a hf k
 have e:=V09 g p
 refine⟨by unfold tw;rw[h.word];rfl,λy b n=>?_,λy b=>?_,λy=>?_⟩
 ·rw[←e]at b ⊢
  obtain⟨v,l,x,m,f,a,i,j⟩:=h.par y b n
  exact⟨v,l,x,m,f,by unfold tw;rw[i,j];rfl⟩
 ·rw[←e]at b
  have d:=h.gd.2 y b
  obtain⟨a,c⟩:=h.ok.get d.1 d.2 b
  unfold tw
  rw[c]
  exact h.red y b a c
 ·have:=h.ok.short y
  have:=J00 _ _ h.gd.1 h.gd.2
  unfold tw
  omega
theorem J05{g:j0}(hf:O0 g=true){p:Int}(a:0<=p/\p<g.2.1):gud g.2.1.toNat (M3 g p):=by
 rw[←V09];exact(F0a hf a).gd
theorem T0c(g:j0)(p:Int):∃ t,M3 g p=p::t:=by
 obtain⟨t,e⟩:=E0b g (M6 g.1.toNat 1) (g.2.1.toNat+1) 0 [p]
 exact⟨t,e⟩
theorem O0h.ind{g:j0}{p:Int}{t:Int->List Int}(h:O0h g p t)(P:Int->Prop)(h0:P p)(d:∀ v∈M3 g p,∀ y∈M3 g p,∀ x,x∈M6 g.1.toNat 1->j1 g v x=y->t y=t v ++ [x]->P v->P y):∀(k:Nat) (y:Int),(t y).length<=k->y∈M3 g p->P y
 |k,y,a,f=>by
  by_cases c:y=p
  ·rw[c];exact h0
  ·obtain⟨v,e,x,j,i,b⟩:=h.par y f c
   cases k with
   |zero=>rw[b]at a;simp at a
   |succ k=>exact d v e y f x j i b (O0h.ind h P h0 d k v (by rw[b]at a;simp at a;omega) e)
theorem O0h.induct{g:j0}{p:Int}{t:Int->List Int}(h:O0h g p t){P:Int->Prop}(h0:P p)(a:∀ v∈M3 g p,∀ y∈M3 g p,∀ x,x∈M6 g.1.toNat 1->j1 g v x=y->t y=t v ++ [x]->P v->P y){y:Int}(b:y∈M3 g p):P y:=h.ind P h0 a _ y (Nat.le_refl _) b
theorem d0t{g:j0}{v x y:Int}(h:j1 g v x=y)(h0:0<=y):rdw g v [x]=some y:=by
 unfold rdw
 rw[if_neg (by omega),h];rfl
theorem O0h.rd{g:j0}(hf:O0 g=true){p:Int}(d:0<=p/\p<g.2.1){t:Int->List Int}(h:O0h g p t){y:Int}(a:y∈M3 g p):rdw g p (t y)=some y:=by
 refine h.induct (P:=λy=>rdw g p (t y)=some y) ?_ (λv f y a x i b c e=>?_) a
 ·rw[h.z];rfl
 ·rw[c,Z0o,e,oB]
  exact d0t b ((J05 hf d).2 y a).1
theorem O0h.let{g:j0}{p:Int}{t:Int->List Int}(h:O0h g p t){y:Int}(c:y∈M3 g p):∀ x∈t y,x∈M6 g.1.toNat 1:=by
 refine h.induct (P:=λy=>∀ x∈t y,x∈M6 g.1.toNat 1) ?_ (λv i y c x b f d e=>?_) c
 ·rw[h.z];exact λx b=>by cases b
 ·rw[d]
  intro z a
  rcases List.mem_append.1 a with a|a
  ·exact e z a
  ·simp at a;rw[a];exact b
def G0e(w:List Int):Int:=w.getLastD 0
theorem a0j(a:List Int)(x:Int):G0e (a ++ [x])=x:=by unfold G0e;simp
def tE(g:j0)(v:Int):N0:=stp (j1 g v (-(G0e (tw g 0 v)))) (G0e (tw g 0 v)) v
def O04(g:j0):List N0:=C6 S0 [] ((M3 g 0).tail.map (tE g))
theorem h0h{g:j0}(hf:O0 g=true){p:Int}(b:0<=p/\p<g.2.1){v:Int}(d:0<=v/\v<g.2.1):gi (O08 g p) v=some (tw g p v):=by
 have h:=F0a hf b
 have c:=h.ok.len
 have a:v.toNat<(o04 g p).1.length:=by omega
 have:=P2 (xs:=O08 g p) (k:=v.toNat) (x:=tw g p v) (by
  unfold O08 tw V7
  rw[List.getElem?_map,List.getElem?_eq_getElem a,List.getD_eq_getElem?_getD,List.getElem?_eq_getElem a];rfl)
 rwa [show((v.toNat:Nat):Int)=v by omega]at this
theorem W0r{g:j0}(hf:O0 g=true){v:Int}:v∈(M3 g 0).tail↔v∈M3 g 0/\v≠0:=by
 obtain⟨f,i,j,k⟩:=J1 hf
 obtain⟨t,e⟩:=T0c g 0
 have b:=(J05 hf (p:=0) ⟨by omega,by omega⟩).1
 rw[e]at b ⊢
 have:=(List.nodup_cons.1 b).1
 constructor
 ·intro h
  exact⟨mC _ h,λc=>this (c▸h)⟩
 ·rintro⟨a,d⟩
  rcases List.mem_cons.1 a with a|a
  ·exact absurd a d
  ·exact a
theorem b0p{g:j0}(hf:O0 g=true):∀(d k fuel:Nat) (acc:List N0),k+d=(M3 g 0).tail.length->d<fuel->acc.length<=k ->
  C7 (M3 g 0).tail (O08 g 0) g.1 g.2.1 g.2.2 fuel (k:Int) acc=some (acc++((M3 g 0).tail.drop k).map (tE g))
 |d,k,0,acc,j,s,i=>by omega
 |0,k,fuel+1,acc,j,s,i=>by
  rw[C7.eq_2,if_neg (by simp only[decide_eq_true_eq];omega),I1 (by omega)];simp
 |d+1,k,fuel+1,acc,j,F,i=>by
  obtain⟨C,L,D,M⟩:=J1 hf
  have f:(0:Int)<=0/\(0:Int)<g.2.1:=⟨by omega,by omega⟩
  have h:=i06 hf f
  have e:=J05 hf f
  have G:=J00 _ _ e.1 e.2
  have m:k<(M3 g 0).tail.length:=by omega
  have J:(M3 g 0).tail.length<=40:=by rw[List.length_tail];omega
  have b:=E5 m
  have n:=List.mem_of_getElem? b
  have l:=O1 b
  generalize (M3 g 0).tail[k]=v at b n l
  obtain⟨o,z⟩:=(W0r hf).1 n
  have A:=e.2 v o
  obtain⟨u,K,x,B,E,c⟩:=h.par v o z
  have a:=h05 (by omega) B
  have H:(tw g 0 v).length=(tw g 0 u).length+1:=by rw[c];simp
  have I:=h.len u
  have q:gi (tw g 0 v) (IntKind.i64.wrap (((tw g 0 v).length:Nat)-1))=some x:=by
   rw[w64 (by omega) (by omega),show(((tw g 0 v).length:Nat):Int)-1=(((tw g 0 u).length:Nat):Int) by omega]
   refine P2 ?_
   rw[c,List.getElem?_append_right (Nat.le_refl _)];simp
  have y:tE g v=stp (j1 g v (-x)) x v:=by unfold tE;rw[c,a0j]
  have w:l5 (-x):=⟨⟨by have:=a.2.2;omega,by have:=a.2.2;omega⟩,by have:=a.2.2;omega⟩
  have p:=b0p hf d (k+1) fuel (acc ++ [tE g v]) (by omega) (by omega) (by simp;omega)
  rw[C7.eq_2,if_pos (by simp only[decide_eq_true_eq];omega),P2 b,oB,h0h hf f ⟨A.1,by omega⟩,oB,q,oB,y0c a.1.1 a.1.2,show(g.1,g.2.1,g.2.2)=g from rfl,F06 g v (-x) w (by omega),oB,H0 (c04 C D.2 v _),oB,B0n _ x v a.1,oB,←y,C2 m (by omega),l,List.map_cons]
  generalize tE g v=t at p ⊢
  obtain⟨N,O,P⟩:=t
  simp only
  rw[H0 (by simp;omega),oB]
  rw[p]
  simp
theorem s0m{g:j0}(hf:O0 g=true):p02 g=some (O04 g):=by
 obtain⟨n,o,p,q⟩:=J1 hf
 have f:(0:Int)<=0/\(0:Int)<g.2.1:=⟨by omega,by omega⟩
 have d:=J05 hf f
 have m:=J00 _ _ d.1 d.2
 have i:=g0h hf f
 obtain⟨t,h⟩:=T0c g 0
 have j:S06 (M3 g 0) 1 (((M3 g 0).length:Nat):Int)=some (M3 g 0).tail:=by
  have:=m04 (xs:=M3 g 0) (k:=1) (by rw[h];simp)
  rw[show((1:Nat):Int)=1 from rfl]at this
  rw[this,List.drop_one]
 have e:=b0p hf (M3 g 0).tail.length 0 T0 [] (by omega) (D1 (by rw[List.length_tail];omega)) (by simp)
 rw[show((0:Nat):Int)=0 from rfl,List.drop_zero,List.nil_append]at e
 have l:=J0c ((M3 g 0).tail.map (tE g)) (by rw[List.length_map,List.length_tail];omega)
 unfold O04
 obtain⟨a,b,c⟩:=g
 simp only at *
 unfold p02
 simp only[i,oB,j,e,l]
def b03(g:j0):List N0:=g.2.2.filter λe => !decide (e∈O04 g)
theorem b0j{g:j0}(hf:O0 g=true):(O04 g).length<=40:=by
 obtain⟨c,d,e,f⟩:=J1 hf
 have a:=J05 hf (p:=0) ⟨by omega,by omega⟩
 have b:=J00 _ _ a.1 a.2
 unfold O04
 have:=n03 ((M3 g 0).tail.map (tE g)) []
 rw[List.length_map,List.length_tail,List.length_nil]at this
 omega
theorem c0p(a:List N0)(q:a.length<=1000)(es:List N0)(t:es.length<=1000):∀(d k fuel:Nat) (acc:List N0),k+d=es.length->d<fuel->acc.length<=k ->
  U5 es a fuel (k:Int) acc=some (acc++(es.drop k).filter λe => !decide (e∈a))
 |d,k,0,acc,l,s,j=>by omega
 |0,k,fuel+1,acc,l,s,j=>by
  rw[U5.eq_2,if_neg (by simp only[decide_eq_true_eq];omega),I1 (by omega)];simp
 |d+1,k,fuel+1,acc,l,u,j=>by
  have n:k<es.length:=by omega
  have b:=E5 n
  have m:=O1 b
  generalize es[k]=e at b m
  have o:=λp h=>c0p a q es t d (k+1) fuel p (by omega) (by omega) h
  obtain⟨f,g,i⟩:=e
  rw[U5.eq_2,if_pos (by simp only[decide_eq_true_eq];omega),P2 b,oB]
  simp only[D0n a (f,g,i) (by omega),oB,C2 n (show es.length<=9223372036854775807 by omega),m,List.filter_cons]
  by_cases c:(f,g,i)∈a
  ·simp only[decide_eq_true c,Bool.not_true,Bool.false_eq_true,if_false]
   exact o acc (by omega)
  ·simp only[decide_eq_false c,Bool.not_false,if_true]
   rw[H0 (by simp;omega),oB,o _ (by simp;omega)]
   simp
theorem e0t{g:j0}(hf:O0 g=true):J01 g=some (b03 g):=by
 obtain⟨i,j,k,l⟩:=J1 hf
 have e:=u00 g (by omega)
 have f:=s0m hf
 have h:=b0j hf
 have d:=c0p (O04 g) (by omega) g.2.2 (by omega) g.2.2.length 0 T0 [] (by omega) (D1 (by omega)) (by simp)
 rw[show((0:Nat):Int)=0 from rfl,List.drop_zero,List.nil_append]at d
 unfold b03
 obtain⟨a,b,c⟩:=g
 simp only at *
 unfold J01
 simp only[e,hf,oB,f,Bool.not_true,Bool.false_eq_true,if_false,d]
theorem X0d{g:j0}{e:N0}:e∈b03 g↔e∈g.2.2/\e ∉ O04 g:=by
 unfold b03
 rw[List.mem_filter]
 simp
def bw(g:j0)(e:N0):List Int:=tw g 0 e.1 ++ [e.2.1]++inv (tw g 0 e.2.2)
def d04(g:j0):List (List Int):=(b03 g).map λe=>(n04 [] (bw g e)).reverse
theorem b0u{g:j0}(hf:O0 g=true)(e:N0):(bw g e).length<=81:=by
 obtain⟨d,f,h,i⟩:=J1 hf
 have a:=i06 hf (p:=0) ⟨by omega,by omega⟩
 have b:=a.len e.1
 have c:=a.len e.2.2
 unfold bw
 simp only[List.length_append,c06,List.length_singleton]
 omega
theorem d0p{g:j0}(hf:O0 g=true)(es:List N0)(m:∀ e∈es,e∈g.2.2)(v:es.length<=1000):∀(d k fuel:Nat) (acc:List (List Int)),k+d=es.length->d<fuel->acc.length<=k ->
  i9 es (O08 g 0) fuel (k:Int) acc=some (acc++(es.drop k).map λe=>(n04 [] (bw g e)).reverse)
 |d,k,0,acc,j,u,i=>by omega
 |0,k,fuel+1,acc,j,u,i=>by
  rw[i9.eq_2,if_neg (by simp only[decide_eq_true_eq];omega),I1 (by omega)];simp
 |d+1,k,fuel+1,acc,j,B,i=>by
  obtain⟨x,C,D,E⟩:=J1 hf
  have b:(0:Int)<=0/\(0:Int)<g.2.1:=⟨by omega,by omega⟩
  have f:=i06 hf b
  have o:k<es.length:=by omega
  have a:=E5 o
  have n:=m _ (List.mem_of_getElem? a)
  have l:=O1 a
  generalize es[k]=e at a l n
  have c:=x e n
  have s:=f.len e.1
  have t:=f.len e.2.2
  have w:=λq h=>d0p hf es m v d (k+1) fuel q (by omega) (by omega) h
  have p:y00 [tw g 0 e.1,[e.2.1],inv (tw g 0 e.2.2)]=some (n04 [] (bw g e)).reverse:=by
   rw[C07 _ (by simp) (by simp only[r0m,c06,List.length_singleton];omega)]
   unfold bw K0n
   simp only[K0n,b0h]
  obtain⟨y,z,A⟩:=e
  rw[i9.eq_2,if_pos (by simp only[decide_eq_true_eq];omega),P2 a,oB]
  simp only at c p s t ⊢
  rw[h0h hf b c.1,oB,oB,h0h hf b c.2.1,oB,g05 _ (by omega),oB,oB,p,oB,oB,H0 (by simp;omega),oB,C2 o (show es.length<=9223372036854775807 by omega),w _ (by simp;omega),l]
  simp
theorem f0t{g:j0}(f:I2 g=true):t03 g=some (d04 g):=by
 have hf:=R5 f
 obtain⟨m,n,o,q⟩:=J1 hf
 have h:=I01 g (by omega)
 have i:=e0t hf
 have j:=g0h hf (p:=0) ⟨by omega,by omega⟩
 have l:(b03 g).length<=g.2.2.length:=List.length_filter_le _ _
 have d:=d0p hf (b03 g) (λe k=>(X0d.1 k).1) (by omega) (b03 g).length 0 T0 [] (by omega) (D1 (by omega)) (by simp)
 rw[show((0:Nat):Int)=0 from rfl,List.drop_zero,List.nil_append]at d
 unfold d04
 obtain⟨a,b,c⟩:=g
 simp only at *
 unfold t03
 simp only[h,f,oB,i,j,Bool.not_true,Bool.false_eq_true,if_false,d]
theorem c0u{x:Int}(h:l5 x):ng x = -x:=y0c h.1 h.2
theorem L0n{x:Int}(h:l5 x):l5 (-x):=⟨⟨by have:=h.1.2;have:=h.2;omega,by have:=h.1.1;have:=h.2;omega⟩,by have:=h.1.2;omega⟩
theorem v0k{w:List Int}(a:∀ x∈w,l5 x):∀ x∈inv w,l5 x:=λx b=>by
 simp only[inv,List.mem_reverse,List.mem_map]at b
 obtain⟨y,c,rfl⟩:=b
 rw[c0u (a y c)];exact L0n (a y c)
theorem b0q{s:List Int}{x y:Int}(h:y∈O03 s x):y∈s∨y=x:=by
 cases s with
 |nil=>simp[O03]at h;exact .inr h
 |cons l t =>
  simp only[O03]at h
  cases c:S0c l x with
  |true=>rw[c]at h;exact .inl (mC _ h)
  |false =>
   rw[c]at h
   rcases List.mem_cons.1 h with h|h
   ·exact .inr h
   ·exact .inl h
theorem t0m:∀(w s:List Int) {y:Int},y∈n04 s w->y∈s∨y∈w
 | [],s,y,h => .inl h
 |x::w,s,y,h=>by
  rcases t0m w (O03 s x) h with h|h
  ·rcases b0q h with h|rfl
   ·exact .inl h
   ·exact .inr mS
  ·exact .inr (mC _ h)
theorem X0r{g:j0}(h:I2 g=true){v:Int}(h0:0<=v)(a:v<g.2.1):v∈M3 g 0:=T0i (R5 h) (Z0p h) h0 a
theorem i0h{g:j0}(a:I2 g=true){v:Int}(h0:0<=v)(b:v<g.2.1):∀ x∈tw g 0 v,l5 x/\x≠0:=λx d=>by
 have hf:=R5 a
 obtain⟨e,f,h,i⟩:=J1 hf
 have c:=i06 hf (p:=0) ⟨by omega,by omega⟩
 have:=h05 (by omega) (c.let (X0r a h0 b) x d)
 exact⟨this.1,this.2.1⟩
theorem c0q{g:j0}(c:I2 g=true){e:N0}(d:e∈g.2.2):∀ x∈bw g e,l5 x:=λx a=>by
 obtain⟨h,i,j,k⟩:=J1 (R5 c)
 have b:=h e d
 unfold bw at a
 rcases List.mem_append.1 a with a|a
 ·rcases List.mem_append.1 a with a|a
  ·exact(i0h c b.1.1 b.1.2 x a).1
  ·simp at a;subst a
   exact⟨⟨by omega,by omega⟩,by omega⟩
 ·exact v0k (λy f=>(i0h c b.2.1.1 b.2.1.2 y f).1) x a
def D07(b:j0)(ws:List (List Int)):Bool:=I2 b&&ws.all λw=>F01 b (n04 [] w).reverse
theorem c0j(g:j0):∀ d k,(f0b g d k).length<=d*(M6 g.1.toNat 1).length
 |0,k=>Nat.zero_le _
 |d+1,k=>by
  have a:=D0a g (k:Int) (M6 g.1.toNat 1)
  have b:=c0j g d (k+1)
  rw[f0b,List.length_append,Nat.succ_mul]
  omega
theorem H0e{g:j0}(hf:O0 g=true):(n02 g).length<=1000:=by
 obtain⟨b,c,d,e⟩:=J1 hf
 have h:=c0j g g.2.1.toNat 0
 rw[h02]at h
 unfold n02
 have a:g.2.1.toNat*(2*g.1.toNat)<=40*(2*3):=Nat.mul_le_mul (by omega) (by omega)
 omega
def s05(g:j0):Bool:=I2 g&&decide ((n02 g).length=0)
theorem z0u(n:Nat):decide (((n:Nat):Int)=0)=decide (n=0):=by
 by_cases c:n=0
 ·rw[decide_eq_true c,decide_eq_true (by omega)]
 ·rw[decide_eq_false c,decide_eq_false (by omega)]
theorem h08{g:j0}(h:I2 g=true):O0 g=true:=by
 unfold I2 at h
 simp only[Bool.and_eq_true]at h
 exact h.1
theorem u0m(g:j0)(i:g.2.2.length<=140737488355328):z00 g=some (s05 g):=by
 have d:=L08 g i
 have f:I2 g=true->I9 g=some (n02 g):=λc=>M0h (h08 c)
 have h:I2 g=true->(n02 g).length<=1000:=λc=>H0e (h08 c)
 unfold s05
 obtain⟨a,b,c⟩:=g
 unfold z00 L3
 simp only[d,oB]
 cases e:I2 (a,b,c)with
 |false=>rfl
 |true =>
  have:=h e
  simp only[H1,f e,oB,cond_true,Bool.true_and]
  rw[H0 (by omega),oB,z0u]
theorem v0m(g:j0)(i:g.2.2.length<=140737488355328):A00 g=some (s05 g):=by
 have d:=I01 g i
 have f:I2 g=true->J9 g=some (n02 g):=λc=>N0h (h08 c)
 have h:I2 g=true->(n02 g).length<=1000:=λc=>H0e (h08 c)
 unfold s05
 obtain⟨a,b,c⟩:=g
 unfold A00
 simp only[d,oB]
 cases e:I2 (a,b,c)with
 |false=>rfl
 |true =>
  have:=h e
  simp only[H1,f e,oB,cond_true,Bool.true_and]
  rw[H0 (by omega),oB,z0u]
theorem Y0r{g:j0}(h:s05 g=true):I2 g=true:=by
 unfold s05 at h
 simp only[Bool.and_eq_true]at h
 exact h.1
def U08(g:j0)(v:Int):List Int:=v::wo v.toNat g.2.1.toNat 0
def Y0d(g:j0)(v:Int):j0:=U0d (S9 g (U08 g v))
theorem Z0r(g:Nat):∀(d k:Nat),(g:Int) ∉ wo g d k
 |0,k,h=>nomatch h
 |d+1,k,h=>by
  unfold wo at h
  split at h
  ·exact Z0r g d (k+1) h
  ·rcases List.mem_cons.1 h with h|h
   ·omega
   ·exact Z0r g d (k+1) h
theorem j0h{g:j0}(hf:O0 g=true){v:Int}(b:0<=v/\v<g.2.1):inV g.2.1.toNat (U08 g v)/\(U08 g v).Nodup/\(U08 g v).length=g.2.1.toNat:=by
 obtain⟨c,d,e,f⟩:=J1 hf
 refine⟨λx a=>?_,?_,?_⟩
 ·rcases List.mem_cons.1 a with rfl|a
  ·omega
  ·exact Q0l _ _ _ _ (by omega) x a
 ·refine List.nodup_cons.2 ⟨λh=>?_,S09 _ _ _⟩
  have:=Z0r v.toNat g.2.1.toNat 0
  rw[show((v.toNat:Nat):Int)=v by omega]at this
  exact this h
 ·unfold U08
  rw[List.length_cons,R0g,if_pos (by omega)]
  omega
theorem Z0d{g:j0}(hf:O0 g=true){v:Int}(c:0<=v/\v<g.2.1):O0 (S9 g (U08 g v))=true:=by
 obtain⟨e,f,h,i⟩:=J1 hf
 obtain⟨a,b,d⟩:=j0h hf c
 exact T09 hf a b (by omega) (by omega)
theorem d0q{g:j0}(hf:O0 g=true){v:Int}(a:0<=v/\v<g.2.1):I2 (Y0d g v)=true:=W0p (Z0d hf a)
theorem a0s(n:Nat)(v:Int)(h0:0<=v)(i:n<=1000):∀(d k fuel:Nat) (acc:List Int),k+d=n->d<fuel->acc.length<=k+1 ->
  p5 (n:Int) v fuel (k:Int) acc=some (acc++wo v.toNat d k)
 |d,k,0,acc,b,hf,a=>by omega
 |0,k,fuel+1,acc,b,hf,a=>by
  rw[p5.eq_2,if_neg (by simp only[decide_eq_true_eq];omega)];simp[wo]
 |d+1,k,fuel+1,acc,b,hf,a=>by
  have f:=λg h=>a0s n v h0 i d (k+1) fuel g (by omega) (by omega) h
  rw[p5.eq_2,if_pos (by simp only[decide_eq_true_eq];omega),C2 (show k<10000 by omega) (by omega)]
  unfold wo
  by_cases c:k=v.toNat
  ·have e:decide ((k:Int)=v)=true:=decide_eq_true (by omega)
   rw[e,if_neg (by simp),if_pos c,f _ (by omega)]
  ·have e:decide ((k:Int)=v)=false:=decide_eq_false (by omega)
   rw[e,if_pos (show(!false)=true from rfl),if_neg c,H0 (by simp;omega),oB,f _ (by simp;omega)]
   simp
theorem z0t(n:Nat)(v:Int):∀(fuel:Nat) (k:Int) (acc:List Int),t8 (n:Int) v fuel k acc=p5 (n:Int) v fuel k acc
 |0,k,acc=>rfl
 |fuel+1,k,acc=>by
  rw[t8.eq_2,p5.eq_2]
  simp only[z0t n v fuel]
theorem M0n{g:j0}(hf:O0 g=true){v:Int}(e:0<=v/\v<g.2.1):M8 g v=some (Y0d g v,true):=by
 obtain⟨p,s,l,t⟩:=J1 hf
 obtain⟨i,j,m⟩:=j0h hf e
 have h:=O6 g (by omega)
 rw[hf]at h
 have d:=a0s g.2.1.toNat v e.1 (by omega) g.2.1.toNat 0 T0 [v] (by omega) (D1 (by omega)) (by simp)
 have k:=F0n (Z0d hf e)
 have f:=B0b g.1 g.2.1.toNat g.2.2 (U08 g v) (by rw[show((g.2.1.toNat:Nat):Int)=g.2.1 by omega];exact P4 hf) i j (by omega) (by omega)
 rw[show((0:Nat):Int)=0 from rfl]at d
 rw[show((g.2.1.toNat:Nat):Int)=g.2.1 by omega]at d f
 rw[show [v]++wo v.toNat g.2.1.toNat 0=U08 g v from rfl]at d
 rw[show(g.1,g.2.1,g.2.2)=g from rfl]at f
 unfold Y0d
 generalize U08 g v=o at *
 generalize n:S9 g o=q at *
 obtain⟨a,b,c⟩:=g
 obtain⟨u,w,x⟩:=q
 simp only at d e l ⊢
 unfold M8
 simp only[h,oB,Bool.not_true,Bool.not_false,H1,A02,cond_false]
 rw[w64 (by omega) (by omega),show inR 0 (b-1) v=true by simp[inR];omega]
 simp only[Bool.not_true,Bool.false_eq_true,if_false,d,oB,f,k]
theorem N0n{g:j0}(hf:O0 g=true){v:Int}(f:0<=v/\v<g.2.1):P9 g v=some (Y0d g v,true):=by
 obtain⟨n,w,p,x⟩:=J1 hf
 obtain⟨j,s,t⟩:=j0h hf f
 have i:=u00 g (by omega)
 rw[hf]at i
 have m:=N0r (P4 hf) f
 have d:=a0s g.2.1.toNat v f.1 (by omega) g.2.1.toNat 0 T0 [v] (by omega) (D1 (by omega)) (by simp)
 rw[←z0t]at d
 have k:=G0n (Z0d hf f)
 have h:=g0k g.1 g.2.1.toNat g.2.2 (U08 g v) (λe l=>by have:=n e l;omega) j (by omega) (by omega) (by omega)
 rw[show((0:Nat):Int)=0 from rfl]at d
 rw[show((g.2.1.toNat:Nat):Int)=g.2.1 by omega]at d h
 rw[show [v]++wo v.toNat g.2.1.toNat 0=U08 g v from rfl]at d
 rw[show(g.1,g.2.1,g.2.2)=g from rfl]at h
 unfold Y0d
 generalize U08 g v=o at *
 generalize u:S9 g o=q at *
 obtain⟨a,b,c⟩:=g
 obtain⟨y,z,A⟩:=q
 simp only at d f p ⊢
 unfold P9
 simp only[i,oB,Bool.not_true,Bool.not_false,H1,m,cond_false]
 simp only[Bool.false_eq_true,if_false,d,oB,h,k]
theorem w0m{g:j0}(h:I2 g=true):g.2.2.length<=120/\(1<=g.2.1/\g.2.1<=40)/\(1<=g.1/\g.1<=3):=by
 obtain⟨d,a,b,c⟩:=J1 (h08 h)
 exact⟨c,b,a⟩
def isS(o:Option (List Int)):Bool:=o.isSome
def gtD(o:Option (List Int)):List Int:=o.getD []
theorem giM{b e:Type}{f:b->e}{a:List b}{n:Nat}(h:a.length=n){x:Int}(h0:0<=x)(g:x<(n:Int)){y:b}(d:gi a x=some y):gi (a.map f) x=some (f y):=by
 obtain⟨_,c⟩:=V0j d
 have:=P2 (xs:=a.map f) (k:=x.toNat) (x:=f y) (by rw[List.getElem?_map,c];rfl)
 rwa [show((x.toNat:Nat):Int)=x by omega]at this
theorem b0s{g:j0}(hf:O0 g=true)(p:Int){n:Nat}(G:g.2.1=(n:Int))(j:List Int)(F:∀ x∈j,x∈M6 g.1.toNat 1)(N:j.length<=1000000)(i:Nat)(v:Int):∀(d k fuel:Nat) (c:Tr8),TOk g p n c->c.2[i]?=some v->k+d=j.length->d<fuel ->
  i7 j (i:Int) g.1 g.2.1 g.2.2 fuel (k:Int) (c.1.map isS) (c.1.map gtD) c.2=some ((F0b g v (j.drop k) c).1.map isS,(F0b g v (j.drop k) c).1.map gtD,(F0b g v (j.drop k) c).2)
 |d,k,0,c,m,u,C,hf=>by omega
 |0,k,fuel+1,c,m,u,C,hf=>by
  rw[i7.eq_2,if_neg (by simp only[decide_eq_true_eq];omega),I1 (by omega)];rfl
 |d+1,k,fuel+1,c,m,w,C,T=>by
  obtain⟨I,W,S,X⟩:=J1 hf
  have E:k<j.length:=by omega
  have z:=E5 E
  have B:=F _ (List.mem_of_getElem? z)
  have D:=O1 z
  generalize j[k]=x at z B D
  have Q:=(h05 (by omega) B).1
  have U:=J00 n c.2 m.gd.1 m.gd.2
  have V:=J04 I v x
  have u:=List.mem_of_getElem? w
  have O:=m.add hf G u B
  obtain⟨t,J⟩:=v0f g v x c
  have R:=b0s hf p G j F N i v d (k+1) fuel (trS g v x c) O (by rw[J,List.getElem?_append_left (List.getElem?_eq_some_iff.1 w).1];exact w) (by omega) (by omega)
  have l:=m.ok
  have o:=m.gd.2 v u
  have H:=l.short v
  obtain⟨a,A⟩:=l.get o.1 o.2 u
  have P:gi c.1 v=some (some a):=by rw[giO l.len o.1 o.2,A]
  rw[A]at H
  rw[i7.eq_2,if_pos (by simp only[decide_eq_true_eq];omega),D,F0b,←R]
  simp only[P2 w,P2 z,oB,show(g.1,g.2.1,g.2.2)=g from rfl,f05 g v x Q (by omega),H0 (c04 I S.2 v x),C2 E (show j.length<=9223372036854775807 by omega),giM (f:=gtD) l.len o.1 o.2 P]
  unfold trS
  generalize j1 g v x=y at *
  by_cases c1:0<=y
  ·have q:y<(n:Int):=by omega
   have M:=giM (f:=isS) l.len c1 q (giO l.len c1 q)
   have L:=giM (f:=gtD) l.len c1 q (giO l.len c1 q)
   simp only[show decide (y ≥ 0)=true by simpa using c1,H1,M,L,oB,cond_true]
   by_cases c2:y∈c.2
   ·have:isS (V7 c.1 y)=true:=by
     have s : ¬ ((V7 c.1 y).isNone=true):=λh=>(l.iff y c1 q).1 h c2
     unfold isS
     cases e:V7 c.1 y with
     |none=>rw[e]at s;exact absurd rfl s
     |some b=>rfl
    rw[this,if_neg (by simp),if_neg λh=>h.2 c2]
   ·have:isS (V7 c.1 y)=false:=by
     have s:(V7 c.1 y).isNone=true:=(l.iff y c1 q).2 c2
     unfold isS
     cases e:V7 c.1 y with
     |none=>rfl
     |some b=>rw[e]at s;cases s
    have K:gtD (some a)=a:=rfl
    simp only[Option.getD_some]at H
    rw[this,if_pos (by simp),if_pos ⟨c1,c2⟩,K,H0 (by omega),oB,H0 (by simp;omega),oB,H0 (by simp;omega),oB,A]
    simp only[List.map_set,Option.getD_some]
    rfl
  ·simp only[show decide (y ≥ 0)=false by simpa using c1,K1,oB,cond_false]
   rw[if_neg (by simp),if_neg λh=>c1 h.1]
theorem c0s{g:j0}(hf:O0 g=true)(p:Int){n:Nat}(d:g.2.1=(n:Int)):∀(f i fuel:Nat) (a:Tr8),TOk g p n a->i<=a.2.length->n+1<=i+f->f<fuel ->
  B9 (M6 g.1.toNat 1) g.1 g.2.1 g.2.2 fuel (i:Int) (a.1.map isS) (a.1.map gtD) a.2=some ((N04 g (M6 g.1.toNat 1) f i a).1.map isS,(N04 g (M6 g.1.toNat 1) f i a).1.map gtD,(N04 g (M6 g.1.toNat 1) f i a).2)
 |f,i,0,a,c,j,h,hf=>by omega
 |0,i,fuel+1,a,c,j,h,hf=>by have:=J00 n a.2 c.gd.1 c.gd.2;omega
 |f+1,i,fuel+1,a,c,j,h,m=>by
  obtain⟨q,s,u,w⟩:=J1 hf
  have o:=J00 n a.2 c.gd.1 c.gd.2
  rw[B9.eq_2,oB,H0 (by omega),oB]
  by_cases hk:i<a.2.length
  ·have b:=E5 hk
   generalize a.2[i]=v at b
   have k:=List.mem_of_getElem? b
   have h0:=b0s hf p d (M6 g.1.toNat 1) (λx b=>b) (by rw[h02];omega) i v (M6 g.1.toNat 1).length 0 T0 a c b (by omega) (D1 (by rw[h02];omega))
   rw[show((0:Nat):Int)=0 from rfl,List.drop_zero]at h0
   obtain⟨t,e⟩:=f0h g v (M6 g.1.toNat 1) a
   have l:=c0s hf p d f (i+1) fuel _ (c.inn hf d _ k λx b=>b) (by rw[e,List.length_append];omega) (by omega) (by omega)
   rw[if_pos (by simpa using hk),h0,oB]
   simp only[C2 hk (show a.2.length<=9223372036854775807 by omega),N04,b]
   exact l
  ·have b:a.2[i]?=none:=List.getElem?_eq_none (by omega)
   rw[if_neg (by simpa using hk)]
   simp only[N04,b]
theorem w0k{g:j0}(hf:O0 g=true){p:Int}(i:0<=p/\p<g.2.1):P02 g p=some ((o04 g p).1.map isS,(o04 g p).1.map gtD):=by
 obtain⟨l,m,n,o⟩:=J1 hf
 have h:g.2.1=((g.2.1.toNat:Nat):Int):=by omega
 have h0:=c0s hf p h (g.2.1.toNat+1) 0 T0 _ (E0a g (N:=g.2.1.toNat) ⟨i.1,by omega⟩) (by simp) (by omega) (D1 (by omega))
 have d:=i0k g.1.toNat (by omega)
 rw[show((g.1.toNat:Nat):Int)=g.1 by omega]at d
 have rep:∀ {j:Type} (z:j),gi (List.replicate g.2.1.toNat z) p=some z:=λz=>by
  have:=P2 (xs:=List.replicate g.2.1.toNat z) (k:=p.toNat) (x:=z) (by rw[List.getElem?_replicate,if_pos (by omega)])
  rwa [show((p.toNat:Nat):Int)=p by omega]at this
 have e:((List.replicate g.2.1.toNat (none:Option (List Int))).set p.toNat (some [])).map isS=(List.replicate g.2.1.toNat false).set p.toNat true:=by
  rw[List.map_set,List.map_replicate];rfl
 have f:((List.replicate g.2.1.toNat (none:Option (List Int))).set p.toNat (some [])).map gtD=(List.replicate g.2.1.toNat ([]:List Int)).set p.toNat []:=by
  rw[List.map_set,List.map_replicate];rfl
 rw[e,f]at h0
 unfold o04
 obtain⟨a,b,c⟩:=g
 simp only at *
 unfold P02
 simp only
 rw[H0 (by omega),oB,H0 (by omega),oB,rep false,oB,rep [],oB,d,oB]
 rw[show((0:Nat):Int)=0 from rfl]at h0
 rw[h0]
 rfl
def x0k(g:j0)(u v:Int):List Int×Bool:=bif O0 g&&(inR 0 (g.2.1-1) u&&inR 0 (g.2.1-1) v)then(match V7 (o04 g u).1 v with
 |some w=>(w,true)
 |none=>([],false))else([],false)
theorem d0s{n u:Int}(h:inR 0 (n-1) u=true):0<=u/\u<n:=by
 simp only[inR,Bool.and_eq_true,decide_eq_true_eq]at h
 omega
theorem d0u(g:j0)(a:V0 g=true)(u:Int):V4 g u=some (inR 0 (g.2.1-1) u):=by
 obtain⟨c,d,b,e⟩:=U2 a
 obtain⟨r,n,es⟩:=g
 simp only at b
 unfold V4
 simp only[m03]
 rw[w64 (by omega) (by omega)]
 rfl
theorem e0q{g:j0}(hf:O0 g=true){u v:Int}(a:0<=u/\u<g.2.1):(gtD (V7 (o04 g u).1 v)).length<=40:=by
 obtain⟨b,c,d,e⟩:=J1 hf
 have h:=F0a hf a
 have:=h.ok.short v
 have:=J00 _ _ h.gd.1 h.gd.2
 unfold gtD
 omega
theorem O0n(g:j0)(o:g.2.2.length<=140737488355328)(u v:Int):Q9 g u v=some (x0k g u v):=by
 have d:=O6 g o
 unfold x0k
 cases hf:O0 g with
 |false =>
  obtain⟨a,b,c⟩:=g
  unfold Q9
  simp only[d,hf,oB,Bool.not_false,Bool.not_true,K1,cond_true]
  rfl
 |true =>
  obtain⟨s,t,k,x⟩:=J1 hf
  cases hu:inR 0 (g.2.1-1) u with
  |false =>
   obtain⟨a,b,c⟩:=g
   unfold Q9
   simp only at hu k
   simp only[d,hf,oB,Bool.not_false,Bool.not_true,H1,cond_false,A02]
   rw[w64 (by omega) (by omega),hu]
   rfl
  |true =>
   cases hv:inR 0 (g.2.1-1) v with
   |false =>
    obtain⟨a,b,c⟩:=g
    unfold Q9
    simp only at hu hv k
    simp only[d,hf,oB,Bool.not_false,Bool.not_true,H1,cond_false,A02]
    rw[w64 (by omega) (by omega),hu]
    simp only[Bool.not_true,Bool.not_false,oB,cond_false,H1,hv]
    rfl
   |true =>
    have j:=d0s hu
    have i:=d0s hv
    have p:=w0k hf j
    have h:=(F0a hf j).ok
    have l:=giM (f:=isS) h.len i.1 (by omega) (giO h.len i.1 (by omega))
    have m:=giM (f:=gtD) h.len i.1 (by omega) (giO h.len i.1 (by omega))
    have n:=e0q hf (v:=v) j
    obtain⟨a,b,c⟩:=g
    unfold Q9
    simp only at hu hv k l m
    simp only[d,hf,oB,Bool.not_false,Bool.not_true,H1,cond_false,A02]
    rw[w64 (by omega) (by omega),hu]
    simp only[Bool.not_true,Bool.not_false,oB,cond_false,H1,hv,Bool.false_eq_true,if_false,p,l,m,Bool.and_self,cond_true]
    cases e:V7 (o04 (a,b,c) u).1 v with
    |none=>rfl
    |some w =>
     rw[e]at n
     have q:gtD (some w)=w:=rfl
     rw[q]at n ⊢
     rw[show isS (some w)=true from rfl,if_neg (by simp),H0 (by simp only[List.length_nil];omega),oB,List.nil_append]
def P08(g:j0)(v:Int):List Int:=(x0k g 0 v).1
theorem W09(g:j0)(d:g.2.2.length<=140737488355328)(v:Int):z01 g v=some (P08 g v):=by
 have h:=O0n g d 0 v
 unfold P08
 obtain⟨a,b,c⟩:=g
 unfold z01
 simp only[h,oB]
theorem J0a(a b:List Int)(c:h0b a)(d:h0b b)(e:a.length+b.length<=1099511627776):x00 a b=some (n04 [] (a++b)).reverse:=by
 unfold x00
 rw[H0 (by simp only[List.length_nil];omega),oB,H0 (by simp only[List.length_append,List.length_nil];omega),oB,List.nil_append,
  Q03 _ (a0q c d) (by simp only[List.length_append];omega)]
 rfl
theorem I0e{c:Type}(b:c->c->Int)(x:c):∀(a l:List c),C6 b l (a ++ [x])=H01 b x (C6 b l a)
 | [],l=>rfl
 |y::a,l=>by
  show C6 b (H01 b y l) (a ++ [x])=H01 b x (C6 b (H01 b y l) a)
  exact I0e b x a _
def tEW(g:j0)(W:List (Option (List Int)))(v:Int):N0:=stp (j1 g v (-(G0e (gtD (V7 W v))))) (G0e (gtD (V7 W v))) v
def a0e(g:j0)(s:Tr8):List N0:=C6 S0 [] (s.2.tail.map (tEW g s.1))
theorem f0q{g:j0}(hf:O0 g=true){p:Int}{n:Nat}(D:g.2.1=(n:Int)){d:Tr8}(h:TOk g p n d){v x:Int}(i:v∈d.2)(c:0<=j1 g v x/\j1 g v x ∉ d.2):
  a0e g (trS g v x d)=H01 S0 (stp v x (j1 g v x)) (a0e g d)/\(trS g v x d).2=d.2 ++ [j1 g v x]:=by
 obtain⟨C,F,G,H⟩:=J1 hf
 have E:j1 g v x<(n:Int):=by
  rcases J04 C v x with e|e<;>omega
 unfold trS
 rw[if_pos c]
 obtain⟨b,u⟩:=d
 obtain⟨f,k⟩:=c
 simp only at k i
 refine⟨?_,rfl⟩
 have w:=h.ok.len
 simp only at w
 have l:=λ(z:Int) (j:0<=z)=>i02 (A:=b) (y:=some ((V7 b v).getD [] ++ [x])) f (by omega) j
 have t:u≠[]:=λe=>by rw[e]at i;cases i
 have s:(u ++ [j1 g v x]).tail=u.tail ++ [j1 g v x]:=by
  cases u with
  |nil=>exact absurd rfl t
  |cons a r=>rfl
 unfold a0e
 simp only
 rw[s,List.map_append,List.map_singleton,I0e]
 have o:tEW g (b.set (j1 g v x).toNat (some ((V7 b v).getD [] ++ [x]))) (j1 g v x)=stp v x (j1 g v x):=by
  unfold tEW
  rw[l _ f,if_pos rfl]
  show stp (j1 g (j1 g v x) (-(G0e ((V7 b v).getD [] ++ [x])))) (G0e ((V7 b v).getD [] ++ [x])) (j1 g v x)=_
  rw[a0j,Y0i hf rfl f]
 have q:u.tail.map (tEW g (b.set (j1 g v x).toNat (some ((V7 b v).getD [] ++ [x]))))=u.tail.map (tEW g b):=by
  refine List.map_congr_left λz j=>?_
  have m:=List.mem_of_mem_tail j
  have B:=h.gd.2 z m
  unfold tEW
  rw[l z B.1,if_neg λe=>k (by rw[←e];exact m)]
 rw[o,q]
theorem e0s(g:j0)(v x:Int)(s:Tr8)(c : ¬ (0<=j1 g v x/\j1 g v x ∉ s.2)):trS g v x s=s:=by
 unfold trS;rw[if_neg c]
theorem f0s(g:j0)(s:Tr8):(a0e g s).length<=s.2.length:=by
 unfold a0e
 have:=n03 (s.2.tail.map (tEW g s.1)) []
 rw[List.length_map,List.length_tail,List.length_nil]at this
 omega
theorem e0p{g:j0}(hf:O0 g=true)(p:Int){n:Nat}(o:g.2.1=(n:Int))(b:List Int)(z:∀ x∈b,x∈M6 g.1.toNat 1)(H:b.length<=1000000)(i:Nat)(v:Int):∀(d k fuel:Nat) (a:Tr8),TOk g p n a->a.2[i]?=some v->k+d=b.length->d<fuel ->
  S6 b (i:Int) g.1 g.2.1 g.2.2 fuel (a0e g a) (k:Int) a.2=some (a0e g (F0b g v (b.drop k) a),(F0b g v (b.drop k) a).2)
 |d,k,0,a,f,j,s,hf=>by omega
 |0,k,fuel+1,a,f,j,s,hf=>by
  rw[S6.eq_2,if_neg (by simp only[decide_eq_true_eq];omega),I1 (by omega)];rfl
 |d+1,k,fuel+1,a,f,e,s,L=>by
  obtain⟨A,P,K,Q⟩:=J1 hf
  have w:k<b.length:=by omega
  have l:=E5 w
  have q:=z _ (List.mem_of_getElem? l)
  have u:=O1 l
  generalize b[k]=x at l q u
  have m:=h05 (by omega) q
  have M:=J00 n a.2 f.gd.1 f.gd.2
  have N:=J04 A v x
  have j:=List.mem_of_getElem? e
  have I:=f.add hf o j q
  obtain⟨t,G⟩:=v0f g v x a
  have J:=e0p hf p o b z H i v d (k+1) fuel (trS g v x a) I (by rw[G,List.getElem?_append_left (List.getElem?_eq_some_iff.1 e).1];exact e) (by omega) (by omega)
  have O:=f0s g a
  rw[S6.eq_2,if_pos (by simp only[decide_eq_true_eq];omega),u,F0b,←J]
  simp only[P2 e,P2 l,oB,show(g.1,g.2.1,g.2.2)=g from rfl,f05 g v x m.1 (by omega),H0 (c04 A K.2 v x),C2 w (show b.length<=9223372036854775807 by omega)]
  by_cases c:0<=j1 g v x/\j1 g v x ∉ a.2
  ·obtain⟨C,D⟩:=f0q hf o f j c
   rw[C,D]
   have E:decide (j1 g v x<0)=false:=decide_eq_false (by omega)
   have F:gi (a.2 ++ [j1 g v x]) (i:Int)=some v:=P2 (by rw[List.getElem?_append_left (List.getElem?_eq_some_iff.1 e).1];exact e)
   rw[E]
   simp only[Bool.not_false,H1,A0a a.2 _ (show a.2.length<=9223372036854775807 by omega),decide_eq_false c.2,oB,cond_false,Bool.false_eq_true,if_false,F]
   rw[H0 (by simp;omega),oB]
   generalize j1 g v x=y at *
   by_cases cx:x>0
   ·rw[if_pos (by simpa using cx),m07 _ _ (by omega),oB]
    unfold stp
    rw[if_neg (by omega)]
   ·rw[if_neg (by simpa using cx),m07 _ _ (by omega),oB,y0c m.1.1 m.1.2]
    unfold stp
    rw[if_pos (by have:=m.2.1;omega)]
  ·rw[e0s g v x a c]
   by_cases c1:0<=j1 g v x
   ·have B:j1 g v x∈a.2:=Classical.byContradiction λh=>c ⟨c1,h⟩
    rw[show decide (j1 g v x<0)=false from decide_eq_false (by omega)]
    simp only[Bool.not_false,H1,A0a a.2 _ (show a.2.length<=9223372036854775807 by omega),decide_eq_true B,oB,cond_false,if_true]
   ·rw[show decide (j1 g v x<0)=true from decide_eq_true (by omega)]
    simp only[Bool.not_true,K1,oB,cond_true,if_true]
theorem f0p{g:j0}(hf:O0 g=true)(p:Int){n:Nat}(d:g.2.1=(n:Int)):∀(f i fuel:Nat) (a:Tr8),TOk g p n a->i<=a.2.length->n+1<=i+f->f<fuel ->
  g00 (M6 g.1.toNat 1) g.1 g.2.1 g.2.2 fuel (a0e g a) (i:Int) a.2=some (a0e g (N04 g (M6 g.1.toNat 1) f i a),(N04 g (M6 g.1.toNat 1) f i a).2)
 |f,i,0,a,c,j,h,hf=>by omega
 |0,i,fuel+1,a,c,j,h,hf=>by have:=J00 n a.2 c.gd.1 c.gd.2;omega
 |f+1,i,fuel+1,a,c,j,h,m=>by
  obtain⟨q,s,u,w⟩:=J1 hf
  have o:=J00 n a.2 c.gd.1 c.gd.2
  rw[g00.eq_2,oB,H0 (by omega),oB]
  by_cases hk:i<a.2.length
  ·have b:=E5 hk
   generalize a.2[i]=v at b
   have k:=List.mem_of_getElem? b
   have h0:=e0p hf p d (M6 g.1.toNat 1) (λx b=>b) (by rw[h02];omega) i v (M6 g.1.toNat 1).length 0 T0 a c b (by omega) (D1 (by rw[h02];omega))
   rw[show((0:Nat):Int)=0 from rfl,List.drop_zero]at h0
   obtain⟨t,e⟩:=f0h g v (M6 g.1.toNat 1) a
   have l:=f0p hf p d f (i+1) fuel _ (c.inn hf d _ k λx b=>b) (by rw[e,List.length_append];omega) (by omega) (by omega)
   rw[if_pos (by simpa using hk),h0,oB]
   simp only[C2 hk (show a.2.length<=9223372036854775807 by omega),N04,b]
   exact l
  ·have b:a.2[i]?=none:=List.getElem?_eq_none (by omega)
   rw[if_neg (by simpa using hk)]
   simp only[N04,b]
theorem g0q{g:j0}(hf:O0 g=true):u03 g=some (O04 g):=by
 obtain⟨j,k,l,m⟩:=J1 hf
 have h:g.2.1=((g.2.1.toNat:Nat):Int):=by omega
 have h0:=f0p hf 0 h (g.2.1.toNat+1) 0 T0 _ (E0a g (N:=g.2.1.toNat) ⟨iR _,by omega⟩) (by simp) (by omega) (D1 (by omega))
 have d:=i0k g.1.toNat (by omega)
 rw[show((g.1.toNat:Nat):Int)=g.1 by omega]at d
 have i:=O6 g (by omega)
 have e:a0e g (N04 g (M6 g.1.toNat 1) (g.2.1.toNat+1) 0 ((List.replicate g.2.1.toNat none).set (0:Int).toNat (some []),[0]))=O04 g:=by
  show a0e g (o04 g 0)=_
  unfold a0e O04
  rw[V09]
  rfl
 rw[e]at h0
 have f:a0e g ((List.replicate g.2.1.toNat none).set (0:Int).toNat (some []),[0]) = []:=rfl
 rw[f,show((0:Nat):Int)=0 from rfl]at h0
 obtain⟨a,b,c⟩:=g
 simp only at *
 unfold u03
 simp only[i,hf,oB,Bool.not_true,Bool.false_eq_true,if_false,d,h0]
theorem A0t(a es:List N0)(j:Nat){e:N0}(o:es[j]?=some e)(y:a.length<=1000):∀(d k fuel:Nat) (b:Bool),k+d=a.length->d<fuel ->
  V6 a es (j:Int) fuel b (k:Int)=some (b || decide (e∈a.drop k))
 |d,k,0,b,m,hf=>by omega
 |0,k,fuel+1,b,m,hf=>by
  rw[V6.eq_2,if_neg (by simp only[decide_eq_true_eq];omega),I1 (by omega)];simp
 |d+1,k,fuel+1,b,m,z=>by
  have p:k<a.length:=by omega
  have f:=E5 p
  have n:=O1 f
  generalize a[k]=t at f n
  have q:=λw=>A0t a es j o y d (k+1) fuel w (by omega) (by omega)
  obtain⟨s,u,v⟩:=t
  obtain⟨g,i,l⟩:=e
  rw[V6.eq_2,if_pos (by simp only[decide_eq_true_eq];omega),n,C2 p (by omega)]
  cases b with
  |true =>
   simp only[Bool.not_true,K1,oB,cond_true,q,Bool.true_or]
  |false =>
   simp only[Bool.not_false,H1,P2 f,P2 o,oB,cond_false,q,Bool.false_or]
   by_cases c:(s,u,v)=(g,i,l)
   ·rw[c];simp[eqE]
   ·have x : ¬ (g,i,l)=(s,u,v):=λh=>c h.symm
    unfold eqE
    rw[decide_eq_false c,Bool.false_or]
    simp only[List.mem_cons,x,false_or]
theorem x0m{g:j0}(hf:O0 g=true)(a:List N0)(f:a.length<=1000):∀(d k fuel:Nat) (acc:List N0),k+d=g.2.2.length->d<fuel->acc.length<=k ->
  V5 g.2.2 g.1 g.2.1 a fuel (k:Int) acc=some (acc++(g.2.2.drop k).filter λe => !decide (e∈a))
 |d,k,0,acc,j,t,i=>by omega
 |0,k,fuel+1,acc,j,t,i=>by
  rw[V5.eq_2,show decide ((k:Int)<((g.2.2.length:Nat):Int))=false from decide_eq_false (by omega),I1 (by omega)]
  simp only[K1,oB,cond_false,Bool.false_eq_true,if_false,List.filter_nil,List.append_nil]
 |d+1,k,fuel+1,acc,j,v,i=>by
  obtain⟨w,x,y,z⟩:=J1 hf
  have m:k<g.2.2.length:=by omega
  have b:=E5 m
  have l:=O1 b
  generalize g.2.2[k]=e at b l
  have u:=O6 g (by omega)
  have n:=λo h=>x0m hf a f d (k+1) fuel o (by omega) (by omega) h
  have h0:=A0t a g.2.2 k b f a.length 0 T0 false (by omega) (D1 (by omega))
  rw[show((0:Nat):Int)=0 from rfl,List.drop_zero,Bool.false_or]at h0
  obtain⟨p,q,s⟩:=e
  rw[V5.eq_2,show decide ((k:Int)<((g.2.2.length:Nat):Int))=true from decide_eq_true (by omega)]
  simp only[H1,show(g.1,g.2.1,g.2.2)=g from rfl,u,hf,oB,cond_true,if_true,h0,P2 b,C2 m (show g.2.2.length<=9223372036854775807 by omega),l,List.filter_cons]
  by_cases c:(p,q,s)∈a
  ·simp only[decide_eq_true c,Bool.not_true,Bool.false_eq_true,if_false]
   exact n acc (by omega)
  ·simp only[decide_eq_false c,Bool.not_false,if_true]
   rw[H0 (by simp;omega),oB,n _ (by simp;omega)]
   simp
theorem g0s{g:j0}(hf:O0 g=true):K01 g=some (b03 g):=by
 obtain⟨h,i,j,k⟩:=J1 hf
 have e:=g0q hf
 have f:=b0j hf
 have d:=x0m hf (O04 g) (by omega) g.2.2.length 0 T0 [] (by omega) (D1 (by omega)) (by simp)
 rw[show((0:Nat):Int)=0 from rfl,List.drop_zero,List.nil_append]at d
 unfold b03
 obtain⟨a,b,c⟩:=g
 simp only at *
 unfold K01
 simp only[e,oB,d]
theorem B0t(es:List N0)(e:N0)(v:es.length<=1000):∀(d k fuel:Nat) (b:Bool),k+d=es.length->d<fuel ->
  R9 es e.1 e.2.1 e.2.2 fuel b (k:Int)=some (b || decide (e∈es.drop k))
 |d,k,0,b,l,hf=>by omega
 |0,k,fuel+1,b,l,hf=>by
  rw[R9.eq_2,if_neg (by simp only[decide_eq_true_eq];omega),I1 (by omega)];simp
 |d+1,k,fuel+1,b,l,w=>by
  have n:k<es.length:=by omega
  have a:=E5 n
  have m:=O1 a
  generalize es[k]=t at a m
  have f:=λs=>B0t es e v d (k+1) fuel s (by omega) (by omega)
  obtain⟨o,p,q⟩:=t
  obtain⟨g,i,j⟩:=e
  simp only at f
  rw[R9.eq_2,if_pos (by simp only[decide_eq_true_eq];omega),m,C2 n (by omega)]
  cases b with
  |true =>
   simp only[Bool.not_true,K1,oB,cond_true,f,Bool.true_or]
  |false =>
   simp only[Bool.not_false,H1,P2 a,oB,cond_false,f,Bool.false_or]
   by_cases c:(o,p,q)=(g,i,j)
   ·rw[c];simp[eqE]
   ·have u : ¬ (g,i,j)=(o,p,q):=λh=>c h.symm
    unfold eqE
    rw[decide_eq_false c,Bool.false_or]
    simp only[List.mem_cons,u,false_or]
theorem J0e{g:j0}(hf:O0 g=true){v:Int}(a:0<=v/\v<g.2.1):P08 g v=tw g 0 v:=by
 obtain⟨b,c,d,e⟩:=J1 hf
 unfold P08 x0k tw
 rw[hf,show inR 0 (g.2.1-1) 0=true by simp[inR];omega,show inR 0 (g.2.1-1) v=true by simp[inR];omega]
 simp only[Bool.and_self,cond_true]
 cases V7 (o04 g 0).1 v with
 |none=>rfl
 |some w=>rfl
theorem h0s{g:j0}(hf:O0 g=true){v:Int}(d:0<=v/\v<g.2.1):∀ x∈tw g 0 v,l5 x:=by
 obtain⟨f,i,j,k⟩:=J1 hf
 have c:(0:Int)<=0/\(0:Int)<g.2.1:=⟨by omega,by omega⟩
 have h:=F0a hf c
 by_cases hm:v∈M3 g 0
 ·exact λx b=>(h05 (by omega) ((i06 hf c).let hm x b)).1
 ·have:tw g 0 v = []:=by
   unfold tw
   rw[←V09]at hm
   have:=(h.ok.iff v d.1 (by omega)).2 hm
   cases e:V7 (o04 g 0).1 v with
   |none=>rfl
   |some a=>rw[e]at this;cases this
  rw[this]
  exact λx b=>by cases b
theorem i0s{g:j0}(hf:O0 g=true){e:N0}(j:e∈g.2.2):Y03 g e=some (n04 [] (bw g e)).reverse:=by
 obtain⟨s,z,A,B⟩:=J1 hf
 have q:(0:Int)<=0/\(0:Int)<g.2.1:=⟨by omega,by omega⟩
 have i:=i06 hf q
 have f:=s e j
 have w:=i.len e.1
 have y:=i.len e.2.2
 have o:=O6 g (by omega)
 have h:=B0t g.2.2 e (by omega) g.2.2.length 0 T0 false (by omega) (D1 (by omega))
 rw[show((0:Nat):Int)=0 from rfl,List.drop_zero,Bool.false_or,decide_eq_true j]at h
 have k:=W09 g (by omega) e.1
 rw[J0e hf f.1]at k
 have l:=W09 g (by omega) e.2.2
 rw[J0e hf f.2.1]at l
 have m:=h0s hf f.1
 have n:=h0s hf f.2.1
 have p:=J0a (tw g 0 e.1 ++ [e.2.1]) (inv (tw g 0 e.2.2)) (λx d=>by
  rcases List.mem_append.1 d with d|d
  ·exact(m x d).1
  ·simp at d;rw[d];have:=f.2.2;exact⟨by omega,by omega⟩) (λx d=>(v0k n x d).1) (by simp[c06];omega)
 unfold bw
 obtain⟨a,b,c⟩:=g
 obtain⟨t,u,v⟩:=e
 simp only at *
 unfold Y03
 simp only[h,oB,o,hf,Bool.not_true,cond_false,Bool.false_eq_true,if_false,k,l]
 rw[H0 (by simp;omega),oB,I03 _ (by omega),oB,p,oB]
theorem y0m{g:j0}(hf:O0 g=true)(es:List N0)(i:∀ e∈es,e∈g.2.2)(p:es.length<=1000):∀(d k fuel:Nat) (acc:List (List Int)),k+d=es.length->d<fuel->acc.length<=k ->
  j9 es g.1 g.2.1 g.2.2 fuel (k:Int) acc=some (acc++(es.drop k).map λe=>(n04 [] (bw g e)).reverse)
 |d,k,0,acc,c,o,b=>by omega
 |0,k,fuel+1,acc,c,o,b=>by
  rw[j9.eq_2,if_neg (by simp only[decide_eq_true_eq];omega),I1 (by omega)];simp
 |d+1,k,fuel+1,acc,c,v,b=>by
  have l:k<es.length:=by omega
  have a:=E5 l
  have j:=i _ (List.mem_of_getElem? a)
  have f:=O1 a
  generalize es[k]=e at a f j
  have n:=i0s hf j
  have q:=λm h=>y0m hf es i p d (k+1) fuel m (by omega) (by omega) h
  obtain⟨s,t,u⟩:=e
  rw[j9.eq_2,if_pos (by simp only[decide_eq_true_eq];omega),P2 a,oB]
  simp only[show(g.1,g.2.1,g.2.2)=g from rfl]
  rw[n,oB,H0 (by simp;omega),oB,C2 l (show es.length<=9223372036854775807 by omega),q _ (by simp;omega),f]
  simp
theorem y04(g:j0)(d:g.2.2.length<=140737488355328):L3 g=some (I2 g):=by
 have:=L08 g d
 obtain⟨a,b,c⟩:=g
 unfold L3
 show(X01 (a,b,c)).bind (λe=>some e)=_
 rw[this];rfl
theorem j0s{g:j0}(f:I2 g=true):v03 g=some (d04 g):=by
 have hf:=R5 f
 obtain⟨l,m,n,o⟩:=J1 hf
 have h:=y04 g (by omega)
 have i:=g0s hf
 have k:(b03 g).length<=g.2.2.length:=List.length_filter_le _ _
 have d:=y0m hf (b03 g) (λe j=>(X0d.1 j).1) (by omega) (b03 g).length 0 T0 [] (by omega) (D1 (by omega)) (by simp)
 rw[show((0:Nat):Int)=0 from rfl,List.drop_zero,List.nil_append]at d
 unfold d04
 obtain⟨a,b,c⟩:=g
 simp only at *
 unfold v03
 simp only[h,f,oB,i,Bool.not_true,Bool.false_eq_true,if_false,d]
theorem g0p{g:j0}(hf:O0 g=true){w:List Int}(k:∀ x∈w,l5 x)(j:w.length<=140737488355328):e00 g w=some (F01 g w):=by
 obtain⟨e,m,f,n⟩:=J1 hf
 have h:=w0r g e f.2 (by omega) 0 w k j
 have i:=H09 e f.2 w 0 ⟨by omega,by omega⟩
 have l:=H06 g w 0
 unfold F01
 obtain⟨a,b,c⟩:=g
 unfold e00
 simp only[h,oB]
 rw[H0 i,oB,H0 (show J0 (((Y2 (a,b,c) 0 w).2:Nat):Int) from⟨by omega,by omega⟩),oB]
 by_cases d:(Y2 (a,b,c) 0 w).2=w.length
 ·rw[decide_eq_true d,show decide ((((Y2 (a,b,c) 0 w).2:Nat):Int)=((w.length:Nat):Int))=true from decide_eq_true (by omega)]
  simp
 ·rw[decide_eq_false d,show decide ((((Y2 (a,b,c) 0 w).2:Nat):Int)=((w.length:Nat):Int))=false from decide_eq_false (by omega)]
  simp
theorem U0c(w:List Int)(a:w.length<=1099511627776):g9 w=some (n04 [] w).reverse:=by
 unfold g9
 rw[C07 [w] (by simp) (by simp only[r0m];omega)]
 rfl
theorem k0h{w:List Int}(a:∀ x∈w,l5 x):∀ x∈(n04 [] w).reverse,l5 x:=λx b=>by
 rcases t0m w [] (List.mem_reverse.1 b)with h|h
 ·cases h
 ·exact a x h
theorem k0s{g:j0}(hf:O0 g=true)(ws:List (List Int))(i:∀ w∈ws,(∀ x∈w,l5 x)/\w.length<=1099511627776)(j:ws.length<=1099511627776):∀(d k fuel:Nat),k+d=ws.length->d<fuel ->
  E6 ws g.1 g.2.1 g.2.2 fuel (k:Int)=some (bif(ws.drop k).all λw=>F01 g (n04 [] w).reverse then .inr ()else .inl false)
 |d,k,0,c,f=>by omega
 |0,k,fuel+1,c,f=>by
  rw[E6.eq_2,if_neg (by simp only[decide_eq_true_eq];omega),I1 (by omega)];rfl
 |d+1,k,fuel+1,c,f=>by
  have h:k<ws.length:=by omega
  have a:=E5 h
  have b:=i _ (List.mem_of_getElem? a)
  have e:=O1 a
  generalize ws[k]=w at a b e
  have l:=g08 w []
  have m:=k0s hf ws i j d (k+1) fuel (by omega) (by omega)
  rw[E6.eq_2,if_pos (by simp only[decide_eq_true_eq];omega),P2 a,oB,U0c w b.2,oB,show(g.1,g.2.1,g.2.2)=g from rfl,g0p hf (k0h b.1) (by rw[List.length_reverse];simp only[List.length_nil]at l;omega),oB,C2 h (by omega),m,e,List.all_cons]
  cases F01 g (n04 [] w).reverse<;>rfl
theorem P0h(b:j0)(g:b.2.2.length<=140737488355328)(ws:List (List Int))(h:∀ w∈ws,(∀ x∈w,l5 x)/\w.length<=1099511627776)(f:ws.length<=1099511627776):f00 b ws=some (D07 b ws):=by
 have e:=I01 b g
 have d:I2 b=true->_:=λc=>k0s (R5 c) ws h f ws.length 0 T0 (by omega) (D1 (by omega))
 rw[show((0:Nat):Int)=0 from rfl,List.drop_zero]at d
 unfold D07
 obtain⟨a,b,c⟩:=b
 unfold f00
 simp only[e,oB]
 cases cb:I2 (a,b,c)with
 |false=>rfl
 |true =>
  have:=d cb
  simp only at this
  simp only[Bool.not_true,Bool.false_eq_true,if_false,this,oB,Bool.true_and]
  cases ws.all λw=>F01 (a,b,c) (n04 [] w).reverse<;>rfl
theorem l0s{g:j0}(a:I2 g=true):(∀ w∈d04 g,(∀ x∈w,l5 x)/\w.length<=81)/\(d04 g).length<=120:=by
 obtain⟨h,i,j,k⟩:=J1 (R5 a)
 refine⟨λw b=>?_,?_⟩
 ·unfold d04 at b
  obtain⟨e,d,rfl⟩:=List.mem_map.1 b
  refine⟨k0h (c0q a (X0d.1 d).1),?_⟩
  have c:=g08 (bw g e) []
  have f:=b0u (R5 a) e
  rw[List.length_reverse]
  simp only[List.length_nil]at c
  omega
 ·unfold d04
  rw[List.length_map]
  have:(b03 g).length<=g.2.2.length:=List.length_filter_le _ _
  omega
def V0c(g:j0):j0:=T3 (A07 (c01 g).1)
theorem z0m{g:j0}(f:V0 g=true):b9 g=some (V0c g):=by
 obtain⟨m,o,p,s⟩:=U2 f
 have h:=b0b g (by omega)
 have hf:=O09 f
 obtain⟨v,d⟩:=W0g (P4 hf)
 have e:=L09 (A07 (c01 g).1) (H03 40 hf)
 unfold V0c
 obtain⟨r,n,es⟩:=g
 unfold b9
 generalize c01 (r,n,es)=q at *
 obtain⟨⟨a,b,c⟩,l⟩:=q
 simp only[h,oB]
 simp only at d e
 generalize A07 (a,b,c)=q2 at *
 obtain⟨i,j,k⟩:=q2
 simp only[d,oB,e]
theorem A0m{g:j0}(f:V0 g=true):c9 g=some (V0c g):=by
 obtain⟨m,o,p,s⟩:=U2 f
 have h:=c0b g (by omega)
 have hf:=O09 f
 obtain⟨v,d⟩:=D0e (P4 hf)
 have e:=K09 (A07 (c01 g).1) (H03 40 hf)
 unfold V0c
 obtain⟨r,n,es⟩:=g
 unfold c9
 generalize c01 (r,n,es)=q at *
 obtain⟨⟨a,b,c⟩,l⟩:=q
 simp only[h,oB]
 simp only at d e
 generalize A07 (a,b,c)=q2 at *
 obtain⟨i,j,k⟩:=q2
 simp only[d,oB,e]
def i0b(r:Int)(ws:List (List Int)):j0×Bool:=bif a7 r ws then(V0c (g0b ws (r,1,[])),true)else((0,0,[]),false)
theorem l0h{r:Int}{ws:List (List Int)}(h:a7 r ws=true):V0 (g0b ws (r,1,[]))=true:=by
 obtain⟨a,c,b⟩:=f08 h
 exact E0e ws (V0d a) b
theorem h0q(r:Int)(ws:List (List Int))(i:ws.length<=140737488355328)(j:w9 ws):N01 r ws=some (i0b r ws):=by
 have d:=s0k r ws i j
 have e:a7 r ws=true->_:=λh=>z0m (l0h h)
 unfold N01 i0b
 unfold e08 at d
 cases hA:a7 r ws with
 |false=>rw[hA]at d;simp only[cond_false]at d;simp[d]
 |true =>
  rw[hA]at d
  simp only[cond_true]at d
  have f:=e hA
  generalize g0b ws (r,1,[])=g at *
  obtain⟨a,b,c⟩:=g
  simp only[d,oB,f,Bool.not_true,Bool.false_eq_true,if_false,cond_true]
theorem i0q(r:Int)(ws:List (List Int))(i:ws.length<=140737488355328)(j:w9 ws):O01 r ws=some (i0b r ws):=by
 have d:=t0k r ws i j
 have e:a7 r ws=true->_:=λh=>A0m (l0h h)
 unfold O01 i0b
 unfold e08 at d
 cases hA:a7 r ws with
 |false=>rw[hA]at d;simp only[cond_false]at d;simp[d]
 |true =>
  rw[hA]at d
  simp only[cond_true]at d
  have f:=e hA
  generalize g0b ws (r,1,[])=g at *
  obtain⟨a,b,c⟩:=g
  simp only[d,oB,f,Bool.not_true,Bool.false_eq_true,if_false,cond_true]
def K05(g:j0)(ws:List (List Int)):Bool:=I2 g&&((i0b g.1 ws).2&&D0g g (i0b g.1 ws).1)
theorem d0j(g:j0)(h:g.2.2.length<=140737488355328)(ws:List (List Int))(i:ws.length<=140737488355328)(j:w9 ws):Y5 g ws=some (K05 g ws):=by
 have e:=h0q g.1 ws i j
 have d:=y04 g h
 have f:=E0i g (i0b g.1 ws).1 (by omega)
 unfold K05
 obtain⟨a,b,c⟩:=g
 simp only at *
 unfold Y5
 generalize i0b a ws=q at *
 obtain⟨⟨x,y,z⟩,ok⟩:=q
 simp only[e,oB]
 cases ok<;>cases hc:I2 (a,b,c)<;>rw[hc]at d<;>simp[d,f,H1,K1]
theorem e0j(g:j0)(h:g.2.2.length<=140737488355328)(ws:List (List Int))(i:ws.length<=140737488355328)(j:w9 ws):Z5 g ws=some (K05 g ws):=by
 have e:=i0q g.1 ws i j
 have d:=I01 g h
 have f:=C0i g (i0b g.1 ws).1 (by omega)
 unfold K05
 obtain⟨a,b,c⟩:=g
 simp only at *
 unfold Z5
 generalize i0b a ws=q at *
 obtain⟨⟨x,y,z⟩,ok⟩:=q
 cases ok<;>cases hc:I2 (a,b,c)<;>rw[hc]at d<;>simp[e,d,f,H1,K1]
theorem m0h{r:Int}{g:j0}{w:List Int}(e:I2 g=true)(f:C3 r w=true):A01 g w=some (F01 g w):=by
 have hf:=R5 e
 obtain⟨l,m,n,o⟩:=J1 hf
 obtain⟨p,k⟩:=r05 f
 have d:=U0c w (by omega)
 rw[d0h f]at d
 have h:=g0p hf (λx j=>(k x j).1) (by omega)
 have i:=I01 g (by omega)
 obtain⟨a,b,c⟩:=g
 unfold A01
 simp only[i,e,oB,H1,d,h,cond_true]
theorem h0p{r:Int}{g:j0}(b:I2 g=true)(ws:List (List Int))(j:∀ w∈ws,C3 r w=true)(l:ws.length<=1099511627776):∀(d k fuel:Nat),k+d=ws.length->d<fuel ->
  H6 ws g.1 g.2.1 g.2.2 fuel (k:Int)=some (bif(ws.drop k).all λw=>F01 g w then .inr ()else .inl false)
 |d,k,0,c,f=>by omega
 |0,k,fuel+1,c,f=>by
  rw[H6.eq_2,if_neg (by simp only[decide_eq_true_eq];omega),I1 (by omega)];rfl
 |d+1,k,fuel+1,c,f=>by
  have h:k<ws.length:=by omega
  have a:=E5 h
  have i:=j _ (List.mem_of_getElem? a)
  have e:=O1 a
  generalize ws[k]=w at a i e
  have m:=h0p b ws j l d (k+1) fuel (by omega) (by omega)
  rw[H6.eq_2,if_pos (by simp only[decide_eq_true_eq];omega),P2 a,oB,show(g.1,g.2.1,g.2.2)=g from rfl,U09 b i,oB,C2 h (by omega),m,e,List.all_cons]
  cases F01 g w<;>rfl
theorem P0n{r:Int}{g:j0}(d:I2 g=true)(ws:List (List Int))(i:∀ w∈ws,C3 r w=true)(h:ws.length<=1099511627776):n01 g ws=some (ws.all λw=>F01 g w):=by
 obtain⟨j,k,l,m⟩:=J1 (R5 d)
 have f:=y04 g (by omega)
 have e:=h0p d ws i h ws.length 0 T0 (by omega) (D1 (by omega))
 rw[show((0:Nat):Int)=0 from rfl,List.drop_zero]at e
 obtain⟨a,b,c⟩:=g
 simp only at *
 unfold n01
 simp only[e,oB]
 cases ws.all λw=>F01 (a,b,c) w
 ·rfl
 ·simp[K9,f,d]
theorem Q0n{r:Int}{g:j0}(a:I2 g=true)(ws:List (List Int))(b:∀ w∈ws,C3 r w=true)(c:ws.length<=1099511627776):f00 g ws=some (ws.all λw=>F01 g w):=by
 obtain⟨j,k,m,n⟩:=J1 (R5 a)
 rw[P0h g (by omega) ws (λw h=>by
  obtain⟨o,i⟩:=r05 (b w h)
  exact⟨λx e=>(i x e).1,by omega⟩) c]
 unfold D07
 rw[a,Bool.true_and]
 have:∀ l:List (List Int),(∀ w∈l,C3 r w=true)->(l.all λw=>F01 g (n04 [] w).reverse)=l.all λw=>F01 g w:=by
  intro l
  induction l with
  |nil=>intro _;rfl
  |cons w t f =>
   intro h
   simp only[List.all_cons,d0h (h w mS),f λv d=>h v (mC _ d)]
 rw[this ws b]
def o07(g:j0)(v:Int):j0×Bool:=bif O0 g&&inR 0 (g.2.1-1) v then(Y0d g v,true)else(g,false)
theorem K0e(g:j0)(h:g.2.2.length<=1099511627776)(v:Int):M8 g v=some (o07 g v):=by
 unfold o07
 cases hf:O0 g with
 |false =>
  have d:=O6 g (by omega)
  have e:=B02 g (by omega)
  rw[hf]at d
  obtain⟨a,b,c⟩:=g
  unfold M8
  simp only[d,oB,Bool.not_false,Bool.not_true,K1,cond_true,if_true,e,Bool.false_and,cond_false]
 |true =>
  cases hv:inR 0 (g.2.1-1) v with
  |true=>exact M0n hf (by simp only[inR,Bool.and_eq_true,decide_eq_true_eq]at hv;omega)
  |false =>
   obtain⟨i,j,f,k⟩:=J1 hf
   have d:=O6 g (by omega)
   have e:=B02 g (by omega)
   rw[hf]at d
   obtain⟨a,b,c⟩:=g
   simp only at hv f
   unfold M8
   simp only[d,oB,Bool.not_false,Bool.not_true,H1,A02,w64 (show -9223372036854775808<=b-1 by omega) (show b-1<=9223372036854775807 by omega),hv,cond_false,if_true,e,Bool.true_and]
theorem L0e(g:j0)(i:g.2.2.length<=1099511627776)(v:Int):P9 g v=some (o07 g v):=by
 unfold o07
 cases hf:O0 g with
 |false =>
  have d:=u00 g (by omega)
  have e:=Z01 g (by omega)
  rw[hf]at d
  obtain⟨a,b,c⟩:=g
  unfold P9
  simp only[d,oB,Bool.not_false,Bool.not_true,K1,cond_true,if_true,e,Bool.false_and,cond_false]
 |true =>
  cases hv:inR 0 (g.2.1-1) v with
  |true=>exact N0n hf (by simp only[inR,Bool.and_eq_true,decide_eq_true_eq]at hv;omega)
  |false =>
   obtain⟨j,k,h,l⟩:=J1 hf
   have d:=u00 g (by omega)
   have e:=Z01 g (by omega)
   have f:=d0u g (P4 hf) v
   rw[hf]at d
   rw[hv]at f
   obtain⟨a,b,c⟩:=g
   simp only at hv h
   unfold P9
   simp only[d,oB,Bool.not_false,Bool.not_true,H1,f,cond_false,if_true,e,Bool.true_and]
theorem n0h(g:j0):∀(w:List Int) (v:Int),Y2 g v (w.take (Y2 g v w).2)=Y2 g v w
 | [],v=>rfl
 |x::w,v=>by
  have a:=n0h g w (j1 g v x)
  by_cases c:j1 g v x<0
  ·have e:Y2 g v (x::w)=(v,0):=by rw[Y2,if_pos c]
   rw[e];rfl
  ·have e:Y2 g v (x::w)=((Y2 g (j1 g v x) w).1,(Y2 g (j1 g v x) w).2+1):=by rw[Y2,if_neg c]
   rw[e,List.take_succ_cons,Y2,if_neg c,a]
theorem o0h{g:j0}(a:inG g):∀(w:List Int) (v:Int),(0<=v/\v<g.2.1)->0<=(Y2 g v w).1/\(Y2 g v w).1<g.2.1
 | [],v,h=>h
 |x::w,v,h=>by
  unfold Y2
  split
  ·exact h
  ·rename_i c
   have b:=J04 a v x
   refine o0h a w _ ?_
   rcases b with e|e<;>omega
theorem f0j{b a:Int}{w:List Int}:∀ {d k:Nat},(∀ i,k<=i->i<k+d->R05 b a w i=false)->k04 b a w d k=true
 |0,k,h=>rfl
 |d+1,k,h=>by
  unfold k04
  rw[h k (Nat.le_refl _) (by omega),f0j λi c e=>h i (by omega) (by omega)]
  rfl
theorem g0j{r:Int}{w:List Int}(h:C3 r w=true)(n:Nat):C3 r (w.drop n)=true:=by
 simp only[C3,Bool.and_eq_true,decide_eq_true_eq]at h ⊢
 refine⟨⟨h.1.1,by rw[List.length_drop];omega⟩,f0j λi d c=>?_⟩
 have a:=z0a h.2 (n+i) (Nat.zero_le _) (by rw[List.length_drop]at c;omega)
 unfold R05 at a ⊢
 rw[List.getElem?_drop,List.getElem?_drop]
 cases hw:w[n+i]? with
 |none=>rw[hw]at a;exact a
 |some x =>
  rw[hw]at a
  simp only[Bool.or_eq_false_iff]at a ⊢
  refine⟨a.1,?_⟩
  cases i with
  |zero=>rfl
  |succ j =>
   have b:=a.2
   rw[show n+(j+1)-1=n+j by omega]at b
   rw[show n+(j+1-1)=n+j by omega]
   rw[show decide (0<n+(j+1))=true from decide_eq_true (by omega)]at b
   rw[show decide (0<j+1)=true from decide_eq_true (by omega)]
   exact b
def B01(g:j0)(w:List Int):j0×Bool :=
 bif I2 g&&C3 g.1 w then
  (bif decide ((Y2 g 0 w).2<w.length)then
   (bif(I3 g).2 then
    (bif(L5 (I3 g).1 (Y2 g 0 w).1 (w.drop (Y2 g 0 w).2) g.2.1).2 then o07 (L5 (I3 g).1 (Y2 g 0 w).1 (w.drop (Y2 g 0 w).2) g.2.1).1 g.2.1 else((0,0,[]),false))
   else((0,0,[]),false))
  else o07 g (Y2 g 0 w).1)
 else((0,0,[]),false)
theorem h0j{g:j0}(f:inG g)(j:g.2.1<=40)(e:g.2.2.length<=1099511627776)(w:List Int)(l:∀ x∈w,l5 x)(n:w.length<=140737488355328):∀(d k fuel:Nat) (v:Int),k+d=w.length->d<fuel ->
  Y6 w g.1 g.2.1 g.2.2 fuel v (k:Int)=some (bif decide ((Y2 g v (w.drop k)).2<d)then .inl (((k+(Y2 g v (w.drop k)).2:Nat):Int))else .inr ())
 |d,k,0,v,b,hf=>by omega
 |0,k,fuel+1,v,b,hf=>by
  rw[Y6.eq_2,if_neg (by simp only[decide_eq_true_eq];omega),I1 (by omega)]
  rfl
 |d+1,k,fuel+1,v,b,hf=>by
  have i:k<w.length:=by omega
  have a:=E5 i
  have m:=l _ (List.mem_of_getElem? a)
  have c:=O1 a
  generalize w[k]=x at a m c
  rw[Y6.eq_2,if_pos (by simp only[decide_eq_true_eq];omega),P2 a,oB,show(g.1,g.2.1,g.2.2)=g from rfl,f05 g v x m e,oB,H0 (c04 f j v x),oB,c]
  unfold Y2
  by_cases h:j1 g v x<0
  ·rw[if_pos (by simpa using h),if_pos h]
   simp
  ·rw[if_neg (by simpa using h),if_neg h,C2 i (by omega),h0j f j e w l n d (k+1) fuel _ (by omega) (by omega)]
   simp only[Nat.add_lt_add_iff_right]
   rw[show k+1+(Y2 g (j1 g v x) (w.drop (k+1))).2=k+((Y2 g (j1 g v x) (w.drop (k+1))).2+1) by omega]
theorem j0q{g:j0}(hf:O0 g=true){v:Int}(f:0<=v/\v<g.2.1){w:List Int}(i:∀ x∈w,l5 x)(a:w.length<=140737488355328):L01 g v w=some (((Y2 g v w).2:Nat):Int):=by
 obtain⟨j,l,b,m⟩:=J1 hf
 have d:=O6 g (by omega)
 have h:=h0j j b.2 (by omega) w i a w.length 0 T0 v (by omega) (D1 a)
 rw[show((0:Nat):Int)=0 from rfl,List.drop_zero,Nat.zero_add]at h
 have k:=H06 g w v
 obtain⟨r,n,es⟩:=g
 simp only at f b h
 have e:inR 0 (n-1) v=true:=by simp only[inR,Bool.and_eq_true,decide_eq_true_eq];omega
 unfold L01
 simp only[d,hf,oB,Bool.not_true,Bool.not_false,H1,A02,w64 (show -9223372036854775808<=n-1 by omega) (show n-1<=9223372036854775807 by omega),e,cond_false,Bool.false_eq_true,if_false,h]
 by_cases c:(Y2 (r,n,es) v w).2<w.length
 ·rw[decide_eq_true c];rfl
 ·rw[decide_eq_false c,show(Y2 (r,n,es) v w).2=w.length by omega];rfl
theorem G0a{g:j0}(h:(I3 g).2=true):I3 g=((g.1,g.2.1+1,g.2.2),true)/\g.2.1<40:=by
 unfold I3 at h ⊢
 by_cases c:g.2.1<40
 ·simp[c]
 ·simp[c]at h
theorem R0n(g:j0)(K:g.2.2.length<=140737488355328)(w:List Int)(L:w.length<=140737488355328):H5 g w=some (B01 g w):=by
 have d:=y04 g K
 have e:=a06 g.1 w L
 unfold B01
 cases hc:I2 g with
 |false =>
  rw[hc]at d
  obtain⟨a,b,c⟩:=g
  unfold H5
  simp only[d,oB,Bool.not_false,Bool.not_true,K1,cond_true,if_true,Bool.false_and,cond_false]
 |true =>
  cases hwd:C3 g.1 w with
  |false =>
   rw[hc]at d
   rw[hwd]at e
   obtain⟨a,b,c⟩:=g
   simp only at e
   unfold H5
   simp only[d,oB,Bool.not_false,Bool.not_true,H1,e,cond_false,if_true,Bool.true_and]
  |true =>
   have hf:=R5 hc
   have B:=P4 hf
   obtain⟨F,G,N,Q⟩:=J1 hf
   obtain⟨S,O⟩:=r05 hwd
   have E:∀ x∈w,l5 x:=λx l=>(O x l).1
   have z:(0:Int)<=0/\(0:Int)<g.2.1:=⟨iR _,by omega⟩
   have p:=j0q hf z E (by omega)
   have j:=H06 g w 0
   have i:=x0r g hf 0 z (w.take (Y2 g 0 w).2) (λx l=>E x (List.mem_of_mem_take l)) (by rw[List.length_take];omega)
   rw[n0h,List.length_take,show min (Y2 g 0 w).2 w.length=(Y2 g 0 w).2 by omega,decide_eq_false (Nat.lt_irrefl _)]at i
   have s:=H09 F N.2 w 0 ⟨by omega,by omega⟩
   have H:=B02 g (by omega)
   have t:=N09 (xs:=w) (k:=(Y2 g 0 w).2) j
   have A:=m04 (xs:=w) (k:=(Y2 g 0 w).2) j
   have I:=U0e B
   have J:=o0h F w 0 z
   have D:=K0e g (by omega) (Y2 g 0 w).1
   have C:=P05 B
   have m:(I3 g).2=true->_:=λh=>d0b (g:=(I3 g).1) (u:=(Y2 g 0 w).1) (v:=g.2.1) (w:=w.drop (Y2 g 0 w).2) C (by rw[(G0a h).1];simp only;omega) (by rw[(G0a h).1];simp only;omega) (by rw[(G0a h).1];exact g0j hwd _)
   have P:=R09 C (Y2 g 0 w).1 (w.drop (Y2 g 0 w).2) g.2.1
   have f:=K0e (L5 (I3 g).1 (Y2 g 0 w).1 (w.drop (Y2 g 0 w).2) g.2.1).1 (by omega) g.2.1
   rw[hc]at d
   rw[hwd]at e
   generalize Y2 g 0 w=R at *
   obtain⟨v,n⟩:=R
   obtain⟨a,b,c⟩:=g
   simp only at e p i s t A j J D f m ⊢
   unfold H5
   simp only[d,oB,Bool.not_true,Bool.not_false,H1,e,cond_false,Bool.false_eq_true,if_false,p,Bool.true_and,cond_true]
   rw[H0 (show J0 ((n:Nat):Int) from⟨by omega,by omega⟩),oB,t,oB,i]
   simp only[cond_false,oB]
   rw[H0 s]
   simp only[oB,H]
   by_cases c1:n<w.length
   ·rw[if_pos (by simp only[decide_eq_true_eq];omega),decide_eq_true c1,I]
    simp only[oB,cond_true]
    cases hok:(I3 (a,b,c)).2 with
    |false =>
     generalize I3 (a,b,c)=q at *
     obtain⟨⟨x,y,z⟩,ok⟩:=q
     simp only at hok
     subst hok
     rfl
    |true =>
     have o:=m hok
     generalize I3 (a,b,c)=q at *
     obtain⟨⟨x,y,z⟩,ok⟩:=q
     simp only at hok o f
     subst hok
     simp only[Bool.not_true,Bool.false_eq_true,if_false,A,oB,o,cond_true]
     generalize L5 (x,y,z) v (w.drop n) b=G at *
     obtain⟨⟨T,U,V⟩,M⟩:=G
     cases M with
     |false=>rfl
     |true=>simp only[Bool.not_true,Bool.false_eq_true,if_false,cond_true]at f ⊢;rw[f];rfl
   ·rw[if_neg (by simp only[decide_eq_true_eq];omega),decide_eq_false c1,D];rfl
theorem S0n(g:j0)(G:g.2.2.length<=140737488355328)(w:List Int)(H:w.length<=140737488355328):I5 g w=some (B01 g w):=by
 have d:=I01 g G
 have e:=b06 g.1 w H
 unfold B01
 cases hc:I2 g with
 |false =>
  rw[hc]at d
  obtain⟨a,b,c⟩:=g
  unfold I5
  simp only[d,oB,Bool.not_false,Bool.not_true,K1,cond_true,if_true,Bool.false_and,cond_false]
 |true =>
  cases hwd:C3 g.1 w with
  |false =>
   rw[hc]at d
   rw[hwd]at e
   obtain⟨a,b,c⟩:=g
   simp only at e
   unfold I5
   simp only[d,oB,Bool.not_false,Bool.not_true,H1,e,cond_false,if_true,Bool.true_and]
  |true =>
   have hf:=R5 hc
   have t:=P4 hf
   obtain⟨j,D,l,N⟩:=J1 hf
   obtain⟨O,L⟩:=r05 hwd
   have I:∀ x∈w,l5 x:=λx J=>(L x J).1
   have z:(0:Int)<=0/\(0:Int)<g.2.1:=⟨iR _,by omega⟩
   have p:=w0r g j l.2 (by omega) 0 w I (by omega)
   have B:=H06 g w 0
   have i:=H09 j l.2 w 0 ⟨by omega,by omega⟩
   have s:=m04 (xs:=w) (k:=(Y2 g 0 w).2) B
   have E:=V0e t
   have F:=o0h j w 0 z
   have C:=L0e g (by omega) (Y2 g 0 w).1
   have A:=P05 t
   have m:(I3 g).2=true->_:=λh=>e0b (g:=(I3 g).1) (u:=(Y2 g 0 w).1) (v:=g.2.1) (w:=w.drop (Y2 g 0 w).2) A (by rw[(G0a h).1];simp only;omega) (by rw[(G0a h).1];simp only;omega) (by rw[(G0a h).1];exact g0j hwd _)
   have M:=R09 A (Y2 g 0 w).1 (w.drop (Y2 g 0 w).2) g.2.1
   have f:=L0e (L5 (I3 g).1 (Y2 g 0 w).1 (w.drop (Y2 g 0 w).2) g.2.1).1 (by omega) g.2.1
   rw[hc]at d
   rw[hwd]at e
   generalize Y2 g 0 w=R at *
   obtain⟨v,n⟩:=R
   obtain⟨a,b,c⟩:=g
   simp only at e p i s B F C f m ⊢
   unfold I5 t05
   simp only[d,oB,Bool.not_true,Bool.not_false,H1,e,cond_false,Bool.false_eq_true,if_false,p,Bool.true_and,cond_true]
   rw[H0 i,oB,H0 (show J0 ((n:Nat):Int) from⟨by omega,by omega⟩),oB]
   by_cases c1:n<w.length
   ·rw[if_neg (by simp only[decide_eq_true_eq];omega),decide_eq_true c1,E]
    simp only[oB,cond_true]
    cases hok:(I3 (a,b,c)).2 with
    |false =>
     generalize I3 (a,b,c)=q at *
     obtain⟨⟨x,y,z⟩,ok⟩:=q
     simp only at hok
     subst hok
     simp only[Bool.not_false,if_true,oB]
     rw[H0 (show J0 0 from⟨by omega,by omega⟩)]
     rfl
    |true =>
     have o:=m hok
     generalize I3 (a,b,c)=q at *
     obtain⟨⟨x,y,z⟩,ok⟩:=q
     simp only at hok o f
     subst hok
     simp only[Bool.not_true,Bool.false_eq_true,if_false,s,oB,o,cond_true]
     generalize L5 (x,y,z) v (w.drop n) b=D at *
     obtain⟨⟨P,Q,S⟩,K⟩:=D
     cases K with
     |false =>
      simp only[Bool.not_false,if_true,oB]
      rw[H0 (show J0 0 from⟨by omega,by omega⟩)]
      rfl
     |true =>
      simp only at l
      simp only[Bool.not_true,Bool.false_eq_true,if_false,cond_true,oB]at f ⊢
      rw[H0 (show J0 b from⟨by omega,by omega⟩),oB,f];rfl
   ·rw[if_pos (by simp only[decide_eq_true_eq];omega),decide_eq_false c1]
    simp only[oB,Bool.not_true,Bool.false_eq_true,if_false,cond_false]
    rw[H0 i,oB,C];rfl
def L05(g:j0):Int:=bif I2 g then(g.2.2.length:Int)-g.2.1+1 else -1
theorem p0h(g:j0)(e:g.2.2.length<=140737488355328):W02 g=some (L05 g)/\J0 (L05 g):=by
 have d:=y04 g e
 unfold L05
 cases hc:I2 g with
 |false =>
  rw[hc]at d
  obtain⟨a,b,c⟩:=g
  unfold W02
  simp only[d,oB,Bool.not_false,if_true,cond_false]
  exact⟨trivial,⟨by omega,by omega⟩⟩
 |true =>
  obtain⟨i,j,f,h⟩:=J1 (R5 hc)
  rw[hc]at d
  obtain⟨a,b,c⟩:=g
  simp only at f h
  unfold W02
  simp only[d,oB,Bool.not_true,Bool.false_eq_true,if_false,cond_true]
  rw[w64 (x:=((c.length:Nat):Int)-b) (by omega) (by omega),w64 (by omega) (by omega)]
  exact⟨rfl,⟨by omega,by omega⟩⟩
theorem T0n(g:j0)(e:g.2.2.length<=140737488355328):X02 g=some (L05 g):=by
 have d:=I01 g e
 unfold L05
 cases hc:I2 g with
 |false =>
  rw[hc]at d
  obtain⟨a,b,c⟩:=g
  unfold X02
  simp only[d,oB,Bool.not_false,if_true,cond_false]
 |true =>
  obtain⟨i,j,f,h⟩:=J1 (R5 hc)
  rw[hc]at d
  obtain⟨a,b,c⟩:=g
  simp only at f h
  unfold X02
  simp only[d,oB,Bool.not_true,Bool.false_eq_true,if_false,cond_true]
  rw[w64 (x:=((c.length:Nat):Int)-b) (by omega) (by omega),w64 (by omega) (by omega)]
def i05(g:j0):Int:=bif s05 g then g.2.1 else -1
theorem j0b(g:j0)(f:g.2.2.length<=140737488355328):w03 g=some (i05 g)/\J0 (i05 g):=by
 have d:=u0m g f
 have e:s05 g=true->_:=λh=>J1 (R5 (Y0r h))
 unfold i05
 obtain⟨a,b,c⟩:=g
 unfold w03
 cases hc:s05 (a,b,c)with
 |false =>
  rw[hc]at d
  simp only[d,oB,Bool.not_false,if_true,cond_false]
  exact⟨trivial,⟨by omega,by omega⟩⟩
 |true =>
  rw[hc]at d
  obtain⟨j,k,i,l⟩:=e hc
  simp only at i
  simp only[d,oB,Bool.not_true,Bool.false_eq_true,if_false,cond_true]
  exact⟨trivial,⟨by omega,by omega⟩⟩
theorem Q0h(g:j0)(e:g.2.2.length<=140737488355328):x03 g=some (i05 g):=by
 have d:=v0m g e
 unfold i05
 obtain⟨a,b,c⟩:=g
 unfold x03
 cases hc:s05 (a,b,c)with
 |false =>
  rw[hc]at d
  simp only[d,oB,Bool.not_false,if_true,cond_false]
 |true =>
  rw[hc]at d
  simp only[d,oB,Bool.not_true,Bool.false_eq_true,if_false,cond_true]
def exO(bs:List (List Int))(k:Int):Option (List Int):=if 0<k/\k<=(bs.length:Int)then some (bs.getD (k.toNat-1) [])else if k<0 /\ -(bs.length:Int)<=k then some (inv (bs.getD ((-k).toNat-1) []))else none
def exP(bs:List (List Int))(k:Int):List Int:=(exO bs k).getD []
def W0c(bs:List (List Int))(l:List Int):List Int:=(n04 [] ((l.take 200).flatMap (exP bs))).reverse
def BOk(bs:List (List Int)):Prop:=(∀ w∈bs,(∀ x∈w,l5 x)/\w.length<=1000)/\bs.length<=1000
theorem i08{bs:List (List Int)}{k:Nat}(h:k<bs.length):bs.getD k []∈bs:=by
 rw[List.getD_eq_getElem?_getD,List.getElem?_eq_getElem h];exact List.getElem_mem h
theorem g0t{bs:List (List Int)}(h:BOk bs){k:Int}{w:List Int}(e:exO bs k=some w):w.length<=1000/\∀ x∈w,J0 x:=by
 unfold exO at e
 split at e
 ·rename_i c
  have a:=i08 (bs:=bs) (k:=k.toNat-1) (by omega)
  simp only[Option.some.injEq]at e
  rw[←e]
  exact⟨(h.1 _ a).2,λx b=>((h.1 _ a).1 x b).1⟩
 ·split at e
  ·rename_i c
   have a:=i08 (bs:=bs) (k:=(-k).toNat-1) (by omega)
   simp only[Option.some.injEq]at e
   rw[←e]
   exact⟨by rw[c06];exact(h.1 _ a).2,λx b=>(v0k (h.1 _ a).1 x b).1⟩
  ·cases e
theorem i0p{bs:List (List Int)}(h:BOk bs)(k:Int):(exP bs k).length<=1000/\∀ x∈exP bs k,J0 x:=by
 unfold exP
 cases e:exO bs k with
 |none=>exact⟨by simp,λx a=>by cases a⟩
 |some w=>exact g0t h e
theorem w0f{bs:List (List Int)}{k:Nat}(h:k<bs.length):gi bs (k:Int)=some (bs.getD k []):=by
 refine P2 ?_
 rw[List.getD_eq_getElem?_getD,List.getElem?_eq_getElem h];rfl
theorem c02{bs:List (List Int)}(h:BOk bs):∀ l:List Int,(l.flatMap (exP bs)).length<=1000*l.length/\∀ x∈l.flatMap (exP bs),J0 x
 | []=>⟨by simp,λx a=>by cases a⟩
 |k::r=>by
  have b:=i0p h k
  have c:=c02 h r
  rw[List.flatMap_cons]
  refine⟨by rw[List.length_append,List.length_cons];omega,λx a=>?_⟩
  rcases List.mem_append.1 a with a|a
  ·exact b.2 x a
  ·exact c.2 x a
theorem m0s{bs:List (List Int)}(h:BOk bs)(l:List Int):∀(d k fuel:Nat) (acc:List Int),k+d=(l.take 200).length->d<fuel->acc.length<=1000*k ->
  A6 l bs fuel (k:Int) acc=some (acc++((l.take 200).drop k).flatMap (exP bs))
 |d,k,0,acc,b,hf,j=>by omega
 |0,k,fuel+1,acc,b,hf,j=>by
  rw[List.length_take]at b
  have e:(bif(decide ((k:Int)<((l.length:Nat):Int)))then(decide ((k:Int)<200))else false)=false:=by
   by_cases c:(k:Int)<((l.length:Nat):Int)
   ·rw[decide_eq_true c,cond_true];exact decide_eq_false (by omega)
   ·rw[decide_eq_false c,cond_false]
  rw[A6.eq_2,e,if_neg (by simp),List.drop_eq_nil_of_le (by rw[List.length_take];omega)];simp
 |d+1,k,fuel+1,acc,b,hf,j=>by
  have t:k<(l.take 200).length:=by omega
  rw[List.length_take]at b
  have o:k<l.length:=by omega
  have s:=h.2
  have i:=E5 o
  have m:(l.take 200).drop k=l[k]::(l.take 200).drop (k+1):=O1 (by rw[List.getElem?_take,if_pos (by omega)];exact i)
  generalize l[k]=x at i m
  have u:=i0p h x
  have a:=λn q=>m0s h l d (k+1) fuel n (by rw[List.length_take];omega) (by omega) q
  have e:(bif(decide ((k:Int)<((l.length:Nat):Int)))then(decide ((k:Int)<200))else false)=true:=by
   rw[decide_eq_true (by omega),cond_true];exact decide_eq_true (by omega)
  rw[A6.eq_2,e,if_pos rfl,m,List.flatMap_cons]
  simp only[P2 i,oB,C2 (show k<1000 by omega) (show(1000:Nat)<=9223372036854775807 by omega)]
  unfold exP exO
  by_cases c1:0<x
  ·rw[decide_eq_true (show x>0 from c1)]
   simp only[H1,oB,cond_true]
   by_cases c2:x<=(bs.length:Int)
   ·have g:=i08 (bs:=bs) (k:=x.toNat-1) (by omega)
    have p:=(h.1 _ g).2
    have f:gi bs (IntKind.i64.wrap (x-1))=some (bs.getD (x.toNat-1) []):=by
     rw[w64 (by omega) (by omega),show x-1=((x.toNat-1:Nat):Int) by omega];exact w0f (by omega)
    rw[if_pos (by simpa using c2),if_pos ⟨c1,c2⟩,f,oB,H0 (by omega),oB,a _ (by rw[List.length_append];omega)]
    simp only[Option.getD_some,List.append_assoc]
    rfl
   ·rw[if_neg (by simpa using c2),decide_eq_false (show ¬ x<0 by omega)]
    simp only[K1,oB,cond_false]
    rw[if_neg (by simp),if_neg (λq=>c2 q.2),if_neg (λq=>by omega),a _ (by omega)]
    simp only[Option.getD_none,List.nil_append]
    rfl
  ·rw[decide_eq_false (show ¬ x>0 from c1)]
   simp only[K1,oB,cond_false]
   rw[if_neg (by simp),if_neg (λq=>c1 q.1)]
   by_cases c3:x<0
   ·rw[decide_eq_true c3]
    simp only[H1,oB,cond_true]
    rw[w64 (x:=0-((bs.length:Nat):Int)) (by omega) (by omega)]
    by_cases c2 : -(bs.length:Int)<=x
    ·have g:=i08 (bs:=bs) (k:=(-x).toNat-1) (by omega)
     have p:=(h.1 _ g).2
     have f:gi bs (IntKind.i64.wrap ((IntKind.i64.wrap (0-x))-1))=some (bs.getD ((-x).toNat-1) []):=by
      rw[w64 (x:=0-x) (by omega) (by omega),w64 (by omega) (by omega),show 0-x-1=(((-x).toNat-1:Nat):Int) by omega];exact w0f (by omega)
     rw[if_pos (by simp only[decide_eq_true_eq];omega),if_pos ⟨c3,c2⟩,f,oB,I03 _ (by omega),oB,H0 (by rw[c06];omega),oB,a _ (by rw[List.length_append,c06];omega)]
     simp only[Option.getD_some,List.append_assoc]
     rfl
    ·rw[if_neg (by simp only[decide_eq_true_eq];omega),if_neg (λq=>c2 q.2),a _ (by omega)]
     simp only[Option.getD_none,List.nil_append]
     rfl
   ·rw[decide_eq_false c3]
    simp only[K1,oB,cond_false]
    rw[if_neg (by simp),if_neg (λq=>c3 q.1),a _ (by omega)]
    simp only[Option.getD_none,List.nil_append]
    rfl
theorem k0q{bs:List (List Int)}(h:BOk bs)(l:List Int):Q02 bs l=some (W0c bs l):=by
 have a:=m0s h l (l.take 200).length 0 T0 [] (by omega) (D1 (by rw[List.length_take];omega)) (by simp)
 rw[show((0:Nat):Int)=0 from rfl,List.drop_zero,List.nil_append]at a
 have b:=c02 h (l.take 200)
 have d:(l.take 200).length<=200:=by rw[List.length_take];omega
 unfold Q02 W0c
 rw[a,oB,Q03 _ (λx c=>b.2 x c) (by omega)]
 rfl
theorem i0j:∀(ws:List (List Int)) (s:List Int),K0n s ws=n04 s ws.flatten
 | [],s=>rfl
 |w::r,s=>by rw[K0n,i0j r,List.flatten_cons,b0h]
theorem L06(bs:List (List Int)):∀ l:List Int,(l.filterMap (exO bs)).flatten=l.flatMap (exP bs)
 | []=>rfl
 |k::r=>by
  rw[List.flatMap_cons,←L06 bs r,List.filterMap_cons]
  unfold exP
  cases exO bs k with
  |none=>rfl
  |some w=>rfl
theorem j0j:∀ ws:List (List Int),r0m ws=ws.flatten.length
 | []=>rfl
 |w::r=>by rw[r0m,j0j r,List.flatten_cons,List.length_append]
theorem n0s{bs:List (List Int)}(h:BOk bs)(l:List Int)(n:l.length<=200):∀(d k fuel:Nat) (acc:List (List Int)),k+d=l.length->d<fuel->acc.length<=k ->
  B6 l bs fuel (k:Int) acc=some (acc++(l.drop k).filterMap (exO bs))
 |d,k,0,acc,f,hf,e=>by omega
 |0,k,fuel+1,acc,f,hf,e=>by
  rw[B6.eq_2,if_neg (by simp only[decide_eq_true_eq];omega),I1 (by omega)];simp
 |d+1,k,fuel+1,acc,f,hf,e=>by
  have m:k<l.length:=by omega
  have o:=h.2
  have b:=E5 m
  have g:=O1 b
  generalize l[k]=x at b g
  have c:=λj q=>n0s h l n d (k+1) fuel j (by omega) (by omega) q
  rw[B6.eq_2,if_pos (by simp only[decide_eq_true_eq];omega),g,List.filterMap_cons]
  simp only[P2 b,oB,C2 (show k<1000 by omega) (show(1000:Nat)<=9223372036854775807 by omega),m03,w64 (x:=0-((bs.length:Nat):Int)) (by omega) (by omega)]
  unfold exO
  by_cases c1:0<x/\x<=(bs.length:Int)
  ·have i:=i08 (bs:=bs) (k:=x.toNat-1) (by omega)
   have a:gi bs (IntKind.i64.wrap (x-1))=some (bs.getD (x.toNat-1) []):=by
    rw[w64 (by omega) (by omega),show x-1=((x.toNat-1:Nat):Int) by omega];exact w0f (by omega)
   rw[if_pos (show inR 1 ((bs.length:Nat):Int) x=true by simp only[inR,Bool.and_eq_true,decide_eq_true_eq];omega),if_pos c1,a,oB,H0 (by simp;omega),oB,c _ (by simp;omega)]
   simp only[List.append_assoc]
   rfl
  ·rw[if_neg (show ¬ inR 1 ((bs.length:Nat):Int) x=true by simp only[inR,Bool.and_eq_true,decide_eq_true_eq];omega),if_neg c1]
   by_cases c2:x<0 /\ -(bs.length:Int)<=x
   ·have i:=i08 (bs:=bs) (k:=(-x).toNat-1) (by omega)
    have p:=(h.1 _ i).2
    have a:gi bs (IntKind.i64.wrap ((IntKind.i64.wrap (0-x))-1))=some (bs.getD ((-x).toNat-1) []):=by
     rw[w64 (x:=0-x) (by omega) (by omega),w64 (by omega) (by omega),show 0-x-1=(((-x).toNat-1:Nat):Int) by omega];exact w0f (by omega)
    rw[if_pos (show inR (0-((bs.length:Nat):Int)) (-1) x=true by simp only[inR,Bool.and_eq_true,decide_eq_true_eq];omega),if_pos c2,a,oB,g05 _ (by omega),oB,H0 (by simp;omega),oB,c _ (by simp;omega)]
    simp only[List.append_assoc]
    rfl
   ·rw[if_neg (show ¬ inR (0-((bs.length:Nat):Int)) (-1) x=true by simp only[inR,Bool.and_eq_true,decide_eq_true_eq];omega),if_neg c2,c _ (by omega)]
    rfl
theorem l0q{bs:List (List Int)}(h:BOk bs)(l:List Int):R02 bs l=some (W0c bs l):=by
 have b:(l.take 200).length<=200:=by rw[List.length_take];omega
 have a:=n0s h (l.take 200) b (l.take 200).length 0 T0 [] (by omega) (D1 (by omega)) (by simp)
 rw[show((0:Nat):Int)=0 from rfl,List.drop_zero,List.nil_append]at a
 have e:=c02 h (l.take 200)
 have d:S06 l 0 (if 200<((l.length:Nat):Int)then 200 else((l.length:Nat):Int))=some (l.take 200):=by
  by_cases c:200<((l.length:Nat):Int)
  ·rw[if_pos c];exact N09 (k:=200) (by omega)
  ·rw[if_neg c,N09 (Nat.le_refl _),List.take_of_length_le (Nat.le_refl _),List.take_of_length_le (by omega)]
 have f:((l.take 200).filterMap (exO bs)).length<=200:=Nat.le_trans (List.length_filterMap_le _ _) b
 unfold R02 W0c
 rw[d,oB,a,oB,C07 _ (by omega) (by rw[j0j,L06];omega),i0j,L06]
 rfl
theorem o0s(a b:List Int)(i:a.length=b.length)(g:a.length<=9223372036854775807):∀(d k fuel:Nat),k+d=a.length->d<fuel ->
  S4 a b fuel (k:Int)=some (bif eqW (a.drop k) (b.drop k)then .inr ()else .inl false)
 |d,k,0,f,hf=>by omega
 |0,k,fuel+1,f,hf=>by
  rw[S4.eq_2,if_neg (by simp;omega),I1 (by omega),I1 (by omega)]
  rfl
 |d+1,k,fuel+1,f,hf=>by
  have c:=E5 (show k<a.length by omega)
  have e:=E5 (show k<b.length by omega)
  have next:=o0s a b i g d (k+1) fuel (by omega) (by omega)
  generalize a[k]=x at c
  generalize b[k]=y at e
  rw[S4.eq_2,if_pos (by simp;omega),P2 c,oB,P2 e,oB,O1 c,O1 e]
  unfold eqW at next ⊢
  by_cases h:x=y
  ·rw[if_neg (by simpa using h),C2 (show k<a.length by omega) g,next]
   simp[h]
  ·rw[if_pos (by simpa using h)]
   simp[h]
theorem j08{a b:List Int}(c:a.length<=9223372036854775807):F00 a b=some (eqW a b):=by
 unfold F00
 by_cases h:a.length=b.length
 ·rw[if_neg (by simp[h])]
  have:=o0s a b h (by omega) a.length 0 T0 (by omega) (x0g c)
  rw[show((0:Nat):Int)=0 from rfl]at this
  rw[this]
  simp only[List.drop_zero,oB]
  unfold eqW
  by_cases h2:a=b
  ·simp[h2,K9]
  ·simp[h2,K9]
 ·rw[if_pos (by simp;omega)]
  unfold eqW
  have : ¬ a=b:=λe=>h (by rw[e])
  simp[this]
theorem P04(a b:List Int):∀(fuel:Nat) (k:Int),Z7 a b fuel k=S4 a b fuel k
 |0,k=>rfl
 |fuel+1,k=>by
  rw[Z7.eq_2,S4.eq_2]
  simp only[P04 a b fuel]
theorem b0e{a b:List Int}(c:a.length<=9223372036854775807):M01 a b=some (eqW a b):=by
 rw[←j08 c]
 unfold M01 F00
 rw[P04]
theorem J0m{ws:Y1}{n:Nat}(h:d6 ws<=n)(b:n<=140737488355328):ws.length<=140737488355328/\w9 ws:=by
 unfold d6 at h
 exact⟨by omega,λw a=>by have:=W07 (m:=K4) a;unfold K4 at this h;omega⟩
end Go.Proofs.YtkjhghloldgioaaGreat
