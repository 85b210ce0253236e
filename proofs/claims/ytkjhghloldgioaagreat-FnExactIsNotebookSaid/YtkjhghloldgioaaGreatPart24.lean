/- Texts of the claim, joined: Plain laws: vertices and edges added; the steps that are mis and others. -/
import Derived.Test.YtkjhghloldgioaaGreatPart23
import Derived.Test.YtkjhghloldgioaaGreatPart17
import Derived.Test.YtkjhghloldgioaaGreatH36
import Derived.Test.YtkjhghloldgioaaGreatPart18
namespace Go.Proofs.YtkjhghloldgioaaGreat
open Go.H
set_option linter.unusedVariables false
set_option linter.unusedSimpArgs false
def L2(g:j0):j0×Bool:=bif decide (g.2.1<40)then((g.1,g.2.1+1,g.2.2),true)else(g,false)
theorem e0d{g:j0}(a:Q0 g=true):R00 g=some (L2 g):=by
 obtain⟨f,h,e,i⟩:=A2 a
 have b:=S7 g (by omega)
 have d:=X01 g (by omega)
 obtain⟨r,n,es⟩:=g
 simp only at e
 unfold R00 L2
 simp only[b,d,a,oB,Bool.not_true,cond_false]
 by_cases c:n<40
 ·rw[if_neg (by simp;omega),w64 (by omega) (by omega)];simp[c]
 ·rw[if_pos (by simp;omega)];simp[c]
theorem f0d{g:j0}(a:Q0 g=true):T00 g=some (L2 g):=by
 obtain⟨f,h,e,i⟩:=A2 a
 have b:=H00 g (by omega)
 have d:=e01 g (by omega)
 obtain⟨r,n,es⟩:=g
 simp only at e
 unfold T00 L2
 simp only[b,d,a,oB,Bool.not_true,cond_false]
 by_cases c:n<40
 ·rw[if_neg (by simp;omega),w64 (by omega) (by omega)];simp[c]
 ·rw[if_pos (by simp;omega)];simp[c]
theorem q04{g:j0}(a:Q0 g=true):Q0 (L2 g).1=true:=by
 unfold L2
 by_cases c:g.2.1<40
 ·simp only[c,decide_true,cond_true]
  obtain⟨d,f,j,h,i⟩:=(A01 g).1 a
  refine(A01 _).2 ⟨λe b=>?_,f,?_,h,i⟩
  ·have:=d e b
   simp only
   omega
  ·simp only;omega
 ·simp only[c,decide_false,cond_false];exact a
theorem B0m(es:List J0)(e:J0)(o:es.length<=140737488355328):∀(d k fuel:Nat),k+d=es.length->d<fuel ->
  ∃ X,L1 es e.1 e.2.1 e.2.2 fuel (k:Int)=some X/\((∃ i:Nat,X = .inl (i:Int)/\i<es.length/\e∈es.drop k)∨(X = .inr ()/\e ∉ es.drop k))
 |d,k,0,l,hf=>by omega
 |0,k,fuel+1,l,hf=>by
  rw[L1.eq_2,if_neg (by simp;omega),D1 (by omega)]
  exact⟨_,rfl,.inr ⟨rfl,by simp⟩⟩
 |d+1,k,fuel+1,l,hf=>by
  have a:k<es.length:=by omega
  have f:=a5 a
  generalize es[k]=b at f
  rw[L1.eq_2,if_pos (by simp;omega),Z1 f,oB,G1 f]
  simp only[]
  by_cases c:eqE e b=true
  ·rw[if_pos c]
   refine⟨_,rfl,.inl ⟨k,rfl,a,?_⟩⟩
   rw[(E0d _ _).1 c]
   exact mS
  ·rw[if_neg c,P1 a (by omega)]
   obtain⟨X,m,n⟩:=B0m es e o d (k+1) fuel (by omega) (by omega)
   refine⟨X,m,?_⟩
   have p:e≠b:=λh=>c ((E0d _ _).2 h)
   rcases n with⟨i,g,j,q⟩|⟨g,j⟩
   ·exact .inl ⟨i,g,j,mC _ q⟩
   ·refine .inr ⟨g,λh=>?_⟩
    rcases List.mem_cons.1 h with h|h
    ·exact p h
    ·exact j h
theorem k0l(es:List J0)(e:J0)(b:es.length<=140737488355328):U2 es e=some (decide (e∈es)):=by
 obtain⟨X,d,a⟩:=B0m es e b es.length 0 P0 (by omega) (W0 b)
 obtain⟨g,h,j⟩:=e
 unfold U2 L4
 simp only
 simp only[List.drop_zero]at a
 rw[show(0:Int)=((0:Nat):Int) from rfl,d]
 rcases a with⟨i,rfl,c,f⟩|⟨rfl,c⟩
 ·simp only[oB,U3]
  rw[D0 (show H0 ((i:Nat):Int) from⟨by omega,by omega⟩)]
  simp[f]
 ·simp only[oB,S0]
  rw[D0 (show H0 (-1) from⟨by omega,by omega⟩)]
  simp[c]
def j07(g:j0)(v:Int):List Int->List J0
 | []=>[]
 |x::r=>(bif decide (U0 g v x<0)then [(v,x,-1)]else [])++j07 g v r
def p09(g:j0):Nat->Nat->List J0
 |0,_=>[]
 |d+1,v=>j07 g (v:Int) (G5 g.1.toNat 1)++p09 g d (v+1)
theorem O08(g:j0)(v:Int):∀ l,(j07 g v l).length<=l.length
 | []=>Nat.le_refl _
 |x::r=>by
  have:=O08 g v r
  simp only[j07,List.length_append,List.length_cons]
  cases decide (U0 g v x<0)<;>simp<;>omega
theorem R0j(g:j0)(j:Q0 g=true)(v:Int)(a:List Int)(l:∀ x∈a,l4 x)(o:a.length<=1000):∀(d k fuel:Nat) (acc:List J0),k+d=a.length->d<fuel->acc.length+d<=100000 ->
  C3 a g.1 g.2.1 g.2.2 v fuel (k:Int) acc=some (acc++j07 g v (a.drop k))
 |d,k,0,acc,i,hf,f=>by omega
 |0,k,fuel+1,acc,i,hf,f=>by
  rw[C3.eq_2,if_neg (by simp;omega),D1 (by omega)]
  simp[j07]
 |d+1,k,fuel+1,acc,i,hf,f=>by
  obtain⟨p,s,q,t⟩:=A2 j
  have c:k<a.length:=by omega
  have e:=a5 c
  have m:=l _ (List.getElem_mem c)
  generalize a[k]=x at e m
  have n:∀ b:List J0,b.length+d<=100000->C3 a g.1 g.2.1 g.2.2 v fuel ((k+1:Nat):Int) b=some (b++j07 g v (a.drop (k+1))):=λb h=>R0j g j v a l o d (k+1) fuel b (by omega) (by omega) h
  rw[C3.eq_2,if_pos (by simp;omega),Z1 e,oB,show(g.1,g.2.1,g.2.2)=g from rfl,L03 g v x m (by omega),oB,D0 (M02 p q.2 v x),oB,P1 c (by omega),G1 e,j07]
  cases decide (U0 g v x<0)with
  |true =>
   rw[if_pos rfl,oB,D0 (by simp;omega),oB,n _ (by simp;omega)]
   simp
  |false =>
   rw[if_neg (by simp),n _ (by omega)]
   simp
theorem S0j(g:j0)(j:Q0 g=true)(v:Int)(a:List Int)(l:∀ x∈a,l4 x)(o:a.length<=1000):∀(d k fuel:Nat) (acc:List J0),k+d=a.length->d<fuel->acc.length+d<=100000 ->
  D3 a g.1 g.2.1 g.2.2 v fuel (k:Int) acc=some (acc++j07 g v (a.drop k))
 |d,k,0,acc,i,hf,f=>by omega
 |0,k,fuel+1,acc,i,hf,f=>by
  rw[D3.eq_2,if_neg (by simp;omega),D1 (by omega)]
  simp[j07]
 |d+1,k,fuel+1,acc,i,hf,f=>by
  obtain⟨p,s,q,t⟩:=A2 j
  have c:k<a.length:=by omega
  have e:=a5 c
  have m:=l _ (List.getElem_mem c)
  generalize a[k]=x at e m
  have n:∀ b:List J0,b.length+d<=100000->D3 a g.1 g.2.1 g.2.2 v fuel ((k+1:Nat):Int) b=some (b++j07 g v (a.drop (k+1))):=λb h=>S0j g j v a l o d (k+1) fuel b (by omega) (by omega) h
  rw[D3.eq_2,if_pos (by simp;omega),Z1 e,oB,show(g.1,g.2.1,g.2.2)=g from rfl,b05 g v x m (by omega),oB,D0 (M02 p q.2 v x),oB,P1 c (by omega),G1 e,j07]
  cases decide (U0 g v x<0)with
  |true =>
   rw[if_pos rfl,D0 (by simp;omega),oB,n _ (by simp;omega)]
   simp
  |false =>
   rw[if_neg (by simp),n _ (by omega)]
   simp
theorem V0a:∀(d i:Nat) (x:Int),x∈G5 d i->∃ j:Nat,i<=j/\j<i+d/\(x=(j:Int)∨x = -(j:Int))
 |0,i,x,h=>by simp[G5]at h
 |d+1,i,x,h=>by
  simp only[G5,List.mem_cons]at h
  rcases h with rfl|rfl|h
  ·exact⟨i,Nat.le_refl _,by omega,.inl rfl⟩
  ·exact⟨i,Nat.le_refl _,by omega,.inr rfl⟩
  ·obtain⟨j,b,c,a⟩:=V0a d (i+1) x h
   exact⟨j,by omega,by omega,a⟩
theorem T0j(g:j0)(a:K0 g=true):∀(d k fuel:Nat) (acc:List J0),k+d=g.2.1.toNat->d<fuel->acc.length+100*d<=10000 ->
  P4 g.2.1 g.1 g.2.2 fuel (k:Int) acc=some (acc++p09 g d k)
 |d,k,0,acc,c,hf,b=>by omega
 |0,k,fuel+1,acc,c,hf,b=>by
  obtain⟨l,m,n,o⟩:=C1 a
  rw[P4.eq_2,show decide (((k:Nat):Int)<g.2.1)=false by simp;omega]
  simp[chk,p09]
 |d+1,k,fuel+1,acc,c,hf,b=>by
  obtain⟨l,m,n,o⟩:=C1 a
  have f:=((f05 g).1 a).1
  obtain⟨R,e⟩:∃ R:Nat,g.1=(R:Int):=⟨g.1.toNat,by omega⟩
  have h:∀ x∈G5 g.1.toNat 1,l4 x:=λx i=>by
   obtain⟨j,p,q,s⟩:=V0a _ _ _ i
   refine⟨⟨by omega,by omega⟩,by omega⟩
  have t:=O00 g.1.toNat 1
  have u:=O08 g (k:Int) (G5 g.1.toNat 1)
  have h0:=R0j g f (k:Int) (G5 g.1.toNat 1) h (by omega) (G5 g.1.toNat 1).length 0 P0 acc (by omega) (W0 (by omega)) (by omega)
  rw[P4.eq_2,show decide (((k:Nat):Int)<g.2.1)=true by simp;omega,j1,show(g.1,g.2.1,g.2.2)=g from rfl,J5 g (by omega),oB,a]
  rw[if_pos (show(bif true then true else false)=true from rfl),show D6 g.1=some (G5 g.1.toNat 1) by rw[e,b0i R (by omega)];rfl,oB,show(0:Int)=((0:Nat):Int) from rfl,h0,oB,P1 (show k<1000 by omega) (by omega),T0j g a d (k+1) fuel _ (by omega) (by omega) (by simp;omega),p09]
  simp
theorem U0j(g:j0)(a:K0 g=true):∀(d k fuel:Nat) (acc:List J0),k+d=g.2.1.toNat->d<fuel->acc.length+100*d<=10000 ->
  Q4 g.2.1 g.1 g.2.2 fuel (k:Int) acc=some (acc++p09 g d k)
 |d,k,0,acc,c,hf,b=>by omega
 |0,k,fuel+1,acc,c,hf,b=>by
  obtain⟨l,m,n,o⟩:=C1 a
  rw[Q4.eq_2,if_neg (by simp;omega)]
  simp[p09]
 |d+1,k,fuel+1,acc,c,hf,b=>by
  obtain⟨l,m,n,o⟩:=C1 a
  have f:=((f05 g).1 a).1
  obtain⟨R,e⟩:∃ R:Nat,g.1=(R:Int):=⟨g.1.toNat,by omega⟩
  have h:∀ x∈G5 g.1.toNat 1,l4 x:=λx i=>by
   obtain⟨j,p,q,s⟩:=V0a _ _ _ i
   refine⟨⟨by omega,by omega⟩,by omega⟩
  have t:=O00 g.1.toNat 1
  have u:=O08 g (k:Int) (G5 g.1.toNat 1)
  have h0:=S0j g f (k:Int) (G5 g.1.toNat 1) h (by omega) (G5 g.1.toNat 1).length 0 P0 acc (by omega) (W0 (by omega)) (by omega)
  rw[Q4.eq_2,if_pos (by simp;omega),show U8 g.1=some (G5 g.1.toNat 1) by rw[e,f0l R (by omega)];rfl,oB,show(0:Int)=((0:Nat):Int) from rfl,h0,oB,P1 (show k<1000 by omega) (by omega),U0j g a d (k+1) fuel _ (by omega) (by omega) (by simp;omega),p09]
  simp
def U00(g:j0):List J0:=p09 g g.2.1.toNat 0
theorem K0f{g:j0}(hf:K0 g=true):f8 g=some (U00 g):=by
 obtain⟨a,b,c,d⟩:=C1 hf
 have h:=T0j g hf g.2.1.toNat 0 P0 [] (by omega) (W0 (by omega)) (by simp;omega)
 obtain⟨r,n,es⟩:=g
 unfold f8 U00
 simp only at h ⊢
 rw[show(0:Int)=((0:Nat):Int) from rfl,h];simp
theorem L0f{g:j0}(hf:K0 g=true):g8 g=some (U00 g):=by
 obtain⟨b,c,d,e⟩:=C1 hf
 have h:=U0j g hf g.2.1.toNat 0 P0 [] (by omega) (W0 (by omega)) (by simp;omega)
 have a:=V8 g (by omega)
 obtain⟨r,n,es⟩:=g
 unfold g8 U00
 simp only[a,hf,oB]at h ⊢
 rw[if_neg (by simp),show(0:Int)=((0:Nat):Int) from rfl,h];simp
theorem h08{g:j0}(a:Q0 g=true)(u:Int)(w:List Int)(v:Int):(M4 g u w v).1.2.2.length<=120:=by
 have q:=(A2 a).2.2.2
 unfold M4
 cases hc:(!w.isEmpty&&decide (g.2.1+(w.length:Int)-1<=40)&&decide (g.2.2.length+w.length<=120))with
 |false=>exact q
 |true =>
  simp only[Bool.and_eq_true,decide_eq_true_eq]at hc
  have b:=Y01 (H02 v w u g.2.1) g.2.2
  have c:=N08 v w u g.2.1
  simp only[cond_true]
  omega
theorem l0l(g:Nat):∀(d k:Nat) (x:Int),x∈wo g d k->∃ j:Nat,x=(j:Int)/\k<=j/\j<k+d
 |0,k,x,h=>nomatch h
 |d+1,k,x,h=>by
  unfold wo at h
  split at h
  ·obtain⟨j,a,b,c⟩:=l0l g d (k+1) x h
   exact⟨j,a,by omega,by omega⟩
  ·rcases List.mem_cons.1 h with rfl|h
   ·exact⟨k,rfl,Nat.le_refl _,by omega⟩
   ·obtain⟨j,a,b,c⟩:=l0l g d (k+1) x h
    exact⟨j,a,by omega,by omega⟩
theorem i08(g:Nat):∀(d k:Nat),(wo g d k).Nodup
 |0,k=>List.nodup_nil
 |d+1,k=>by
  unfold wo
  split
  ·exact i08 g d (k+1)
  ·refine List.nodup_cons.2 ⟨λh=>?_,i08 g d (k+1)⟩
   obtain⟨j,a,b,c⟩:=l0l g d (k+1) _ h
   omega
theorem i0i(P:List Int):∀(es:List J0),∀ e∈pE P es,∃ a∈es,e=(getI P a.1,a.2.1,getI P a.2.2)/\0<=getI P a.1/\0<=getI P a.2.2
 | [],e,h=>nomatch h
 |b::r,e,h=>by
  unfold pE at h
  cases hb:decide (0<=getI P b.1)&&decide (0<=getI P b.2.2)
  ·rw[hb]at h
   obtain⟨a,c,d⟩:=i0i P r e h
   exact⟨a,mC _ c,d⟩
  ·rw[hb]at h
   simp only[Bool.and_eq_true,decide_eq_true_eq]at hb
   rcases List.mem_cons.1 h with rfl|h
   ·exact⟨b,mS,rfl,hb.1,hb.2⟩
   ·obtain⟨a,c,d⟩:=i0i P r e h
    exact⟨a,mC _ c,d⟩
theorem N09{g:j0}{o:List Int}(f:Q0 g=true)(b:inV g.2.1.toNat o)(p:1<=o.length)(q:o.length<=40):Q0 (w8 g o)=true:=by
 obtain⟨k,l,t,u⟩:=A2 f
 have s:=Y0h (plc g.2.1.toNat o) g.2.2
 refine T0a l ⟨by omega,by omega⟩ (by omega) λe d=>?_
 obtain⟨a,c,rfl,i,j⟩:=i0i _ _ e d
 have h:=k a c
 have m:=(v06 b (x:=a.1) (by omega)).2
 have n:=(v06 b (x:=a.2.2) (by omega)).2
 exact⟨⟨i,m⟩,⟨j,n⟩,h.2.2⟩
theorem X0e{n:Nat}:∀(o:List Int) (k:Nat) (A:List Int),A.length=n->inV n o->o.Nodup->(∀ x,0<=x->getI A x<(k:Int))->(∀ x y,0<=x->0<=y->0<=getI A x->getI A x=getI A y->x=y) ->
  ∀ x y,0<=x->0<=y->0<=getI (f01 A k o) x->getI (f01 A k o) x=getI (f01 A k o) y->x=y
 | [],k,A,h,e,i,c,d=>d
 |v::r,k,A,h,e,i,c,d=>by
  have f:=e v mS
  refine X0e r (k+1) (A.set v.toNat (k:Int)) (by simp[h]) (λw j=>e w (mC _ j)) (List.nodup_cons.1 i).2 (λx b=>?_) (λx y b g h0 a=>?_)
  ·rw[i04 f.1 (by omega) b]
   have:=c x b
   split<;>omega
  ·rw[i04 f.1 (by omega) b]at h0 a
   rw[i04 f.1 (by omega) g]at a
   have l:=c x b
   have m:=c y g
   by_cases c1:x=v
   ·by_cases c2:y=v
    ·rw[c1,c2]
    ·rw[if_pos c1,if_neg c2]at a;omega
   ·by_cases c2:y=v
    ·rw[if_neg c1,if_pos c2]at a;omega
    ·rw[if_neg c1]at h0;rw[if_neg c1,if_neg c2]at a
     exact d x y b g h0 a
theorem j0i{n:Nat}{o:List Int}(d:inV n o)(b:o.Nodup){x y:Int}(a:0<=x)(e:0<=y)(h0:0<=getI (plc n o) x)(c:getI (plc n o) x=getI (plc n o) y):x=y:=by
 refine X0e o 0 (List.replicate n (-1)) (by simp) d b (λx a=>by rw[Z07];omega) (λx y _ _ h _=>by rw[Z07]at h;omega) x y a e h0 c
theorem q0p{es:List J0}(h:es.Pairwise λa b=>c05 a b=false){a b:J0}(f:a∈es)(i:b∈es)(k:a≠b):c05 a b=false:=by
 induction es with
 |nil=>cases f
 |cons c r l =>
  obtain⟨e,j⟩:=List.pairwise_cons.1 h
  rcases List.mem_cons.1 f with rfl|g
  ·rcases List.mem_cons.1 i with rfl|d
   ·exact absurd rfl k
   ·exact e b d
  ·rcases List.mem_cons.1 i with rfl|d
   ·rw[T0b];exact e a g
   ·exact l j g d
theorem x0q{es:List J0}(i:Asc O0 es)(h:∀ a∈es,∀ b∈es,a≠b->c05 a b=false):es.Pairwise λa b=>c05 a b=false:=by
 induction es with
 |nil=>exact .nil
 |cons c r k =>
  obtain⟨f,g⟩:=List.pairwise_cons.1 i
  refine List.pairwise_cons.2 ⟨λb d=>h c mS b (mC _ d) λe=>?_,k g λa j b d=>h a (mC _ j) b (mC _ d)⟩
  have:=f b d
  rw[e,K6.refl]at this;omega
theorem c0c{g:j0}(c:Q0 g=true):K0 g=true↔∀ a∈g.2.2,∀ b∈g.2.2,a≠b->c05 a b=false:=by
 rw[f05,a0c]
 exact⟨λh a d b e f=>q0p h.2 d e f,λh=>⟨c,x0q (graph_asc' c) h⟩⟩
where graph_asc' {g:j0} (h:Q0 g=true):Asc O0 g.2.2:=((A01 g).1 h).2.2.2.2
theorem j08{g:j0}{o:List Int}(hf:K0 g=true)(j:inV g.2.1.toNat o)(m:o.Nodup)(s:1<=o.length)(t:o.length<=40):K0 (w8 g o)=true:=by
 have i:=Q3 hf
 obtain⟨n,F,G,H⟩:=A2 i
 refine(c0c (N09 i j s t)).2 λa u b v z=>?_
 have mem:∀ e∈(w8 g o).2.2,∃ a∈g.2.2,e=(getI (plc g.2.1.toNat o) a.1,a.2.1,getI (plc g.2.1.toNat o) a.2.2)/\0<=getI (plc g.2.1.toNat o) a.1/\0<=getI (plc g.2.1.toNat o) a.2.2:=λe y=>by
  rcases(w9 K6 e _ _).1 y with h|h
  ·cases h
  ·exact i0i _ _ e h
 obtain⟨d,k,rfl,B,C⟩:=mem a u
 obtain⟨f,l,rfl,D,E⟩:=mem b v
 have A:d≠f:=λe=>z (by rw[e])
 have c:=(c0c i).1 hf d k f l A
 have p:=n d k
 have q:=n f l
 unfold c05 at c ⊢
 simp only[Bool.and_eq_false_iff,Bool.or_eq_false_iff,decide_eq_false_iff_not]at c ⊢
 rcases c with c|⟨w,x⟩
 ·exact .inl c
 ·exact .inr ⟨λe=>w (j0i j m p.1.1 q.1.1 B e),λe=>x (j0i j m p.2.1.1 q.2.1.1 C e)⟩
def g05:Nat->j0->j0
 |0,g=>g
 |d+1,g=>match G9 g with
  |none=>g
  |some k=>g05 d (w8 g (wo k g.2.1.toNat 0))
theorem k0i{g:j0}{k:Nat}(h:G9 g=some k):1<=k/\k<g.2.1.toNat:=by
 have:=c08 _ _ _ h
 omega
theorem d0c{g:j0}(b:Q0 g=true){k:Nat}(h:G9 g=some k):inV g.2.1.toNat (wo k g.2.1.toNat 0)/\(wo k g.2.1.toNat 0).length=g.2.1.toNat-1/\1<=(wo k g.2.1.toNat 0).length/\(wo k g.2.1.toNat 0).length<=40:=by
 obtain⟨d,e,f,i⟩:=A2 b
 have c:=k0i h
 have a:=U0e k g.2.1.toNat 0
 rw[if_pos (by omega)]at a
 exact⟨G0j k _ _ 0 (by omega),a,by omega,by omega⟩
theorem r02:∀(d:Nat) {g:j0},K0 g=true->K0 (g05 d g)=true
 |0,g,h=>h
 |d+1,g,h=>by
  unfold g05
  cases e:G9 g with
  |none=>exact h
  |some k =>
   obtain⟨a,f,b,c⟩:=d0c (Q3 h) e
   exact r02 d (j08 h a (i08 _ _ _) b c)
theorem Y0e(n g:Nat)(i:n<=1000)(u:List Int)(j:u.length=n):∀(d k fuel:Nat) (acc a:List Int),k+d=n->d<fuel->acc.length<=k->a.length<=k ->
  ∃ v,F5 (n:Int) (g:Int) u fuel (k:Int) acc a=some (acc++wo g d k,v)/\v.length+acc.length=a.length+(acc++wo g d k).length
 |d,k,0,acc,a,h,hf,b,f=>by omega
 |0,k,fuel+1,acc,a,h,hf,b,f=>by
  rw[F5.eq_2,if_neg (by simp;omega)];exact⟨a,by simp[wo],by simp[wo]⟩
 |d+1,k,fuel+1,acc,a,h,hf,b,f=>by
  have l:=a5 (show k<u.length by omega)
  generalize u[k]=x at l
  rw[F5.eq_2,if_pos (by simp;omega),P1 (show k<10000 by omega) (by omega)]
  unfold wo
  by_cases c:k=g
  ·have e:decide ((k:Int)=(g:Int))=true:=decide_eq_true (by omega)
   rw[e,if_neg (by simp),if_pos c]
   exact Y0e n g i u j d (k+1) fuel acc a (by omega) (by omega) (by omega) (by omega)
  ·have e:decide ((k:Int)=(g:Int))=false:=decide_eq_false (by omega)
   rw[e,if_pos (show(!false)=true from rfl),if_neg c,D0 (by simp;omega),oB,Z1 l,oB,D0 (by simp;omega),oB]
   obtain⟨v,m,o⟩:=Y0e n g i u j d (k+1) fuel (acc ++ [(k:Int)]) (a ++ [x]) (by omega) (by omega) (by simp;omega) (by simp;omega)
   refine⟨v,by rw[m];simp,?_⟩
   simp only[List.length_append,List.length_cons,List.length_nil]at o ⊢
   omega
theorem V0j(g:j0)(a:Q0 g=true):∀(d k fuel:Nat) (acc:List Int),k+d=g.2.1.toNat->d<fuel->acc.length=k ->
  ∃ u,r6 g.2.1 g.1 g.2.2 fuel (k:Int) acc=some u/\u.length=g.2.1.toNat
 |d,k,0,acc,c,hf,b=>by omega
 |0,k,fuel+1,acc,c,hf,b=>by
  obtain⟨h,i,j,l⟩:=A2 a
  rw[r6.eq_2,show decide (((k:Nat):Int)<g.2.1)=false by simp;omega]
  exact⟨acc,by simp[chk],by omega⟩
 |d+1,k,fuel+1,acc,c,hf,b=>by
  obtain⟨h,i,j,l⟩:=A2 a
  obtain⟨u,e,f⟩:=V0j g a d (k+1) fuel (acc ++ [(k:Int)]) (by omega) (by omega) (by simp;omega)
  rw[r6.eq_2,show decide (((k:Nat):Int)<g.2.1)=true by simp;omega,j1,show(g.1,g.2.1,g.2.2)=g from rfl,S7 g (by omega),oB,a]
  rw[if_pos (show(bif true then true else false)=true from rfl),D0 (by simp;omega),oB,P1 (show k<1000 by omega) (by omega),e]
  exact⟨u,rfl,f⟩
theorem W0j(f:j0)(n:Q0 f=true):∀(d k fuel:Nat) (g:j0) (u:List Int),k+d=40->d<fuel->Q0 g=true->u.length=g.2.1.toNat->g.2.1.toNat<=d+1 ->
  ∃ v,(p6 f.1 f.2.1 f.2.2 fuel u (k:Int) g.1 g.2.1 g.2.2).bind (λX=>i8 X (λx=>match x with|(a,b,c,e)=>some ((b,c,e),a)))=some (g05 d g,v)
 |d,k,0,g,u,q,hf,h,w,s=>by omega
 |0,k,fuel+1,g,u,q,hf,h,w,s=>by
  rw[p6.eq_2,show decide (((k:Nat):Int)<40)=false by simp;omega]
  exact⟨u,by simp[chk,i8,g05]⟩
 |d+1,k,fuel+1,g,u,q,hf,h,w,s=>by
  obtain⟨G,H,I,J⟩:=A2 n
  obtain⟨K,L,M,O⟩:=A2 h
  have B:=l0p g h
  rw[p6.eq_2,show decide (((k:Nat):Int)<40)=true by simp;omega,j1,show(f.1,f.2.1,f.2.2)=f from rfl,S7 f (by omega),oB,n]
  rw[if_pos (show(bif true then true else false)=true from rfl),show(g.1,g.2.1,g.2.2)=g from rfl,B]
  unfold g05
  cases e:G9 g with
  |none =>
   simp only[oB]
   rw[D0 (show H0 (-1) from⟨by omega,by omega⟩),oB,if_pos (by simp)]
   exact⟨u,rfl⟩
  |some j =>
   obtain⟨o,y,m,A⟩:=d0c h e
   have F:=k0i e
   obtain⟨N,l⟩:∃ N:Nat,g.2.1=(N:Int):=⟨g.2.1.toNat,by omega⟩
   have i:g.2.1.toNat=N:=by omega
   obtain⟨v,D,E⟩:=Y0e N j (by omega) u (by omega) N 0 P0 [] [] (by omega) (W0 (by omega)) (Nat.le_refl _) (Nat.le_refl _)
   have t:=L09 g.1 N g.2.2 (wo j N 0) (by rw[←l];exact h) (by rw[←i];exact o) (i08 _ _ _) (by rw[←i];exact m) (by rw[←i];omega)
   rw[←l,show(g.1,g.2.1,g.2.2)=g from rfl]at t
   have p:=N09 h o m A
   rw[i]at p y m
   obtain⟨C,z⟩:=W0j f n d (k+1) fuel (w8 g (wo j N 0)) v (by omega) (by omega) p (by simp only[List.nil_append,List.length_nil]at E;show v.length=((wo j N 0).length:Int).toNat;omega) (by show((wo j N 0).length:Int).toNat<=d+1;omega)
   simp only[oB]
   rw[D0 (show H0 ((j:Nat):Int) from⟨by omega,by omega⟩),oB,if_neg (by simp),l,show(0:Int)=((0:Nat):Int) from rfl,D]
   simp only[oB,List.nil_append]
   rw[←l,t]
   simp only[oB]
   rw[P1 (show k<1000 by omega) (by omega),i]
   exact⟨C,z⟩
def T05(g:j0):j0:=g05 40 g
theorem Z0e{g:j0}(a:Q0 g=true):∃ v,V00 g=some (T05 g,v):=by
 obtain⟨f,h,i,j⟩:=A2 a
 have e:=X01 g (by omega)
 obtain⟨u,b,d⟩:=V0j g a g.2.1.toNat 0 P0 [] (by omega) (W0 (by omega)) rfl
 obtain⟨v,c⟩:=W0j g a 40 0 P0 g u rfl (W0 (by omega)) a d (by omega)
 refine⟨v,?_⟩
 obtain⟨r,n,es⟩:=g
 unfold V00
 simp only[e,oB]
 simp only at b c
 rw[show(0:Int)=((0:Nat):Int) from rfl,b,oB]
 exact c
theorem X0j:∀(n fuel d:Nat) (left:List Int) (r:Int) (es:List J0),1<=n->n<=40->inN n es->es.length<=120->left.length=n->n<fuel->n<=d+1 ->
  ∃ i,E5 fuel left r (n:Int) es=some (.inl (g05 d (r,(n:Int),es),i))
 |n,0,d,left,r,es,j,l,b,B,C,hf,A=>by omega
 |n,fuel+1,d,left,r,es,j,l,b,B,C,hf,A=>by
  obtain⟨c,x,G,y⟩:=B0j r n es b (by omega) j (by omega)
  have t:=c0i r n es (by omega) c G l (n-1) 1 P0 (Nat.le_refl _) (by omega) (by omega) (W0 (by omega))
  have z:lf (λv=>decide (s03 (v:Int) es<2) || !P9 c (v:Int)) (n-1) 1=lf (Y0b es) (n-1) 1:=T0e _ _ λk I J=>by
   unfold Y0b
   have:=y (k:Int) (by omega) (by omega)
   have m:=R0a es 0 (k:Int)
   congr 2
   cases hb:P9 c (k:Int)
   ·symm;exact decide_eq_false λh=>by rw[this.2 (m.1 h)]at hb;cases hb
   ·symm;exact decide_eq_true (m.2 (this.1 hb))
  rw[z]at t
  have o:G9 (r,(n:Int),es)=lf (Y0b es) (n-1) 1:=by simp only[G9,Int.toNat_natCast]
  rw[E5.eq_2,x,oB,show(1:Int)=((1:Nat):Int) from rfl,t,oB]
  cases hlf:lf (Y0b es) (n-1) 1 with
  |none =>
   have e:g05 d (r,(n:Int),es)=(r,(n:Int),es):=by
    cases d with
    |zero=>rfl
    |succ d=>unfold g05;rw[o,hlf]
   rw[e]
   exact⟨left,by rw[if_pos (by rfl)]⟩
  |some k =>
   have H:=c08 _ _ _ hlf
   have w:decide ((k:Int)=0)=false:=decide_eq_false (by omega)
   have p:=G0j k n n 0 (by omega)
   have g:=U0e k n 0
   rw[if_pos (by omega)]at g
   have s:=d0i n k (by omega) n 0 P0 [] (by omega) (W0 (by omega)) (Nat.le_refl _)
   rw[show((0:Nat):Int)=0 from rfl,List.nil_append]at s
   have D:=Z0h r n es (wo k n 0) b p (by omega) (by omega) (by omega)
   have E:=K09 (r,(n:Int),es) (wo k n 0)
   have q:=I0g (r:=r) p b
   have F:IntKind.i64.wrap ((k:Int)+((1:Nat):Int))=((k+1:Nat):Int):=by rw[w64 (by omega) (by omega)];rfl
   obtain⟨a,rfl⟩:∃ a,d=a+1:=⟨d-1,by omega⟩
   have f:w8 (r,(n:Int),es) (wo k n 0)=(r,((n-1:Nat):Int),(w8 (r,(n:Int),es) (wo k n 0)).2.2):=by rw[←g];rfl
   obtain⟨i,u⟩:=X0j (n-1) fuel a (left.take k++left.drop (k+1)) r (w8 (r,(n:Int),es) (wo k n 0)).2.2 (by omega) (by omega) (by rw[g]at q;exact q) (by simp only at E;omega) (by simp only[List.length_append,List.length_take,List.length_drop];omega) (by omega) (by omega)
   refine⟨i,?_⟩
   rw[←f]at u
   have e:g05 (a+1) (r,(n:Int),es)=g05 a (w8 (r,(n:Int),es) (wo k n 0)):=by
    show(match G9 (r,(n:Int),es)with|none=>(r,(n:Int),es)|some k=>g05 a (w8 (r,(n:Int),es) (wo k ((n:Int)).toNat 0)))=_
    rw[o,hlf,Int.toNat_natCast]
   rw[e]
   simp only[w,Bool.false_eq_true,if_false,s,oB,D]
   generalize w8 (r,(n:Int),es) (wo k n 0)=gp at *
   rw[f]
   simp only[F]
   rw[d08 (by omega),oB,U02 (by omega),oB,D0 (by simp only[List.length_take,List.length_drop];omega),oB,u,←f]
theorem P0c{g:j0}(f:Q0 g=true):∃ v,G7 g=some (T05 g,v):=by
 obtain⟨b,i,j,c⟩:=A2 f
 have m:=H00 g (by omega)
 have k:=e01 g (by omega)
 obtain⟨r,n,es⟩:=g
 simp only at i j c
 obtain⟨N,rfl⟩:∃ N:Nat,n=(N:Int):=⟨n.toNat,by omega⟩
 have l:inN N es:=λe d=>⟨(b e d).1,(b e d).2.1⟩
 obtain⟨u,a,h⟩:=e0i N (by omega) N 0 P0 [] (by omega) (W0 (by omega)) rfl
 obtain⟨o,p⟩:=X0j N P0 40 u r es (by omega) (by omega) l c h (W0 (by omega)) (by omega)
 refine⟨o,?_⟩
 unfold G7
 rw[show((0:Nat):Int)=0 from rfl]at a
 simp only[k,oB,m,f,Bool.not_true,Bool.false_eq_true,if_false,a,p,i8]
 rfl
def e0c(g:j0):j0:=Z2 (T05 g)
theorem W0a{g:j0}(hf:K0 g=true):Q9 g=(g,[]):=by
 obtain⟨a,b⟩:=(f05 g).1 hf
 unfold Q9
 rw[a]
 show I01 40 g=_
 unfold I01
 rw[b]
theorem m0l{g:j0}(hf:K0 g=true):L7 g=some (e0c g):=by
 have b:=Q3 hf
 obtain⟨e,f,h,i⟩:=A2 b
 have a:=l09 g (by omega)
 rw[W0a hf]at a
 obtain⟨v,c⟩:=Z0e b
 have d:=b08 (T05 g) (r02 40 hf)
 obtain⟨r,n,es⟩:=g
 unfold L7 e0c
 simp only[a,oB,c]
 simp only[d,oB]
theorem n0l{g:j0}(hf:K0 g=true):M7 g=some (e0c g):=by
 have b:=Q3 hf
 obtain⟨e,f,h,i⟩:=A2 b
 have a:=m09 g (by omega)
 rw[W0a hf]at a
 obtain⟨v,c⟩:=P0c b
 have d:=a08 (T05 g) (r02 40 hf)
 obtain⟨r,n,es⟩:=g
 unfold M7 e0c
 simp only[a,oB,c]
 simp only[d,oB]
theorem r0p{N r u x v:Int}(a:0<=u/\u<N)(b:0<=v/\v<N)(c:x≠0 /\ -r<=x/\x<=r):(0<=(stp u x v).1/\(stp u x v).1<N)/\(0<=(stp u x v).2.2/\(stp u x v).2.2<N)/\1<=(stp u x v).2.1/\(stp u x v).2.1<=r:=by
 unfold stp
 split<;>(simp only;omega)
theorem Y0j{N r v:Int}(f:0<=v/\v<N):∀(w:List Int) (u n:Int),(0<=u/\u<N)->0<=n->n+((w.length-1:Nat):Int)<=N->(∀ x∈w,x≠0 /\ -r<=x/\x<=r) ->
  ∀ e∈H02 v w u n,(0<=e.1/\e.1<N)/\(0<=e.2.2/\e.2.2<N)/\1<=e.2.1/\e.2.1<=r
 | [],u,n,c,h0,d,b,e,a=>nomatch a
 | [x],u,n,c,h0,d,b,e,a=>by
  simp only[H02,List.mem_singleton]at a
  subst a
  exact r0p c f (b x mS)
 |x::y::l,u,n,c,h0,d,b,e,a=>by
  simp only[List.length_cons]at d
  simp only[H02]at a
  rcases List.mem_cons.1 a with rfl|a
  ·exact r0p c ⟨h0,by omega⟩ (b x mS)
  ·exact Y0j f (y::l) n (n+1) ⟨h0,by omega⟩ (by omega) (by simp only[List.length_cons];omega) (λz g=>b z (mC _ g)) e a
theorem U05{g:j0}{u v:Int}{w:List Int}(b:Q0 g=true)(o:0<=u/\u<g.2.1)(p:0<=v/\v<g.2.1)(c:G2 g.1 w=true):Q0 (M4 g u w v).1=true:=by
 obtain⟨f,i,q,s,j⟩:=(A01 g).1 b
 obtain⟨t,k⟩:=T03 c
 unfold M4
 cases hc:(!w.isEmpty&&decide (g.2.1+(w.length:Int)-1<=40)&&decide (g.2.2.length+w.length<=120))with
 |false=>exact b
 |true =>
  simp only[Bool.and_eq_true,decide_eq_true_eq,Bool.not_eq_true',List.isEmpty_eq_false_iff]at hc
  have n:1<=w.length:=by
   have:=List.length_pos_iff.2 hc.1.1;omega
  have l:=Y01 (H02 v w u g.2.1) g.2.2
  have m:=N08 v w u g.2.1
  simp only[cond_true]
  refine(A01 _).2 ⟨λe a=>?_,i,⟨by simp only;omega,by simp only;omega⟩,by simp only;omega,R02 K6 _ _ j⟩
  simp only at a ⊢
  rcases(w9 K6 e _ _).1 a with h|h
  ·have:=f e h
   omega
  ·exact Y0j ⟨by omega,by omega⟩ w u g.2.1 ⟨by omega,by omega⟩ (by omega) (iR _) (λx d=>(k x d).2) e h
theorem c07(g:j0)(u:Int)(w:List Int)(v:Int):(M4 g u w v).1.1=g.1:=by
 unfold M4
 cases (!w.isEmpty&&decide (g.2.1+(w.length:Int)-1<=40)&&decide (g.2.2.length+w.length<=120))<;>rfl
def q09:List (List Int)->j0->j0
 | [],g=>g
 |w::r,g=>q09 r (M4 g 0 w 0).1
theorem Q0c:∀(ws:List (List Int)) {g:j0},Q0 g=true->(∀ w∈ws,G2 g.1 w=true)->Q0 (q09 ws g)=true
 | [],g,a,b=>a
 |w::r,g,a,b=>by
  obtain⟨e,f,h,i⟩:=A2 a
  exact Q0c r (U05 a ⟨iR _,by omega⟩ ⟨iR _,by omega⟩ (b w mS)) λd c=>by
   rw[c07];exact b d (mC _ c)
theorem Z0j{g:j0}{w:List Int}(a:Q0 g=true)(b:G2 g.1 w=true):m01 g w=some (M4 g 0 w 0):=by
 obtain⟨c,d,e,f⟩:=A2 a
 have h:=n09 a (u:=0) (v:=0) ⟨iR _,by omega⟩ ⟨iR _,by omega⟩ b
 obtain⟨r,n,es⟩:=g
 unfold m01
 simp only[h,oB]
theorem a0k{g:j0}{w:List Int}(a:Q0 g=true)(b:G2 g.1 w=true):q01 g w=some (M4 g 0 w 0):=by
 obtain⟨c,d,e,f⟩:=A2 a
 have h:=o09 a (u:=0) (v:=0) ⟨iR _,by omega⟩ ⟨iR _,by omega⟩ b
 obtain⟨r,n,es⟩:=g
 unfold q01
 simp only[h,oB]
theorem P0g(ws:List (List Int))(i:ws.length<=1000):∀(d k fuel:Nat) (g:j0),k+d=ws.length->d<fuel->Q0 g=true->(∀ w∈ws,G2 g.1 w=true) ->
  W6 ws fuel (k:Int) g.1 g.2.1 g.2.2=some (q09 (ws.drop k) g)
 |d,k,0,g,h,hf,a,b=>by omega
 |0,k,fuel+1,g,h,hf,a,b=>by
  rw[W6.eq_2,if_neg (by simp;omega),D1 (by omega)];rfl
 |d+1,k,fuel+1,g,h,hf,a,b=>by
  have c:k<ws.length:=by omega
  have f:=a5 c
  have e:=b _ (List.getElem_mem c)
  generalize ws[k]=w at f e
  obtain⟨l,m,n,o⟩:=A2 a
  have j:=P0g ws i d (k+1) fuel (M4 g 0 w 0).1 (by omega) (by omega) (U05 a ⟨iR _,by omega⟩ ⟨iR _,by omega⟩ e) (by rw[c07];exact b)
  rw[W6.eq_2,if_pos (by simp;omega),Z1 f,oB,show(g.1,g.2.1,g.2.2)=g from rfl,Z0j a e,oB,P1 c (by omega),G1 f]
  exact j
theorem Q0g(ws:List (List Int))(m:ws.length<=1000):∀(d k fuel:Nat) (g:j0),k+d=ws.length->d<fuel->Q0 g=true->(∀ w∈ws,G2 g.1 w=true) ->
  V5 ws fuel (k:Int) g.1 g.2.1 g.2.2=some (q09 (ws.drop k) g)
 |d,k,0,g,l,hf,a,b=>by omega
 |0,k,fuel+1,g,l,hf,a,b=>by
  rw[V5.eq_2,if_neg (by simp;omega),D1 (by omega)];rfl
 |d+1,k,fuel+1,g,l,hf,a,b=>by
  have f:k<ws.length:=by omega
  have i:=a5 f
  have h:=b _ (List.getElem_mem f)
  generalize ws[k]=w at i h
  obtain⟨n,o,p,q⟩:=A2 a
  have j:=Q0g ws m d (k+1) fuel (M4 g 0 w 0).1 (by omega) (by omega) (U05 a ⟨iR _,by omega⟩ ⟨iR _,by omega⟩ h) (by rw[c07];exact b)
  rw[V5.eq_2,if_pos (by simp;omega),Z1 i,oB,P1 f (by omega),G1 i]
  by_cases c:w = []
  ·subst c
   rw[if_neg (by simp)]
   have e:(M4 g 0 [] 0).1=g:=rfl
   rw[e]at j
   rw[j]
   show _=some (q09 (ws.drop (k+1)) (M4 g 0 [] 0).1)
   rw[e]
  ·have:0<w.length:=List.length_pos_iff.2 c
   rw[if_pos (by simp;omega),show(g.1,g.2.1,g.2.2)=g from rfl,a0k a h,oB]
   exact j
def w06(r:Int)(ws:List (List Int)):j0×Bool:=bif S5 r ws then(q09 ws (r,1,[]),true)else((0,0,[]),false)
theorem x06{r:Int}{ws:List (List Int)}(h:S5 r ws=true):(1<=r/\r<=3)/\ws.length<=6/\∀ w∈ws,G2 r w=true:=by
 simp only[S5,inR,Bool.and_eq_true,decide_eq_true_eq]at h
 refine⟨h.1.1.1,h.1.1.2,?_⟩
 have a:∀ {ws:List (List Int)},a0d r ws=true->∀ w∈ws,G2 r w=true:=by
  intro ws
  induction ws with
  |nil=>intro _ w a;cases a
  |cons v l b =>
   intro h w a
   simp only[a0d,Bool.and_eq_true]at h
   rcases List.mem_cons.1 a with rfl|a
   ·exact h.1
   ·exact b h.2 w a
 exact a h.1.2
theorem f0c{r:Int}(b:1<=r/\r<=3):Q0 (r,1,[])=true:=(A01 _).2 ⟨(λe a=>by cases a),b,⟨by simp,by simp⟩,by simp,List.Pairwise.nil⟩
theorem l0i(r:Int)(ws:List (List Int))(c:ws.length<=140737488355328)(e:V7 ws):n01 r ws=some (w06 r ws):=by
 have a:=V07 r ws c e
 unfold n01 w06
 rw[a,oB]
 cases hA:S5 r ws with
 |false=>rfl
 |true =>
  obtain⟨d,g,f⟩:=x06 hA
  have h:=P0g ws (by omega) ws.length 0 P0 (r,1,[]) (by omega) (W0 (by omega)) (f0c d) f
  have b:l01 r=some ((r,1,[]),true):=by
   unfold l01
   rw[d01,oB,if_neg (by simp[inR];omega)]
  rw[if_neg (by simp),b,oB]
  simp only[]at h ⊢
  rw[show(0:Int)=((0:Nat):Int) from rfl,h]
  rfl
theorem m0i(r:Int)(ws:List (List Int))(c:ws.length<=140737488355328)(e:V7 ws):r01 r ws=some (w06 r ws):=by
 have a:=W07 r ws c e
 unfold r01 w06
 rw[a,oB]
 cases hA:S5 r ws with
 |false=>rfl
 |true =>
  obtain⟨d,g,f⟩:=x06 hA
  have h:=Q0g ws (by omega) ws.length 0 P0 (r,1,[]) (by omega) (W0 (by omega)) (f0c d) f
  have b:p01 r=some ((r,1,[]),true):=by
   unfold p01
   rw[W01,oB,if_neg (by simp[inR];omega)]
  rw[if_neg (by simp),b,oB]
  simp only[]at h ⊢
  rw[show(0:Int)=((0:Nat):Int) from rfl,h]
  rfl
theorem a0f:∀(d:Nat) {g:j0},Q0 g=true->g.2.1.toNat<=d+1->G9 (g05 d g)=none
 |0,g,a,h=>by
  cases e:G9 g with
  |none=>exact e
  |some k=>have:=k0i e;omega
 |d+1,g,a,h=>by
  unfold g05
  cases e:G9 g with
  |none=>exact e
  |some k =>
   obtain⟨b,i,c,f⟩:=d0c a e
   exact a0f d (N09 a b c f) (by show(((wo k g.2.1.toNat 0).length:Nat):Int).toNat<=d+1;omega)
theorem w0n{g:j0}(hf:K0 g=true){v x y z:Int}(q:y∈a00 v x g.2.2)(s:z∈a00 v x g.2.2):y=z:=by
 obtain⟨e,o,l⟩:=W7.1 q
 obtain⟨k,p,m⟩:=W7.1 s
 by_cases hne:e=k
 ·subst hne
  rcases l with⟨a,b,c,rfl⟩|⟨a,b,c,rfl⟩<;>rcases m with⟨h,i,j,rfl⟩|⟨h,i,j,rfl⟩<;>first|rfl|omega
 ·have f:=(c0c (Q3 hf)).1 hf e o k p hne
  unfold c05 at f
  simp only[Bool.and_eq_false_iff,Bool.or_eq_false_iff,decide_eq_false_iff_not]at f
  rcases l with⟨a,b,c,d⟩|⟨a,b,c,d⟩<;>rcases m with⟨h,i,j,n⟩|⟨h,i,j,n⟩<;>first|omega|(exfalso;rcases f with f|⟨t,u⟩<;>omega)
theorem d07(g:j0)(v x:Int):(U0 g v x = -1/\a00 v x g.2.2 = [])∨U0 g v x∈a00 v x g.2.2:=by
 unfold U0
 cases e:L02 g v x with
 |nil =>
  left
  refine⟨rfl,List.eq_nil_iff_forall_not_mem.2 λy b=>?_⟩
  have:y∈L02 g v x:=(w9 E02 y _ _).2 (.inr b)
  rw[e]at this;cases this
 |cons a l=>exact .inr (y0g (by rw[e];exact mS))
theorem X0a{g:j0}(hf:K0 g=true){v x y:Int}(a:y∈a00 v x g.2.2):U0 g v x=y:=by
 rcases d07 g v x with⟨_,h⟩|h
 ·rw[h]at a;cases a
 ·exact w0n hf h a
theorem b0k:∀(d i j:Nat),i<=j->j<i+d->(j:Int)∈G5 d i /\ -(j:Int)∈G5 d i
 |0,i,j,e,f=>by omega
 |d+1,i,j,e,f=>by
  simp only[G5,List.mem_cons]
  by_cases c:j=i
  ·subst c;simp
  ·obtain⟨a,b⟩:=b0k d (i+1) j (by omega) (by omega)
   exact⟨.inr (.inr a),.inr (.inr b)⟩
theorem R0g(g:j0)(v:Int):∀(b u:List Int) (x:Int),x∈b->0<=U0 g v x->U0 g v x∈G02 g v b u
 |y::r,u,x,a,h0=>by
  rw[G02]
  rcases List.mem_cons.1 a with rfl|a
  ·obtain⟨t,e⟩:=c03 g v r (r07 u (U0 g v x))
   rw[e]
   refine List.mem_append_left _ ?_
   unfold r07
   split
   ·exact List.mem_append_right _ (List.mem_singleton.2 rfl)
   ·rename_i h
    by_cases hm:U0 g v x∈u
    ·exact hm
    ·exact absurd ⟨h0,hm⟩ h
  ·exact R0g g v r _ x a h0
theorem O09(g:j0)(a:List Int):∀(f i:Nat) (u:List Int),∃ t,W8 g a f i u=u++t
 |0,i,u=>⟨[],by simp[W8]⟩
 |f+1,i,u=>by
  unfold W8
  split
  ·rename_i v _
   obtain⟨d,b⟩:=c03 g v a u
   obtain⟨e,c⟩:=O09 g a f (i+1) (G02 g v a u)
   exact⟨d++e,by rw[c,b,List.append_assoc]⟩
  ·exact⟨[],by simp⟩
theorem b0f{r:Int}{n:Nat}{es:List J0}(m:inG (r,(n:Int),es))(a:List Int):∀(f i:Nat) (u:List Int),gud n u->n+1<=f+i->i<=u.length ->
  (∀ j,j<i->∀ v,u[j]?=some v->∀ x∈a,0<=U0 (r,(n:Int),es) v x->U0 (r,(n:Int),es) v x∈u) ->
  ∀ v∈W8 (r,(n:Int),es) a f i u,∀ x∈a,0<=U0 (r,(n:Int),es) v x->U0 (r,(n:Int),es) v x∈W8 (r,(n:Int),es) a f i u
 |0,i,u,g,q,o,k=>by have:=z9 n u g.1 g.2;omega
 |f+1,i,u,g,q,o,k=>by
  unfold W8
  cases e:u[i]? with
  |none =>
   have:i=u.length:=by have:=List.getElem?_eq_none_iff.1 e;omega
   show ∀ v∈u,∀ x∈a,0<=U0 (r,(n:Int),es) v x->U0 (r,(n:Int),es) v x∈u
   intro v b x h h0
   obtain⟨j,l⟩:=List.getElem?_of_mem b
   exact k j (by have:=(List.getElem?_eq_some_iff.1 l).1;omega) v l x h h0
  |some w =>
   have p:=(List.getElem?_eq_some_iff.1 e).1
   obtain⟨t,d⟩:=c03 (r,(n:Int),es) w a u
   refine b0f m a f (i+1) _ (G04 m w a u g) (by omega) (by rw[d,List.length_append];omega) λj l v b x h h0=>?_
   by_cases c:j=i
   ·subst c
    rw[d,List.getElem?_append_left p,e]at b
    cases b
    exact R0g _ _ a u x h h0
   ·rw[d,List.getElem?_append_left (by omega)]at b
    rw[d]
    exact List.mem_append_left _ (k j (by omega) v b x h h0)
theorem c0f(g:j0):∃ t,U5 g=0::t:=by
 obtain⟨t,e⟩:=O09 g (G5 g.1.toNat 1) (g.2.1.toNat+1) 0 [0]
 exact⟨t,e⟩
theorem c0k{g:j0}(hf:K0 g=true){x:Int}(h:Rch g.2.2 0 x):x∈U5 g:=by
 obtain⟨l,q,s,w⟩:=C1 hf
 have m:=c0f g
 have c:∀ v∈U5 g,∀ x∈G5 g.1.toNat 1,0<=U0 g v x->U0 g v x∈U5 g:=by
  obtain⟨r,n,es⟩:=g
  simp only at q s
  obtain⟨N,rfl⟩:∃ N:Nat,n=(N:Int):=⟨n.toNat,by omega⟩
  exact b0f l _ (((N:Int)).toNat+1) 0 [0] ⟨by simp,λx f=>by simp at f;subst f;omega⟩ (by simp only[Int.toNat_natCast];omega) (Nat.zero_le _) (λj d=>by omega)
 refine Rch.sub (P:=λx=>x∈U5 g) ?_ (λe b=>?_) h
 ·obtain⟨t,e⟩:=m
  rw[e];exact mS
 ·have u:=l e b
  obtain⟨j,d⟩:∃ j:Nat,e.2.1=(j:Int):=⟨e.2.1.toNat,by omega⟩
  obtain⟨o,p⟩:=b0k g.1.toNat 1 j (by omega) (by omega)
  have i:U0 g e.1 (j:Int)=e.2.2:=X0a hf (W7.2 ⟨e,b,.inl ⟨by omega,d,rfl,rfl⟩⟩)
  have k:U0 g e.2.2 (-(j:Int))=e.1:=X0a hf (W7.2 ⟨e,b,.inr ⟨by omega,by omega,rfl,rfl⟩⟩)
  constructor
  ·intro a
   have:=c e.1 a (j:Int) o (by rw[i];omega)
   rwa [i]at this
  ·intro a
   have:=c e.2.2 a (-(j:Int)) p (by rw[k];omega)
   rwa [k]at this
theorem n0i{a:Nat->Bool}:∀ {d v:Nat},lf a d v=none->∀ k,v<=k->k<v+d->a k=false
 |0,v,h,k,b,e=>by omega
 |d+1,v,h,k,b,e=>by
  unfold lf at h
  cases hb:a v with
  |true=>rw[hb]at h;cases h
  |false =>
   rw[hb]at h
   by_cases c:k=v
   ·rw[c];exact hb
   ·exact n0i (d:=d) (v:=v+1) h k (by omega) (by omega)
theorem d0f{a:Nat->Bool}:∀ {d v:Nat},(∀ k,v<=k->k<v+d->a k=false)->lf a d v=none
 |0,v,h=>rfl
 |d+1,v,h=>by
  unfold lf
  rw[h v (Nat.le_refl _) (by omega)]
  exact d0f λk b c=>h k (by omega) (by omega)
theorem S0g{g:j0}(hf:K0 g=true)(b:G9 g=none){x:Int}(h0:0<=x)(d:x<g.2.1):x∈U5 g:=by
 refine c0k hf ?_
 by_cases c:x=0
 ·subst c;exact .base
 ·have:=n0i b x.toNat (by omega) (by omega)
  unfold Y0b at this
  simp only[Bool.or_eq_false_iff,Bool.not_eq_false',decide_eq_true_eq]at this
  have a:=this.2
  rw[show((x.toNat:Nat):Int)=x by omega]at a
  exact(R0a _ _ _).1 a
theorem T0g{n:Nat}:∀(o:List Int) (k:Nat) (A:List Int),A.length=n->inV n o->o.Nodup->∀(i:Nat) (v:Int),o[i]?=some v->getI (f01 A k o) v=((k+i:Nat):Int)
 | [],k,A,c,b,f,i,v,a=>by simp at a
 |w::r,k,A,c,b,f,i,v,a=>by
  have e:=b w mS
  obtain⟨g,h⟩:=List.nodup_cons.1 f
  cases i with
  |zero =>
   simp at a;subst a
   rw[f01,P0e r _ _ w (by simp[c]) (λu d=>b u (mC _ d)) e.1 g,i04 e.1 (by omega) e.1,if_pos rfl];rfl
  |succ i =>
   rw[f01,T0g r (k+1) _ (by simp[c]) (λu d=>b u (mC _ d)) h i v (by simpa using a)]
   omega
theorem s0p{n:Nat}{o:List Int}(c:inV n o)(a:o.Nodup){i:Nat}{v:Int}(b:o[i]?=some v):getI (plc n o) v=(i:Int):=by
 have:=T0g o 0 (List.replicate n (-1)) (by simp) c a i v b
 rw[Nat.zero_add]at this;exact this
theorem o0l(P:List Int):∀(es:List J0),(∀ e∈es,0<=getI P e.1/\0<=getI P e.2.2)->pE P es=es.map λe=>(getI P e.1,e.2.1,getI P e.2.2)
 | [],h=>rfl
 |e::r,h=>by
  have a:=h e mS
  unfold pE
  rw[show(decide (0<=getI P e.1)&&decide (0<=getI P e.2.2))=true by simp[a.1,a.2],o0l P r λb c=>h b (mC _ c)]
  rfl
theorem U0g(e:J0):∀ {l:List J0},e ∉ l->(t00 O0 e l).Perm (e::l)
 | [],_=>List.Perm.refl _
 |y::l,h=>by
  have d:=U0g e (l:=l) λb=>h (mC _ b)
  unfold t00
  split
  ·exact List.Perm.refl _
  ·split
   ·rename_i c
    exact absurd (K6.eq _ _ c) λa=>h (by rw[a];exact mS)
   ·exact(List.Perm.cons y d).trans (List.Perm.swap e y l)
theorem R0c:∀(r acc:List J0),(acc++r).Nodup->(w5 O0 acc r).Perm (acc++r)
 | [],acc,h=>by simp[w5]
 |x::r,acc,h=>by
  have a:(acc++x::r).Perm (x::(acc++r)):=List.perm_middle
  have b:=a.nodup_iff.1 h
  have f:x ∉ acc:=λd=>(List.nodup_cons.1 b).1 (List.mem_append_left _ d)
  have e:=U0g x f
  have c:(t00 O0 x acc++r).Perm (x::(acc++r)):=e.append_right r
  rw[w5]
  exact((R0c r _ (c.nodup_iff.2 b)).trans c).trans a.symm
theorem x0n(v:Int){l a:List J0}(h:l.Perm a):s03 v l=s03 v a:=by
 induction h with
 |nil=>rfl
 |cons x _ d=>simp only[s03,d]
 |swap x y l=>simp only[s03];omega
 |trans _ _ b c=>rw[b,c]
theorem d0k{a:Int->Int}{v:Int}:∀(es:List J0),(∀ e∈es,(a e.1=a v↔e.1=v)/\(a e.2.2=a v↔e.2.2=v))->s03 (a v) (es.map λe=>(a e.1,e.2.1,a e.2.2))=s03 v es
 | [],h=>rfl
 |e::r,h=>by
  obtain⟨b,d⟩:=h e mS
  have i:=d0k r λf g=>h f (mC _ g)
  simp only[List.map_cons,s03,i,a0p]
  congr 2
  ·by_cases c:e.1=v
   ·rw[if_pos (b.2 c),if_pos c]
   ·rw[if_neg λq=>c (b.1 q),if_neg c]
  ·by_cases c:e.2.2=v
   ·rw[if_pos (d.2 c),if_pos c]
   ·rw[if_neg λq=>c (d.1 q),if_neg c]
theorem t0p:∀(m:Nat) (o:List Int),(∀ i:Nat,i<m->(i:Int)∈o)->m<=o.length
 |0,o,h=>Nat.zero_le _
 |m+1,o,h=>by
  have a:=h m (by omega)
  have b:=t0p m (o.erase (m:Int)) λi c=>(List.mem_erase_of_ne (by omega)).2 (h i (by omega))
  rw[List.length_erase_of_mem a]at b
  have:=List.length_pos_of_mem a
  omega
theorem y0n{es:List J0}(c:Asc O0 es):es.Nodup:=by
 refine List.Pairwise.imp (λ{a b} h e=>?_) c
 rw[e,K6.refl]at h;omega
theorem e0k{es:List J0}(a:Asc O0 es):w5 O0 [] es=es :=
 I09 K6 (R02 K6 _ _ .nil) a λx=>by rw[w9 K6];simp
theorem p0l{t:j0}(hf:K0 t=true)(ab:G9 t=none):M1 (Z2 t)=true:=by
 have av:=Q3 hf
 obtain⟨A,aT,aU,aV⟩:=C1 hf
 have ak:=b0c av
 obtain⟨⟨M,G⟩,aE⟩:=M08 hf
 have aB:=z9 _ _ M G
 have Y:∀ x:Int,0<=x->x<t.2.1->x∈U5 t:=λx h0 d=>S0g hf ab h0 d
 obtain⟨aW,aK⟩:=c0f t
 obtain⟨n,ad⟩:∃ n:Nat,t.2.1=(n:Int):=⟨t.2.1.toNat,by omega⟩
 have Q:t.2.1.toNat=n:=by omega
 rw[Q]at G aB
 have ag:(U5 t).length=n:=by
  have:=t0p n (U5 t) λi F=>Y _ (by omega) (by omega)
  omega
 let P:Int->Int:=getI (plc n (U5 t))
 have K:∀(i:Nat) (v:Int),(U5 t)[i]?=some v->P v=(i:Int):=λi v F=>s0p G M F
 have L:∀ x:Int,0<=x->x<t.2.1->0<=P x/\P x<(n:Int):=λx h0 d=>by
  obtain⟨i,F⟩:=List.getElem?_of_mem (Y x h0 d)
  have:=(List.getElem?_eq_some_iff.1 F).1
  rw[K i x F];omega
 have B:∀ x y:Int,0<=x->x<t.2.1->0<=y->y<t.2.1->P x=P y->x=y:=λx y h0 d p aQ h=>j0i G M h0 p (L x h0 d).1 h
 have S:P 0=0:=K 0 0 (by rw[aK];rfl)
 have aF:pE (plc n (U5 t)) t.2.2=t.2.2.map λe=>(P e.1,e.2.1,P e.2.2):=o0l _ _ λe g=>by
  have:=A e g
  exact⟨(L e.1 this.1.1 this.1.2).1,(L e.2.2 this.2.1.1 this.2.1.2).1⟩
 have J:Z2 t=(t.1,(n:Int),w5 O0 [] (t.2.2.map λe=>(P e.1,e.2.1,P e.2.2))):=by
  unfold Z2 w8
  rw[Q,aF,ag]
 have ay:∀ e∈t.2.2,∀ j∈t.2.2,((P e.1,e.2.1,P e.2.2):J0)=(P j.1,j.2.1,P j.2.2)->e=j:=λe g j U h=>by
  have a:=A e g
  have b:=A j U
  simp only[Prod.mk.injEq]at h
  have d:=B _ _ a.1.1 a.1.2 b.1.1 b.1.2 h.1
  have p:=B _ _ a.2.1.1 a.2.1.2 b.2.1.1 b.2.1.2 h.2.2
  obtain⟨aN,H,X⟩:=e
  obtain⟨aO,aP,f2⟩:=j
  simp only at d p h
  rw[d,p,h.2.1]
 have aD:(t.2.2.map λe=>((P e.1,e.2.1,P e.2.2):J0)).Nodup:=by
  have:=y0n ak
  rw[List.Nodup,List.pairwise_map]
  exact List.Pairwise.imp_of_mem (λ{a b} ao C h e=>h (ay a ao b C e)) this
 have O:∀ j,j∈(Z2 t).2.2↔∃ e∈t.2.2,j=(P e.1,e.2.1,P e.2.2):=λj=>by
  rw[J]
  simp only
  rw[w9 K6]
  simp only[List.not_mem_nil,false_or,List.mem_map]
  exact⟨λ⟨e,d,p⟩=>⟨e,d,p.symm⟩,λ⟨e,d,p⟩=>⟨e,d,p.symm⟩⟩
 have I:K0 (Z2 t)=true:=j08 hf (by rw[Q];exact G) M aE (by omega)
 have Z:=Q3 I
 have D:(Z2 t).2.1=(n:Int):=by rw[J]
 have ar:∀ v:Int,0<=v->v<t.2.1->s03 (P v) (Z2 t).2.2=s03 v t.2.2:=λv h0 d=>by
  rw[J]
  simp only
  rw[x0n _ (R0c _ [] (by simpa using aD)),List.nil_append]
  refine d0k _ λe g=>?_
  have:=A e g
  exact⟨⟨λh=>B _ _ this.1.1 this.1.2 h0 d h,λh=>by rw[h]⟩,⟨λh=>B _ _ this.2.1.1 this.2.1.2 h0 d h,λh=>by rw[h]⟩⟩
 have aH:∀ x,Rch t.2.2 0 x->Rch (Z2 t).2.2 0 (P x):=λx s =>
  Rch.sub (P:=λx=>Rch (Z2 t).2.2 0 (P x)) (by show Rch _ 0 (P 0);rw[S];exact .base) (λe g=>Rch.closed (P e.1,e.2.1,P e.2.2) ((O _).2 ⟨e,g,rfl⟩)) s
 have aA:G9 (Z2 t)=none:=by
  unfold G9
  refine d0f λk aS aL=>?_
  rw[D,Int.toNat_natCast]at aL
  obtain⟨v,w⟩:∃ v,(U5 t)[k]?=some v:=⟨_,List.getElem?_eq_getElem (by omega)⟩
  have aJ:=G v (List.mem_of_getElem? w)
  have T:=K k v w
  have aR:v≠0:=λh=>by rw[h,S]at T;omega
  have C:=n0i ab v.toNat (by omega) (by omega)
  unfold Y0b at C ⊢
  rw[show((v.toNat:Nat):Int)=v by omega]at C
  simp only[Bool.or_eq_false_iff,Bool.not_eq_false',decide_eq_true_eq,decide_eq_false_iff_not]at C ⊢
  refine⟨?_,?_⟩
  ·rw[←T,ar v aJ.1 (by omega)];exact C.1
  ·rw[←T]
   exact(R0a _ _ _).2 (aH v ((R0a _ _ _).1 C.2))
 have ae:∀ v x:Int,0<=v->v<t.2.1->(U0 t v x = -1/\U0 (Z2 t) (P v) x = -1)∨((0<=U0 t v x/\U0 t v x<t.2.1)/\U0 (Z2 t) (P v) x=P (U0 t v x)):=λv x h0 d=>by
  rcases d07 t v x with⟨H,X⟩|H
  ·left
   refine⟨H,?_⟩
   rcases d07 (Z2 t) (P v) x with⟨R,aM⟩|R
   ·exact R
   ·exfalso
    obtain⟨j,U,V⟩:=W7.1 R
    obtain⟨e,g,rfl⟩:=(O j).1 U
    have E:=A e g
    have:∃ y,y∈a00 v x t.2.2:=by
     rcases V with⟨a,b,c,_⟩|⟨a,b,c,_⟩
     ·exact⟨_,W7.2 ⟨e,g,.inl ⟨a,b,B _ _ E.1.1 E.1.2 h0 d c,rfl⟩⟩⟩
     ·exact⟨_,W7.2 ⟨e,g,.inr ⟨a,b,B _ _ E.2.1.1 E.2.1.2 h0 d c,rfl⟩⟩⟩
    obtain⟨y,ai⟩:=this
    rw[X]at ai;cases ai
  ·right
   generalize U0 t v x=y at H
   obtain⟨e,g,V⟩:=W7.1 H
   have E:=A e g
   rcases V with⟨a,b,c,rfl⟩|⟨a,b,c,rfl⟩
   ·exact⟨E.2.1,X0a I (W7.2 ⟨_,(O _).2 ⟨e,g,rfl⟩,.inl ⟨a,b,by show P e.1=P v;rw[c],rfl⟩⟩)⟩
   ·exact⟨E.1,X0a I (W7.2 ⟨_,(O _).2 ⟨e,g,rfl⟩,.inr ⟨a,b,by show P e.2.2=P v;rw[c],rfl⟩⟩)⟩
 have aj:∀ u:List Int,gud n u->∀ x∈u,0<=x/\x<t.2.1:=λu o x s=>by have:=o.2 x s;omega
 have ax:inG (t.1,(n:Int),t.2.2):=by
  have:=A
  intro e g
  have:=A e g
  rw[ad]at this;exact this
 have au:(t.1,(n:Int),t.2.2)=t:=by
  rw[←ad]
 have an:∀(u:List Int) (y z:Int),gud n u->(y = -1/\z = -1)∨((0<=y/\y<t.2.1)/\z=P y)->r07 (u.map P) z=(r07 u y).map P:=λu y z o h=>by
  unfold r07
  rcases h with⟨rfl,rfl⟩|⟨⟨h0,d⟩,rfl⟩
  ·rw[if_neg (by omega),if_neg (by omega)]
  ·have ac:P y∈u.map P↔y∈u:=by
    constructor
    ·intro h
     obtain⟨x,s,e⟩:=List.mem_map.1 h
     have:=aj u o x s
     rw[←B x y this.1 this.2 h0 d e];exact s
    ·exact λh=>List.mem_map.2 ⟨y,h,rfl⟩
   by_cases c:y∈u
   ·rw[if_neg λq=>q.2 (ac.2 c),if_neg λq=>q.2 c]
   ·rw[if_pos ⟨(L y h0 d).1,λq=>c (ac.1 q)⟩,if_pos ⟨h0,c⟩];simp
 have al:∀(v:Int),0<=v->v<t.2.1->∀(m u:List Int),gud n u->G02 (Z2 t) (P v) m (u.map P)=(G02 t v m u).map P:=λv h0 d m=>by
  induction m with
  |nil=>intro u o;rfl
  |cons x l W =>
   intro u o
   have s:U0 t v x = -1∨(0<=U0 t v x/\U0 t v x<(n:Int)):=by
    rcases ae v x h0 d with⟨a,_⟩|⟨a,_⟩
    ·exact .inl a
    ·exact .inr (by omega)
   rw[G02,G02,an u _ _ o (ae v x h0 d),W _ (t0m o s)]
 have am:∀(f i:Nat) (u:List Int) (m:List Int),gud n u->W8 (Z2 t) m f i (u.map P)=(W8 t m f i u).map P:=λf=>by
  induction f with
  |zero=>intro i u m o;rfl
  |succ f W =>
   intro i u m o
   unfold W8
   rw[List.getElem?_map]
   cases e:u[i]? with
   |none=>rfl
   |some v =>
    have w:=aj u o v (List.mem_of_getElem? e)
    have aw:gud n (G02 t v m u):=by
     have:=G04 ax v m u o
     rw[au]at this;exact this
    simp only[Option.map_some]
    rw[al v w.1 w.2 m u o]
    exact W (i+1) _ m aw
 have ah:U5 (Z2 t)=(U5 t).map P:=by
  have d:(Z2 t).1=t.1:=by rw[J]
  have p:=am (n+1) 0 [0] (G5 t.1.toNat 1) ⟨by simp,λx s=>by simp at s;subst s;omega⟩
  rw[List.map_cons,List.map_nil,S]at p
  show W8 (Z2 t) (G5 (Z2 t).1.toNat 1) ((Z2 t).2.1.toNat+1) 0 [0]=(W8 t (G5 t.1.toNat 1) (t.2.1.toNat+1) 0 [0]).map P
  rw[d,D,Q,Int.toNat_natCast]
  exact p
 have az:∀ i:Nat,i<n->(U5 (Z2 t))[i]?=some (i:Int):=λi F=>by
  rw[ah,List.getElem?_map]
  obtain⟨v,w⟩:∃ v,(U5 t)[i]?=some v:=⟨_,List.getElem?_eq_getElem (by omega)⟩
  rw[w,Option.map_some,K i v w]
 obtain⟨⟨aq,af⟩,_⟩:=M08 I
 rw[D,Int.toNat_natCast]at af
 have N:∀ x:Int,0<=x->x<(n:Int)->getI (plc n (U5 (Z2 t))) x=x:=λx h0 d=>by
  have:=s0p af aq (az x.toNat (by omega))
  rw[show((x.toNat:Nat):Int)=x by omega]at this;exact this
 have aC:(U5 (Z2 t)).length=n:=by rw[ah,List.length_map,ag]
 have aa:=(A2 Z).1
 have ap:Z2 (Z2 t)=Z2 t:=by
  have aG:pE (plc n (U5 (Z2 t))) (Z2 t).2.2=(Z2 t).2.2:=by
   rw[o0l _ _ λe g=>by
    have:=aa e g
    rw[D]at this
    exact⟨by rw[N _ this.1.1 this.1.2];exact this.1.1,by rw[N _ this.2.1.1 this.2.1.2];exact this.2.1.1⟩]
   refine(List.map_congr_left λe g=>?_).trans (List.map_id _)
   have:=aa e g
   rw[D]at this
   rw[N _ this.1.1 this.1.2,N _ this.2.1.1 this.2.1.2];rfl
  show w8 (Z2 t) (U5 (Z2 t))=Z2 t
  unfold w8
  rw[D,Int.toNat_natCast,aG,e0k (b0c Z),aC]
  rw[←D]
 unfold M1
 rw[I,aA,ap]
 simp[G0e]
theorem z0n{g:j0}(hf:K0 g=true):M1 (e0c g)=true:=by
 have a:=Q3 hf
 have:=(A2 a).2.2.1
 exact p0l (r02 40 hf) (a0f 40 a (by omega))
theorem f0k{r:Int}{w:List Int}(h:G2 r w=true):∀ k,k<=w.length->V02 [] (w.take k)=(w.take k).reverse
 |0,_=>rfl
 |k+1,i=>by
  have g:=f0k h k (by omega)
  have b:=a5 (show k<w.length by omega)
  generalize w[k]=x at b
  have f:w.take (k+1)=w.take k ++ [x]:=k0m b
  rw[f,e0f,g,List.reverse_append]
  show z02 (w.take k).reverse x=x::(w.take k).reverse
  cases k with
  |zero=>rfl
  |succ j =>
   have c:=a5 (show j<w.length by omega)
   generalize w[j]=y at c
   rw[k0m c,List.reverse_append]
   show z02 (y::(w.take j).reverse) x=_
   have d:=h
   simp only[G2,Bool.and_eq_true,decide_eq_true_eq]at d
   have a:=K08 d.2 (j+1) (Nat.zero_le _) (by omega)
   unfold s04 at a
   rw[b]at a
   simp only[Nat.add_sub_cancel,c,Bool.or_eq_false_iff,show decide (0<j+1)=true by simp,Bool.true_and]at a
   have e:Y0a y x=false:=by unfold Y0a ng;rw[a.2,Bool.and_false]
   simp only[z02,e,cond_false]
   rfl
theorem g0f{r:Int}{w:List Int}(h:G2 r w=true):(V02 [] w).reverse=w:=by
 have:=f0k h w.length (Nat.le_refl _)
 rw[List.take_length]at this
 rw[this,List.reverse_reverse]
def s00(g:j0)(w:List Int):Bool:=decide ((C2 g 0 w).2=w.length)&&decide ((C2 g 0 w).1=0)
theorem R4{g:j0}(h:M1 g=true):K0 g=true:=by
 unfold M1 at h
 simp only[Bool.and_eq_true]at h
 exact h.1
theorem k08{r:Int}{g:j0}{w:List Int}(i:M1 g=true)(j:G2 r w=true):A9 g w=some (s00 g w):=by
 have hf:=R4 i
 obtain⟨o,s,p,t⟩:=C1 hf
 obtain⟨u,k⟩:=T03 j
 have f:=A02 w (λx e=>(k x e).1.1) (by omega)
 rw[g0f j]at f
 have l:=Z0o g hf 0 ⟨iR _,by omega⟩ w (λx e=>(k x e).1) (by omega)
 have m:=b07 g (by omega)
 have h:O2 g=some true:=by
  obtain⟨a,b,c⟩:=g
  unfold O2
  simp only[m,i,oB]
 have n:=X07 o p.2 w 0 ⟨by omega,by omega⟩
 have q:=d05 g w 0
 unfold s00
 obtain⟨a,b,c⟩:=g
 unfold A9
 simp only[f,oB,l]
 by_cases d:(C2 (a,b,c) 0 w).2<w.length
 ·simp only[decide_eq_true d,cond_true]
  rw[D0 (show H0 (-1) from⟨by omega,by omega⟩),oB,h]
  have:decide ((C2 (a,b,c) 0 w).2=w.length)=false:=decide_eq_false (by omega)
  rw[this];rfl
 ·simp only[decide_eq_false d,cond_false]
  rw[D0 n,oB,h]
  have:decide ((C2 (a,b,c) 0 w).2=w.length)=true:=decide_eq_true (by omega)
  rw[this]
  simp only[oB,cond_true,Bool.true_and]
def rdw(g:j0):Int->List Int->Option Int
 |v,[]=>some v
 |v,x::w=>if U0 g v x<0 then none else rdw g (U0 g v x) w
theorem W0g(g:j0):∀(w:List Int) (v u:Int),rdw g v w=some u↔((C2 g v w).2=w.length/\(C2 g v w).1=u)
 | [],v,u=>by simp[rdw,C2]
 |x::w,v,u=>by
  have a:=W0g g w (U0 g v x) u
  unfold rdw C2
  by_cases c:U0 g v x<0
  ·rw[if_pos c,if_pos c];simp
  ·rw[if_neg c,if_neg c,a];simp
theorem B0n(g:j0)(w:List Int):s00 g w=true↔rdw g 0 w=some 0:=by
 unfold s00
 rw[W0g];simp
theorem C0m(g:j0):∀(a b:List Int) (v:Int),rdw g v (a++b)=(rdw g v a).bind λu=>rdw g u b
 | [],b,v=>rfl
 |x::a,b,v=>by
  have d:=C0m g a b (U0 g v x)
  show(if U0 g v x<0 then none else rdw g (U0 g v x) (a++b))=(if U0 g v x<0 then none else rdw g (U0 g v x) a).bind λu=>rdw g u b
  by_cases c:U0 g v x<0
  ·rw[if_pos c,if_pos c];rfl
  ·rw[if_neg c,if_neg c];exact d
theorem X0g{g:j0}(hf:K0 g=true){v x u:Int}(h:U0 g v x=u)(h0:0<=u):U0 g u (-x)=v:=by
 rcases d07 g v x with⟨e,_⟩|e
 ·omega
 ·rw[h]at e
  obtain⟨d,i,f⟩:=W7.1 e
  refine X0a hf (W7.2 ⟨d,i,?_⟩)
  rcases f with⟨a,b,c,rfl⟩|⟨a,b,c,rfl⟩
  ·exact .inr ⟨by omega,by omega,rfl,c.symm⟩
  ·exact .inl ⟨by omega,b,rfl,c.symm⟩
structure Mor (a b:j0) (f:Int->Int):Prop where
 base:f 0=0
 rng:∀ v,0<=v->v<a.2.1->0<=f v/\f v<b.2.1
 step:∀ v x,0<=v->v<a.2.1->0<=U0 a v x->U0 b (f v) x=f (U0 a v x)
theorem Mor.rdw{a b:j0}{f:Int->Int}(m:Mor a b f)(i:inG a):∀(w:List Int) (v u:Int),0<=v->v<a.2.1->rdw a v w=some u->rdw b (f v) w=some (f u)
 | [],v,u,h0,g,h=>by
  simp only[Go.Proofs.YtkjhghloldgioaaGreat.rdw,Option.some.injEq]at h ⊢
  rw[h]
 |x::w,v,u,h0,g,h=>by
  unfold Go.Proofs.YtkjhghloldgioaaGreat.rdw at h ⊢
  by_cases c:U0 a v x<0
  ·rw[if_pos c]at h;cases h
  ·rw[if_neg c]at h
   have j:=m.step v x h0 g (by omega)
   have d:0<=U0 a v x/\U0 a v x<a.2.1:=by
    rcases r03 i v x with e|e
    ·omega
    ·exact e
   have k:=m.rng _ d.1 d.2
   rw[j,if_neg (by omega)]
   exact Mor.rdw m i w _ u d.1 d.2 h
theorem Mor.loop{a b:j0}{f:Int->Int}(m:Mor a b f)(c:K0 a=true){w:List Int}(h:s00 a w=true):s00 b w=true:=by
 obtain⟨d,e,g,i⟩:=C1 c
 rw[B0n]at h ⊢
 have:=m.rdw d w 0 0 (iR _) (by omega) h
 rwa [m.base]at this
abbrev Im:=List Int×List Int
def q0l(a b:Im):Prop:=(∃ t,b.2=a.2++t)/\∀ v∈a.2,getI b.1 v=getI a.1 v
theorem q0l.refl(s:Im):q0l s s:=⟨⟨[],by simp⟩,λ_ _=>rfl⟩
theorem q0l.trans{b c d:Im}(h:q0l b c)(j:q0l c d):q0l b d:=by
 obtain⟨⟨t,e⟩,f⟩:=h
 obtain⟨⟨k,g⟩,i⟩:=j
 exact⟨⟨t++k,by rw[g,e,List.append_assoc]⟩,λv a=>(i v (by rw[e];exact List.mem_append_left _ a)).trans (f v a)⟩
def v0r(a b:j0)(v x:Int)(s:Im):Prop:=0<=U0 a v x->U0 a v x∈s.2/\U0 b (getI s.1 v) x=getI s.1 (U0 a v x)
theorem v0r.le{a b:j0}{v x:Int}{c g:Im}(j:v∈c.2)(h:v0r a b v x c)(l:q0l c g):v0r a b v x g:=λh0=>by
 obtain⟨d,i⟩:=h h0
 obtain⟨⟨t,e⟩,f⟩:=l
 exact⟨by rw[e];exact List.mem_append_left _ d,by rw[f v j,f _ d];exact i⟩
theorem C0n{g:j0}(h:M1 g=true):G9 g=none:=by
 unfold M1 at h
 simp only[Bool.and_eq_true,Option.isNone_iff_eq_none]at h
 exact h.2.1
theorem D0n{a b:List Int}(c:r09 a)(d:r09 b):r09 (a++b):=λx e=>by
 rcases List.mem_append.1 e with h|h
 ·exact c x h
 ·exact d x h
theorem t04(w:List Int)(hl:w.length<=1099511627776)(n0:Nat)(hn:n0<=1099511627776):∀(d k fuel:Nat) (s:List Int),k+d=w.length->d<fuel->s.length<=n0+k ->
  H6 w fuel (k:Int) s.reverse=some (V02 s (w.drop k)).reverse
 |d,k,0,s,hk,hf,hsl=>by omega
 |0,k,fuel+1,s,hk,hf,hsl=>by
  rw[H6.eq_2,if_neg (by simp;omega),D1 (by omega)]
  rfl
 |d+1,k,fuel+1,s,hk,hf,hsl=>by
  have hkl:k<w.length:=by omega
  have hx:=a5 hkl
  generalize w[k]=x at hx
  have next:=t04 w hl n0 hn d (k+1) fuel (z02 s x) (by omega) (by omega) (by have:=g0c s x;omega)
  rw[G1 hx]
  show _=some (V02 (z02 s x) (w.drop (k+1))).reverse
  rw[←next,H6.eq_2,if_pos (by simp;omega),Z1 hx,oB,oB,D0 (by rw[List.length_reverse];omega),oB,oB,oB]
  rw[P1 hkl (by omega:w.length<=9223372036854775807)]
  cases s with
  |nil =>
   have hz:decide ((((([]:List Int).reverse).length:Nat):Int)>0)=false:=rfl
   simp only[hz,F1,oB,cond_false,Bool.false_eq_true,if_false]
   rw[D0 (by simp)]
   rfl
  |cons l t =>
   have hp:decide ((((l::t).reverse.length:Nat):Int)>0)=true:=by simp
   have hpr:IntKind.i64.wrap ((((l::t).reverse.length:Nat):Int)-1)=((t.length:Nat):Int):=by
    rw[w0e (by simp) (by simp only[List.length_cons]at hsl;simp only[List.length_reverse,List.length_cons];omega)];simp
   have hpush:(grd (((l::t).reverse.length + [x].length)*8<=140737488355328))=some ():=D0 (by simp only[List.length_cons]at hsl;simp only[List.length_reverse,List.length_cons,List.length_nil];omega)
   have hlen:(grd ((l::t).reverse.length<=9223372036854775807))=some ():=D0 (by rw[List.length_reverse];omega)
   simp only[hp,hpr,j1,oB,cond_true,Z1 f0f,F0a,z02]
   have hcc:(!(l == 0) && !(l == -9223372036854775808)&&(x == IntKind.i64.wrap (0-l)))=Y0a l x:=rfl
   rw[hcc]
   cases hc:Y0a l x with
   |true =>
    simp only[if_true,cond_true,hlen,oB]
    rw[D0 (by simp only[List.length_reverse,List.length_cons];omega),oB,Int.toNat_natCast,V0g]
   |false =>
    simp only[Bool.false_eq_true,if_false,cond_false,hpush,hlen,oB]
    exact congrArg _ (List.reverse_cons ..).symm
def g0k:List (List Int)->Nat
 | []=>0
 |w::r=>w.length+g0k r
def r0l(s:List Int):List (List Int)->List Int
 | []=>s
 |w::r=>r0l (V02 s w) r
theorem u04(ws:List (List Int))(g:ws.length<=1099511627776):∀(d k fuel:Nat) (a:List Int),k+d=ws.length->d<fuel->a.length+g0k (ws.drop k)<=1099511627776 ->
  N7 ws fuel (k:Int) a.reverse=some (r0l a (ws.drop k)).reverse
 |d,k,0,a,e,hf,b=>by omega
 |0,k,fuel+1,a,e,hf,b=>by
  rw[N7.eq_2,if_neg (by simp;omega),D1 (by omega)]
  rfl
 |d+1,k,fuel+1,a,e,hf,b=>by
  have f:k<ws.length:=by omega
  have c:=a5 f
  generalize ws[k]=w at c
  rw[G1 c]at b ⊢
  simp only[g0k]at b
  have h:=y06 w a
  have h0:=t04 w (by omega) a.length (by omega) w.length 0 P0 a (by omega) (W0 (by omega)) (by omega)
  rw[show((0:Nat):Int)=0 from rfl,List.drop_zero]at h0
  rw[N7.eq_2,if_pos (by simp;omega),Z1 c,oB,h0,oB,P1 f (by omega:ws.length<=9223372036854775807)]
  exact u04 ws g d (k+1) fuel (V02 a w) (by omega) (by omega) (by omega)
theorem V05(ws:List (List Int))(b:ws.length<=1099511627776)(a:g0k ws<=1099511627776):a9 ws=some (r0l [] ws).reverse:=by
 unfold a9
 have h:=u04 ws b ws.length 0 P0 [] (by omega) (W0 (by omega)) (by simpa using a)
 rw[show((0:Nat):Int)=0 from rfl,List.drop_zero,List.reverse_nil]at h
 rw[h]
 rfl
abbrev Tr8:=List (Option (List Int))×List Int
def trS(g:j0)(v x:Int)(s:Tr8):Tr8:=if 0<=U0 g v x/\U0 g v x ∉ s.2 then(s.1.set (U0 g v x).toNat (some ((L6 s.1 v).getD [] ++ [x])),s.2 ++ [U0 g v x])else s
def P09(g:j0)(v:Int):List Int->Tr8->Tr8
 | [],s=>s
 |x::r,s=>P09 g v r (trS g v x s)
def v03(g:j0)(b:List Int):Nat->Nat->Tr8->Tr8
 |0,i,a=>a
 |f+1,i,a=>match a.2[i]? with
  |some v=>v03 g b f (i+1) (P09 g v b a)
  |none=>a
def P2(g:j0)(p:Int):List Int:=W8 g (G5 g.1.toNat 1) (g.2.1.toNat+1) 0 [p]
def W02(g:j0)(p:Int):Tr8:=v03 g (G5 g.1.toNat 1) (g.2.1.toNat+1) 0 ((List.replicate g.2.1.toNat none).set p.toNat (some []),[p])
theorem D0m(g:j0)(v x:Int)(s:Tr8):(trS g v x s).2=r07 s.2 (U0 g v x):=by
 unfold trS r07
 split<;>rfl
theorem h0f(g:j0)(v:Int):∀(b:List Int) (a:Tr8),(P09 g v b a).2=G02 g v b a.2
 | [],a=>rfl
 |x::r,a=>by rw[P09,h0f g v r,D0m];rfl
theorem Y0g(g:j0)(b:List Int):∀(f i:Nat) (a:Tr8),(v03 g b f i a).2=W8 g b f i a.2
 |0,i,a=>rfl
 |f+1,i,a=>by
  unfold v03 W8
  cases a.2[i]? with
  |none=>rfl
  |some v=>simp only[Y0g g b f,h0f]
theorem l08(g:j0)(p:Int):(W02 g p).2=P2 g p:=Y0g _ _ _ _ _
structure TOk (g:j0) (p:Int) (n:Nat) (s:Tr8):Prop where
 ok:WOk n s.1 s.2
 gd:gud n s.2
 base:p∈s.2
 word:L6 s.1 p=some []
 par:∀ y∈s.2,y≠p->∃ v∈s.2,∃ x,x∈G5 g.1.toNat 1/\U0 g v x=y/\∃ a,L6 s.1 v=some a/\L6 s.1 y=some (a ++ [x])
 red:∀ y∈s.2,∀ a,L6 s.1 y=some a->Red a.reverse=true
theorem WOk.add{n:Nat}{b:List (Option (List Int))}{u:List Int}(a:WOk n b u){y:Int}(d:0<=y)(h:y<(n:Int))(v x:Int):WOk n (b.set y.toNat (some ((L6 b v).getD [] ++ [x]))) (u ++ [y]):=by
 have e:=a.short v
 refine⟨by simp[a.len],λz h0 f=>?_,λz=>?_⟩
 ·rw[P00 d (by have:=a.len;omega) h0]
  by_cases c:z=y
  ·rw[if_pos c];simp[c]
  ·rw[if_neg c,a.iff z h0 f];simp[c]
 ·by_cases hz:0<=z
  ·rw[P00 d (by have:=a.len;omega) hz]
   by_cases c:z=y
   ·rw[if_pos c];simp;exact e
   ·rw[if_neg c];have:=a.short z;simp only[List.length_append];omega
  ·have g:L6 (b.set y.toNat (some ((L6 b v).getD [] ++ [x]))) z=L6 (b.set y.toNat (some ((L6 b v).getD [] ++ [x]))) 0:=by
    unfold L6;rw[show z.toNat=(0:Int).toNat by omega]
   rw[g,P00 d (by have:=a.len;omega) (iR 0)]
   by_cases c:(0:Int)=y
   ·rw[if_pos c];simp;exact e
   ·rw[if_neg c];have:=a.short 0;simp only[List.length_append];omega
theorem WOk.get{n:Nat}{b:List (Option (List Int))}{u:List Int}(f:WOk n b u){v:Int}(h0:0<=v)(c:v<(n:Int))(d:v∈u):∃ a,L6 b v=some a:=by
 cases e:L6 b v with
 |none=>exact absurd d ((f.iff v h0 c).1 (by rw[e];rfl))
 |some a=>exact⟨a,rfl⟩
theorem N03{R:Nat}(b:R<=900){x:Int}(a:x∈G5 R 1):l4 x/\x≠0 /\ -(R:Int)<=x/\x<=(R:Int):=by
 obtain⟨j,c,d,e⟩:=V0a _ _ _ a
 exact⟨⟨⟨by omega,by omega⟩,by omega⟩,by omega,by omega,by omega⟩
theorem w0p{l x:Int}(a:l4 l)(h:Y0a l x=true):x = -l:=by
 unfold Y0a at h
 simp only[Bool.and_eq_true,beq_iff_eq]at h
 rw[h.2];exact E0a a.1 a.2
theorem TOk.add{g:j0}(hf:K0 g=true){p:Int}{n:Nat}(S:g.2.1=(n:Int)){B:Tr8}(h:TOk g p n B){v x:Int}(j:v∈B.2)(N:x∈G5 g.1.toNat 1):TOk g p n (trS g v x B):=by
 obtain⟨Q,T,U,V⟩:=C1 hf
 unfold trS
 split
 ·rename_i c
  obtain⟨o,s⟩:=c
  have P:U0 g v x<(n:Int):=by
   rcases r03 Q v x with e|e<;>omega
  obtain⟨m,u⟩:=B
  obtain⟨ok,q,base,I,F,G⟩:=h
  simp only at j o s ok q base I F G ⊢
  have D:=q.2 v j
  obtain⟨a,i⟩:=ok.get D.1 D.2 j
  have R:=ok.len
  have keep:∀ z∈u,L6 (m.set (U0 g v x).toNat (some ((L6 m v).getD [] ++ [x]))) z=L6 m z:=λz K=>by
   have:=q.2 z K
   rw[P00 o (by omega) this.1,if_neg λ(e:z=U0 g v x)=>s (by rw[←e];exact K)]
  have new:L6 (m.set (U0 g v x).toNat (some ((L6 m v).getD [] ++ [x]))) (U0 g v x)=some (a ++ [x]):=by
   rw[P00 o (by omega) o,if_pos rfl,i];rfl
  refine⟨ok.add o P v x,⟨List.nodup_append.2 ⟨q.1,by simp,λa i b f=>?_⟩,λy d=>?_⟩,List.mem_append_left _ base,?_,λy d O=>?_,λy d b f=>?_⟩
  ·simp at f;subst f;exact λe=>s (e▸i)
  ·rcases List.mem_append.1 d with d|d
   ·exact q.2 y d
   ·simp at d;subst d;omega
  ·rw[keep p base];exact I
  ·rcases List.mem_append.1 d with d|d
   ·obtain⟨H,A,L,E,C,b,w,k⟩:=F y d O
    exact⟨H,List.mem_append_left _ A,L,E,C,b,by rw[keep H A];exact w,by rw[keep y d];exact k⟩
   ·simp at d;subst d
    exact⟨v,List.mem_append_left _ j,x,N,rfl,a,by rw[keep v j];exact i,new⟩
  ·rcases List.mem_append.1 d with d|d
   ·rw[keep y d]at f;exact G y d b f
   ·simp at d;subst d
    rw[new]at f;cases f
    have J:=G v j a i
    rw[List.reverse_append]
    show Red (x::a.reverse)=true
    cases e:a.reverse with
    |nil=>rfl
    |cons l t =>
     rw[e]at J
     unfold Red
     rw[J,Bool.and_true]
     cases hc:Y0a l x with
     |false=>rfl
     |true =>
      exfalso
      have M:v≠p:=λw=>by
       subst w
       rw[I]at i;cases i;simp at e
      obtain⟨H,A,L,E,C,b,w,k⟩:=F v j M
      rw[i]at k
      injection k with k
      rw[k,List.reverse_append]at e
      simp only[List.reverse_cons,List.reverse_nil,List.nil_append,List.cons_append,List.cons.injEq]at e
      rw[←e.1]at hc
      have:=w0p (N03 (by omega) E).1 hc
      have f:=X0g hf C D.1
      rw[←this]at f
      exact s (f▸A)
 ·exact h
theorem F0d(g:j0)(v x:Int)(s:Tr8):∃ t,(trS g v x s).2=s.2++t:=by rw[D0m];exact Q0e _ _
theorem i0f(g:j0)(v:Int)(b:List Int)(a:Tr8):∃ t,(P09 g v b a).2=a.2++t:=by rw[h0f];exact c03 _ _ _ _
theorem TOk.inn{g:j0}(hf:K0 g=true){p:Int}{n:Nat}(d:g.2.1=(n:Int)){v:Int}:∀(f:List Int) {a:Tr8},TOk g p n a->v∈a.2->(∀ x∈f,x∈G5 g.1.toNat 1)->TOk g p n (P09 g v f a)
 | [],a,h,c,b=>h
 |x::r,a,h,c,b=>by
  obtain⟨t,e⟩:=F0d g v x a
  exact TOk.inn hf d r (h.add hf d c (b x mS)) (by rw[e];exact List.mem_append_left _ c) λy i=>b y (mC _ i)
theorem TOk.out{g:j0}(hf:K0 g=true){p:Int}{n:Nat}(b:g.2.1=(n:Int)):∀(f i:Nat) {a:Tr8},TOk g p n a->TOk g p n (v03 g (G5 g.1.toNat 1) f i a)
 |0,i,a,h=>h
 |f+1,i,a,h=>by
  unfold v03
  cases e:a.2[i]? with
  |none=>exact h
  |some v=>exact TOk.out hf b f (i+1) (h.inn hf b _ (List.mem_of_getElem? e) λx c=>c)
theorem x0p(N:Nat)(x:Int):L6 (List.replicate N (none:Option (List Int))) x=none:=by
 unfold L6
 rw[List.getD_eq_getElem?_getD,List.getElem?_replicate];split<;>rfl
theorem P08(g:j0){p:Int}{N:Nat}(d:0<=p/\p<(N:Int)):TOk g p N ((List.replicate N none).set p.toNat (some []),[p]):=by
 have f:∀ x,0<=x->L6 ((List.replicate N (none:Option (List Int))).set p.toNat (some [])) x=if x=p then some []else none:=λx h0=>by
  rw[P00 d.1 (by simp;omega) h0,x0p]
 refine⟨⟨by simp,λx h0 k=>?_,λx=>?_⟩,⟨by simp,λx j=>by simp at j;subst j;exact d⟩,by simp,?_,λy b h=>?_,λy b a i=>?_⟩
 ·simp only
  rw[f x h0]
  by_cases c:x=p
  ·rw[if_pos c];simp[c]
  ·rw[if_neg c];simp[c]
 ·have:∀ x,0<=x->((L6 ((List.replicate N (none:Option (List Int))).set p.toNat (some [])) x).getD []).length<=1:=λx h0=>by
   rw[f x h0];split<;>simp
  by_cases hz:0<=x
  ·exact this x hz
  ·have e:L6 ((List.replicate N (none:Option (List Int))).set p.toNat (some [])) x=L6 ((List.replicate N (none:Option (List Int))).set p.toNat (some [])) 0:=by
    unfold L6;rw[show x.toNat=(0:Int).toNat by omega]
   simp only
   rw[e];exact this 0 (iR 0)
 ·simp only
  rw[f p d.1,if_pos rfl]
 ·simp at b;exact absurd b h
 ·simp at b;subst b
  simp only at i
  rw[f y d.1,if_pos rfl]at i
  cases i;rfl
theorem Q08{g:j0}(hf:K0 g=true){p:Int}(a:0<=p/\p<g.2.1):TOk g p g.2.1.toNat (W02 g p):=by
 obtain⟨b,c,d,e⟩:=C1 hf
 exact TOk.out hf (by omega) _ _ (P08 g ⟨a.1,by omega⟩)
theorem S0q{g:j0}(hf:K0 g=true)(p:Int){n:Nat}(u:g.2.1=(n:Int))(b:List Int)(s:∀ x∈b,x∈G5 g.1.toNat 1)(B:b.length<=1000000)(v:Int):∀(d k fuel:Nat) (a:Tr8),TOk g p n a->v∈a.2->k+d=b.length->d<fuel ->
  Y2 b g.1 g.2.1 g.2.2 v fuel (k:Int) a.1 a.2=some (P09 g v (b.drop k) a)
 |d,k,0,a,c,e,m,hf=>by omega
 |0,k,fuel+1,a,c,e,m,hf=>by
  rw[Y2.eq_2,if_neg (by simp;omega),D1 (by omega)];rfl
 |d+1,k,fuel+1,a,c,e,m,G=>by
  obtain⟨z,K,F,L⟩:=C1 hf
  have q:k<b.length:=by omega
  have i:=a5 q
  have j:=s _ (List.mem_of_getElem? i)
  have o:=G1 i
  generalize b[k]=x at i j o
  have D:=(N03 (by omega) j).1
  have H:=z9 n a.2 c.gd.1 c.gd.2
  have I:=r03 z v x
  have C:=c.add hf u e j
  obtain⟨t,A⟩:=F0d g v x a
  have E:=S0q hf p u b s B v d (k+1) fuel (trS g v x a) C (by rw[A];exact List.mem_append_left _ e) (by omega) (by omega)
  have f:=c.ok
  have w:=c.gd.2 v e
  rw[Y2.eq_2,if_pos (by simp;omega),o,P09,←E]
  simp only[Z1 i,oB,show(g.1,g.2.1,g.2.2)=g from rfl,b05 g v x D (by omega),D0 (M02 z F.2 v x),P1 q (show b.length<=9223372036854775807 by omega)]
  unfold trS
  generalize U0 g v x=y at *
  by_cases c1:0<=y
  ·have l:y<(n:Int):=by omega
   simp only[show decide (y ≥ 0)=true by simpa using c1,j1,giO f.len c1 l,oB,cond_true]
   by_cases c2:y∈a.2
   ·have : ¬ ((L6 a.1 y).isNone=true):=λh=>(f.iff y c1 l).1 h c2
    rw[if_neg this,if_neg λh=>h.2 c2]
   ·have:(L6 a.1 y).isNone=true:=(f.iff y c1 l).2 c2
    have J:=f.short v
    rw[if_pos this,if_pos ⟨c1,c2⟩,giO f.len w.1 w.2,oB,w0m (by omega),oB,D0 (by simp;omega),oB,D0 (by simp;omega),oB]
  ·simp only[show decide (y ≥ 0)=false by simpa using c1,F1,oB,cond_false]
   rw[if_neg (by simp),if_neg λh=>c1 h.1]
theorem T0q{g:j0}(hf:K0 g=true)(p:Int){n:Nat}(d:g.2.1=(n:Int)):∀(f i fuel:Nat) (a:Tr8),TOk g p n a->i<=a.2.length->n+1<=i+f->f<fuel ->
  S4 g.1 g.2.1 g.2.2 fuel (i:Int) a.1 a.2=some (v03 g (G5 g.1.toNat 1) f i a)
 |f,i,0,a,c,j,h,hf=>by omega
 |0,i,fuel+1,a,c,j,h,hf=>by have:=z9 n a.2 c.gd.1 c.gd.2;omega
 |f+1,i,fuel+1,a,c,j,h,o=>by
  obtain⟨s,u,w,y⟩:=C1 hf
  have q:=z9 n a.2 c.gd.1 c.gd.2
  rw[S4.eq_2,oB,D0 (by omega),oB]
  by_cases hk:i<a.2.length
  ·have b:=a5 hk
   generalize a.2[i]=v at b
   have k:=List.mem_of_getElem? b
   have h0:=S0q hf p d (G5 g.1.toNat 1) (λx b=>b) (by rw[O00];omega) v (G5 g.1.toNat 1).length 0 P0 a c k (by omega) (W0 (by rw[O00];omega))
   rw[show((0:Nat):Int)=0 from rfl,List.drop_zero]at h0
   obtain⟨t,e⟩:=i0f g v (G5 g.1.toNat 1) a
   have m:=T0q hf p d f (i+1) fuel _ (c.inn hf d _ k λx b=>b) (by rw[e,List.length_append];omega) (by omega) (by omega)
   have l:U8 g.1=some (G5 g.1.toNat 1):=by
    have:=f0l g.1.toNat (by omega)
    rwa [show((g.1.toNat:Nat):Int)=g.1 by omega]at this
   rw[if_pos (by simpa using hk),Z1 b,oB,l,oB,h0,oB]
   simp only[P1 hk (show a.2.length<=9223372036854775807 by omega),v03,b]
   exact m
  ·have b:a.2[i]?=none:=List.getElem?_eq_none (by omega)
   rw[if_neg (by simpa using hk)]
   simp only[v03,b]
def e07(g:j0)(p:Int):List (List Int):=(W02 g p).1.map λo=>o.getD []
theorem j0f{g:j0}(hf:K0 g=true){p:Int}(f:0<=p/\p<g.2.1):V6 g p=some (P2 g p,e07 g p):=by
 obtain⟨h,i,j,l⟩:=C1 hf
 have d:g.2.1=((g.2.1.toNat:Nat):Int):=by omega
 have h0:=T0q hf p d (g.2.1.toNat+1) 0 P0 _ (P08 g (N:=g.2.1.toNat) ⟨f.1,by omega⟩) (by simp) (by omega) (W0 (by omega))
 have e:gi (List.replicate g.2.1.toNat (none:Option (List Int))) p=some none:=by
  have:=Z1 (xs:=List.replicate g.2.1.toNat (none:Option (List Int))) (k:=p.toNat) (x:=none) (by rw[List.getElem?_replicate,if_pos (by omega)])
  rwa [show((p.toNat:Nat):Int)=p by omega]at this
 rw[←l08]
 unfold e07 W02
 obtain⟨a,b,c⟩:=g
 simp only at *
 unfold V6
 simp only
 rw[D0 (by omega),oB,e,oB]
 rw[show((0:Nat):Int)=0 from rfl]at h0
 rw[h0]
 rfl
def tw(g:j0)(p v:Int):List Int:=(L6 (W02 g p).1 v).getD []
structure M0f (g:j0) (p:Int) (t:Int->List Int):Prop where
 z:t p = []
 par:∀ y∈P2 g p,y≠p->∃ v∈P2 g p,∃ x,x∈G5 g.1.toNat 1/\U0 g v x=y/\t y=t v ++ [x]
 red:∀ y∈P2 g p,Red (t y).reverse=true
 len:∀ y,(t y).length<=40
theorem H04{g:j0}(hf:K0 g=true){p:Int}(k:0<=p/\p<g.2.1):M0f g p (tw g p):=by
 obtain⟨o,q,s,t⟩:=C1 hf
 have h:=Q08 hf k
 have e:=l08 g p
 refine⟨by unfold tw;rw[h.word];rfl,λy b n=>?_,λy b=>?_,λy=>?_⟩
 ·rw[←e]at b ⊢
  obtain⟨v,l,x,m,f,a,i,j⟩:=h.par y b n
  exact⟨v,l,x,m,f,by unfold tw;rw[i,j];rfl⟩
 ·rw[←e]at b
  have d:=h.gd.2 y b
  obtain⟨a,c⟩:=h.ok.get d.1 d.2 b
  unfold tw
  rw[c]
  exact h.red y b a c
 ·have:=h.ok.short y
  have:=z9 _ _ h.gd.1 h.gd.2
  unfold tw
  omega
theorem k04{g:j0}(hf:K0 g=true){p:Int}(a:0<=p/\p<g.2.1):gud g.2.1.toNat (P2 g p):=by
 rw[←l08];exact(Q08 hf a).gd
theorem Z0a(g:j0)(p:Int):∃ t,P2 g p=p::t:=by
 obtain⟨t,e⟩:=O09 g (G5 g.1.toNat 1) (g.2.1.toNat+1) 0 [p]
 exact⟨t,e⟩
theorem M0f.ind{g:j0}{p:Int}{t:Int->List Int}(h:M0f g p t)(P:Int->Prop)(h0:P p)(d:∀ v∈P2 g p,∀ y∈P2 g p,∀ x,x∈G5 g.1.toNat 1->U0 g v x=y->t y=t v ++ [x]->P v->P y):∀(k:Nat) (y:Int),(t y).length<=k->y∈P2 g p->P y
 |k,y,a,f=>by
  by_cases c:y=p
  ·rw[c];exact h0
  ·obtain⟨v,e,x,j,i,b⟩:=h.par y f c
   cases k with
   |zero=>rw[b]at a;simp at a
   |succ k=>exact d v e y f x j i b (M0f.ind h P h0 d k v (by rw[b]at a;simp at a;omega) e)
theorem M0f.induct{g:j0}{p:Int}{t:Int->List Int}(h:M0f g p t){P:Int->Prop}(h0:P p)(a:∀ v∈P2 g p,∀ y∈P2 g p,∀ x,x∈G5 g.1.toNat 1->U0 g v x=y->t y=t v ++ [x]->P v->P y){y:Int}(b:y∈P2 g p):P y:=h.ind P h0 a _ y (Nat.le_refl _) b
theorem y0q{g:j0}{v x y:Int}(h:U0 g v x=y)(h0:0<=y):rdw g v [x]=some y:=by
 unfold rdw
 rw[if_neg (by omega),h];rfl
theorem M0f.rd{g:j0}(hf:K0 g=true){p:Int}(d:0<=p/\p<g.2.1){t:Int->List Int}(h:M0f g p t){y:Int}(a:y∈P2 g p):rdw g p (t y)=some y:=by
 refine h.induct (P:=λy=>rdw g p (t y)=some y) ?_ (λv f y a x i b c e=>?_) a
 ·rw[h.z];rfl
 ·rw[c,C0m,e,oB]
  exact y0q b ((k04 hf d).2 y a).1
theorem M0f.let{g:j0}{p:Int}{t:Int->List Int}(h:M0f g p t){y:Int}(c:y∈P2 g p):∀ x∈t y,x∈G5 g.1.toNat 1:=by
 refine h.induct (P:=λy=>∀ x∈t y,x∈G5 g.1.toNat 1) ?_ (λv i y c x b f d e=>?_) c
 ·rw[h.z];exact λx b=>by cases b
 ·rw[d]
  intro z a
  rcases List.mem_append.1 a with a|a
  ·exact e z a
  ·simp at a;rw[a];exact b
def S0c(w:List Int):Int:=w.getLastD 0
theorem Z0g(a:List Int)(x:Int):S0c (a ++ [x])=x:=by unfold S0c;simp
def tE(g:j0)(v:Int):J0:=stp (U0 g v (-(S0c (tw g 0 v)))) (S0c (tw g 0 v)) v
def w03(g:j0):List J0:=w5 O0 [] ((P2 g 0).tail.map (tE g))
theorem k0f{g:j0}(hf:K0 g=true){p:Int}(b:0<=p/\p<g.2.1){v:Int}(d:0<=v/\v<g.2.1):gi (e07 g p) v=some (tw g p v):=by
 have h:=Q08 hf b
 have c:=h.ok.len
 have a:v.toNat<(W02 g p).1.length:=by omega
 have:=Z1 (xs:=e07 g p) (k:=v.toNat) (x:=tw g p v) (by
  unfold e07 tw L6
  rw[List.getElem?_map,List.getElem?_eq_getElem a,List.getD_eq_getElem?_getD,List.getElem?_eq_getElem a];rfl)
 rwa [show((v.toNat:Nat):Int)=v by omega]at this
theorem y0p{g:j0}(hf:K0 g=true){v:Int}:v∈(P2 g 0).tail↔v∈P2 g 0/\v≠0:=by
 obtain⟨f,i,j,k⟩:=C1 hf
 obtain⟨t,e⟩:=Z0a g 0
 have b:=(k04 hf (p:=0) ⟨by omega,by omega⟩).1
 rw[e]at b ⊢
 have:=(List.nodup_cons.1 b).1
 constructor
 ·intro h
  exact⟨mC _ h,λc=>this (c▸h)⟩
 ·rintro⟨a,d⟩
  rcases List.mem_cons.1 a with a|a
  ·exact absurd a d
  ·exact a
theorem E0m{g:j0}(hf:K0 g=true):∀(d k fuel:Nat) (acc:List J0),k+d=(P2 g 0).tail.length->d<fuel->acc.length<=k ->
  w6 (P2 g 0).tail (e07 g 0) g.1 g.2.1 g.2.2 fuel (k:Int) acc=some (acc++((P2 g 0).tail.drop k).map (tE g))
 |d,k,0,acc,j,s,i=>by omega
 |0,k,fuel+1,acc,j,s,i=>by
  rw[w6.eq_2,if_neg (by simp only[decide_eq_true_eq];omega),D1 (by omega)];simp
 |d+1,k,fuel+1,acc,j,F,i=>by
  obtain⟨C,L,D,M⟩:=C1 hf
  have f:(0:Int)<=0/\(0:Int)<g.2.1:=⟨by omega,by omega⟩
  have h:=H04 hf f
  have e:=k04 hf f
  have G:=z9 _ _ e.1 e.2
  have m:k<(P2 g 0).tail.length:=by omega
  have J:(P2 g 0).tail.length<=40:=by rw[List.length_tail];omega
  have b:=a5 m
  have n:=List.mem_of_getElem? b
  have l:=G1 b
  generalize (P2 g 0).tail[k]=v at b n l
  obtain⟨o,z⟩:=(y0p hf).1 n
  have A:=e.2 v o
  obtain⟨u,K,x,B,E,c⟩:=h.par v o z
  have a:=N03 (by omega) B
  have H:(tw g 0 v).length=(tw g 0 u).length+1:=by rw[c];simp
  have I:=h.len u
  have q:gi (tw g 0 v) (IntKind.i64.wrap (((tw g 0 v).length:Nat)-1))=some x:=by
   rw[w64 (by omega) (by omega),show(((tw g 0 v).length:Nat):Int)-1=(((tw g 0 u).length:Nat):Int) by omega]
   refine Z1 ?_
   rw[c,List.getElem?_append_right (Nat.le_refl _)];simp
  have y:tE g v=stp (U0 g v (-x)) x v:=by unfold tE;rw[c,Z0g]
  have w:l4 (-x):=⟨⟨by have:=a.2.2;omega,by have:=a.2.2;omega⟩,by have:=a.2.2;omega⟩
  have p:=E0m hf d (k+1) fuel (acc ++ [tE g v]) (by omega) (by omega) (by simp;omega)
  rw[w6.eq_2,if_pos (by simp only[decide_eq_true_eq];omega),Z1 b,oB,k0f hf f ⟨A.1,by omega⟩,oB,q,oB,E0a a.1.1 a.1.2,show(g.1,g.2.1,g.2.2)=g from rfl,b05 g v (-x) w (by omega),oB,D0 (M02 C D.2 v _),oB,i0l _ x v a.1,oB,←y,P1 m (by omega),l,List.map_cons]
  generalize tE g v=t at p ⊢
  obtain⟨N,O,P⟩:=t
  simp only
  rw[D0 (by simp;omega),oB]
  rw[p]
  simp
theorem h0k{g:j0}(hf:K0 g=true):W00 g=some (w03 g):=by
 obtain⟨n,o,p,q⟩:=C1 hf
 have f:(0:Int)<=0/\(0:Int)<g.2.1:=⟨by omega,by omega⟩
 have d:=k04 hf f
 have m:=z9 _ _ d.1 d.2
 have i:=j0f hf f
 obtain⟨t,h⟩:=Z0a g 0
 have j:m05 (P2 g 0) 1 (((P2 g 0).length:Nat):Int)=some (P2 g 0).tail:=by
  have:=U02 (xs:=P2 g 0) (k:=1) (by rw[h];simp)
  rw[show((1:Nat):Int)=1 from rfl]at this
  rw[this,List.drop_one]
 have e:=E0m hf (P2 g 0).tail.length 0 P0 [] (by omega) (W0 (by rw[List.length_tail];omega)) (by simp)
 rw[show((0:Nat):Int)=0 from rfl,List.drop_zero,List.nil_append]at e
 have l:=P0a ((P2 g 0).tail.map (tE g)) (by rw[List.length_map,List.length_tail];omega)
 unfold w03
 obtain⟨a,b,c⟩:=g
 simp only at *
 unfold W00
 simp only[i,oB,j,e,l]
def J01(g:j0):List J0:=g.2.2.filter λe => !decide (e∈w03 g)
theorem a0h{g:j0}(hf:K0 g=true):(w03 g).length<=40:=by
 obtain⟨c,d,e,f⟩:=C1 hf
 have a:=k04 hf (p:=0) ⟨by omega,by omega⟩
 have b:=z9 _ _ a.1 a.2
 unfold w03
 have:=Y01 ((P2 g 0).tail.map (tE g)) []
 rw[List.length_map,List.length_tail,List.length_nil]at this
 omega
theorem F0m(a:List J0)(q:a.length<=1000)(es:List J0)(t:es.length<=1000):∀(d k fuel:Nat) (acc:List J0),k+d=es.length->d<fuel->acc.length<=k ->
  T4 es a fuel (k:Int) acc=some (acc++(es.drop k).filter λe => !decide (e∈a))
 |d,k,0,acc,l,s,j=>by omega
 |0,k,fuel+1,acc,l,s,j=>by
  rw[T4.eq_2,if_neg (by simp only[decide_eq_true_eq];omega),D1 (by omega)];simp
 |d+1,k,fuel+1,acc,l,u,j=>by
  have n:k<es.length:=by omega
  have b:=a5 n
  have m:=G1 b
  generalize es[k]=e at b m
  have o:=λp h=>F0m a q es t d (k+1) fuel p (by omega) (by omega) h
  obtain⟨f,g,i⟩:=e
  rw[T4.eq_2,if_pos (by simp only[decide_eq_true_eq];omega),Z1 b,oB]
  simp only[k0l a (f,g,i) (by omega),oB,P1 n (show es.length<=9223372036854775807 by omega),m,List.filter_cons]
  by_cases c:(f,g,i)∈a
  ·simp only[decide_eq_true c,Bool.not_true,Bool.false_eq_true,if_false]
   exact o acc (by omega)
  ·simp only[decide_eq_false c,Bool.not_false,if_true]
   rw[D0 (by simp;omega),oB,o _ (by simp;omega)]
   simp
theorem z0q{g:j0}(hf:K0 g=true):v00 g=some (J01 g):=by
 obtain⟨i,j,k,l⟩:=C1 hf
 have e:=V8 g (by omega)
 have f:=h0k hf
 have h:=a0h hf
 have d:=F0m (w03 g) (by omega) g.2.2 (by omega) g.2.2.length 0 P0 [] (by omega) (W0 (by omega)) (by simp)
 rw[show((0:Nat):Int)=0 from rfl,List.drop_zero,List.nil_append]at d
 unfold J01
 obtain⟨a,b,c⟩:=g
 simp only at *
 unfold v00
 simp only[e,hf,oB,f,Bool.not_true,Bool.false_eq_true,if_false,d]
theorem h0c{g:j0}{e:J0}:e∈J01 g↔e∈g.2.2/\e ∉ w03 g:=by
 unfold J01
 rw[List.mem_filter]
 simp
def bw(g:j0)(e:J0):List Int:=tw g 0 e.1 ++ [e.2.1]++inv (tw g 0 e.2.2)
def N02(g:j0):List (List Int):=(J01 g).map λe=>(V02 [] (bw g e)).reverse
theorem w0r{g:j0}(hf:K0 g=true)(e:J0):(bw g e).length<=81:=by
 obtain⟨d,f,h,i⟩:=C1 hf
 have a:=H04 hf (p:=0) ⟨by omega,by omega⟩
 have b:=a.len e.1
 have c:=a.len e.2.2
 unfold bw
 simp only[List.length_append,D04,List.length_singleton]
 omega
theorem G0m{g:j0}(hf:K0 g=true)(es:List J0)(m:∀ e∈es,e∈g.2.2)(v:es.length<=1000):∀(d k fuel:Nat) (acc:List (List Int)),k+d=es.length->d<fuel->acc.length<=k ->
  P7 es (e07 g 0) fuel (k:Int) acc=some (acc++(es.drop k).map λe=>(V02 [] (bw g e)).reverse)
 |d,k,0,acc,j,u,i=>by omega
 |0,k,fuel+1,acc,j,u,i=>by
  rw[P7.eq_2,if_neg (by simp only[decide_eq_true_eq];omega),D1 (by omega)];simp
 |d+1,k,fuel+1,acc,j,B,i=>by
  obtain⟨x,C,D,E⟩:=C1 hf
  have b:(0:Int)<=0/\(0:Int)<g.2.1:=⟨by omega,by omega⟩
  have f:=H04 hf b
  have o:k<es.length:=by omega
  have a:=a5 o
  have n:=m _ (List.mem_of_getElem? a)
  have l:=G1 a
  generalize es[k]=e at a l n
  have c:=x e n
  have s:=f.len e.1
  have t:=f.len e.2.2
  have w:=λq h=>G0m hf es m v d (k+1) fuel q (by omega) (by omega) h
  have p:a9 [tw g 0 e.1,[e.2.1],inv (tw g 0 e.2.2)]=some (V02 [] (bw g e)).reverse:=by
   rw[V05 _ (by simp) (by simp only[g0k,D04,List.length_singleton];omega)]
   unfold bw r0l
   simp only[r0l,e0f]
  obtain⟨y,z,A⟩:=e
  rw[P7.eq_2,if_pos (by simp only[decide_eq_true_eq];omega),Z1 a,oB]
  simp only at c p s t ⊢
  rw[k0f hf b c.1,oB,oB,k0f hf b c.2.1,oB,M03 _ (by omega),oB,oB,p,oB,oB,D0 (by simp;omega),oB,P1 o (show es.length<=9223372036854775807 by omega),w _ (by simp;omega),l]
  simp
theorem A0q{g:j0}(f:M1 g=true):e02 g=some (N02 g):=by
 have hf:=R4 f
 obtain⟨m,n,o,q⟩:=C1 hf
 have h:=u00 g (by omega)
 have i:=z0q hf
 have j:=j0f hf (p:=0) ⟨by omega,by omega⟩
 have l:(J01 g).length<=g.2.2.length:=List.length_filter_le _ _
 have d:=G0m hf (J01 g) (λe k=>(h0c.1 k).1) (by omega) (J01 g).length 0 P0 [] (by omega) (W0 (by omega)) (by simp)
 rw[show((0:Nat):Int)=0 from rfl,List.drop_zero,List.nil_append]at d
 unfold N02
 obtain⟨a,b,c⟩:=g
 simp only at *
 unfold e02
 simp only[h,f,oB,i,j,Bool.not_true,Bool.false_eq_true,if_false,d]
theorem x0r{x:Int}(h:l4 x):ng x = -x:=E0a h.1 h.2
theorem s0l{x:Int}(h:l4 x):l4 (-x):=⟨⟨by have:=h.1.2;have:=h.2;omega,by have:=h.1.1;have:=h.2;omega⟩,by have:=h.1.2;omega⟩
theorem o0i{w:List Int}(a:∀ x∈w,l4 x):∀ x∈inv w,l4 x:=λx b=>by
 simp only[inv,List.mem_reverse,List.mem_map]at b
 obtain⟨y,c,rfl⟩:=b
 rw[x0r (a y c)];exact s0l (a y c)
theorem E0n{s:List Int}{x y:Int}(h:y∈z02 s x):y∈s∨y=x:=by
 cases s with
 |nil=>simp[z02]at h;exact .inr h
 |cons l t =>
  simp only[z02]at h
  cases c:Y0a l x with
  |true=>rw[c]at h;exact .inl (mC _ h)
  |false =>
   rw[c]at h
   rcases List.mem_cons.1 h with h|h
   ·exact .inr h
   ·exact .inl h
theorem i0k:∀(w s:List Int) {y:Int},y∈V02 s w->y∈s∨y∈w
 | [],s,y,h => .inl h
 |x::w,s,y,h=>by
  rcases i0k w (z02 s x) h with h|h
  ·rcases E0n h with h|rfl
   ·exact .inl h
   ·exact .inr mS
  ·exact .inr (mC _ h)
theorem z0p{g:j0}(h:M1 g=true){v:Int}(h0:0<=v)(a:v<g.2.1):v∈P2 g 0:=S0g (R4 h) (C0n h) h0 a
theorem l0f{g:j0}(a:M1 g=true){v:Int}(h0:0<=v)(b:v<g.2.1):∀ x∈tw g 0 v,l4 x/\x≠0:=λx d=>by
 have hf:=R4 a
 obtain⟨e,f,h,i⟩:=C1 hf
 have c:=H04 hf (p:=0) ⟨by omega,by omega⟩
 have:=N03 (by omega) (c.let (z0p a h0 b) x d)
 exact⟨this.1,this.2.1⟩
theorem F0n{g:j0}(c:M1 g=true){e:J0}(d:e∈g.2.2):∀ x∈bw g e,l4 x:=λx a=>by
 obtain⟨h,i,j,k⟩:=C1 (R4 c)
 have b:=h e d
 unfold bw at a
 rcases List.mem_append.1 a with a|a
 ·rcases List.mem_append.1 a with a|a
  ·exact(l0f c b.1.1 b.1.2 x a).1
  ·simp at a;subst a
   exact⟨⟨by omega,by omega⟩,by omega⟩
 ·exact o0i (λy f=>(l0f c b.2.1.1 b.2.1.2 y f).1) x a
def W05(b:j0)(ws:List (List Int)):Bool:=M1 b&&ws.all λw=>s00 b (V02 [] w).reverse
theorem b0h(g:j0):∀ d k,(p09 g d k).length<=d*(G5 g.1.toNat 1).length
 |0,k=>Nat.zero_le _
 |d+1,k=>by
  have a:=O08 g (k:Int) (G5 g.1.toNat 1)
  have b:=b0h g d (k+1)
  rw[p09,List.length_append,Nat.succ_mul]
  omega
theorem T0c{g:j0}(hf:K0 g=true):(U00 g).length<=1000:=by
 obtain⟨b,c,d,e⟩:=C1 hf
 have h:=b0h g g.2.1.toNat 0
 rw[O00]at h
 unfold U00
 have a:g.2.1.toNat*(2*g.1.toNat)<=40*(2*3):=Nat.mul_le_mul (by omega) (by omega)
 omega
def U03(g:j0):Bool:=M1 g&&decide ((U00 g).length=0)
theorem U0r(n:Nat):decide (((n:Nat):Int)=0)=decide (n=0):=by
 by_cases c:n=0
 ·rw[decide_eq_true c,decide_eq_true (by omega)]
 ·rw[decide_eq_false c,decide_eq_false (by omega)]
theorem z06{g:j0}(h:M1 g=true):K0 g=true:=by
 unfold M1 at h
 simp only[Bool.and_eq_true]at h
 exact h.1
theorem j0k(g:j0)(i:g.2.2.length<=140737488355328):b9 g=some (U03 g):=by
 have d:=b07 g i
 have f:M1 g=true->f8 g=some (U00 g):=λc=>K0f (z06 c)
 have h:M1 g=true->(U00 g).length<=1000:=λc=>T0c (z06 c)
 unfold U03
 obtain⟨a,b,c⟩:=g
 unfold b9 O2
 simp only[d,oB]
 cases e:M1 (a,b,c)with
 |false=>rfl
 |true =>
  have:=h e
  simp only[j1,f e,oB,cond_true,Bool.true_and]
  rw[D0 (by omega),oB,U0r]
theorem k0k(g:j0)(i:g.2.2.length<=140737488355328):c9 g=some (U03 g):=by
 have d:=u00 g i
 have f:M1 g=true->g8 g=some (U00 g):=λc=>L0f (z06 c)
 have h:M1 g=true->(U00 g).length<=1000:=λc=>T0c (z06 c)
 unfold U03
 obtain⟨a,b,c⟩:=g
 unfold c9
 simp only[d,oB]
 cases e:M1 (a,b,c)with
 |false=>rfl
 |true =>
  have:=h e
  simp only[j1,f e,oB,cond_true,Bool.true_and]
  rw[D0 (by omega),oB,U0r]
theorem A0p{g:j0}(h:U03 g=true):M1 g=true:=by
 unfold U03 at h
 simp only[Bool.and_eq_true]at h
 exact h.1
def k07(g:j0)(v:Int):List Int:=v::wo v.toNat g.2.1.toNat 0
def i0c(g:j0)(v:Int):j0:=e0c (w8 g (k07 g v))
theorem B0p(g:Nat):∀(d k:Nat),(g:Int) ∉ wo g d k
 |0,k,h=>nomatch h
 |d+1,k,h=>by
  unfold wo at h
  split at h
  ·exact B0p g d (k+1) h
  ·rcases List.mem_cons.1 h with h|h
   ·omega
   ·exact B0p g d (k+1) h
theorem m0f{g:j0}(hf:K0 g=true){v:Int}(b:0<=v/\v<g.2.1):inV g.2.1.toNat (k07 g v)/\(k07 g v).Nodup/\(k07 g v).length=g.2.1.toNat:=by
 obtain⟨c,d,e,f⟩:=C1 hf
 refine⟨λx a=>?_,?_,?_⟩
 ·rcases List.mem_cons.1 a with rfl|a
  ·omega
  ·exact G0j _ _ _ _ (by omega) x a
 ·refine List.nodup_cons.2 ⟨λh=>?_,i08 _ _ _⟩
  have:=B0p v.toNat g.2.1.toNat 0
  rw[show((v.toNat:Nat):Int)=v by omega]at this
  exact this h
 ·unfold k07
  rw[List.length_cons,U0e,if_pos (by omega)]
  omega
theorem j0c{g:j0}(hf:K0 g=true){v:Int}(c:0<=v/\v<g.2.1):K0 (w8 g (k07 g v))=true:=by
 obtain⟨e,f,h,i⟩:=C1 hf
 obtain⟨a,b,d⟩:=m0f hf c
 exact j08 hf a b (by omega) (by omega)
theorem G0n{g:j0}(hf:K0 g=true){v:Int}(a:0<=v/\v<g.2.1):M1 (i0c g v)=true:=z0n (j0c hf a)
theorem C0p(n:Nat)(v:Int)(h0:0<=v)(i:n<=1000):∀(d k fuel:Nat) (acc:List Int),k+d=n->d<fuel->acc.length<=k+1 ->
  B4 (n:Int) v fuel (k:Int) acc=some (acc++wo v.toNat d k)
 |d,k,0,acc,b,hf,a=>by omega
 |0,k,fuel+1,acc,b,hf,a=>by
  rw[B4.eq_2,if_neg (by simp only[decide_eq_true_eq];omega)];simp[wo]
 |d+1,k,fuel+1,acc,b,hf,a=>by
  have f:=λg h=>C0p n v h0 i d (k+1) fuel g (by omega) (by omega) h
  rw[B4.eq_2,if_pos (by simp only[decide_eq_true_eq];omega),P1 (show k<10000 by omega) (by omega)]
  unfold wo
  by_cases c:k=v.toNat
  ·have e:decide ((k:Int)=v)=true:=decide_eq_true (by omega)
   rw[e,if_neg (by simp),if_pos c,f _ (by omega)]
  ·have e:decide ((k:Int)=v)=false:=decide_eq_false (by omega)
   rw[e,if_pos (show(!false)=true from rfl),if_neg c,D0 (by simp;omega),oB,f _ (by simp;omega)]
   simp
theorem U0q(n:Nat)(v:Int):∀(fuel:Nat) (k:Int) (acc:List Int),Z6 (n:Int) v fuel k acc=B4 (n:Int) v fuel k acc
 |0,k,acc=>rfl
 |fuel+1,k,acc=>by
  rw[Z6.eq_2,B4.eq_2]
  simp only[U0q n v fuel]
theorem t0l{g:j0}(hf:K0 g=true){v:Int}(e:0<=v/\v<g.2.1):z7 g v=some (i0c g v,true):=by
 obtain⟨p,s,l,t⟩:=C1 hf
 obtain⟨i,j,m⟩:=m0f hf e
 have h:=J5 g (by omega)
 rw[hf]at h
 have d:=C0p g.2.1.toNat v e.1 (by omega) g.2.1.toNat 0 P0 [v] (by omega) (W0 (by omega)) (by simp)
 have k:=m0l (j0c hf e)
 have f:=L09 g.1 g.2.1.toNat g.2.2 (k07 g v) (by rw[show((g.2.1.toNat:Nat):Int)=g.2.1 by omega];exact Q3 hf) i j (by omega) (by omega)
 rw[show((0:Nat):Int)=0 from rfl]at d
 rw[show((g.2.1.toNat:Nat):Int)=g.2.1 by omega]at d f
 rw[show [v]++wo v.toNat g.2.1.toNat 0=k07 g v from rfl]at d
 rw[show(g.1,g.2.1,g.2.2)=g from rfl]at f
 unfold i0c
 generalize k07 g v=o at *
 generalize n:w8 g o=q at *
 obtain⟨a,b,c⟩:=g
 obtain⟨u,w,x⟩:=q
 simp only at d e l ⊢
 unfold z7
 simp only[h,oB,Bool.not_true,Bool.not_false,j1,d01,cond_false]
 rw[w64 (by omega) (by omega),show inR 0 (b-1) v=true by simp[inR];omega]
 simp only[Bool.not_true,Bool.false_eq_true,if_false,d,oB,f,k]
theorem u0l{g:j0}(hf:K0 g=true){v:Int}(f:0<=v/\v<g.2.1):p8 g v=some (i0c g v,true):=by
 obtain⟨n,w,p,x⟩:=C1 hf
 obtain⟨j,s,t⟩:=m0f hf f
 have i:=V8 g (by omega)
 rw[hf]at i
 have m:=p0p (Q3 hf) f
 have d:=C0p g.2.1.toNat v f.1 (by omega) g.2.1.toNat 0 P0 [v] (by omega) (W0 (by omega)) (by simp)
 rw[←U0q]at d
 have k:=n0l (j0c hf f)
 have h:=Z0h g.1 g.2.1.toNat g.2.2 (k07 g v) (λe l=>by have:=n e l;omega) j (by omega) (by omega) (by omega)
 rw[show((0:Nat):Int)=0 from rfl]at d
 rw[show((g.2.1.toNat:Nat):Int)=g.2.1 by omega]at d h
 rw[show [v]++wo v.toNat g.2.1.toNat 0=k07 g v from rfl]at d
 rw[show(g.1,g.2.1,g.2.2)=g from rfl]at h
 unfold i0c
 generalize k07 g v=o at *
 generalize u:w8 g o=q at *
 obtain⟨a,b,c⟩:=g
 obtain⟨y,z,A⟩:=q
 simp only at d f p ⊢
 unfold p8
 simp only[i,oB,Bool.not_true,Bool.not_false,j1,m,cond_false]
 simp only[Bool.false_eq_true,if_false,d,oB,h,k]
theorem l0k{g:j0}(h:M1 g=true):g.2.2.length<=120/\(1<=g.2.1/\g.2.1<=40)/\(1<=g.1/\g.1<=3):=by
 obtain⟨d,a,b,c⟩:=C1 (z06 h)
 exact⟨c,b,a⟩
def isS(o:Option (List Int)):Bool:=o.isSome
def gtD(o:Option (List Int)):List Int:=o.getD []
theorem giM{b e:Type}{f:b->e}{a:List b}{n:Nat}(h:a.length=n){x:Int}(h0:0<=x)(g:x<(n:Int)){y:b}(d:gi a x=some y):gi (a.map f) x=some (f y):=by
 obtain⟨_,c⟩:=R0h d
 have:=Z1 (xs:=a.map f) (k:=x.toNat) (x:=f y) (by rw[List.getElem?_map,c];rfl)
 rwa [show((x.toNat:Nat):Int)=x by omega]at this
theorem D0p{g:j0}(hf:K0 g=true)(p:Int){n:Nat}(G:g.2.1=(n:Int))(j:List Int)(F:∀ x∈j,x∈G5 g.1.toNat 1)(N:j.length<=1000000)(i:Nat)(v:Int):∀(d k fuel:Nat) (c:Tr8),TOk g p n c->c.2[i]?=some v->k+d=j.length->d<fuel ->
  W5 j (i:Int) g.1 g.2.1 g.2.2 fuel (k:Int) (c.1.map isS) (c.1.map gtD) c.2=some ((P09 g v (j.drop k) c).1.map isS,(P09 g v (j.drop k) c).1.map gtD,(P09 g v (j.drop k) c).2)
 |d,k,0,c,m,u,C,hf=>by omega
 |0,k,fuel+1,c,m,u,C,hf=>by
  rw[W5.eq_2,if_neg (by simp only[decide_eq_true_eq];omega),D1 (by omega)];rfl
 |d+1,k,fuel+1,c,m,w,C,T=>by
  obtain⟨I,W,S,X⟩:=C1 hf
  have E:k<j.length:=by omega
  have z:=a5 E
  have B:=F _ (List.mem_of_getElem? z)
  have D:=G1 z
  generalize j[k]=x at z B D
  have Q:=(N03 (by omega) B).1
  have U:=z9 n c.2 m.gd.1 m.gd.2
  have V:=r03 I v x
  have u:=List.mem_of_getElem? w
  have O:=m.add hf G u B
  obtain⟨t,J⟩:=F0d g v x c
  have R:=D0p hf p G j F N i v d (k+1) fuel (trS g v x c) O (by rw[J,List.getElem?_append_left (List.getElem?_eq_some_iff.1 w).1];exact w) (by omega) (by omega)
  have l:=m.ok
  have o:=m.gd.2 v u
  have H:=l.short v
  obtain⟨a,A⟩:=l.get o.1 o.2 u
  have P:gi c.1 v=some (some a):=by rw[giO l.len o.1 o.2,A]
  rw[A]at H
  rw[W5.eq_2,if_pos (by simp only[decide_eq_true_eq];omega),D,P09,←R]
  simp only[Z1 w,Z1 z,oB,show(g.1,g.2.1,g.2.2)=g from rfl,L03 g v x Q (by omega),D0 (M02 I S.2 v x),P1 E (show j.length<=9223372036854775807 by omega),giM (f:=gtD) l.len o.1 o.2 P]
  unfold trS
  generalize U0 g v x=y at *
  by_cases c1:0<=y
  ·have q:y<(n:Int):=by omega
   have M:=giM (f:=isS) l.len c1 q (giO l.len c1 q)
   have L:=giM (f:=gtD) l.len c1 q (giO l.len c1 q)
   simp only[show decide (y ≥ 0)=true by simpa using c1,j1,M,L,oB,cond_true]
   by_cases c2:y∈c.2
   ·have:isS (L6 c.1 y)=true:=by
     have s : ¬ ((L6 c.1 y).isNone=true):=λh=>(l.iff y c1 q).1 h c2
     unfold isS
     cases e:L6 c.1 y with
     |none=>rw[e]at s;exact absurd rfl s
     |some b=>rfl
    rw[this,if_neg (by simp),if_neg λh=>h.2 c2]
   ·have:isS (L6 c.1 y)=false:=by
     have s:(L6 c.1 y).isNone=true:=(l.iff y c1 q).2 c2
     unfold isS
     cases e:L6 c.1 y with
     |none=>rfl
     |some b=>rw[e]at s;cases s
    have K:gtD (some a)=a:=rfl
    simp only[Option.getD_some]at H
    rw[this,if_pos (by simp),if_pos ⟨c1,c2⟩,K,D0 (by omega),oB,D0 (by simp;omega),oB,D0 (by simp;omega),oB,A]
    simp only[List.map_set,Option.getD_some]
    rfl
  ·simp only[show decide (y ≥ 0)=false by simpa using c1,F1,oB,cond_false]
   rw[if_neg (by simp),if_neg λh=>c1 h.1]
theorem E0p{g:j0}(hf:K0 g=true)(p:Int){n:Nat}(d:g.2.1=(n:Int)):∀(f i fuel:Nat) (a:Tr8),TOk g p n a->i<=a.2.length->n+1<=i+f->f<fuel ->
  Z7 (G5 g.1.toNat 1) g.1 g.2.1 g.2.2 fuel (i:Int) (a.1.map isS) (a.1.map gtD) a.2=some ((v03 g (G5 g.1.toNat 1) f i a).1.map isS,(v03 g (G5 g.1.toNat 1) f i a).1.map gtD,(v03 g (G5 g.1.toNat 1) f i a).2)
 |f,i,0,a,c,j,h,hf=>by omega
 |0,i,fuel+1,a,c,j,h,hf=>by have:=z9 n a.2 c.gd.1 c.gd.2;omega
 |f+1,i,fuel+1,a,c,j,h,m=>by
  obtain⟨q,s,u,w⟩:=C1 hf
  have o:=z9 n a.2 c.gd.1 c.gd.2
  rw[Z7.eq_2,oB,D0 (by omega),oB]
  by_cases hk:i<a.2.length
  ·have b:=a5 hk
   generalize a.2[i]=v at b
   have k:=List.mem_of_getElem? b
   have h0:=D0p hf p d (G5 g.1.toNat 1) (λx b=>b) (by rw[O00];omega) i v (G5 g.1.toNat 1).length 0 P0 a c b (by omega) (W0 (by rw[O00];omega))
   rw[show((0:Nat):Int)=0 from rfl,List.drop_zero]at h0
   obtain⟨t,e⟩:=i0f g v (G5 g.1.toNat 1) a
   have l:=E0p hf p d f (i+1) fuel _ (c.inn hf d _ k λx b=>b) (by rw[e,List.length_append];omega) (by omega) (by omega)
   rw[if_pos (by simpa using hk),h0,oB]
   simp only[P1 hk (show a.2.length<=9223372036854775807 by omega),v03,b]
   exact l
  ·have b:a.2[i]?=none:=List.getElem?_eq_none (by omega)
   rw[if_neg (by simpa using hk)]
   simp only[v03,b]
theorem p0i{g:j0}(hf:K0 g=true){p:Int}(i:0<=p/\p<g.2.1):u01 g p=some ((W02 g p).1.map isS,(W02 g p).1.map gtD):=by
 obtain⟨l,m,n,o⟩:=C1 hf
 have h:g.2.1=((g.2.1.toNat:Nat):Int):=by omega
 have h0:=E0p hf p h (g.2.1.toNat+1) 0 P0 _ (P08 g (N:=g.2.1.toNat) ⟨i.1,by omega⟩) (by simp) (by omega) (W0 (by omega))
 have d:=b0i g.1.toNat (by omega)
 rw[show((g.1.toNat:Nat):Int)=g.1 by omega]at d
 have rep:∀ {j:Type} (z:j),gi (List.replicate g.2.1.toNat z) p=some z:=λz=>by
  have:=Z1 (xs:=List.replicate g.2.1.toNat z) (k:=p.toNat) (x:=z) (by rw[List.getElem?_replicate,if_pos (by omega)])
  rwa [show((p.toNat:Nat):Int)=p by omega]at this
 have e:((List.replicate g.2.1.toNat (none:Option (List Int))).set p.toNat (some [])).map isS=(List.replicate g.2.1.toNat false).set p.toNat true:=by
  rw[List.map_set,List.map_replicate];rfl
 have f:((List.replicate g.2.1.toNat (none:Option (List Int))).set p.toNat (some [])).map gtD=(List.replicate g.2.1.toNat ([]:List Int)).set p.toNat []:=by
  rw[List.map_set,List.map_replicate];rfl
 rw[e,f]at h0
 unfold W02
 obtain⟨a,b,c⟩:=g
 simp only at *
 unfold u01
 simp only
 rw[D0 (by omega),oB,D0 (by omega),oB,rep false,oB,rep [],oB,d,oB]
 rw[show((0:Nat):Int)=0 from rfl]at h0
 rw[h0]
 rfl
def q0i(g:j0)(u v:Int):List Int×Bool:=bif K0 g&&(inR 0 (g.2.1-1) u&&inR 0 (g.2.1-1) v)then(match L6 (W02 g u).1 v with
 |some w=>(w,true)
 |none=>([],false))else([],false)
theorem F0p{n u:Int}(h:inR 0 (n-1) u=true):0<=u/\u<n:=by
 simp only[inR,Bool.and_eq_true,decide_eq_true_eq]at h
 omega
theorem y0r(g:j0)(a:Q0 g=true)(u:Int):V3 g u=some (inR 0 (g.2.1-1) u):=by
 obtain⟨c,d,b,e⟩:=A2 a
 obtain⟨r,n,es⟩:=g
 simp only at b
 unfold V3
 simp only[W01]
 rw[w64 (by omega) (by omega)]
 rfl
theorem H0n{g:j0}(hf:K0 g=true){u v:Int}(a:0<=u/\u<g.2.1):(gtD (L6 (W02 g u).1 v)).length<=40:=by
 obtain⟨b,c,d,e⟩:=C1 hf
 have h:=Q08 hf a
 have:=h.ok.short v
 have:=z9 _ _ h.gd.1 h.gd.2
 unfold gtD
 omega
theorem v0l(g:j0)(o:g.2.2.length<=140737488355328)(u v:Int):r8 g u v=some (q0i g u v):=by
 have d:=J5 g o
 unfold q0i
 cases hf:K0 g with
 |false =>
  obtain⟨a,b,c⟩:=g
  unfold r8
  simp only[d,hf,oB,Bool.not_false,Bool.not_true,F1,cond_true]
  rfl
 |true =>
  obtain⟨s,t,k,x⟩:=C1 hf
  cases hu:inR 0 (g.2.1-1) u with
  |false =>
   obtain⟨a,b,c⟩:=g
   unfold r8
   simp only at hu k
   simp only[d,hf,oB,Bool.not_false,Bool.not_true,j1,cond_false,d01]
   rw[w64 (by omega) (by omega),hu]
   rfl
  |true =>
   cases hv:inR 0 (g.2.1-1) v with
   |false =>
    obtain⟨a,b,c⟩:=g
    unfold r8
    simp only at hu hv k
    simp only[d,hf,oB,Bool.not_false,Bool.not_true,j1,cond_false,d01]
    rw[w64 (by omega) (by omega),hu]
    simp only[Bool.not_true,Bool.not_false,oB,cond_false,j1,hv]
    rfl
   |true =>
    have j:=F0p hu
    have i:=F0p hv
    have p:=p0i hf j
    have h:=(Q08 hf j).ok
    have l:=giM (f:=isS) h.len i.1 (by omega) (giO h.len i.1 (by omega))
    have m:=giM (f:=gtD) h.len i.1 (by omega) (giO h.len i.1 (by omega))
    have n:=H0n hf (v:=v) j
    obtain⟨a,b,c⟩:=g
    unfold r8
    simp only at hu hv k l m
    simp only[d,hf,oB,Bool.not_false,Bool.not_true,j1,cond_false,d01]
    rw[w64 (by omega) (by omega),hu]
    simp only[Bool.not_true,Bool.not_false,oB,cond_false,j1,hv,Bool.false_eq_true,if_false,p,l,m,Bool.and_self,cond_true]
    cases e:L6 (W02 (a,b,c) u).1 v with
    |none=>rfl
    |some w =>
     rw[e]at n
     have q:gtD (some w)=w:=rfl
     rw[q]at n ⊢
     rw[show isS (some w)=true from rfl,if_neg (by simp),D0 (by simp only[List.length_nil];omega),oB,List.nil_append]
def f07(g:j0)(v:Int):List Int:=(q0i g 0 v).1
theorem m08(g:j0)(d:g.2.2.length<=140737488355328)(v:Int):n00 g v=some (f07 g v):=by
 have h:=v0l g d 0 v
 unfold f07
 obtain⟨a,b,c⟩:=g
 unfold n00
 simp only[h,oB]
theorem U08(a b:List Int)(c:r09 a)(d:r09 b)(e:a.length+b.length<=1099511627776):Z8 a b=some (V02 [] (a++b)).reverse:=by
 unfold Z8
 rw[D0 (by simp only[List.length_nil];omega),oB,D0 (by simp only[List.length_append,List.length_nil];omega),oB,List.nil_append,
  A02 _ (D0n c d) (by simp only[List.length_append];omega)]
 rfl
theorem U0c{c:Type}(b:c->c->Int)(x:c):∀(a l:List c),w5 b l (a ++ [x])=t00 b x (w5 b l a)
 | [],l=>rfl
 |y::a,l=>by
  show w5 b (t00 b y l) (a ++ [x])=t00 b x (w5 b (t00 b y l) a)
  exact U0c b x a _
def tEW(g:j0)(W:List (Option (List Int)))(v:Int):J0:=stp (U0 g v (-(S0c (gtD (L6 W v))))) (S0c (gtD (L6 W v))) v
def k0c(g:j0)(s:Tr8):List J0:=w5 O0 [] (s.2.tail.map (tEW g s.1))
theorem I0n{g:j0}(hf:K0 g=true){p:Int}{n:Nat}(D:g.2.1=(n:Int)){d:Tr8}(h:TOk g p n d){v x:Int}(i:v∈d.2)(c:0<=U0 g v x/\U0 g v x ∉ d.2):
  k0c g (trS g v x d)=t00 O0 (stp v x (U0 g v x)) (k0c g d)/\(trS g v x d).2=d.2 ++ [U0 g v x]:=by
 obtain⟨C,F,G,H⟩:=C1 hf
 have E:U0 g v x<(n:Int):=by
  rcases r03 C v x with e|e<;>omega
 unfold trS
 rw[if_pos c]
 obtain⟨b,u⟩:=d
 obtain⟨f,k⟩:=c
 simp only at k i
 refine⟨?_,rfl⟩
 have w:=h.ok.len
 simp only at w
 have l:=λ(z:Int) (j:0<=z)=>P00 (A:=b) (y:=some ((L6 b v).getD [] ++ [x])) f (by omega) j
 have t:u≠[]:=λe=>by rw[e]at i;cases i
 have s:(u ++ [U0 g v x]).tail=u.tail ++ [U0 g v x]:=by
  cases u with
  |nil=>exact absurd rfl t
  |cons a r=>rfl
 unfold k0c
 simp only
 rw[s,List.map_append,List.map_singleton,U0c]
 have o:tEW g (b.set (U0 g v x).toNat (some ((L6 b v).getD [] ++ [x]))) (U0 g v x)=stp v x (U0 g v x):=by
  unfold tEW
  rw[l _ f,if_pos rfl]
  show stp (U0 g (U0 g v x) (-(S0c ((L6 b v).getD [] ++ [x])))) (S0c ((L6 b v).getD [] ++ [x])) (U0 g v x)=_
  rw[Z0g,X0g hf rfl f]
 have q:u.tail.map (tEW g (b.set (U0 g v x).toNat (some ((L6 b v).getD [] ++ [x]))))=u.tail.map (tEW g b):=by
  refine List.map_congr_left λz j=>?_
  have m:=List.mem_of_mem_tail j
  have B:=h.gd.2 z m
  unfold tEW
  rw[l z B.1,if_neg λe=>k (by rw[←e];exact m)]
 rw[o,q]
theorem G0p(g:j0)(v x:Int)(s:Tr8)(c : ¬ (0<=U0 g v x/\U0 g v x ∉ s.2)):trS g v x s=s:=by
 unfold trS;rw[if_neg c]
theorem H0p(g:j0)(s:Tr8):(k0c g s).length<=s.2.length:=by
 unfold k0c
 have:=Y01 (s.2.tail.map (tEW g s.1)) []
 rw[List.length_map,List.length_tail,List.length_nil]at this
 omega
theorem H0m{g:j0}(hf:K0 g=true)(p:Int){n:Nat}(o:g.2.1=(n:Int))(b:List Int)(z:∀ x∈b,x∈G5 g.1.toNat 1)(H:b.length<=1000000)(i:Nat)(v:Int):∀(d k fuel:Nat) (a:Tr8),TOk g p n a->a.2[i]?=some v->k+d=b.length->d<fuel ->
  M5 b (i:Int) g.1 g.2.1 g.2.2 fuel (k0c g a) (k:Int) a.2=some (k0c g (P09 g v (b.drop k) a),(P09 g v (b.drop k) a).2)
 |d,k,0,a,f,j,s,hf=>by omega
 |0,k,fuel+1,a,f,j,s,hf=>by
  rw[M5.eq_2,if_neg (by simp only[decide_eq_true_eq];omega),D1 (by omega)];rfl
 |d+1,k,fuel+1,a,f,e,s,L=>by
  obtain⟨A,P,K,Q⟩:=C1 hf
  have w:k<b.length:=by omega
  have l:=a5 w
  have q:=z _ (List.mem_of_getElem? l)
  have u:=G1 l
  generalize b[k]=x at l q u
  have m:=N03 (by omega) q
  have M:=z9 n a.2 f.gd.1 f.gd.2
  have N:=r03 A v x
  have j:=List.mem_of_getElem? e
  have I:=f.add hf o j q
  obtain⟨t,G⟩:=F0d g v x a
  have J:=H0m hf p o b z H i v d (k+1) fuel (trS g v x a) I (by rw[G,List.getElem?_append_left (List.getElem?_eq_some_iff.1 e).1];exact e) (by omega) (by omega)
  have O:=H0p g a
  rw[M5.eq_2,if_pos (by simp only[decide_eq_true_eq];omega),u,P09,←J]
  simp only[Z1 e,Z1 l,oB,show(g.1,g.2.1,g.2.2)=g from rfl,L03 g v x m.1 (by omega),D0 (M02 A K.2 v x),P1 w (show b.length<=9223372036854775807 by omega)]
  by_cases c:0<=U0 g v x/\U0 g v x ∉ a.2
  ·obtain⟨C,D⟩:=I0n hf o f j c
   rw[C,D]
   have E:decide (U0 g v x<0)=false:=decide_eq_false (by omega)
   have F:gi (a.2 ++ [U0 g v x]) (i:Int)=some v:=Z1 (by rw[List.getElem?_append_left (List.getElem?_eq_some_iff.1 e).1];exact e)
   rw[E]
   simp only[Bool.not_false,j1,L08 a.2 _ (show a.2.length<=9223372036854775807 by omega),decide_eq_false c.2,oB,cond_false,Bool.false_eq_true,if_false,F]
   rw[D0 (by simp;omega),oB]
   generalize U0 g v x=y at *
   by_cases cx:x>0
   ·rw[if_pos (by simpa using cx),H05 _ _ (by omega),oB]
    unfold stp
    rw[if_neg (by omega)]
   ·rw[if_neg (by simpa using cx),H05 _ _ (by omega),oB,E0a m.1.1 m.1.2]
    unfold stp
    rw[if_pos (by have:=m.2.1;omega)]
  ·rw[G0p g v x a c]
   by_cases c1:0<=U0 g v x
   ·have B:U0 g v x∈a.2:=Classical.byContradiction λh=>c ⟨c1,h⟩
    rw[show decide (U0 g v x<0)=false from decide_eq_false (by omega)]
    simp only[Bool.not_false,j1,L08 a.2 _ (show a.2.length<=9223372036854775807 by omega),decide_eq_true B,oB,cond_false,if_true]
   ·rw[show decide (U0 g v x<0)=true from decide_eq_true (by omega)]
    simp only[Bool.not_true,F1,oB,cond_true,if_true]
theorem I0m{g:j0}(hf:K0 g=true)(p:Int){n:Nat}(d:g.2.1=(n:Int)):∀(f i fuel:Nat) (a:Tr8),TOk g p n a->i<=a.2.length->n+1<=i+f->f<fuel ->
  J8 (G5 g.1.toNat 1) g.1 g.2.1 g.2.2 fuel (k0c g a) (i:Int) a.2=some (k0c g (v03 g (G5 g.1.toNat 1) f i a),(v03 g (G5 g.1.toNat 1) f i a).2)
 |f,i,0,a,c,j,h,hf=>by omega
 |0,i,fuel+1,a,c,j,h,hf=>by have:=z9 n a.2 c.gd.1 c.gd.2;omega
 |f+1,i,fuel+1,a,c,j,h,m=>by
  obtain⟨q,s,u,w⟩:=C1 hf
  have o:=z9 n a.2 c.gd.1 c.gd.2
  rw[J8.eq_2,oB,D0 (by omega),oB]
  by_cases hk:i<a.2.length
  ·have b:=a5 hk
   generalize a.2[i]=v at b
   have k:=List.mem_of_getElem? b
   have h0:=H0m hf p d (G5 g.1.toNat 1) (λx b=>b) (by rw[O00];omega) i v (G5 g.1.toNat 1).length 0 P0 a c b (by omega) (W0 (by rw[O00];omega))
   rw[show((0:Nat):Int)=0 from rfl,List.drop_zero]at h0
   obtain⟨t,e⟩:=i0f g v (G5 g.1.toNat 1) a
   have l:=I0m hf p d f (i+1) fuel _ (c.inn hf d _ k λx b=>b) (by rw[e,List.length_append];omega) (by omega) (by omega)
   rw[if_pos (by simpa using hk),h0,oB]
   simp only[P1 hk (show a.2.length<=9223372036854775807 by omega),v03,b]
   exact l
  ·have b:a.2[i]?=none:=List.getElem?_eq_none (by omega)
   rw[if_neg (by simpa using hk)]
   simp only[v03,b]
theorem J0n{g:j0}(hf:K0 g=true):f02 g=some (w03 g):=by
 obtain⟨j,k,l,m⟩:=C1 hf
 have h:g.2.1=((g.2.1.toNat:Nat):Int):=by omega
 have h0:=I0m hf 0 h (g.2.1.toNat+1) 0 P0 _ (P08 g (N:=g.2.1.toNat) ⟨iR _,by omega⟩) (by simp) (by omega) (W0 (by omega))
 have d:=b0i g.1.toNat (by omega)
 rw[show((g.1.toNat:Nat):Int)=g.1 by omega]at d
 have i:=J5 g (by omega)
 have e:k0c g (v03 g (G5 g.1.toNat 1) (g.2.1.toNat+1) 0 ((List.replicate g.2.1.toNat none).set (0:Int).toNat (some []),[0]))=w03 g:=by
  show k0c g (W02 g 0)=_
  unfold k0c w03
  rw[l08]
  rfl
 rw[e]at h0
 have f:k0c g ((List.replicate g.2.1.toNat none).set (0:Int).toNat (some []),[0]) = []:=rfl
 rw[f,show((0:Nat):Int)=0 from rfl]at h0
 obtain⟨a,b,c⟩:=g
 simp only at *
 unfold f02
 simp only[i,hf,oB,Bool.not_true,Bool.false_eq_true,if_false,d,h0]
theorem V0q(a es:List J0)(j:Nat){e:J0}(o:es[j]?=some e)(y:a.length<=1000):∀(d k fuel:Nat) (b:Bool),k+d=a.length->d<fuel ->
  Q5 a es (j:Int) fuel b (k:Int)=some (b || decide (e∈a.drop k))
 |d,k,0,b,m,hf=>by omega
 |0,k,fuel+1,b,m,hf=>by
  rw[Q5.eq_2,if_neg (by simp only[decide_eq_true_eq];omega),D1 (by omega)];simp
 |d+1,k,fuel+1,b,m,z=>by
  have p:k<a.length:=by omega
  have f:=a5 p
  have n:=G1 f
  generalize a[k]=t at f n
  have q:=λw=>V0q a es j o y d (k+1) fuel w (by omega) (by omega)
  obtain⟨s,u,v⟩:=t
  obtain⟨g,i,l⟩:=e
  rw[Q5.eq_2,if_pos (by simp only[decide_eq_true_eq];omega),n,P1 p (by omega)]
  cases b with
  |true =>
   simp only[Bool.not_true,F1,oB,cond_true,q,Bool.true_or]
  |false =>
   simp only[Bool.not_false,j1,Z1 f,Z1 o,oB,cond_false,q,Bool.false_or]
   by_cases c:(s,u,v)=(g,i,l)
   ·rw[c];simp[eqE]
   ·have x : ¬ (g,i,l)=(s,u,v):=λh=>c h.symm
    unfold eqE
    rw[decide_eq_false c,Bool.false_or]
    simp only[List.mem_cons,x,false_or]
theorem m0k{g:j0}(hf:K0 g=true)(a:List J0)(f:a.length<=1000):∀(d k fuel:Nat) (acc:List J0),k+d=g.2.2.length->d<fuel->acc.length<=k ->
  U4 g.2.2 g.1 g.2.1 a fuel (k:Int) acc=some (acc++(g.2.2.drop k).filter λe => !decide (e∈a))
 |d,k,0,acc,j,t,i=>by omega
 |0,k,fuel+1,acc,j,t,i=>by
  rw[U4.eq_2,show decide ((k:Int)<((g.2.2.length:Nat):Int))=false from decide_eq_false (by omega),D1 (by omega)]
  simp only[F1,oB,cond_false,Bool.false_eq_true,if_false,List.filter_nil,List.append_nil]
 |d+1,k,fuel+1,acc,j,v,i=>by
  obtain⟨w,x,y,z⟩:=C1 hf
  have m:k<g.2.2.length:=by omega
  have b:=a5 m
  have l:=G1 b
  generalize g.2.2[k]=e at b l
  have u:=J5 g (by omega)
  have n:=λo h=>m0k hf a f d (k+1) fuel o (by omega) (by omega) h
  have h0:=V0q a g.2.2 k b f a.length 0 P0 false (by omega) (W0 (by omega))
  rw[show((0:Nat):Int)=0 from rfl,List.drop_zero,Bool.false_or]at h0
  obtain⟨p,q,s⟩:=e
  rw[U4.eq_2,show decide ((k:Int)<((g.2.2.length:Nat):Int))=true from decide_eq_true (by omega)]
  simp only[j1,show(g.1,g.2.1,g.2.2)=g from rfl,u,hf,oB,cond_true,if_true,h0,Z1 b,P1 m (show g.2.2.length<=9223372036854775807 by omega),l,List.filter_cons]
  by_cases c:(p,q,s)∈a
  ·simp only[decide_eq_true c,Bool.not_true,Bool.false_eq_true,if_false]
   exact n acc (by omega)
  ·simp only[decide_eq_false c,Bool.not_false,if_true]
   rw[D0 (by simp;omega),oB,n _ (by simp;omega)]
   simp
theorem I0p{g:j0}(hf:K0 g=true):w00 g=some (J01 g):=by
 obtain⟨h,i,j,k⟩:=C1 hf
 have e:=J0n hf
 have f:=a0h hf
 have d:=m0k hf (w03 g) (by omega) g.2.2.length 0 P0 [] (by omega) (W0 (by omega)) (by simp)
 rw[show((0:Nat):Int)=0 from rfl,List.drop_zero,List.nil_append]at d
 unfold J01
 obtain⟨a,b,c⟩:=g
 simp only at *
 unfold w00
 simp only[e,oB,d]
theorem W0q(es:List J0)(e:J0)(v:es.length<=1000):∀(d k fuel:Nat) (b:Bool),k+d=es.length->d<fuel ->
  t8 es e.1 e.2.1 e.2.2 fuel b (k:Int)=some (b || decide (e∈es.drop k))
 |d,k,0,b,l,hf=>by omega
 |0,k,fuel+1,b,l,hf=>by
  rw[t8.eq_2,if_neg (by simp only[decide_eq_true_eq];omega),D1 (by omega)];simp
 |d+1,k,fuel+1,b,l,w=>by
  have n:k<es.length:=by omega
  have a:=a5 n
  have m:=G1 a
  generalize es[k]=t at a m
  have f:=λs=>W0q es e v d (k+1) fuel s (by omega) (by omega)
  obtain⟨o,p,q⟩:=t
  obtain⟨g,i,j⟩:=e
  simp only at f
  rw[t8.eq_2,if_pos (by simp only[decide_eq_true_eq];omega),m,P1 n (by omega)]
  cases b with
  |true =>
   simp only[Bool.not_true,F1,oB,cond_true,f,Bool.true_or]
  |false =>
   simp only[Bool.not_false,j1,Z1 a,oB,cond_false,f,Bool.false_or]
   by_cases c:(o,p,q)=(g,i,j)
   ·rw[c];simp[eqE]
   ·have u : ¬ (g,i,j)=(o,p,q):=λh=>c h.symm
    unfold eqE
    rw[decide_eq_false c,Bool.false_or]
    simp only[List.mem_cons,u,false_or]
theorem V0c{g:j0}(hf:K0 g=true){v:Int}(a:0<=v/\v<g.2.1):f07 g v=tw g 0 v:=by
 obtain⟨b,c,d,e⟩:=C1 hf
 unfold f07 q0i tw
 rw[hf,show inR 0 (g.2.1-1) 0=true by simp[inR];omega,show inR 0 (g.2.1-1) v=true by simp[inR];omega]
 simp only[Bool.and_self,cond_true]
 cases L6 (W02 g 0).1 v with
 |none=>rfl
 |some w=>rfl
theorem J0p{g:j0}(hf:K0 g=true){v:Int}(d:0<=v/\v<g.2.1):∀ x∈tw g 0 v,l4 x:=by
 obtain⟨f,i,j,k⟩:=C1 hf
 have c:(0:Int)<=0/\(0:Int)<g.2.1:=⟨by omega,by omega⟩
 have h:=Q08 hf c
 by_cases hm:v∈P2 g 0
 ·exact λx b=>(N03 (by omega) ((H04 hf c).let hm x b)).1
 ·have:tw g 0 v = []:=by
   unfold tw
   rw[←l08]at hm
   have:=(h.ok.iff v d.1 (by omega)).2 hm
   cases e:L6 (W02 g 0).1 v with
   |none=>rfl
   |some a=>rw[e]at this;cases this
  rw[this]
  exact λx b=>by cases b
theorem K0p{g:j0}(hf:K0 g=true){e:J0}(j:e∈g.2.2):I02 g e=some (V02 [] (bw g e)).reverse:=by
 obtain⟨s,z,A,B⟩:=C1 hf
 have q:(0:Int)<=0/\(0:Int)<g.2.1:=⟨by omega,by omega⟩
 have i:=H04 hf q
 have f:=s e j
 have w:=i.len e.1
 have y:=i.len e.2.2
 have o:=J5 g (by omega)
 have h:=W0q g.2.2 e (by omega) g.2.2.length 0 P0 false (by omega) (W0 (by omega))
 rw[show((0:Nat):Int)=0 from rfl,List.drop_zero,Bool.false_or,decide_eq_true j]at h
 have k:=m08 g (by omega) e.1
 rw[V0c hf f.1]at k
 have l:=m08 g (by omega) e.2.2
 rw[V0c hf f.2.1]at l
 have m:=J0p hf f.1
 have n:=J0p hf f.2.1
 have p:=U08 (tw g 0 e.1 ++ [e.2.1]) (inv (tw g 0 e.2.2)) (λx d=>by
  rcases List.mem_append.1 d with d|d
  ·exact(m x d).1
  ·simp at d;rw[d];have:=f.2.2;exact⟨by omega,by omega⟩) (λx d=>(o0i n x d).1) (by simp[D04];omega)
 unfold bw
 obtain⟨a,b,c⟩:=g
 obtain⟨t,u,v⟩:=e
 simp only at *
 unfold I02
 simp only[h,oB,o,hf,Bool.not_true,cond_false,Bool.false_eq_true,if_false,k,l]
 rw[D0 (by simp;omega),oB,s02 _ (by omega),oB,p,oB]
theorem n0k{g:j0}(hf:K0 g=true)(es:List J0)(i:∀ e∈es,e∈g.2.2)(p:es.length<=1000):∀(d k fuel:Nat) (acc:List (List Int)),k+d=es.length->d<fuel->acc.length<=k ->
  Q7 es g.1 g.2.1 g.2.2 fuel (k:Int) acc=some (acc++(es.drop k).map λe=>(V02 [] (bw g e)).reverse)
 |d,k,0,acc,c,o,b=>by omega
 |0,k,fuel+1,acc,c,o,b=>by
  rw[Q7.eq_2,if_neg (by simp only[decide_eq_true_eq];omega),D1 (by omega)];simp
 |d+1,k,fuel+1,acc,c,v,b=>by
  have l:k<es.length:=by omega
  have a:=a5 l
  have j:=i _ (List.mem_of_getElem? a)
  have f:=G1 a
  generalize es[k]=e at a f j
  have n:=K0p hf j
  have q:=λm h=>n0k hf es i p d (k+1) fuel m (by omega) (by omega) h
  obtain⟨s,t,u⟩:=e
  rw[Q7.eq_2,if_pos (by simp only[decide_eq_true_eq];omega),Z1 a,oB]
  simp only[show(g.1,g.2.1,g.2.2)=g from rfl]
  rw[n,oB,D0 (by simp;omega),oB,P1 l (show es.length<=9223372036854775807 by omega),q _ (by simp;omega),f]
  simp
theorem g03(g:j0)(d:g.2.2.length<=140737488355328):O2 g=some (M1 g):=by
 have:=b07 g d
 obtain⟨a,b,c⟩:=g
 unfold O2
 show(G00 (a,b,c)).bind (λe=>some e)=_
 rw[this];rfl
theorem L0p{g:j0}(f:M1 g=true):g02 g=some (N02 g):=by
 have hf:=R4 f
 obtain⟨l,m,n,o⟩:=C1 hf
 have h:=g03 g (by omega)
 have i:=I0p hf
 have k:(J01 g).length<=g.2.2.length:=List.length_filter_le _ _
 have d:=n0k hf (J01 g) (λe j=>(h0c.1 j).1) (by omega) (J01 g).length 0 P0 [] (by omega) (W0 (by omega)) (by simp)
 rw[show((0:Nat):Int)=0 from rfl,List.drop_zero,List.nil_append]at d
 unfold N02
 obtain⟨a,b,c⟩:=g
 simp only at *
 unfold g02
 simp only[h,f,oB,i,Bool.not_true,Bool.false_eq_true,if_false,d]
theorem J0m{g:j0}(hf:K0 g=true){w:List Int}(k:∀ x∈w,l4 x)(j:w.length<=140737488355328):H8 g w=some (s00 g w):=by
 obtain⟨e,m,f,n⟩:=C1 hf
 have h:=Y0o g e f.2 (by omega) 0 w k j
 have i:=X07 e f.2 w 0 ⟨by omega,by omega⟩
 have l:=d05 g w 0
 unfold s00
 obtain⟨a,b,c⟩:=g
 unfold H8
 simp only[h,oB]
 rw[D0 i,oB,D0 (show H0 (((C2 (a,b,c) 0 w).2:Nat):Int) from⟨by omega,by omega⟩),oB]
 by_cases d:(C2 (a,b,c) 0 w).2=w.length
 ·rw[decide_eq_true d,show decide ((((C2 (a,b,c) 0 w).2:Nat):Int)=((w.length:Nat):Int))=true from decide_eq_true (by omega)]
  simp
 ·rw[decide_eq_false d,show decide ((((C2 (a,b,c) 0 w).2:Nat):Int)=((w.length:Nat):Int))=false from decide_eq_false (by omega)]
  simp
theorem a0b(w:List Int)(a:w.length<=1099511627776):O7 w=some (V02 [] w).reverse:=by
 unfold O7
 rw[V05 [w] (by simp) (by simp only[g0k];omega)]
 rfl
theorem n0f{w:List Int}(a:∀ x∈w,l4 x):∀ x∈(V02 [] w).reverse,l4 x:=λx b=>by
 rcases i0k w [] (List.mem_reverse.1 b)with h|h
 ·cases h
 ·exact a x h
theorem M0p{g:j0}(hf:K0 g=true)(ws:List (List Int))(i:∀ w∈ws,(∀ x∈w,l4 x)/\w.length<=1099511627776)(j:ws.length<=1099511627776):∀(d k fuel:Nat),k+d=ws.length->d<fuel ->
  B5 ws g.1 g.2.1 g.2.2 fuel (k:Int)=some (bif(ws.drop k).all λw=>s00 g (V02 [] w).reverse then .inr ()else .inl false)
 |d,k,0,c,f=>by omega
 |0,k,fuel+1,c,f=>by
  rw[B5.eq_2,if_neg (by simp only[decide_eq_true_eq];omega),D1 (by omega)];rfl
 |d+1,k,fuel+1,c,f=>by
  have h:k<ws.length:=by omega
  have a:=a5 h
  have b:=i _ (List.mem_of_getElem? a)
  have e:=G1 a
  generalize ws[k]=w at a b e
  have l:=y06 w []
  have m:=M0p hf ws i j d (k+1) fuel (by omega) (by omega)
  rw[B5.eq_2,if_pos (by simp only[decide_eq_true_eq];omega),Z1 a,oB,a0b w b.2,oB,show(g.1,g.2.1,g.2.2)=g from rfl,J0m hf (n0f b.1) (by rw[List.length_reverse];simp only[List.length_nil]at l;omega),oB,P1 h (by omega),m,e,List.all_cons]
  cases s00 g (V02 [] w).reverse<;>rfl
theorem N0f(b:j0)(g:b.2.2.length<=140737488355328)(ws:List (List Int))(h:∀ w∈ws,(∀ x∈w,l4 x)/\w.length<=1099511627776)(f:ws.length<=1099511627776):I8 b ws=some (W05 b ws):=by
 have e:=u00 b g
 have d:M1 b=true->_:=λc=>M0p (R4 c) ws h f ws.length 0 P0 (by omega) (W0 (by omega))
 rw[show((0:Nat):Int)=0 from rfl,List.drop_zero]at d
 unfold W05
 obtain⟨a,b,c⟩:=b
 unfold I8
 simp only[e,oB]
 cases cb:M1 (a,b,c)with
 |false=>rfl
 |true =>
  have:=d cb
  simp only at this
  simp only[Bool.not_true,Bool.false_eq_true,if_false,this,oB,Bool.true_and]
  cases ws.all λw=>s00 (a,b,c) (V02 [] w).reverse<;>rfl
theorem N0p{g:j0}(a:M1 g=true):(∀ w∈N02 g,(∀ x∈w,l4 x)/\w.length<=81)/\(N02 g).length<=120:=by
 obtain⟨h,i,j,k⟩:=C1 (R4 a)
 refine⟨λw b=>?_,?_⟩
 ·unfold N02 at b
  obtain⟨e,d,rfl⟩:=List.mem_map.1 b
  refine⟨n0f (F0n a (h0c.1 d).1),?_⟩
  have c:=y06 (bw g e) []
  have f:=w0r (R4 a) e
  rw[List.length_reverse]
  simp only[List.length_nil]at c
  omega
 ·unfold N02
  rw[List.length_map]
  have:(J01 g).length<=g.2.2.length:=List.length_filter_le _ _
  omega
def b0b(g:j0):j0:=Z2 (T05 (Q9 g).1)
theorem o0k{g:j0}(f:Q0 g=true):L7 g=some (b0b g):=by
 obtain⟨m,o,p,s⟩:=A2 f
 have h:=l09 g (by omega)
 have hf:=e08 f
 obtain⟨v,d⟩:=Z0e (Q3 hf)
 have e:=b08 (T05 (Q9 g).1) (r02 40 hf)
 unfold b0b
 obtain⟨r,n,es⟩:=g
 unfold L7
 generalize Q9 (r,n,es)=q at *
 obtain⟨⟨a,b,c⟩,l⟩:=q
 simp only[h,oB]
 simp only at d e
 generalize T05 (a,b,c)=q2 at *
 obtain⟨i,j,k⟩:=q2
 simp only[d,oB,e]
theorem p0k{g:j0}(f:Q0 g=true):M7 g=some (b0b g):=by
 obtain⟨m,o,p,s⟩:=A2 f
 have h:=m09 g (by omega)
 have hf:=e08 f
 obtain⟨v,d⟩:=P0c (Q3 hf)
 have e:=a08 (T05 (Q9 g).1) (r02 40 hf)
 unfold b0b
 obtain⟨r,n,es⟩:=g
 unfold M7
 generalize Q9 (r,n,es)=q at *
 obtain⟨⟨a,b,c⟩,l⟩:=q
 simp only[h,oB]
 simp only at d e
 generalize T05 (a,b,c)=q2 at *
 obtain⟨i,j,k⟩:=q2
 simp only[d,oB,e]
def s09(r:Int)(ws:List (List Int)):j0×Bool:=bif S5 r ws then(b0b (q09 ws (r,1,[])),true)else((0,0,[]),false)
theorem o0f{r:Int}{ws:List (List Int)}(h:S5 r ws=true):Q0 (q09 ws (r,1,[]))=true:=by
 obtain⟨a,c,b⟩:=x06 h
 exact Q0c ws (f0c a) b
theorem K0n(r:Int)(ws:List (List Int))(i:ws.length<=140737488355328)(j:V7 ws):z00 r ws=some (s09 r ws):=by
 have d:=l0i r ws i j
 have e:S5 r ws=true->_:=λh=>o0k (o0f h)
 unfold z00 s09
 unfold w06 at d
 cases hA:S5 r ws with
 |false=>rw[hA]at d;simp only[cond_false]at d;simp[d]
 |true =>
  rw[hA]at d
  simp only[cond_true]at d
  have f:=e hA
  generalize q09 ws (r,1,[])=g at *
  obtain⟨a,b,c⟩:=g
  simp only[d,oB,f,Bool.not_true,Bool.false_eq_true,if_false,cond_true]
theorem L0n(r:Int)(ws:List (List Int))(i:ws.length<=140737488355328)(j:V7 ws):A00 r ws=some (s09 r ws):=by
 have d:=m0i r ws i j
 have e:S5 r ws=true->_:=λh=>p0k (o0f h)
 unfold A00 s09
 unfold w06 at d
 cases hA:S5 r ws with
 |false=>rw[hA]at d;simp only[cond_false]at d;simp[d]
 |true =>
  rw[hA]at d
  simp only[cond_true]at d
  have f:=e hA
  generalize q09 ws (r,1,[])=g at *
  obtain⟨a,b,c⟩:=g
  simp only[d,oB,f,Bool.not_true,Bool.false_eq_true,if_false,cond_true]
def l04(g:j0)(ws:List (List Int)):Bool:=M1 g&&((s09 g.1 ws).2&&G0e g (s09 g.1 ws).1)
theorem c0h(g:j0)(h:g.2.2.length<=140737488355328)(ws:List (List Int))(i:ws.length<=140737488355328)(j:V7 ws):V4 g ws=some (l04 g ws):=by
 have e:=K0n g.1 ws i j
 have d:=g03 g h
 have f:=D0g g (s09 g.1 ws).1 (by omega)
 unfold l04
 obtain⟨a,b,c⟩:=g
 simp only at *
 unfold V4
 generalize s09 a ws=q at *
 obtain⟨⟨x,y,z⟩,ok⟩:=q
 simp only[e,oB]
 cases ok<;>cases hc:M1 (a,b,c)<;>rw[hc]at d<;>simp[d,f,j1,F1]
theorem d0h(g:j0)(h:g.2.2.length<=140737488355328)(ws:List (List Int))(i:ws.length<=140737488355328)(j:V7 ws):W4 g ws=some (l04 g ws):=by
 have e:=L0n g.1 ws i j
 have d:=u00 g h
 have f:=B0g g (s09 g.1 ws).1 (by omega)
 unfold l04
 obtain⟨a,b,c⟩:=g
 simp only at *
 unfold W4
 generalize s09 a ws=q at *
 obtain⟨⟨x,y,z⟩,ok⟩:=q
 cases ok<;>cases hc:M1 (a,b,c)<;>rw[hc]at d<;>simp[e,d,f,j1,F1]
theorem p0f{r:Int}{g:j0}{w:List Int}(e:M1 g=true)(f:G2 r w=true):o00 g w=some (s00 g w):=by
 have hf:=R4 e
 obtain⟨l,m,n,o⟩:=C1 hf
 obtain⟨p,k⟩:=T03 f
 have d:=a0b w (by omega)
 rw[g0f f]at d
 have h:=J0m hf (λx j=>(k x j).1) (by omega)
 have i:=u00 g (by omega)
 obtain⟨a,b,c⟩:=g
 unfold o00
 simp only[i,e,oB,j1,d,h,cond_true]
theorem K0m{r:Int}{g:j0}(b:M1 g=true)(ws:List (List Int))(j:∀ w∈ws,G2 r w=true)(l:ws.length<=1099511627776):∀(d k fuel:Nat),k+d=ws.length->d<fuel ->
  C5 ws g.1 g.2.1 g.2.2 fuel (k:Int)=some (bif(ws.drop k).all λw=>s00 g w then .inr ()else .inl false)
 |d,k,0,c,f=>by omega
 |0,k,fuel+1,c,f=>by
  rw[C5.eq_2,if_neg (by simp only[decide_eq_true_eq];omega),D1 (by omega)];rfl
 |d+1,k,fuel+1,c,f=>by
  have h:k<ws.length:=by omega
  have a:=a5 h
  have i:=j _ (List.mem_of_getElem? a)
  have e:=G1 a
  generalize ws[k]=w at a i e
  have m:=K0m b ws j l d (k+1) fuel (by omega) (by omega)
  rw[C5.eq_2,if_pos (by simp only[decide_eq_true_eq];omega),Z1 a,oB,show(g.1,g.2.1,g.2.2)=g from rfl,k08 b i,oB,P1 h (by omega),m,e,List.all_cons]
  cases s00 g w<;>rfl
theorem w0l{r:Int}{g:j0}(d:M1 g=true)(ws:List (List Int))(i:∀ w∈ws,G2 r w=true)(h:ws.length<=1099511627776):b00 g ws=some (ws.all λw=>s00 g w):=by
 obtain⟨j,k,l,m⟩:=C1 (R4 d)
 have f:=g03 g (by omega)
 have e:=K0m d ws i h ws.length 0 P0 (by omega) (W0 (by omega))
 rw[show((0:Nat):Int)=0 from rfl,List.drop_zero]at e
 obtain⟨a,b,c⟩:=g
 simp only at *
 unfold b00
 simp only[e,oB]
 cases ws.all λw=>s00 (a,b,c) w
 ·rfl
 ·simp[i8,f,d]
theorem x0l{r:Int}{g:j0}(a:M1 g=true)(ws:List (List Int))(b:∀ w∈ws,G2 r w=true)(c:ws.length<=1099511627776):I8 g ws=some (ws.all λw=>s00 g w):=by
 obtain⟨j,k,m,n⟩:=C1 (R4 a)
 rw[N0f g (by omega) ws (λw h=>by
  obtain⟨o,i⟩:=T03 (b w h)
  exact⟨λx e=>(i x e).1,by omega⟩) c]
 unfold W05
 rw[a,Bool.true_and]
 have:∀ l:List (List Int),(∀ w∈l,G2 r w=true)->(l.all λw=>s00 g (V02 [] w).reverse)=l.all λw=>s00 g w:=by
  intro l
  induction l with
  |nil=>intro _;rfl
  |cons w t f =>
   intro h
   simp only[List.all_cons,g0f (h w mS),f λv d=>h v (mC _ d)]
 rw[this ws b]
def J05(g:j0)(v:Int):j0×Bool:=bif K0 g&&inR 0 (g.2.1-1) v then(i0c g v,true)else(g,false)
theorem W0c(g:j0)(h:g.2.2.length<=1099511627776)(v:Int):z7 g v=some (J05 g v):=by
 unfold J05
 cases hf:K0 g with
 |false =>
  have d:=J5 g (by omega)
  have e:=X01 g (by omega)
  rw[hf]at d
  obtain⟨a,b,c⟩:=g
  unfold z7
  simp only[d,oB,Bool.not_false,Bool.not_true,F1,cond_true,if_true,e,Bool.false_and,cond_false]
 |true =>
  cases hv:inR 0 (g.2.1-1) v with
  |true=>exact t0l hf (by simp only[inR,Bool.and_eq_true,decide_eq_true_eq]at hv;omega)
  |false =>
   obtain⟨i,j,f,k⟩:=C1 hf
   have d:=J5 g (by omega)
   have e:=X01 g (by omega)
   rw[hf]at d
   obtain⟨a,b,c⟩:=g
   simp only at hv f
   unfold z7
   simp only[d,oB,Bool.not_false,Bool.not_true,j1,d01,w64 (show -9223372036854775808<=b-1 by omega) (show b-1<=9223372036854775807 by omega),hv,cond_false,if_true,e,Bool.true_and]
theorem X0c(g:j0)(i:g.2.2.length<=1099511627776)(v:Int):p8 g v=some (J05 g v):=by
 unfold J05
 cases hf:K0 g with
 |false =>
  have d:=V8 g (by omega)
  have e:=e01 g (by omega)
  rw[hf]at d
  obtain⟨a,b,c⟩:=g
  unfold p8
  simp only[d,oB,Bool.not_false,Bool.not_true,F1,cond_true,if_true,e,Bool.false_and,cond_false]
 |true =>
  cases hv:inR 0 (g.2.1-1) v with
  |true=>exact u0l hf (by simp only[inR,Bool.and_eq_true,decide_eq_true_eq]at hv;omega)
  |false =>
   obtain⟨j,k,h,l⟩:=C1 hf
   have d:=V8 g (by omega)
   have e:=e01 g (by omega)
   have f:=y0r g (Q3 hf) v
   rw[hf]at d
   rw[hv]at f
   obtain⟨a,b,c⟩:=g
   simp only at hv h
   unfold p8
   simp only[d,oB,Bool.not_false,Bool.not_true,j1,f,cond_false,if_true,e,Bool.true_and]
theorem q0f(g:j0):∀(w:List Int) (v:Int),C2 g v (w.take (C2 g v w).2)=C2 g v w
 | [],v=>rfl
 |x::w,v=>by
  have a:=q0f g w (U0 g v x)
  by_cases c:U0 g v x<0
  ·have e:C2 g v (x::w)=(v,0):=by rw[C2,if_pos c]
   rw[e];rfl
  ·have e:C2 g v (x::w)=((C2 g (U0 g v x) w).1,(C2 g (U0 g v x) w).2+1):=by rw[C2,if_neg c]
   rw[e,List.take_succ_cons,C2,if_neg c,a]
theorem r0f{g:j0}(a:inG g):∀(w:List Int) (v:Int),(0<=v/\v<g.2.1)->0<=(C2 g v w).1/\(C2 g v w).1<g.2.1
 | [],v,h=>h
 |x::w,v,h=>by
  unfold C2
  split
  ·exact h
  ·rename_i c
   have b:=r03 a v x
   refine r0f a w _ ?_
   rcases b with e|e<;>omega
theorem e0h{b a:Int}{w:List Int}:∀ {d k:Nat},(∀ i,k<=i->i<k+d->s04 b a w i=false)->S02 b a w d k=true
 |0,k,h=>rfl
 |d+1,k,h=>by
  unfold S02
  rw[h k (Nat.le_refl _) (by omega),e0h λi c e=>h i (by omega) (by omega)]
  rfl
theorem f0h{r:Int}{w:List Int}(h:G2 r w=true)(n:Nat):G2 r (w.drop n)=true:=by
 simp only[G2,Bool.and_eq_true,decide_eq_true_eq]at h ⊢
 refine⟨⟨h.1.1,by rw[List.length_drop];omega⟩,e0h λi d c=>?_⟩
 have a:=K08 h.2 (n+i) (Nat.zero_le _) (by rw[List.length_drop]at c;omega)
 unfold s04 at a ⊢
 rw[List.getElem?_drop,List.getElem?_drop]
 cases hw:w[n+i]? with
 |none=>rw[hw]at a;exact a
 |some x =>
  rw[hw]at a
  simp only[Bool.or_eq_false_iff]at a ⊢
  refine⟨a.1,?_⟩
  cases i with
  |zero=>rfl
  |succ j =>
   have b:=a.2
   rw[show n+(j+1)-1=n+j by omega]at b
   rw[show n+(j+1-1)=n+j by omega]
   rw[show decide (0<n+(j+1))=true from decide_eq_true (by omega)]at b
   rw[show decide (0<j+1)=true from decide_eq_true (by omega)]
   exact b
def p00(g:j0)(w:List Int):j0×Bool :=
 bif M1 g&&G2 g.1 w then
  (bif decide ((C2 g 0 w).2<w.length)then
   (bif(L2 g).2 then
    (bif(M4 (L2 g).1 (C2 g 0 w).1 (w.drop (C2 g 0 w).2) g.2.1).2 then J05 (M4 (L2 g).1 (C2 g 0 w).1 (w.drop (C2 g 0 w).2) g.2.1).1 g.2.1 else((0,0,[]),false))
   else((0,0,[]),false))
  else J05 g (C2 g 0 w).1)
 else((0,0,[]),false)
theorem g0h{g:j0}(f:inG g)(j:g.2.1<=40)(e:g.2.2.length<=1099511627776)(w:List Int)(l:∀ x∈w,l4 x)(n:w.length<=140737488355328):∀(d k fuel:Nat) (v:Int),k+d=w.length->d<fuel ->
  R5 w g.1 g.2.1 g.2.2 fuel v (k:Int)=some (bif decide ((C2 g v (w.drop k)).2<d)then .inl (((k+(C2 g v (w.drop k)).2:Nat):Int))else .inr ())
 |d,k,0,v,b,hf=>by omega
 |0,k,fuel+1,v,b,hf=>by
  rw[R5.eq_2,if_neg (by simp only[decide_eq_true_eq];omega),D1 (by omega)]
  rfl
 |d+1,k,fuel+1,v,b,hf=>by
  have i:k<w.length:=by omega
  have a:=a5 i
  have m:=l _ (List.mem_of_getElem? a)
  have c:=G1 a
  generalize w[k]=x at a m c
  rw[R5.eq_2,if_pos (by simp only[decide_eq_true_eq];omega),Z1 a,oB,show(g.1,g.2.1,g.2.2)=g from rfl,L03 g v x m e,oB,D0 (M02 f j v x),oB,c]
  unfold C2
  by_cases h:U0 g v x<0
  ·rw[if_pos (by simpa using h),if_pos h]
   simp
  ·rw[if_neg (by simpa using h),if_neg h,P1 i (by omega),g0h f j e w l n d (k+1) fuel _ (by omega) (by omega)]
   simp only[Nat.add_lt_add_iff_right]
   rw[show k+1+(C2 g (U0 g v x) (w.drop (k+1))).2=k+((C2 g (U0 g v x) (w.drop (k+1))).2+1) by omega]
theorem M0n{g:j0}(hf:K0 g=true){v:Int}(f:0<=v/\v<g.2.1){w:List Int}(i:∀ x∈w,l4 x)(a:w.length<=140737488355328):x00 g v w=some (((C2 g v w).2:Nat):Int):=by
 obtain⟨j,l,b,m⟩:=C1 hf
 have d:=J5 g (by omega)
 have h:=g0h j b.2 (by omega) w i a w.length 0 P0 v (by omega) (W0 a)
 rw[show((0:Nat):Int)=0 from rfl,List.drop_zero,Nat.zero_add]at h
 have k:=d05 g w v
 obtain⟨r,n,es⟩:=g
 simp only at f b h
 have e:inR 0 (n-1) v=true:=by simp only[inR,Bool.and_eq_true,decide_eq_true_eq];omega
 unfold x00
 simp only[d,hf,oB,Bool.not_true,Bool.not_false,j1,d01,w64 (show -9223372036854775808<=n-1 by omega) (show n-1<=9223372036854775807 by omega),e,cond_false,Bool.false_eq_true,if_false,h]
 by_cases c:(C2 (r,n,es) v w).2<w.length
 ·rw[decide_eq_true c];rfl
 ·rw[decide_eq_false c,show(C2 (r,n,es) v w).2=w.length by omega];rfl
theorem R08{g:j0}(h:(L2 g).2=true):L2 g=((g.1,g.2.1+1,g.2.2),true)/\g.2.1<40:=by
 unfold L2 at h ⊢
 by_cases c:g.2.1<40
 ·simp[c]
 ·simp[c]at h
theorem y0l(g:j0)(K:g.2.2.length<=140737488355328)(w:List Int)(L:w.length<=140737488355328):I4 g w=some (p00 g w):=by
 have d:=g03 g K
 have e:=B04 g.1 w L
 unfold p00
 cases hc:M1 g with
 |false =>
  rw[hc]at d
  obtain⟨a,b,c⟩:=g
  unfold I4
  simp only[d,oB,Bool.not_false,Bool.not_true,F1,cond_true,if_true,Bool.false_and,cond_false]
 |true =>
  cases hwd:G2 g.1 w with
  |false =>
   rw[hc]at d
   rw[hwd]at e
   obtain⟨a,b,c⟩:=g
   simp only at e
   unfold I4
   simp only[d,oB,Bool.not_false,Bool.not_true,j1,e,cond_false,if_true,Bool.true_and]
  |true =>
   have hf:=R4 hc
   have B:=Q3 hf
   obtain⟨F,G,N,Q⟩:=C1 hf
   obtain⟨S,O⟩:=T03 hwd
   have E:∀ x∈w,l4 x:=λx l=>(O x l).1
   have z:(0:Int)<=0/\(0:Int)<g.2.1:=⟨iR _,by omega⟩
   have p:=M0n hf z E (by omega)
   have j:=d05 g w 0
   have i:=Z0o g hf 0 z (w.take (C2 g 0 w).2) (λx l=>E x (List.mem_of_mem_take l)) (by rw[List.length_take];omega)
   rw[q0f,List.length_take,show min (C2 g 0 w).2 w.length=(C2 g 0 w).2 by omega,decide_eq_false (Nat.lt_irrefl _)]at i
   have s:=X07 F N.2 w 0 ⟨by omega,by omega⟩
   have H:=X01 g (by omega)
   have t:=d08 (xs:=w) (k:=(C2 g 0 w).2) j
   have A:=U02 (xs:=w) (k:=(C2 g 0 w).2) j
   have I:=e0d B
   have J:=r0f F w 0 z
   have D:=W0c g (by omega) (C2 g 0 w).1
   have C:=q04 B
   have m:(L2 g).2=true->_:=λh=>n09 (g:=(L2 g).1) (u:=(C2 g 0 w).1) (v:=g.2.1) (w:=w.drop (C2 g 0 w).2) C (by rw[(R08 h).1];simp only;omega) (by rw[(R08 h).1];simp only;omega) (by rw[(R08 h).1];exact f0h hwd _)
   have P:=h08 C (C2 g 0 w).1 (w.drop (C2 g 0 w).2) g.2.1
   have f:=W0c (M4 (L2 g).1 (C2 g 0 w).1 (w.drop (C2 g 0 w).2) g.2.1).1 (by omega) g.2.1
   rw[hc]at d
   rw[hwd]at e
   generalize C2 g 0 w=R at *
   obtain⟨v,n⟩:=R
   obtain⟨a,b,c⟩:=g
   simp only at e p i s t A j J D f m ⊢
   unfold I4
   simp only[d,oB,Bool.not_true,Bool.not_false,j1,e,cond_false,Bool.false_eq_true,if_false,p,Bool.true_and,cond_true]
   rw[D0 (show H0 ((n:Nat):Int) from⟨by omega,by omega⟩),oB,t,oB,i]
   simp only[cond_false,oB]
   rw[D0 s]
   simp only[oB,H]
   by_cases c1:n<w.length
   ·rw[if_pos (by simp only[decide_eq_true_eq];omega),decide_eq_true c1,I]
    simp only[oB,cond_true]
    cases hok:(L2 (a,b,c)).2 with
    |false =>
     generalize L2 (a,b,c)=q at *
     obtain⟨⟨x,y,z⟩,ok⟩:=q
     simp only at hok
     subst hok
     rfl
    |true =>
     have o:=m hok
     generalize L2 (a,b,c)=q at *
     obtain⟨⟨x,y,z⟩,ok⟩:=q
     simp only at hok o f
     subst hok
     simp only[Bool.not_true,Bool.false_eq_true,if_false,A,oB,o,cond_true]
     generalize M4 (x,y,z) v (w.drop n) b=G at *
     obtain⟨⟨T,U,V⟩,M⟩:=G
     cases M with
     |false=>rfl
     |true=>simp only[Bool.not_true,Bool.false_eq_true,if_false,cond_true]at f ⊢;rw[f];rfl
   ·rw[if_neg (by simp only[decide_eq_true_eq];omega),decide_eq_false c1,D];rfl
theorem z0l(g:j0)(G:g.2.2.length<=140737488355328)(w:List Int)(H:w.length<=140737488355328):J4 g w=some (p00 g w):=by
 have d:=u00 g G
 have e:=C04 g.1 w H
 unfold p00
 cases hc:M1 g with
 |false =>
  rw[hc]at d
  obtain⟨a,b,c⟩:=g
  unfold J4
  simp only[d,oB,Bool.not_false,Bool.not_true,F1,cond_true,if_true,Bool.false_and,cond_false]
 |true =>
  cases hwd:G2 g.1 w with
  |false =>
   rw[hc]at d
   rw[hwd]at e
   obtain⟨a,b,c⟩:=g
   simp only at e
   unfold J4
   simp only[d,oB,Bool.not_false,Bool.not_true,j1,e,cond_false,if_true,Bool.true_and]
  |true =>
   have hf:=R4 hc
   have t:=Q3 hf
   obtain⟨j,D,l,N⟩:=C1 hf
   obtain⟨O,L⟩:=T03 hwd
   have I:∀ x∈w,l4 x:=λx J=>(L x J).1
   have z:(0:Int)<=0/\(0:Int)<g.2.1:=⟨iR _,by omega⟩
   have p:=Y0o g j l.2 (by omega) 0 w I (by omega)
   have B:=d05 g w 0
   have i:=X07 j l.2 w 0 ⟨by omega,by omega⟩
   have s:=U02 (xs:=w) (k:=(C2 g 0 w).2) B
   have E:=f0d t
   have F:=r0f j w 0 z
   have C:=X0c g (by omega) (C2 g 0 w).1
   have A:=q04 t
   have m:(L2 g).2=true->_:=λh=>o09 (g:=(L2 g).1) (u:=(C2 g 0 w).1) (v:=g.2.1) (w:=w.drop (C2 g 0 w).2) A (by rw[(R08 h).1];simp only;omega) (by rw[(R08 h).1];simp only;omega) (by rw[(R08 h).1];exact f0h hwd _)
   have M:=h08 A (C2 g 0 w).1 (w.drop (C2 g 0 w).2) g.2.1
   have f:=X0c (M4 (L2 g).1 (C2 g 0 w).1 (w.drop (C2 g 0 w).2) g.2.1).1 (by omega) g.2.1
   rw[hc]at d
   rw[hwd]at e
   generalize C2 g 0 w=R at *
   obtain⟨v,n⟩:=R
   obtain⟨a,b,c⟩:=g
   simp only at e p i s B F C f m ⊢
   unfold J4 V03
   simp only[d,oB,Bool.not_true,Bool.not_false,j1,e,cond_false,Bool.false_eq_true,if_false,p,Bool.true_and,cond_true]
   rw[D0 i,oB,D0 (show H0 ((n:Nat):Int) from⟨by omega,by omega⟩),oB]
   by_cases c1:n<w.length
   ·rw[if_neg (by simp only[decide_eq_true_eq];omega),decide_eq_true c1,E]
    simp only[oB,cond_true]
    cases hok:(L2 (a,b,c)).2 with
    |false =>
     generalize L2 (a,b,c)=q at *
     obtain⟨⟨x,y,z⟩,ok⟩:=q
     simp only at hok
     subst hok
     simp only[Bool.not_false,if_true,oB]
     rw[D0 (show H0 0 from⟨by omega,by omega⟩)]
     rfl
    |true =>
     have o:=m hok
     generalize L2 (a,b,c)=q at *
     obtain⟨⟨x,y,z⟩,ok⟩:=q
     simp only at hok o f
     subst hok
     simp only[Bool.not_true,Bool.false_eq_true,if_false,s,oB,o,cond_true]
     generalize M4 (x,y,z) v (w.drop n) b=D at *
     obtain⟨⟨P,Q,S⟩,K⟩:=D
     cases K with
     |false =>
      simp only[Bool.not_false,if_true,oB]
      rw[D0 (show H0 0 from⟨by omega,by omega⟩)]
      rfl
     |true =>
      simp only at l
      simp only[Bool.not_true,Bool.false_eq_true,if_false,cond_true,oB]at f ⊢
      rw[D0 (show H0 b from⟨by omega,by omega⟩),oB,f];rfl
   ·rw[if_pos (by simp only[decide_eq_true_eq];omega),decide_eq_false c1]
    simp only[oB,Bool.not_true,Bool.false_eq_true,if_false,cond_false]
    rw[D0 i,oB,C];rfl
def m04(g:j0):Int:=bif M1 g then(g.2.2.length:Int)-g.2.1+1 else -1
theorem s0f(g:j0)(e:g.2.2.length<=140737488355328):B01 g=some (m04 g)/\H0 (m04 g):=by
 have d:=g03 g e
 unfold m04
 cases hc:M1 g with
 |false =>
  rw[hc]at d
  obtain⟨a,b,c⟩:=g
  unfold B01
  simp only[d,oB,Bool.not_false,if_true,cond_false]
  exact⟨trivial,⟨by omega,by omega⟩⟩
 |true =>
  obtain⟨i,j,f,h⟩:=C1 (R4 hc)
  rw[hc]at d
  obtain⟨a,b,c⟩:=g
  simp only at f h
  unfold B01
  simp only[d,oB,Bool.not_true,Bool.false_eq_true,if_false,cond_true]
  rw[w64 (x:=((c.length:Nat):Int)-b) (by omega) (by omega),w64 (by omega) (by omega)]
  exact⟨rfl,⟨by omega,by omega⟩⟩
theorem A0l(g:j0)(e:g.2.2.length<=140737488355328):C01 g=some (m04 g):=by
 have d:=u00 g e
 unfold m04
 cases hc:M1 g with
 |false =>
  rw[hc]at d
  obtain⟨a,b,c⟩:=g
  unfold C01
  simp only[d,oB,Bool.not_false,if_true,cond_false]
 |true =>
  obtain⟨i,j,f,h⟩:=C1 (R4 hc)
  rw[hc]at d
  obtain⟨a,b,c⟩:=g
  simp only at f h
  unfold C01
  simp only[d,oB,Bool.not_true,Bool.false_eq_true,if_false,cond_true]
  rw[w64 (x:=((c.length:Nat):Int)-b) (by omega) (by omega),w64 (by omega) (by omega)]
def O03(g:j0):Int:=bif U03 g then g.2.1 else -1
theorem t09(g:j0)(f:g.2.2.length<=140737488355328):h02 g=some (O03 g)/\H0 (O03 g):=by
 have d:=j0k g f
 have e:U03 g=true->_:=λh=>C1 (R4 (A0p h))
 unfold O03
 obtain⟨a,b,c⟩:=g
 unfold h02
 cases hc:U03 (a,b,c)with
 |false =>
  rw[hc]at d
  simp only[d,oB,Bool.not_false,if_true,cond_false]
  exact⟨trivial,⟨by omega,by omega⟩⟩
 |true =>
  rw[hc]at d
  obtain⟨j,k,i,l⟩:=e hc
  simp only at i
  simp only[d,oB,Bool.not_true,Bool.false_eq_true,if_false,cond_true]
  exact⟨trivial,⟨by omega,by omega⟩⟩
theorem O0f(g:j0)(e:g.2.2.length<=140737488355328):i02 g=some (O03 g):=by
 have d:=k0k g e
 unfold O03
 obtain⟨a,b,c⟩:=g
 unfold i02
 cases hc:U03 (a,b,c)with
 |false =>
  rw[hc]at d
  simp only[d,oB,Bool.not_false,if_true,cond_false]
 |true =>
  rw[hc]at d
  simp only[d,oB,Bool.not_true,Bool.false_eq_true,if_false,cond_true]
def exO(bs:List (List Int))(k:Int):Option (List Int):=if 0<k/\k<=(bs.length:Int)then some (bs.getD (k.toNat-1) [])else if k<0 /\ -(bs.length:Int)<=k then some (inv (bs.getD ((-k).toNat-1) []))else none
def exP(bs:List (List Int))(k:Int):List Int:=(exO bs k).getD []
def c0b(bs:List (List Int))(l:List Int):List Int:=(V02 [] ((l.take 200).flatMap (exP bs))).reverse
def BOk(bs:List (List Int)):Prop:=(∀ w∈bs,(∀ x∈w,l4 x)/\w.length<=1000)/\bs.length<=1000
theorem A06{bs:List (List Int)}{k:Nat}(h:k<bs.length):bs.getD k []∈bs:=by
 rw[List.getD_eq_getElem?_getD,List.getElem?_eq_getElem h];exact List.getElem_mem h
theorem B0q{bs:List (List Int)}(h:BOk bs){k:Int}{w:List Int}(e:exO bs k=some w):w.length<=1000/\∀ x∈w,H0 x:=by
 unfold exO at e
 split at e
 ·rename_i c
  have a:=A06 (bs:=bs) (k:=k.toNat-1) (by omega)
  simp only[Option.some.injEq]at e
  rw[←e]
  exact⟨(h.1 _ a).2,λx b=>((h.1 _ a).1 x b).1⟩
 ·split at e
  ·rename_i c
   have a:=A06 (bs:=bs) (k:=(-k).toNat-1) (by omega)
   simp only[Option.some.injEq]at e
   rw[←e]
   exact⟨by rw[D04];exact(h.1 _ a).2,λx b=>(o0i (h.1 _ a).1 x b).1⟩
  ·cases e
theorem L0m{bs:List (List Int)}(h:BOk bs)(k:Int):(exP bs k).length<=1000/\∀ x∈exP bs k,H0 x:=by
 unfold exP
 cases e:exO bs k with
 |none=>exact⟨by simp,λx a=>by cases a⟩
 |some w=>exact B0q h e
theorem G0d{bs:List (List Int)}{k:Nat}(h:k<bs.length):gi bs (k:Int)=some (bs.getD k []):=by
 refine Z1 ?_
 rw[List.getD_eq_getElem?_getD,List.getElem?_eq_getElem h];rfl
theorem J00{bs:List (List Int)}(h:BOk bs):∀ l:List Int,(l.flatMap (exP bs)).length<=1000*l.length/\∀ x∈l.flatMap (exP bs),H0 x
 | []=>⟨by simp,λx a=>by cases a⟩
 |k::r=>by
  have b:=L0m h k
  have c:=J00 h r
  rw[List.flatMap_cons]
  refine⟨by rw[List.length_append,List.length_cons];omega,λx a=>?_⟩
  rcases List.mem_append.1 a with a|a
  ·exact b.2 x a
  ·exact c.2 x a
theorem O0p{bs:List (List Int)}(h:BOk bs)(l:List Int):∀(d k fuel:Nat) (acc:List Int),k+d=(l.take 200).length->d<fuel->acc.length<=1000*k ->
  o5 l bs fuel (k:Int) acc=some (acc++((l.take 200).drop k).flatMap (exP bs))
 |d,k,0,acc,b,hf,j=>by omega
 |0,k,fuel+1,acc,b,hf,j=>by
  rw[List.length_take]at b
  have e:(bif(decide ((k:Int)<((l.length:Nat):Int)))then(decide ((k:Int)<200))else false)=false:=by
   by_cases c:(k:Int)<((l.length:Nat):Int)
   ·rw[decide_eq_true c,cond_true];exact decide_eq_false (by omega)
   ·rw[decide_eq_false c,cond_false]
  rw[o5.eq_2,e,if_neg (by simp),List.drop_eq_nil_of_le (by rw[List.length_take];omega)];simp
 |d+1,k,fuel+1,acc,b,hf,j=>by
  have t:k<(l.take 200).length:=by omega
  rw[List.length_take]at b
  have o:k<l.length:=by omega
  have s:=h.2
  have i:=a5 o
  have m:(l.take 200).drop k=l[k]::(l.take 200).drop (k+1):=G1 (by rw[List.getElem?_take,if_pos (by omega)];exact i)
  generalize l[k]=x at i m
  have u:=L0m h x
  have a:=λn q=>O0p h l d (k+1) fuel n (by rw[List.length_take];omega) (by omega) q
  have e:(bif(decide ((k:Int)<((l.length:Nat):Int)))then(decide ((k:Int)<200))else false)=true:=by
   rw[decide_eq_true (by omega),cond_true];exact decide_eq_true (by omega)
  rw[o5.eq_2,e,if_pos rfl,m,List.flatMap_cons]
  simp only[Z1 i,oB,P1 (show k<1000 by omega) (show(1000:Nat)<=9223372036854775807 by omega)]
  unfold exP exO
  by_cases c1:0<x
  ·rw[decide_eq_true (show x>0 from c1)]
   simp only[j1,oB,cond_true]
   by_cases c2:x<=(bs.length:Int)
   ·have g:=A06 (bs:=bs) (k:=x.toNat-1) (by omega)
    have p:=(h.1 _ g).2
    have f:gi bs (IntKind.i64.wrap (x-1))=some (bs.getD (x.toNat-1) []):=by
     rw[w64 (by omega) (by omega),show x-1=((x.toNat-1:Nat):Int) by omega];exact G0d (by omega)
    rw[if_pos (by simpa using c2),if_pos ⟨c1,c2⟩,f,oB,D0 (by omega),oB,a _ (by rw[List.length_append];omega)]
    simp only[Option.getD_some,List.append_assoc]
    rfl
   ·rw[if_neg (by simpa using c2),decide_eq_false (show ¬ x<0 by omega)]
    simp only[F1,oB,cond_false]
    rw[if_neg (by simp),if_neg (λq=>c2 q.2),if_neg (λq=>by omega),a _ (by omega)]
    simp only[Option.getD_none,List.nil_append]
    rfl
  ·rw[decide_eq_false (show ¬ x>0 from c1)]
   simp only[F1,oB,cond_false]
   rw[if_neg (by simp),if_neg (λq=>c1 q.1)]
   by_cases c3:x<0
   ·rw[decide_eq_true c3]
    simp only[j1,oB,cond_true]
    rw[w64 (x:=0-((bs.length:Nat):Int)) (by omega) (by omega)]
    by_cases c2 : -(bs.length:Int)<=x
    ·have g:=A06 (bs:=bs) (k:=(-x).toNat-1) (by omega)
     have p:=(h.1 _ g).2
     have f:gi bs (IntKind.i64.wrap ((IntKind.i64.wrap (0-x))-1))=some (bs.getD ((-x).toNat-1) []):=by
      rw[w64 (x:=0-x) (by omega) (by omega),w64 (by omega) (by omega),show 0-x-1=(((-x).toNat-1:Nat):Int) by omega];exact G0d (by omega)
     rw[if_pos (by simp only[decide_eq_true_eq];omega),if_pos ⟨c3,c2⟩,f,oB,s02 _ (by omega),oB,D0 (by rw[D04];omega),oB,a _ (by rw[List.length_append,D04];omega)]
     simp only[Option.getD_some,List.append_assoc]
     rfl
    ·rw[if_neg (by simp only[decide_eq_true_eq];omega),if_neg (λq=>c2 q.2),a _ (by omega)]
     simp only[Option.getD_none,List.nil_append]
     rfl
   ·rw[decide_eq_false c3]
    simp only[F1,oB,cond_false]
    rw[if_neg (by simp),if_neg (λq=>c3 q.1),a _ (by omega)]
    simp only[Option.getD_none,List.nil_append]
    rfl
theorem N0n{bs:List (List Int)}(h:BOk bs)(l:List Int):v01 bs l=some (c0b bs l):=by
 have a:=O0p h l (l.take 200).length 0 P0 [] (by omega) (W0 (by rw[List.length_take];omega)) (by simp)
 rw[show((0:Nat):Int)=0 from rfl,List.drop_zero,List.nil_append]at a
 have b:=J00 h (l.take 200)
 have d:(l.take 200).length<=200:=by rw[List.length_take];omega
 unfold v01 c0b
 rw[a,oB,A02 _ (λx c=>b.2 x c) (by omega)]
 rfl
theorem h0h:∀(ws:List (List Int)) (s:List Int),r0l s ws=V02 s ws.flatten
 | [],s=>rfl
 |w::r,s=>by rw[r0l,h0h r,List.flatten_cons,e0f]
theorem h05(bs:List (List Int)):∀ l:List Int,(l.filterMap (exO bs)).flatten=l.flatMap (exP bs)
 | []=>rfl
 |k::r=>by
  rw[List.flatMap_cons,←h05 bs r,List.filterMap_cons]
  unfold exP
  cases exO bs k with
  |none=>rfl
  |some w=>rfl
theorem i0h:∀ ws:List (List Int),g0k ws=ws.flatten.length
 | []=>rfl
 |w::r=>by rw[g0k,i0h r,List.flatten_cons,List.length_append]
theorem P0p{bs:List (List Int)}(h:BOk bs)(l:List Int)(n:l.length<=200):∀(d k fuel:Nat) (acc:List (List Int)),k+d=l.length->d<fuel->acc.length<=k ->
  p5 l bs fuel (k:Int) acc=some (acc++(l.drop k).filterMap (exO bs))
 |d,k,0,acc,f,hf,e=>by omega
 |0,k,fuel+1,acc,f,hf,e=>by
  rw[p5.eq_2,if_neg (by simp only[decide_eq_true_eq];omega),D1 (by omega)];simp
 |d+1,k,fuel+1,acc,f,hf,e=>by
  have m:k<l.length:=by omega
  have o:=h.2
  have b:=a5 m
  have g:=G1 b
  generalize l[k]=x at b g
  have c:=λj q=>P0p h l n d (k+1) fuel j (by omega) (by omega) q
  rw[p5.eq_2,if_pos (by simp only[decide_eq_true_eq];omega),g,List.filterMap_cons]
  simp only[Z1 b,oB,P1 (show k<1000 by omega) (show(1000:Nat)<=9223372036854775807 by omega),W01,w64 (x:=0-((bs.length:Nat):Int)) (by omega) (by omega)]
  unfold exO
  by_cases c1:0<x/\x<=(bs.length:Int)
  ·have i:=A06 (bs:=bs) (k:=x.toNat-1) (by omega)
   have a:gi bs (IntKind.i64.wrap (x-1))=some (bs.getD (x.toNat-1) []):=by
    rw[w64 (by omega) (by omega),show x-1=((x.toNat-1:Nat):Int) by omega];exact G0d (by omega)
   rw[if_pos (show inR 1 ((bs.length:Nat):Int) x=true by simp only[inR,Bool.and_eq_true,decide_eq_true_eq];omega),if_pos c1,a,oB,D0 (by simp;omega),oB,c _ (by simp;omega)]
   simp only[List.append_assoc]
   rfl
  ·rw[if_neg (show ¬ inR 1 ((bs.length:Nat):Int) x=true by simp only[inR,Bool.and_eq_true,decide_eq_true_eq];omega),if_neg c1]
   by_cases c2:x<0 /\ -(bs.length:Int)<=x
   ·have i:=A06 (bs:=bs) (k:=(-x).toNat-1) (by omega)
    have p:=(h.1 _ i).2
    have a:gi bs (IntKind.i64.wrap ((IntKind.i64.wrap (0-x))-1))=some (bs.getD ((-x).toNat-1) []):=by
     rw[w64 (x:=0-x) (by omega) (by omega),w64 (by omega) (by omega),show 0-x-1=(((-x).toNat-1:Nat):Int) by omega];exact G0d (by omega)
    rw[if_pos (show inR (0-((bs.length:Nat):Int)) (-1) x=true by simp only[inR,Bool.and_eq_true,decide_eq_true_eq];omega),if_pos c2,a,oB,M03 _ (by omega),oB,D0 (by simp;omega),oB,c _ (by simp;omega)]
    simp only[List.append_assoc]
    rfl
   ·rw[if_neg (show ¬ inR (0-((bs.length:Nat):Int)) (-1) x=true by simp only[inR,Bool.and_eq_true,decide_eq_true_eq];omega),if_neg c2,c _ (by omega)]
    rfl
theorem O0n{bs:List (List Int)}(h:BOk bs)(l:List Int):w01 bs l=some (c0b bs l):=by
 have b:(l.take 200).length<=200:=by rw[List.length_take];omega
 have a:=P0p h (l.take 200) b (l.take 200).length 0 P0 [] (by omega) (W0 (by omega)) (by simp)
 rw[show((0:Nat):Int)=0 from rfl,List.drop_zero,List.nil_append]at a
 have e:=J00 h (l.take 200)
 have d:m05 l 0 (if 200<((l.length:Nat):Int)then 200 else((l.length:Nat):Int))=some (l.take 200):=by
  by_cases c:200<((l.length:Nat):Int)
  ·rw[if_pos c];exact d08 (k:=200) (by omega)
  ·rw[if_neg c,d08 (Nat.le_refl _),List.take_of_length_le (Nat.le_refl _),List.take_of_length_le (by omega)]
 have f:((l.take 200).filterMap (exO bs)).length<=200:=Nat.le_trans (List.length_filterMap_le _ _) b
 unfold w01 c0b
 rw[d,oB,a,oB,V05 _ (by omega) (by rw[i0h,h05];omega),h0h,h05]
 rfl
theorem Q0p(a b:List Int)(i:a.length=b.length)(g:a.length<=9223372036854775807):∀(d k fuel:Nat),k+d=a.length->d<fuel ->
  T3 a b fuel (k:Int)=some (bif eqW (a.drop k) (b.drop k)then .inr ()else .inl false)
 |d,k,0,f,hf=>by omega
 |0,k,fuel+1,f,hf=>by
  rw[T3.eq_2,if_neg (by simp;omega),D1 (by omega),D1 (by omega)]
  rfl
 |d+1,k,fuel+1,f,hf=>by
  have c:=a5 (show k<a.length by omega)
  have e:=a5 (show k<b.length by omega)
  have next:=Q0p a b i g d (k+1) fuel (by omega) (by omega)
  generalize a[k]=x at c
  generalize b[k]=y at e
  rw[T3.eq_2,if_pos (by simp;omega),Z1 c,oB,Z1 e,oB,G1 c,G1 e]
  unfold eqW at next ⊢
  by_cases h:x=y
  ·rw[if_neg (by simpa using h),P1 (show k<a.length by omega) g,next]
   simp[h]
  ·rw[if_pos (by simpa using h)]
   simp[h]
theorem B06{a b:List Int}(c:a.length<=9223372036854775807):l9 a b=some (eqW a b):=by
 unfold l9
 by_cases h:a.length=b.length
 ·rw[if_neg (by simp[h])]
  have:=Q0p a b h (by omega) a.length 0 P0 (by omega) (A0e c)
  rw[show((0:Nat):Int)=0 from rfl]at this
  rw[this]
  simp only[List.drop_zero,oB]
  unfold eqW
  by_cases h2:a=b
  ·simp[h2,i8]
  ·simp[h2,i8]
 ·rw[if_pos (by simp;omega)]
  unfold eqW
  have : ¬ a=b:=λe=>h (by rw[e])
  simp[this]
theorem x03(a b:List Int):∀(fuel:Nat) (k:Int),N6 a b fuel k=T3 a b fuel k
 |0,k=>rfl
 |fuel+1,k=>by
  rw[N6.eq_2,T3.eq_2]
  simp only[x03 a b fuel]
theorem l0c{a b:List Int}(c:a.length<=9223372036854775807):y00 a b=some (eqW a b):=by
 rw[←B06 c]
 unfold y00 l9
 rw[x03]
theorem j0h{g:j0}(h:g.2.2.length<=120)(v:Int):(J05 g v).1.2.2.length<=120:=by
 unfold J05
 cases hf:K0 g with
 |false=>simpa using h
 |true =>
  cases hv:inR 0 (g.2.1-1) v with
  |false=>simpa using h
  |true =>
   simp only[Bool.and_self,cond_true]
   exact(l0k (G0n hf (by simp only[inR,Bool.and_eq_true,decide_eq_true_eq]at hv;omega))).1
theorem Y0c(g:j0)(w:List Int):(p00 g w).1.2.2.length<=120:=by
 unfold p00
 cases hc:M1 g with
 |false=>simp
 |true =>
  have a:=Q3 (R4 hc)
  have b:=(l0k hc).1
  cases G2 g.1 w with
  |false=>simp
  |true =>
   simp only[Bool.and_self,cond_true]
   cases decide ((C2 g 0 w).2<w.length)with
   |false=>simp only[cond_false];exact j0h b _
   |true =>
    simp only[cond_true]
    cases (L2 g).2 with
    |false=>simp
    |true =>
     simp only[cond_true]
     have c:=h08 (q04 a) (C2 g 0 w).1 (w.drop (C2 g 0 w).2) g.2.1
     cases (M4 (L2 g).1 (C2 g 0 w).1 (w.drop (C2 g 0 w).2) g.2.1).2 with
     |false=>simp
     |true=>simp only[cond_true];exact j0h c _
def n08(k r:Int)(ws:List (List Int))(w a:List Int)(g:j0)(n:Int):Bool :=
 bif S5 r ws&&(G2 r w&&(decide (g.1=r)&&M1 g))then
  (if k=1 then l04 g ws&&eqW (c0b (N02 g) a) w
  else if k=2 then(ws.all λv=>s00 g v) && !(s00 g w)
  else if k=3 then l04 g ws&&s00 g w
  else if k=4 then(p00 g (inv w)).2&&l04 (p00 g (inv w)).1 ws
  else if k=5 then l04 g ws&&(decide (m04 g=((ws.length:Nat):Int))&&decide (n=((ws.length:Nat):Int)))
  else if k=6 then l04 g ws&&(decide (O03 g=n)&&decide (n>0))
  else false)
 else false
def y03(c:W9):Bool:=n08 c.1 c.2.1 c.2.2.1 c.2.2.2.1 c.2.2.2.2.1 c.2.2.2.2.2.1 c.2.2.2.2.2.2
theorem M0m{bs:List (List Int)}(h:BOk bs)(l:List Int):(c0b bs l).length<=200000:=by
 have a:=J00 h (l.take 200)
 have b:=y06 ((l.take 200).flatMap (exP bs)) []
 unfold c0b
 rw[List.length_reverse]
 rw[List.length_take]at a
 simp only[List.length_nil]at b
 omega
theorem k0h{g:j0}(b:M1 g=true):BOk (N02 g):=by
 have h:=N0p b
 exact⟨λw a=>⟨(h.1 w a).1,by have:=(h.1 w a).2;omega⟩,by have:=h.2;omega⟩
theorem r0i(k r:Int)(ws:List (List Int))(w e:List Int)(g:j0)(n:Int)(h:ws.length<=140737488355328)(i:V7 ws)(p:w.length<=140737488355328)(d:g.2.2.length<=140737488355328):
  n9 (k,r,ws,w,e,g,n)=some (n08 k r ws w e g n):=by
 have B:=V07 r ws h i
 have C:=B04 r w p
 have D:=g03 g d
 have f:=c0h g d ws h i
 have F:=y0l g d (inv w) (by rw[D04];exact p)
 have G:=c0h (p00 g (inv w)).1 (by have:=Y0c g (inv w);omega) ws h i
 have l:=s0f g d
 have m:=t09 g d
 unfold n08
 obtain⟨a,b,c⟩:=g
 unfold n9
 simp only[B,oB]
 cases hA:S5 r ws with
 |false=>simp only[Bool.not_false,Bool.not_true,F1,oB,cond_true,if_true,Bool.false_and,cond_false]
 |true =>
  simp only[Bool.not_true,Bool.not_false,j1,C,oB,cond_false]
  cases hW:G2 r w with
  |false=>simp only[Bool.not_false,Bool.not_true,F1,oB,cond_true,if_true,Bool.false_and,Bool.and_false,cond_false]
  |true =>
   simp only[Bool.not_true,cond_false]
   by_cases hr:a=r
   ·subst hr
    simp only[decide_true,Bool.not_true,Bool.not_false,j1,D,oB,cond_false]
    cases hc:M1 (a,b,c)with
    |false=>simp only[Bool.not_false,if_true,Bool.and_false,cond_false]
    |true =>
     obtain⟨J,I,H⟩:=x06 hA
     have o:=k0h hc
     have s:=L0p hc
     have t:=N0n o e
     have u:=B06 (a:=c0b (N02 (a,b,c)) e) (b:=w) (by have:=M0m o e;omega)
     have A:=w0l hc ws H (by omega)
     have j:=k08 hc hW
     have E:=s02 w (by have:=(T03 hW).1;omega)
     simp only[Bool.not_true,Bool.false_eq_true,if_false,Bool.and_self,cond_true]
     by_cases k1:k=1
     ·rw[if_pos (decide_eq_true k1),if_pos k1,f,oB]
      cases l04 (a,b,c) ws<;>simp[j1,F1,s,t,u]
     rw[if_neg (by simpa using k1),if_neg k1]
     by_cases k2:k=2
     ·rw[if_pos (decide_eq_true k2),if_pos k2,A,oB]
      cases (ws.all λv=>s00 (a,b,c) v)<;>simp[j1,F1,j]
     rw[if_neg (by simpa using k2),if_neg k2]
     by_cases k3:k=3
     ·rw[if_pos (decide_eq_true k3),if_pos k3,f,oB]
      cases l04 (a,b,c) ws<;>simp[j1,F1,j]
     rw[if_neg (by simpa using k3),if_neg k3]
     by_cases k4:k=4
     ·rw[if_pos (decide_eq_true k4),if_pos k4,E,oB,F,oB]
      generalize p00 (a,b,c) (inv w)=q at *
      obtain⟨⟨x,y,z⟩,ok⟩:=q
      cases ok<;>simp[j1,F1,G]
     rw[if_neg (by simpa using k4),if_neg k4]
     by_cases k5:k=5
     ·rw[if_pos (decide_eq_true k5),if_pos k5,f,oB]
      cases l04 (a,b,c) ws with
      |false =>
       simp only[F1,oB,cond_false,Bool.false_and]
       rw[D0 (show H0 0 from⟨by omega,by omega⟩)];rfl
      |true =>
       simp only[j1,l.1,oB,cond_true,Bool.true_and]
       rw[D0 l.2,oB]
       cases decide (m04 (a,b,c)=((ws.length:Nat):Int))<;>rfl
     rw[if_neg (by simpa using k5),if_neg k5]
     by_cases k6:k=6
     ·rw[if_pos (decide_eq_true k6),if_pos k6,f,oB]
      cases l04 (a,b,c) ws with
      |false =>
       simp only[F1,oB,cond_false,Bool.false_and]
       rw[D0 (show H0 0 from⟨by omega,by omega⟩)];rfl
      |true =>
       simp only[j1,m.1,oB,cond_true,Bool.true_and]
       rw[D0 m.2,oB]
       cases decide (O03 (a,b,c)=n)<;>rfl
     rw[if_neg (by simpa using k6),if_neg k6]
   ·simp only[decide_eq_false hr,Bool.not_false,Bool.not_true,F1,oB,cond_true,if_true,Bool.false_and,Bool.and_false,cond_false]
theorem s0i(k r:Int)(ws:List (List Int))(w e:List Int)(g:j0)(n:Int)(h:ws.length<=140737488355328)(i:V7 ws)(m:w.length<=140737488355328)(d:g.2.2.length<=140737488355328):
  o9 (k,r,ws,w,e,g,n)=some (n08 k r ws w e g n):=by
 have u:=W07 r ws h i
 have A:=C04 r w m
 have B:=u00 g d
 have f:=d0h g d ws h i
 have D:=z0l g d (inv w) (by rw[D04];exact m)
 have E:=d0h (p00 g (inv w)).1 (by have:=Y0c g (inv w);omega) ws h i
 have F:=A0l g d
 have G:=(s0f g d).2
 have H:=O0f g d
 have I:=(t09 g d).2
 unfold n08
 obtain⟨a,b,c⟩:=g
 unfold o9
 simp only[u,oB]
 cases hA:S5 r ws with
 |false=>simp only[Bool.not_false,Bool.not_true,F1,oB,cond_true,if_true,Bool.false_and,cond_false]
 |true =>
  simp only[Bool.not_true,Bool.not_false,j1,A,oB,cond_false]
  cases hW:G2 r w with
  |false=>simp only[Bool.not_false,Bool.not_true,F1,oB,cond_true,if_true,Bool.false_and,Bool.and_false,cond_false]
  |true =>
   simp only[Bool.not_true,Bool.not_false,j1,B,oB,cond_false]
   cases hc:M1 (a,b,c)with
   |false=>simp only[Bool.not_false,cond_true,if_true,Bool.and_false,cond_false]
   |true =>
    simp only[Bool.not_true,cond_false]
    by_cases hr:a=r
    ·subst hr
     obtain⟨L,K,J⟩:=x06 hA
     have l:=k0h hc
     have o:=A0q hc
     have p:=O0n l e
     have s:=l0c (a:=c0b (N02 (a,b,c)) e) (b:=w) (by have:=M0m l e;omega)
     have t:=x0l hc ws J (by omega)
     have j:=p0f hc hW
     have C:=M03 w (by have:=(T03 hW).1;omega)
     simp only[decide_true,Bool.not_true,Bool.false_eq_true,if_false,Bool.and_self,cond_true]
     by_cases k1:k=1
     ·rw[if_pos (decide_eq_true k1),if_pos k1,f,oB]
      cases l04 (a,b,c) ws<;>simp[j1,F1,o,p,s]
     rw[if_neg (by simpa using k1),if_neg k1]
     by_cases k2:k=2
     ·rw[if_pos (decide_eq_true k2),if_pos k2,t,oB]
      cases (ws.all λv=>s00 (a,b,c) v)<;>simp[j1,F1,j]
     rw[if_neg (by simpa using k2),if_neg k2]
     by_cases k3:k=3
     ·rw[if_pos (decide_eq_true k3),if_pos k3,f,oB]
      cases l04 (a,b,c) ws<;>simp[j1,F1,j]
     rw[if_neg (by simpa using k3),if_neg k3]
     by_cases k4:k=4
     ·rw[if_pos (decide_eq_true k4),if_pos k4,C,oB,D,oB]
      generalize p00 (a,b,c) (inv w)=q at *
      obtain⟨⟨x,y,z⟩,ok⟩:=q
      cases ok<;>simp[j1,F1,E]
     rw[if_neg (by simpa using k4),if_neg k4]
     by_cases k5:k=5
     ·rw[if_pos (decide_eq_true k5),if_pos k5,f,oB]
      cases l04 (a,b,c) ws with
      |false =>
       simp only[F1,oB,cond_false,Bool.false_and]
       rw[D0 (show H0 0 from⟨by omega,by omega⟩)];rfl
      |true =>
       simp only[j1,F,oB,cond_true,Bool.true_and]
       rw[D0 G,oB]
       cases decide (m04 (a,b,c)=((ws.length:Nat):Int))<;>rfl
     rw[if_neg (by simpa using k5),if_neg k5]
     by_cases k6:k=6
     ·rw[if_pos (decide_eq_true k6),if_pos k6,f,oB]
      cases l04 (a,b,c) ws with
      |false =>
       simp only[F1,oB,cond_false,Bool.false_and]
       rw[D0 (show H0 0 from⟨by omega,by omega⟩)];rfl
      |true =>
       simp only[cond_true,Bool.true_and]
       by_cases c6:n>0
       ·simp only[decide_eq_true c6,j1,H,oB,cond_true,Bool.and_true]
        rw[D0 I,oB]
       ·simp only[decide_eq_false c6,F1,oB,cond_false,Bool.and_false]
        rw[D0 (show H0 0 from⟨by omega,by omega⟩)];rfl
     rw[if_neg (by simpa using k6),if_neg k6]
    ·simp only[decide_eq_false hr,Bool.not_false,cond_true,if_true,Bool.false_and,Bool.and_false,cond_false]
def C06(c:W9):Prop:=c.2.2.1.length<=140737488355328/\V7 c.2.2.1/\c.2.2.2.1.length<=140737488355328/\c.2.2.2.2.2.1.2.2.length<=140737488355328
theorem m0c(c:W9)(h:C06 c):n9 c=some (y03 c):=r0i c.1 c.2.1 c.2.2.1 c.2.2.2.1 c.2.2.2.2.1 c.2.2.2.2.2.1 c.2.2.2.2.2.2 h.1 h.2.1 h.2.2.1 h.2.2.2
theorem n0c(c:W9)(h:C06 c):o9 c=some (y03 c):=s0i c.1 c.2.1 c.2.2.1 c.2.2.2.1 c.2.2.2.2.1 c.2.2.2.2.2.1 c.2.2.2.2.2.2 h.1 h.2.1 h.2.2.1 h.2.2.2
end Go.Proofs.YtkjhghloldgioaaGreat
