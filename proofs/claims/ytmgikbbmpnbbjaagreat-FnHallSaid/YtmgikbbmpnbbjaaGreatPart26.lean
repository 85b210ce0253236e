/- Texts of the claim, joined: Plain laws: vertices and edges added; the steps that are mis and others. -/
import Derived.Test.YtmgikbbmpnbbjaaGreatPart25
import Derived.Test.YtmgikbbmpnbbjaaGreatPart19
import Derived.Test.YtmgikbbmpnbbjaaGreatH36
import Derived.Test.YtmgikbbmpnbbjaaGreatPart20
import Derived.Test.YtmgikbbmpnbbjaaGreatHE
namespace Go.Proofs.YtmgikbbmpnbbjaaGreat
open Go.H
set_option linter.unusedVariables false
set_option linter.unusedSimpArgs false
def c5(g:l0):l0×Bool:=bif decide (g.2.1<40)then((g.1,g.2.1+1,g.2.2),true)else(g,false)
theorem c0e{g:l0}(a:W0 g=true):K01 g=some (c5 g):=by
 obtain⟨f,h,e,i⟩:=J2 a
 have b:=O7 g (by omega)
 have d:=v01 g (by omega)
 obtain⟨r,n,es⟩:=g
 simp only at e
 unfold K01 c5
 simp only[b,d,a,oB,Bool.not_true,cond_false]
 by_cases c:n<40
 ·rw[if_neg (by simp;omega),w64 (by omega) (by omega)];simp[c]
 ·rw[if_pos (by simp;omega)];simp[c]
theorem f08{g:l0}(a:W0 g=true):W0 (c5 g).1=true:=by
 unfold c5
 by_cases c:g.2.1<40
 ·simp only[c,decide_true,cond_true]
  obtain⟨d,f,j,h,i⟩:=(K7 g).1 a
  refine(K7 _).2 ⟨λe b=>?_,f,?_,h,i⟩
  ·have:=d e b
   simp only
   omega
  ·simp only;omega
 ·simp only[c,decide_false,cond_false];exact a
theorem H0n{es:List Q0}{e:Q0}(a:Asc U0 es)(b:e∈es):x00 U0 e es=es :=
 T07 A4 (T08 A4 _ _ a) a λx=>by
  rw[N04 A4]
  constructor
  ·rintro(rfl|h)
   ·exact b
   ·exact h
  ·exact .inr
theorem R0b(e:Q0):∀ {es:List Q0},e ∉ es->(x00 U0 e es).length=es.length+1
 | [],_=>rfl
 |y::l,h=>by
  have d:=R0b e (es:=l) λb=>h (mC _ b)
  unfold x00
  split
  ·rfl
  ·split
   ·rename_i c
    exact absurd (A4.eq _ _ c) λa=>h (by rw[a];exact mS)
   ·simp only[List.length_cons,d]
def w04(g:l0)(e:Q0):l0×Bool:=bif decide (g.2.2.length<120) && !decide (e∈g.2.2)then((g.1,g.2.1,x00 U0 e g.2.2),true)else(g,false)
def r0m(g:l0)(e:Q0):Prop:=(0<=e.1/\e.1<g.2.1)/\(0<=e.2.2/\e.2.2<g.2.1)/\1<=e.2.1/\e.2.1<=g.1
theorem K0s{g:l0}(b:W0 g=true){e:Q0}(a:r0m g e):T04 g.1 (IntKind.i64.wrap (g.2.1-1)) e=true:=by
 obtain⟨c,d,f,h⟩:=J2 b
 rw[w64 (by omega) (by omega)]
 unfold r0m at a
 simp only[T04,inR,Bool.and_eq_true,decide_eq_true_eq]
 omega
theorem I0g{g:l0}{e:Q0}(a:W0 g=true)(o:r0m g e):N02 g e=some (w04 g e):=by
 obtain⟨q,s,t,p⟩:=J2 a
 have l:=O7 g (by omega)
 have m:=v01 g (by omega)
 have i:=A0k g e
 rw[K0s a o]at i
 have j:=D06 g.2.2 e (by omega)
 have k:=p07 a
 obtain⟨r,n,es⟩:=g
 obtain⟨b,f,h⟩:=e
 simp only at p k j
 unfold N02 w04
 simp only[l,m,a,oB,Bool.not_true,Bool.not_false,cond_false,K1,i]
 by_cases c:es.length<120
 ·rw[if_neg (by simp;omega),j,oB]
  by_cases d:(b,f,h)∈es
  ·rw[H0n k d]
   simp[c,d]
  ·have:=R0b (b,f,h) d
   simp only[this,c,d,decide_true,decide_false,Bool.not_false,Bool.and_true,cond_true]
   simp
   omega
 ·rw[if_pos (by simp;omega)]
  simp[c]
def g08(g:l0)(v:Int):List Int->List Q0
 | []=>[]
 |x::r=>(bif decide (j1 g v x<0)then [(v,x,-1)]else [])++g08 g v r
def q0a(g:l0):Nat->Nat->List Q0
 |0,_=>[]
 |d+1,v=>g08 g (v:Int) (V4 g.1.toNat 1)++q0a g d (v+1)
theorem K09(g:l0)(v:Int):∀ l,(g08 g v l).length<=l.length
 | []=>Nat.le_refl _
 |x::r=>by
  have:=K09 g v r
  simp only[g08,List.length_append,List.length_cons]
  cases decide (j1 g v x<0)<;>simp<;>omega
theorem X0k(g:l0)(j:W0 g=true)(v:Int)(a:List Int)(l:∀ x∈a,I00 x)(o:a.length<=1000):∀(d k fuel:Nat) (acc:List Q0),k+d=a.length->d<fuel->acc.length+d<=100000 ->
  Y3 a g.1 g.2.1 g.2.2 v fuel (k:Int) acc=some (acc++g08 g v (a.drop k))
 |d,k,0,acc,i,hf,f=>by omega
 |0,k,fuel+1,acc,i,hf,f=>by
  rw[Y3.eq_2,if_neg (by simp;omega),T1 (by omega)]
  simp[g08]
 |d+1,k,fuel+1,acc,i,hf,f=>by
  obtain⟨p,s,q,t⟩:=J2 j
  have c:k<a.length:=by omega
  have e:=a7 c
  have m:=l _ (List.getElem_mem c)
  generalize a[k]=x at e m
  have n:∀ b:List Q0,b.length+d<=100000->Y3 a g.1 g.2.1 g.2.2 v fuel ((k+1:Nat):Int) b=some (b++g08 g v (a.drop (k+1))):=λb h=>X0k g j v a l o d (k+1) fuel b (by omega) (by omega) h
  rw[Y3.eq_2,if_pos (by simp;omega),B3 e,oB,show(g.1,g.2.1,g.2.2)=g from rfl,t04 g v x m (by omega),oB,J0 (r05 p q.2 v x),oB,A2 c (by omega),U1 e,g08]
  cases decide (j1 g v x<0)with
  |true =>
   rw[if_pos rfl,oB,J0 (by simp;omega),oB,n _ (by simp;omega)]
   simp
  |false =>
   rw[if_neg (by simp),n _ (by omega)]
   simp
theorem Y0k(g:l0)(j:W0 g=true)(v:Int)(a:List Int)(l:∀ x∈a,I00 x)(o:a.length<=1000):∀(d k fuel:Nat) (acc:List Q0),k+d=a.length->d<fuel->acc.length+d<=100000 ->
  Z3 a g.1 g.2.1 g.2.2 v fuel (k:Int) acc=some (acc++g08 g v (a.drop k))
 |d,k,0,acc,i,hf,f=>by omega
 |0,k,fuel+1,acc,i,hf,f=>by
  rw[Z3.eq_2,if_neg (by simp;omega),T1 (by omega)]
  simp[g08]
 |d+1,k,fuel+1,acc,i,hf,f=>by
  obtain⟨p,s,q,t⟩:=J2 j
  have c:k<a.length:=by omega
  have e:=a7 c
  have m:=l _ (List.getElem_mem c)
  generalize a[k]=x at e m
  have n:∀ b:List Q0,b.length+d<=100000->Z3 a g.1 g.2.1 g.2.2 v fuel ((k+1:Nat):Int) b=some (b++g08 g v (a.drop (k+1))):=λb h=>Y0k g j v a l o d (k+1) fuel b (by omega) (by omega) h
  rw[Z3.eq_2,if_pos (by simp;omega),B3 e,oB,show(g.1,g.2.1,g.2.2)=g from rfl,W07 g v x m (by omega),oB,J0 (r05 p q.2 v x),oB,A2 c (by omega),U1 e,g08]
  cases decide (j1 g v x<0)with
  |true =>
   rw[if_pos rfl,J0 (by simp;omega),oB,n _ (by simp;omega)]
   simp
  |false =>
   rw[if_neg (by simp),n _ (by omega)]
   simp
theorem d09:∀(d i:Nat) (x:Int),x∈V4 d i->∃ j:Nat,i<=j/\j<i+d/\(x=(j:Int)∨x = -(j:Int))
 |0,i,x,h=>by simp[V4]at h
 |d+1,i,x,h=>by
  simp only[V4,List.mem_cons]at h
  rcases h with rfl|rfl|h
  ·exact⟨i,Nat.le_refl _,by omega,.inl rfl⟩
  ·exact⟨i,Nat.le_refl _,by omega,.inr rfl⟩
  ·obtain⟨j,b,c,a⟩:=d09 d (i+1) x h
   exact⟨j,by omega,by omega,a⟩
theorem Z0k(g:l0)(a:V0 g=true):∀(d k fuel:Nat) (acc:List Q0),k+d=g.2.1.toNat->d<fuel->acc.length+100*d<=10000 ->
  Y4 g.2.1 g.1 g.2.2 fuel (k:Int) acc=some (acc++q0a g d k)
 |d,k,0,acc,c,hf,b=>by omega
 |0,k,fuel+1,acc,c,hf,b=>by
  obtain⟨l,m,n,o⟩:=O1 a
  rw[Y4.eq_2,show decide (((k:Nat):Int)<g.2.1)=false by simp;omega]
  simp[chk,q0a]
 |d+1,k,fuel+1,acc,c,hf,b=>by
  obtain⟨l,m,n,o⟩:=O1 a
  have f:=((f06 g).1 a).1
  obtain⟨R,e⟩:∃ R:Nat,g.1=(R:Int):=⟨g.1.toNat,by omega⟩
  have h:∀ x∈V4 g.1.toNat 1,I00 x:=λx i=>by
   obtain⟨j,p,q,s⟩:=d09 _ _ _ i
   refine⟨⟨by omega,by omega⟩,by omega⟩
  have t:=H01 g.1.toNat 1
  have u:=K09 g (k:Int) (V4 g.1.toNat 1)
  have h0:=X0k g f (k:Int) (V4 g.1.toNat 1) h (by omega) (V4 g.1.toNat 1).length 0 P0 acc (by omega) (F1 (by omega)) (by omega)
  rw[Y4.eq_2,show decide (((k:Nat):Int)<g.2.1)=true by simp;omega,K1,show(g.1,g.2.1,g.2.2)=g from rfl,F8 g (by omega),oB,a]
  rw[if_pos (show(bif true then true else false)=true from rfl),show R6 g.1=some (V4 g.1.toNat 1) by rw[e,Y0i R (by omega)];rfl,oB,show(0:Int)=((0:Nat):Int) from rfl,h0,oB,A2 (show k<1000 by omega) (by omega),Z0k g a d (k+1) fuel _ (by omega) (by omega) (by simp;omega),q0a]
  simp
theorem a0l(g:l0)(a:V0 g=true):∀(d k fuel:Nat) (acc:List Q0),k+d=g.2.1.toNat->d<fuel->acc.length+100*d<=10000 ->
  Z4 g.2.1 g.1 g.2.2 fuel (k:Int) acc=some (acc++q0a g d k)
 |d,k,0,acc,c,hf,b=>by omega
 |0,k,fuel+1,acc,c,hf,b=>by
  obtain⟨l,m,n,o⟩:=O1 a
  rw[Z4.eq_2,if_neg (by simp;omega)]
  simp[q0a]
 |d+1,k,fuel+1,acc,c,hf,b=>by
  obtain⟨l,m,n,o⟩:=O1 a
  have f:=((f06 g).1 a).1
  obtain⟨R,e⟩:∃ R:Nat,g.1=(R:Int):=⟨g.1.toNat,by omega⟩
  have h:∀ x∈V4 g.1.toNat 1,I00 x:=λx i=>by
   obtain⟨j,p,q,s⟩:=d09 _ _ _ i
   refine⟨⟨by omega,by omega⟩,by omega⟩
  have t:=H01 g.1.toNat 1
  have u:=K09 g (k:Int) (V4 g.1.toNat 1)
  have h0:=Y0k g f (k:Int) (V4 g.1.toNat 1) h (by omega) (V4 g.1.toNat 1).length 0 P0 acc (by omega) (F1 (by omega)) (by omega)
  rw[Z4.eq_2,if_pos (by simp;omega),show N7 g.1=some (V4 g.1.toNat 1) by rw[e,X0i R (by omega)];rfl,oB,show(0:Int)=((0:Nat):Int) from rfl,h0,oB,A2 (show k<1000 by omega) (by omega),a0l g a d (k+1) fuel _ (by omega) (by omega) (by simp;omega),q0a]
  simp
def L01(g:l0):List Q0:=q0a g g.2.1.toNat 0
theorem J0g{g:l0}(hf:V0 g=true):U8 g=some (L01 g):=by
 obtain⟨a,b,c,d⟩:=O1 hf
 have h:=Z0k g hf g.2.1.toNat 0 P0 [] (by omega) (F1 (by omega)) (by simp;omega)
 obtain⟨r,n,es⟩:=g
 unfold U8 L01
 simp only at h ⊢
 rw[show(0:Int)=((0:Nat):Int) from rfl,h];simp
theorem K0g{g:l0}(hf:V0 g=true):V8 g=some (L01 g):=by
 obtain⟨b,c,d,e⟩:=O1 hf
 have h:=a0l g hf g.2.1.toNat 0 P0 [] (by omega) (F1 (by omega)) (by simp;omega)
 have a:=G01 g (by omega)
 obtain⟨r,n,es⟩:=g
 unfold V8 L01
 simp only[a,hf,oB]at h ⊢
 rw[if_neg (by simp),show(0:Int)=((0:Nat):Int) from rfl,h];simp
theorem Q0d{g:l0}(a:W0 g=true)(u:Int)(w:List Int)(v:Int):(W8 g u w v).1.2.2.length<=120:=by
 have q:=(J2 a).2.2.2
 unfold W8
 cases hc:(!w.isEmpty&&decide (g.2.1+(w.length:Int)-1<=40)&&decide (g.2.2.length+w.length<=120))with
 |false=>exact q
 |true =>
  simp only[Bool.and_eq_true,decide_eq_true_eq]at hc
  have b:=Q04 (R04 v w u g.2.1) g.2.2
  have c:=Y0c v w u g.2.1
  simp only[cond_true]
  omega
theorem s0m(g:Nat):∀(d k:Nat) (x:Int),x∈wo g d k->∃ j:Nat,x=(j:Int)/\k<=j/\j<k+d
 |0,k,x,h=>nomatch h
 |d+1,k,x,h=>by
  unfold wo at h
  split at h
  ·obtain⟨j,a,b,c⟩:=s0m g d (k+1) x h
   exact⟨j,a,by omega,by omega⟩
  ·rcases List.mem_cons.1 h with rfl|h
   ·exact⟨k,rfl,Nat.le_refl _,by omega⟩
   ·obtain⟨j,a,b,c⟩:=s0m g d (k+1) x h
    exact⟨j,a,by omega,by omega⟩
theorem e09(g:Nat):∀(d k:Nat),(wo g d k).Nodup
 |0,k=>List.nodup_nil
 |d+1,k=>by
  unfold wo
  split
  ·exact e09 g d (k+1)
  ·refine List.nodup_cons.2 ⟨λh=>?_,e09 g d (k+1)⟩
   obtain⟨j,a,b,c⟩:=s0m g d (k+1) _ h
   omega
theorem f0j(P:List Int):∀(es:List Q0),∀ e∈pE P es,∃ a∈es,e=(getI P a.1,a.2.1,getI P a.2.2)/\0<=getI P a.1/\0<=getI P a.2.2
 | [],e,h=>nomatch h
 |b::r,e,h=>by
  unfold pE at h
  cases hb:decide (0<=getI P b.1)&&decide (0<=getI P b.2.2)
  ·rw[hb]at h
   obtain⟨a,c,d⟩:=f0j P r e h
   exact⟨a,mC _ c,d⟩
  ·rw[hb]at h
   simp only[Bool.and_eq_true,decide_eq_true_eq]at hb
   rcases List.mem_cons.1 h with rfl|h
   ·exact⟨b,mS,rfl,hb.1,hb.2⟩
   ·obtain⟨a,c,d⟩:=f0j P r e h
    exact⟨a,mC _ c,d⟩
theorem g06{g:l0}{o:List Int}(f:W0 g=true)(b:inV g.2.1.toNat o)(p:1<=o.length)(q:o.length<=40):W0 (r6 g o)=true:=by
 obtain⟨k,l,t,u⟩:=J2 f
 have s:=V0i (plc g.2.1.toNat o) g.2.2
 refine P0b l ⟨by omega,by omega⟩ (by omega) λe d=>?_
 obtain⟨a,c,rfl,i,j⟩:=f0j _ _ e d
 have h:=k a c
 have m:=(o07 b (x:=a.1) (by omega)).2
 have n:=(o07 b (x:=a.2.2) (by omega)).2
 exact⟨⟨i,m⟩,⟨j,n⟩,h.2.2⟩
theorem V0f{n:Nat}:∀(o:List Int) (k:Nat) (A:List Int),A.length=n->inV n o->o.Nodup->(∀ x,0<=x->getI A x<(k:Int))->(∀ x y,0<=x->0<=y->0<=getI A x->getI A x=getI A y->x=y) ->
  ∀ x y,0<=x->0<=y->0<=getI (b02 A k o) x->getI (b02 A k o) x=getI (b02 A k o) y->x=y
 | [],k,A,h,e,i,c,d=>d
 |v::r,k,A,h,e,i,c,d=>by
  have f:=e v mS
  refine V0f r (k+1) (A.set v.toNat (k:Int)) (by simp[h]) (λw j=>e w (mC _ j)) (List.nodup_cons.1 i).2 (λx b=>?_) (λx y b g h0 a=>?_)
  ·rw[P04 f.1 (by omega) b]
   have:=c x b
   split<;>omega
  ·rw[P04 f.1 (by omega) b]at h0 a
   rw[P04 f.1 (by omega) g]at a
   have l:=c x b
   have m:=c y g
   by_cases c1:x=v
   ·by_cases c2:y=v
    ·rw[c1,c2]
    ·rw[if_pos c1,if_neg c2]at a;omega
   ·by_cases c2:y=v
    ·rw[if_neg c1,if_pos c2]at a;omega
    ·rw[if_neg c1]at h0;rw[if_neg c1,if_neg c2]at a
     exact d x y b g h0 a
theorem z0e{n:Nat}{o:List Int}(d:inV n o)(b:o.Nodup){x y:Int}(a:0<=x)(e:0<=y)(h0:0<=getI (plc n o) x)(c:getI (plc n o) x=getI (plc n o) y):x=y:=by
 refine V0f o 0 (List.replicate n (-1)) (by simp) d b (λx a=>by rw[W08];omega) (λx y _ _ h _=>by rw[W08]at h;omega) x y a e h0 c
theorem j0q{es:List Q0}(h:es.Pairwise λa b=>c06 a b=false){a b:Q0}(f:a∈es)(i:b∈es)(k:a≠b):c06 a b=false:=by
 induction es with
 |nil=>cases f
 |cons c r l =>
  obtain⟨e,j⟩:=List.pairwise_cons.1 h
  rcases List.mem_cons.1 f with rfl|g
  ·rcases List.mem_cons.1 i with rfl|d
   ·exact absurd rfl k
   ·exact e b d
  ·rcases List.mem_cons.1 i with rfl|d
   ·rw[N0c];exact e a g
   ·exact l j g d
theorem t0r{es:List Q0}(i:Asc U0 es)(h:∀ a∈es,∀ b∈es,a≠b->c06 a b=false):es.Pairwise λa b=>c06 a b=false:=by
 induction es with
 |nil=>exact .nil
 |cons c r k =>
  obtain⟨f,g⟩:=List.pairwise_cons.1 i
  refine List.pairwise_cons.2 ⟨λb d=>h c mS b (mC _ d) λe=>?_,k g λa j b d=>h a (mC _ j) b (mC _ d)⟩
  have:=f b d
  rw[e,A4.refl]at this;omega
theorem Z0c{g:l0}(c:W0 g=true):V0 g=true↔∀ a∈g.2.2,∀ b∈g.2.2,a≠b->c06 a b=false:=by
 rw[f06,X0c]
 exact⟨λh a d b e f=>j0q h.2 d e f,λh=>⟨c,t0r (graph_asc' c) h⟩⟩
where graph_asc' {g:l0} (h:W0 g=true):Asc U0 g.2.2:=((K7 g).1 h).2.2.2.2
theorem G06{g:l0}{o:List Int}(hf:V0 g=true)(j:inV g.2.1.toNat o)(m:o.Nodup)(s:1<=o.length)(t:o.length<=40):V0 (r6 g o)=true:=by
 have i:=P3 hf
 obtain⟨n,F,G,H⟩:=J2 i
 refine(Z0c (g06 i j s t)).2 λa u b v z=>?_
 have mem:∀ e∈(r6 g o).2.2,∃ a∈g.2.2,e=(getI (plc g.2.1.toNat o) a.1,a.2.1,getI (plc g.2.1.toNat o) a.2.2)/\0<=getI (plc g.2.1.toNat o) a.1/\0<=getI (plc g.2.1.toNat o) a.2.2:=λe y=>by
  rcases(o9 A4 e _ _).1 y with h|h
  ·cases h
  ·exact f0j _ _ e h
 obtain⟨d,k,rfl,B,C⟩:=mem a u
 obtain⟨f,l,rfl,D,E⟩:=mem b v
 have A:d≠f:=λe=>z (by rw[e])
 have c:=(Z0c i).1 hf d k f l A
 have p:=n d k
 have q:=n f l
 unfold c06 at c ⊢
 simp only[Bool.and_eq_false_iff,Bool.or_eq_false_iff,decide_eq_false_iff_not]at c ⊢
 rcases c with c|⟨w,x⟩
 ·exact .inl c
 ·exact .inr ⟨λe=>w (z0e j m p.1.1 q.1.1 B e),λe=>x (z0e j m p.2.1.1 q.2.1.1 C e)⟩
def a04:Nat->l0->l0
 |0,g=>g
 |d+1,g=>match o7 g with
  |none=>g
  |some k=>a04 d (r6 g (wo k g.2.1.toNat 0))
theorem g0j{g:l0}{k:Nat}(h:o7 g=some k):1<=k/\k<g.2.1.toNat:=by
 have:=Y08 _ _ _ h
 omega
theorem q07{g:l0}(b:W0 g=true){k:Nat}(h:o7 g=some k):inV g.2.1.toNat (wo k g.2.1.toNat 0)/\(wo k g.2.1.toNat 0).length=g.2.1.toNat-1/\1<=(wo k g.2.1.toNat 0).length/\(wo k g.2.1.toNat 0).length<=40:=by
 obtain⟨d,e,f,i⟩:=J2 b
 have c:=g0j h
 have a:=R0f k g.2.1.toNat 0
 rw[if_pos (by omega)]at a
 exact⟨M0k k _ _ 0 (by omega),a,by omega,by omega⟩
theorem c02:∀(d:Nat) {g:l0},V0 g=true->V0 (a04 d g)=true
 |0,g,h=>h
 |d+1,g,h=>by
  unfold a04
  cases e:o7 g with
  |none=>exact h
  |some k =>
   obtain⟨a,f,b,c⟩:=q07 (P3 h) e
   exact c02 d (G06 h a (e09 _ _ _) b c)
theorem W0f(n g:Nat)(i:n<=1000)(u:List Int)(j:u.length=n):∀(d k fuel:Nat) (acc a:List Int),k+d=n->d<fuel->acc.length<=k->a.length<=k ->
  ∃ v,P5 (n:Int) (g:Int) u fuel (k:Int) acc a=some (acc++wo g d k,v)/\v.length+acc.length=a.length+(acc++wo g d k).length
 |d,k,0,acc,a,h,hf,b,f=>by omega
 |0,k,fuel+1,acc,a,h,hf,b,f=>by
  rw[P5.eq_2,if_neg (by simp;omega)];exact⟨a,by simp[wo],by simp[wo]⟩
 |d+1,k,fuel+1,acc,a,h,hf,b,f=>by
  have l:=a7 (show k<u.length by omega)
  generalize u[k]=x at l
  rw[P5.eq_2,if_pos (by simp;omega),A2 (show k<10000 by omega) (by omega)]
  unfold wo
  by_cases c:k=g
  ·have e:decide ((k:Int)=(g:Int))=true:=decide_eq_true (by omega)
   rw[e,if_neg (by simp),if_pos c]
   exact W0f n g i u j d (k+1) fuel acc a (by omega) (by omega) (by omega) (by omega)
  ·have e:decide ((k:Int)=(g:Int))=false:=decide_eq_false (by omega)
   rw[e,if_pos (show(!false)=true from rfl),if_neg c,J0 (by simp;omega),oB,B3 l,oB,J0 (by simp;omega),oB]
   obtain⟨v,m,o⟩:=W0f n g i u j d (k+1) fuel (acc ++ [(k:Int)]) (a ++ [x]) (by omega) (by omega) (by simp;omega) (by simp;omega)
   refine⟨v,by rw[m];simp,?_⟩
   simp only[List.length_append,List.length_cons,List.length_nil]at o ⊢
   omega
theorem b0l(g:l0)(a:W0 g=true):∀(d k fuel:Nat) (acc:List Int),k+d=g.2.1.toNat->d<fuel->acc.length=k ->
  ∃ u,E6 g.2.1 g.1 g.2.2 fuel (k:Int) acc=some u/\u.length=g.2.1.toNat
 |d,k,0,acc,c,hf,b=>by omega
 |0,k,fuel+1,acc,c,hf,b=>by
  obtain⟨h,i,j,l⟩:=J2 a
  rw[E6.eq_2,show decide (((k:Nat):Int)<g.2.1)=false by simp;omega]
  exact⟨acc,by simp[chk],by omega⟩
 |d+1,k,fuel+1,acc,c,hf,b=>by
  obtain⟨h,i,j,l⟩:=J2 a
  obtain⟨u,e,f⟩:=b0l g a d (k+1) fuel (acc ++ [(k:Int)]) (by omega) (by omega) (by simp;omega)
  rw[E6.eq_2,show decide (((k:Nat):Int)<g.2.1)=true by simp;omega,K1,show(g.1,g.2.1,g.2.2)=g from rfl,O7 g (by omega),oB,a]
  rw[if_pos (show(bif true then true else false)=true from rfl),J0 (by simp;omega),oB,A2 (show k<1000 by omega) (by omega),e]
  exact⟨u,rfl,f⟩
theorem c0l(f:l0)(n:W0 f=true):∀(d k fuel:Nat) (g:l0) (u:List Int),k+d=40->d<fuel->W0 g=true->u.length=g.2.1.toNat->g.2.1.toNat<=d+1 ->
  ∃ v,(D6 f.1 f.2.1 f.2.2 fuel u (k:Int) g.1 g.2.1 g.2.2).bind (λX=>d9 X (λx=>match x with|(a,b,c,e)=>some ((b,c,e),a)))=some (a04 d g,v)
 |d,k,0,g,u,q,hf,h,w,s=>by omega
 |0,k,fuel+1,g,u,q,hf,h,w,s=>by
  rw[D6.eq_2,show decide (((k:Nat):Int)<40)=false by simp;omega]
  exact⟨u,by simp[chk,d9,a04]⟩
 |d+1,k,fuel+1,g,u,q,hf,h,w,s=>by
  obtain⟨G,H,I,J⟩:=J2 n
  obtain⟨K,L,M,O⟩:=J2 h
  have B:=g0q g h
  rw[D6.eq_2,show decide (((k:Nat):Int)<40)=true by simp;omega,K1,show(f.1,f.2.1,f.2.2)=f from rfl,O7 f (by omega),oB,n]
  rw[if_pos (show(bif true then true else false)=true from rfl),show(g.1,g.2.1,g.2.2)=g from rfl,B]
  unfold a04
  cases e:o7 g with
  |none =>
   simp only[oB]
   rw[J0 (show I0 (-1) from⟨by omega,by omega⟩),oB,if_pos (by simp)]
   exact⟨u,rfl⟩
  |some j =>
   obtain⟨o,y,m,A⟩:=q07 h e
   have F:=g0j e
   obtain⟨N,l⟩:∃ N:Nat,g.2.1=(N:Int):=⟨g.2.1.toNat,by omega⟩
   have i:g.2.1.toNat=N:=by omega
   obtain⟨v,D,E⟩:=W0f N j (by omega) u (by omega) N 0 P0 [] [] (by omega) (F1 (by omega)) (Nat.le_refl _) (Nat.le_refl _)
   have t:=N0a g.1 N g.2.2 (wo j N 0) (by rw[←l];exact h) (by rw[←i];exact o) (e09 _ _ _) (by rw[←i];exact m) (by rw[←i];omega)
   rw[←l,show(g.1,g.2.1,g.2.2)=g from rfl]at t
   have p:=g06 h o m A
   rw[i]at p y m
   obtain⟨C,z⟩:=c0l f n d (k+1) fuel (r6 g (wo j N 0)) v (by omega) (by omega) p (by simp only[List.nil_append,List.length_nil]at E;show v.length=((wo j N 0).length:Int).toNat;omega) (by show((wo j N 0).length:Int).toNat<=d+1;omega)
   simp only[oB]
   rw[J0 (show I0 ((j:Nat):Int) from⟨by omega,by omega⟩),oB,if_neg (by simp),l,show(0:Int)=((0:Nat):Int) from rfl,D]
   simp only[oB,List.nil_append]
   rw[←l,t]
   simp only[oB]
   rw[A2 (show k<1000 by omega) (by omega),i]
   exact⟨C,z⟩
def U04(g:l0):l0:=a04 40 g
theorem X0f{g:l0}(a:W0 g=true):∃ v,M01 g=some (U04 g,v):=by
 obtain⟨f,h,i,j⟩:=J2 a
 have e:=v01 g (by omega)
 obtain⟨u,b,d⟩:=b0l g a g.2.1.toNat 0 P0 [] (by omega) (F1 (by omega)) rfl
 obtain⟨v,c⟩:=c0l g a 40 0 P0 g u rfl (F1 (by omega)) a d (by omega)
 refine⟨v,?_⟩
 obtain⟨r,n,es⟩:=g
 unfold M01
 simp only[e,oB]
 simp only at b c
 rw[show(0:Int)=((0:Nat):Int) from rfl,b,oB]
 exact c
theorem d0l:∀(n fuel d:Nat) (left:List Int) (r:Int) (es:List Q0),1<=n->n<=40->inN n es->es.length<=120->left.length=n->n<fuel->n<=d+1 ->
  ∃ i,O5 fuel left r (n:Int) es=some (.inl (a04 d (r,(n:Int),es),i))
 |n,0,d,left,r,es,j,l,b,B,C,hf,A=>by omega
 |n,fuel+1,d,left,r,es,j,l,b,B,C,hf,A=>by
  obtain⟨c,x,G,y⟩:=G0k r n es b (by omega) j (by omega)
  have t:=Z0i r n es (by omega) c G l (n-1) 1 P0 (Nat.le_refl _) (by omega) (by omega) (F1 (by omega))
  have z:lf (λv=>decide (s00 (v:Int) es<2) || !y00 c (v:Int)) (n-1) 1=lf (Z08 es) (n-1) 1:=Q0f _ _ λk I J=>by
   unfold Z08
   have:=y (k:Int) (by omega) (by omega)
   have m:=E06 es 0 (k:Int)
   congr 2
   cases hb:y00 c (k:Int)
   ·symm;exact decide_eq_false λh=>by rw[this.2 (m.1 h)]at hb;cases hb
   ·symm;exact decide_eq_true (m.2 (this.1 hb))
  rw[z]at t
  have o:o7 (r,(n:Int),es)=lf (Z08 es) (n-1) 1:=by simp only[o7,Int.toNat_natCast]
  rw[O5.eq_2,x,oB,show(1:Int)=((1:Nat):Int) from rfl,t,oB]
  cases hlf:lf (Z08 es) (n-1) 1 with
  |none =>
   have e:a04 d (r,(n:Int),es)=(r,(n:Int),es):=by
    cases d with
    |zero=>rfl
    |succ d=>unfold a04;rw[o,hlf]
   rw[e]
   exact⟨left,by rw[if_pos (by rfl)]⟩
  |some k =>
   have H:=Y08 _ _ _ hlf
   have w:decide ((k:Int)=0)=false:=decide_eq_false (by omega)
   have p:=M0k k n n 0 (by omega)
   have g:=R0f k n 0
   rw[if_pos (by omega)]at g
   have s:=a0j n k (by omega) n 0 P0 [] (by omega) (F1 (by omega)) (Nat.le_refl _)
   rw[show((0:Nat):Int)=0 from rfl,List.nil_append]at s
   have D:=W0i r n es (wo k n 0) b p (by omega) (by omega) (by omega)
   have E:=M0a (r,(n:Int),es) (wo k n 0)
   have q:=E0h (r:=r) p b
   have F:IntKind.i64.wrap ((k:Int)+((1:Nat):Int))=((k+1:Nat):Int):=by rw[w64 (by omega) (by omega)];rfl
   obtain⟨a,rfl⟩:∃ a,d=a+1:=⟨d-1,by omega⟩
   have f:r6 (r,(n:Int),es) (wo k n 0)=(r,((n-1:Nat):Int),(r6 (r,(n:Int),es) (wo k n 0)).2.2):=by rw[←g];rfl
   obtain⟨i,u⟩:=d0l (n-1) fuel a (left.take k++left.drop (k+1)) r (r6 (r,(n:Int),es) (wo k n 0)).2.2 (by omega) (by omega) (by rw[g]at q;exact q) (by simp only at E;omega) (by simp only[List.length_append,List.length_take,List.length_drop];omega) (by omega) (by omega)
   refine⟨i,?_⟩
   rw[←f]at u
   have e:a04 (a+1) (r,(n:Int),es)=a04 a (r6 (r,(n:Int),es) (wo k n 0)):=by
    show(match o7 (r,(n:Int),es)with|none=>(r,(n:Int),es)|some k=>a04 a (r6 (r,(n:Int),es) (wo k ((n:Int)).toNat 0)))=_
    rw[o,hlf,Int.toNat_natCast]
   rw[e]
   simp only[w,Bool.false_eq_true,if_false,s,oB,D]
   generalize r6 (r,(n:Int),es) (wo k n 0)=gp at *
   rw[f]
   simp only[F]
   rw[S0f (by omega),oB,d06 (by omega),oB,J0 (by simp only[List.length_take,List.length_drop];omega),oB,u,←f]
theorem e0l{g:l0}(f:W0 g=true):∃ v,i8 g=some (U04 g,v):=by
 obtain⟨b,i,j,c⟩:=J2 f
 have m:=r03 g (by omega)
 have k:=u04 g (by omega)
 obtain⟨r,n,es⟩:=g
 simp only at i j c
 obtain⟨N,rfl⟩:∃ N:Nat,n=(N:Int):=⟨n.toNat,by omega⟩
 have l:inN N es:=λe d=>⟨(b e d).1,(b e d).2.1⟩
 obtain⟨u,a,h⟩:=b0j N (by omega) N 0 P0 [] (by omega) (F1 (by omega)) rfl
 obtain⟨o,p⟩:=d0l N P0 40 u r es (by omega) (by omega) l c h (F1 (by omega)) (by omega)
 refine⟨o,?_⟩
 unfold i8
 rw[show((0:Nat):Int)=0 from rfl]at a
 simp only[k,oB,m,f,Bool.not_true,Bool.false_eq_true,if_false,a,p,d9]
 rfl
def f09(g:l0):l0:=Y2 (U04 g)
theorem S0b{g:l0}(hf:V0 g=true):I01 g=(g,[]):=by
 obtain⟨a,b⟩:=(f06 g).1 hf
 unfold I01
 rw[a]
 show z02 40 g=_
 unfold z02
 rw[b]
theorem t0m{g:l0}(hf:V0 g=true):c6 g=some (f09 g):=by
 have b:=P3 hf
 obtain⟨e,f,h,i⟩:=J2 b
 have a:=o0a g (by omega)
 rw[S0b hf]at a
 obtain⟨v,c⟩:=X0f b
 have d:=X08 (U04 g) (c02 40 hf)
 obtain⟨r,n,es⟩:=g
 unfold c6 f09
 simp only[a,oB,c]
 simp only[d,oB]
theorem u0m{g:l0}(hf:V0 g=true):B00 g=some (f09 g):=by
 have b:=P3 hf
 obtain⟨e,f,h,i⟩:=J2 b
 have a:=H0g g (by omega)
 rw[S0b hf]at a
 obtain⟨v,c⟩:=e0l b
 have d:=O0d (U04 g) (c02 40 hf)
 obtain⟨r,n,es⟩:=g
 unfold B00 f09
 simp only[a,oB,c]
 simp only[d,oB]
theorem k0q{N r u x v:Int}(a:0<=u/\u<N)(b:0<=v/\v<N)(c:x≠0 /\ -r<=x/\x<=r):(0<=(stp u x v).1/\(stp u x v).1<N)/\(0<=(stp u x v).2.2/\(stp u x v).2.2<N)/\1<=(stp u x v).2.1/\(stp u x v).2.1<=r:=by
 unfold stp
 split<;>(simp only;omega)
theorem f0l{N r v:Int}(f:0<=v/\v<N):∀(w:List Int) (u n:Int),(0<=u/\u<N)->0<=n->n+((w.length-1:Nat):Int)<=N->(∀ x∈w,x≠0 /\ -r<=x/\x<=r) ->
  ∀ e∈R04 v w u n,(0<=e.1/\e.1<N)/\(0<=e.2.2/\e.2.2<N)/\1<=e.2.1/\e.2.1<=r
 | [],u,n,c,h0,d,b,e,a=>nomatch a
 | [x],u,n,c,h0,d,b,e,a=>by
  simp only[R04,List.mem_singleton]at a
  subst a
  exact k0q c f (b x mS)
 |x::y::l,u,n,c,h0,d,b,e,a=>by
  simp only[List.length_cons]at d
  simp only[R04]at a
  rcases List.mem_cons.1 a with rfl|a
  ·exact k0q c ⟨h0,by omega⟩ (b x mS)
  ·exact f0l f (y::l) n (n+1) ⟨h0,by omega⟩ (by omega) (by simp only[List.length_cons];omega) (λz g=>b z (mC _ g)) e a
theorem r0a{g:l0}{u v:Int}{w:List Int}(b:W0 g=true)(o:0<=u/\u<g.2.1)(p:0<=v/\v<g.2.1)(c:c7 g.1 w=true):W0 (W8 g u w v).1=true:=by
 obtain⟨f,i,q,s,j⟩:=(K7 g).1 b
 obtain⟨t,k⟩:=e0j c
 unfold W8
 cases hc:(!w.isEmpty&&decide (g.2.1+(w.length:Int)-1<=40)&&decide (g.2.2.length+w.length<=120))with
 |false=>exact b
 |true =>
  simp only[Bool.and_eq_true,decide_eq_true_eq,Bool.not_eq_true',List.isEmpty_eq_false_iff]at hc
  have n:1<=w.length:=by
   have:=List.length_pos_iff.2 hc.1.1;omega
  have l:=Q04 (R04 v w u g.2.1) g.2.2
  have m:=Y0c v w u g.2.1
  simp only[cond_true]
  refine(K7 _).2 ⟨λe a=>?_,i,⟨by simp only;omega,by simp only;omega⟩,by simp only;omega,A03 A4 _ _ j⟩
  simp only at a ⊢
  rcases(o9 A4 e _ _).1 a with h|h
  ·have:=f e h
   omega
  ·exact f0l ⟨by omega,by omega⟩ w u g.2.1 ⟨by omega,by omega⟩ (by omega) (iR _) (λx d=>(k x d).2) e h
theorem T0b(g:l0)(u:Int)(w:List Int)(v:Int):(W8 g u w v).1.1=g.1:=by
 unfold W8
 cases (!w.isEmpty&&decide (g.2.1+(w.length:Int)-1<=40)&&decide (g.2.2.length+w.length<=120))<;>rfl
def Y0f:List (List Int)->l0->l0
 | [],g=>g
 |w::r,g=>Y0f r (W8 g 0 w 0).1
theorem R0d:∀(c:List (List Int)) {g:l0},W0 g=true->(∀ w∈c,c7 g.1 w=true)->W0 (Y0f c g)=true
 | [],g,a,b=>a
 |w::r,g,a,b=>by
  obtain⟨f,h,i,j⟩:=J2 a
  exact R0d r (r0a a ⟨iR _,by omega⟩ ⟨iR _,by omega⟩ (b w mS)) λe d=>by
   rw[T0b];exact b e (mC _ d)
theorem g0l{g:l0}{w:List Int}(a:W0 g=true)(b:c7 g.1 w=true):m02 g w=some (W8 g 0 w 0):=by
 obtain⟨c,d,e,f⟩:=J2 a
 have h:=p0a a (u:=0) (v:=0) ⟨iR _,by omega⟩ ⟨iR _,by omega⟩ b
 obtain⟨r,n,es⟩:=g
 unfold m02
 simp only[h,oB]
theorem K0h(a:List (List Int))(j:a.length<=1000):∀(d k fuel:Nat) (g:l0),k+d=a.length->d<fuel->W0 g=true->(∀ w∈a,c7 g.1 w=true) ->
  D7 a fuel (k:Int) g.1 g.2.1 g.2.2=some (Y0f (a.drop k) g)
 |d,k,0,g,i,hf,b,c=>by omega
 |0,k,fuel+1,g,i,hf,b,c=>by
  rw[D7.eq_2,if_neg (by simp;omega),T1 (by omega)];rfl
 |d+1,k,fuel+1,g,i,hf,b,c=>by
  have e:k<a.length:=by omega
  have h:=a7 e
  have f:=c _ (List.getElem_mem e)
  generalize a[k]=w at h f
  obtain⟨m,n,o,p⟩:=J2 b
  have l:=K0h a j d (k+1) fuel (W8 g 0 w 0).1 (by omega) (by omega) (r0a b ⟨iR _,by omega⟩ ⟨iR _,by omega⟩ f) (by rw[T0b];exact c)
  rw[D7.eq_2,if_pos (by simp;omega),B3 h,oB,show(g.1,g.2.1,g.2.2)=g from rfl,g0l b f,oB,A2 e (by omega),U1 h]
  exact l
def Z0f(r:Int)(a:List (List Int)):l0×Bool:=bif G00 r a then(Y0f a (r,1,[]),true)else((0,0,[]),false)
theorem L0h{r:Int}{a:List (List Int)}(h:G00 r a=true):(1<=r/\r<=3)/\a.length<=6/\∀ w∈a,c7 r w=true:=by
 simp only[G00,inR,Bool.and_eq_true,decide_eq_true_eq]at h
 refine⟨h.1.1.1,h.1.1.2,?_⟩
 have b:∀ {a:List (List Int)},P0i r a=true->∀ w∈a,c7 r w=true:=by
  intro a
  induction a with
  |nil=>intro _ w b;cases b
  |cons v l c =>
   intro h w b
   simp only[P0i,Bool.and_eq_true]at h
   rcases List.mem_cons.1 b with rfl|b
   ·exact h.1
   ·exact c h.2 w b
 exact b h.1.2
theorem M0h{r:Int}(b:1<=r/\r<=3):W0 (r,1,[])=true:=(K7 _).2 ⟨(λe a=>by cases a),b,⟨by simp,by simp⟩,by simp,List.Pairwise.nil⟩
theorem h0j(r:Int)(a:List (List Int))(d:a.length<=140737488355328)(f:Z05 a):n02 r a=some (Z0f r a):=by
 have b:=s0f r a d f
 unfold n02 Z0f
 rw[b,oB]
 cases hA:G00 r a with
 |false=>rfl
 |true =>
  obtain⟨e,i,g⟩:=L0h hA
  have h:=K0h a (by omega) a.length 0 P0 (r,1,[]) (by omega) (F1 (by omega)) (M0h e) g
  have c:l02 r=some ((r,1,[]),true):=by
   unfold l02
   rw[D01,oB,if_neg (by simp[inR];omega)]
  rw[if_neg (by simp),c,oB]
  simp only[]at h ⊢
  rw[show(0:Int)=((0:Nat):Int) from rfl,h]
  rfl
theorem a0g:∀(d:Nat) {g:l0},W0 g=true->g.2.1.toNat<=d+1->o7 (a04 d g)=none
 |0,g,a,h=>by
  cases e:o7 g with
  |none=>exact e
  |some k=>have:=g0j e;omega
 |d+1,g,a,h=>by
  unfold a04
  cases e:o7 g with
  |none=>exact e
  |some k =>
   obtain⟨b,i,c,f⟩:=q07 a e
   exact a0g d (g06 a b c f) (by show(((wo k g.2.1.toNat 0).length:Nat):Int).toNat<=d+1;omega)
theorem L0o{g:l0}(hf:V0 g=true){v x y z:Int}(q:y∈r00 v x g.2.2)(s:z∈r00 v x g.2.2):y=z:=by
 obtain⟨e,o,l⟩:=c4.1 q
 obtain⟨k,p,m⟩:=c4.1 s
 by_cases hne:e=k
 ·subst hne
  rcases l with⟨a,b,c,rfl⟩|⟨a,b,c,rfl⟩<;>rcases m with⟨h,i,j,rfl⟩|⟨h,i,j,rfl⟩<;>first|rfl|omega
 ·have f:=(Z0c (P3 hf)).1 hf e o k p hne
  unfold c06 at f
  simp only[Bool.and_eq_false_iff,Bool.or_eq_false_iff,decide_eq_false_iff_not]at f
  rcases l with⟨a,b,c,d⟩|⟨a,b,c,d⟩<;>rcases m with⟨h,i,j,n⟩|⟨h,i,j,n⟩<;>first|omega|(exfalso;rcases f with f|⟨t,u⟩<;>omega)
theorem d02(g:l0)(v x:Int):(j1 g v x = -1/\r00 v x g.2.2 = [])∨j1 g v x∈r00 v x g.2.2:=by
 unfold j1
 cases e:y03 g v x with
 |nil =>
  left
  refine⟨rfl,List.eq_nil_iff_forall_not_mem.2 λy b=>?_⟩
  have:y∈y03 g v x:=(o9 q03 y _ _).2 (.inr b)
  rw[e]at this;cases this
 |cons a l=>exact .inr (w0h (by rw[e];exact mS))
theorem t05{g:l0}(hf:V0 g=true){v x y:Int}(a:y∈r00 v x g.2.2):j1 g v x=y:=by
 rcases d02 g v x with⟨_,h⟩|h
 ·rw[h]at a;cases a
 ·exact L0o hf h a
theorem b0g:∀(d i j:Nat),i<=j->j<i+d->(j:Int)∈V4 d i /\ -(j:Int)∈V4 d i
 |0,i,j,e,f=>by omega
 |d+1,i,j,e,f=>by
  simp only[V4,List.mem_cons]
  by_cases c:j=i
  ·subst c;simp
  ·obtain⟨a,b⟩:=b0g d (i+1) j (by omega) (by omega)
   exact⟨.inr (.inr a),.inr (.inr b)⟩
theorem N0h(g:l0)(v:Int):∀(b u:List Int) (x:Int),x∈b->0<=j1 g v x->j1 g v x∈X01 g v b u
 |y::r,u,x,a,h0=>by
  rw[X01]
  rcases List.mem_cons.1 a with rfl|a
  ·obtain⟨t,e⟩:=L03 g v r (M06 u (j1 g v x))
   rw[e]
   refine List.mem_append_left _ ?_
   unfold M06
   split
   ·exact List.mem_append_right _ (List.mem_singleton.2 rfl)
   ·rename_i h
    by_cases hm:j1 g v x∈u
    ·exact hm
    ·exact absurd ⟨h0,hm⟩ h
  ·exact N0h g v r _ x a h0
theorem c0g(g:l0)(a:List Int):∀(f i:Nat) (u:List Int),∃ t,R7 g a f i u=u++t
 |0,i,u=>⟨[],by simp[R7]⟩
 |f+1,i,u=>by
  unfold R7
  split
  ·rename_i v _
   obtain⟨d,b⟩:=L03 g v a u
   obtain⟨e,c⟩:=c0g g a f (i+1) (X01 g v a u)
   exact⟨d++e,by rw[c,b,List.append_assoc]⟩
  ·exact⟨[],by simp⟩
theorem d0g{r:Int}{n:Nat}{es:List Q0}(m:inG (r,(n:Int),es))(a:List Int):∀(f i:Nat) (u:List Int),gud n u->n+1<=f+i->i<=u.length ->
  (∀ j,j<i->∀ v,u[j]?=some v->∀ x∈a,0<=j1 (r,(n:Int),es) v x->j1 (r,(n:Int),es) v x∈u) ->
  ∀ v∈R7 (r,(n:Int),es) a f i u,∀ x∈a,0<=j1 (r,(n:Int),es) v x->j1 (r,(n:Int),es) v x∈R7 (r,(n:Int),es) a f i u
 |0,i,u,g,q,o,k=>by have:=w01 n u g.1 g.2;omega
 |f+1,i,u,g,q,o,k=>by
  unfold R7
  cases e:u[i]? with
  |none =>
   have:i=u.length:=by have:=List.getElem?_eq_none_iff.1 e;omega
   show ∀ v∈u,∀ x∈a,0<=j1 (r,(n:Int),es) v x->j1 (r,(n:Int),es) v x∈u
   intro v b x h h0
   obtain⟨j,l⟩:=List.getElem?_of_mem b
   exact k j (by have:=(List.getElem?_eq_some_iff.1 l).1;omega) v l x h h0
  |some w =>
   have p:=(List.getElem?_eq_some_iff.1 e).1
   obtain⟨t,d⟩:=L03 (r,(n:Int),es) w a u
   refine d0g m a f (i+1) _ (v04 m w a u g) (by omega) (by rw[d,List.length_append];omega) λj l v b x h h0=>?_
   by_cases c:j=i
   ·subst c
    rw[d,List.getElem?_append_left p,e]at b
    cases b
    exact N0h _ _ a u x h h0
   ·rw[d,List.getElem?_append_left (by omega)]at b
    rw[d]
    exact List.mem_append_left _ (k j (by omega) v b x h h0)
theorem P0a(g:l0):∃ t,D3 g=0::t:=by
 obtain⟨t,e⟩:=c0g g (V4 g.1.toNat 1) (g.2.1.toNat+1) 0 [0]
 exact⟨t,e⟩
theorem h0l{g:l0}(hf:V0 g=true){x:Int}(h:Rch g.2.2 0 x):x∈D3 g:=by
 obtain⟨l,q,s,w⟩:=O1 hf
 have m:=P0a g
 have c:∀ v∈D3 g,∀ x∈V4 g.1.toNat 1,0<=j1 g v x->j1 g v x∈D3 g:=by
  obtain⟨r,n,es⟩:=g
  simp only at q s
  obtain⟨N,rfl⟩:∃ N:Nat,n=(N:Int):=⟨n.toNat,by omega⟩
  exact d0g l _ (((N:Int)).toNat+1) 0 [0] ⟨by simp,λx f=>by simp at f;subst f;omega⟩ (by simp only[Int.toNat_natCast];omega) (Nat.zero_le _) (λj d=>by omega)
 refine Rch.sub (P:=λx=>x∈D3 g) ?_ (λe b=>?_) h
 ·obtain⟨t,e⟩:=m
  rw[e];exact mS
 ·have u:=l e b
  obtain⟨j,d⟩:∃ j:Nat,e.2.1=(j:Int):=⟨e.2.1.toNat,by omega⟩
  obtain⟨o,p⟩:=b0g g.1.toNat 1 j (by omega) (by omega)
  have i:j1 g e.1 (j:Int)=e.2.2:=t05 hf (c4.2 ⟨e,b,.inl ⟨by omega,d,rfl,rfl⟩⟩)
  have k:j1 g e.2.2 (-(j:Int))=e.1:=t05 hf (c4.2 ⟨e,b,.inr ⟨by omega,by omega,rfl,rfl⟩⟩)
  constructor
  ·intro a
   have:=c e.1 a (j:Int) o (by rw[i];omega)
   rwa [i]at this
  ·intro a
   have:=c e.2.2 a (-(j:Int)) p (by rw[k];omega)
   rwa [k]at this
theorem L09{a:Nat->Bool}:∀ {d v:Nat},lf a d v=none->∀ k,v<=k->k<v+d->a k=false
 |0,v,h,k,b,e=>by omega
 |d+1,v,h,k,b,e=>by
  unfold lf at h
  cases hb:a v with
  |true=>rw[hb]at h;cases h
  |false =>
   rw[hb]at h
   by_cases c:k=v
   ·rw[c];exact hb
   ·exact L09 (d:=d) (v:=v+1) h k (by omega) (by omega)
theorem Q0a{a:Nat->Bool}:∀ {d v:Nat},(∀ k,v<=k->k<v+d->a k=false)->lf a d v=none
 |0,v,h=>rfl
 |d+1,v,h=>by
  unfold lf
  rw[h v (Nat.le_refl _) (by omega)]
  exact Q0a λk b c=>h k (by omega) (by omega)
theorem a0d{g:l0}(hf:V0 g=true)(b:o7 g=none){x:Int}(h0:0<=x)(d:x<g.2.1):x∈D3 g:=by
 refine h0l hf ?_
 by_cases c:x=0
 ·subst c;exact .base
 ·have:=L09 b x.toNat (by omega) (by omega)
  unfold Z08 at this
  simp only[Bool.or_eq_false_iff,Bool.not_eq_false',decide_eq_true_eq]at this
  have a:=this.2
  rw[show((x.toNat:Nat):Int)=x by omega]at a
  exact(E06 _ _ _).1 a
theorem O0h{n:Nat}:∀(o:List Int) (k:Nat) (A:List Int),A.length=n->inV n o->o.Nodup->∀(i:Nat) (v:Int),o[i]?=some v->getI (b02 A k o) v=((k+i:Nat):Int)
 | [],k,A,c,b,f,i,v,a=>by simp at a
 |w::r,k,A,c,b,f,i,v,a=>by
  have e:=b w mS
  obtain⟨g,h⟩:=List.nodup_cons.1 f
  cases i with
  |zero =>
   simp at a;subst a
   rw[b02,M0f r _ _ w (by simp[c]) (λu d=>b u (mC _ d)) e.1 g,P04 e.1 (by omega) e.1,if_pos rfl];rfl
  |succ i =>
   rw[b02,O0h r (k+1) _ (by simp[c]) (λu d=>b u (mC _ d)) h i v (by simpa using a)]
   omega
theorem e0g{n:Nat}{o:List Int}(c:inV n o)(a:o.Nodup){i:Nat}{v:Int}(b:o[i]?=some v):getI (plc n o) v=(i:Int):=by
 have:=O0h o 0 (List.replicate n (-1)) (by simp) c a i v b
 rw[Nat.zero_add]at this;exact this
theorem b0d(P:List Int):∀(es:List Q0),(∀ e∈es,0<=getI P e.1/\0<=getI P e.2.2)->pE P es=es.map λe=>(getI P e.1,e.2.1,getI P e.2.2)
 | [],h=>rfl
 |e::r,h=>by
  have a:=h e mS
  unfold pE
  rw[show(decide (0<=getI P e.1)&&decide (0<=getI P e.2.2))=true by simp[a.1,a.2],b0d P r λb c=>h b (mC _ c)]
  rfl
theorem P0h(e:Q0):∀ {l:List Q0},e ∉ l->(x00 U0 e l).Perm (e::l)
 | [],_=>List.Perm.refl _
 |y::l,h=>by
  have d:=P0h e (l:=l) λb=>h (mC _ b)
  unfold x00
  split
  ·exact List.Perm.refl _
  ·split
   ·rename_i c
    exact absurd (A4.eq _ _ c) λa=>h (by rw[a];exact mS)
   ·exact(List.Perm.cons y d).trans (List.Perm.swap e y l)
theorem S0d:∀(r acc:List Q0),(acc++r).Nodup->(l7 U0 acc r).Perm (acc++r)
 | [],acc,h=>by simp[l7]
 |x::r,acc,h=>by
  have a:(acc++x::r).Perm (x::(acc++r)):=List.perm_middle
  have b:=a.nodup_iff.1 h
  have f:x ∉ acc:=λd=>(List.nodup_cons.1 b).1 (List.mem_append_left _ d)
  have e:=P0h x f
  have c:(x00 U0 x acc++r).Perm (x::(acc++r)):=e.append_right r
  rw[l7]
  exact((S0d r _ (c.nodup_iff.2 b)).trans c).trans a.symm
theorem Q0h(v:Int){l a:List Q0}(h:l.Perm a):s00 v l=s00 v a:=by
 induction h with
 |nil=>rfl
 |cons x _ d=>simp only[s00,d]
 |swap x y l=>simp only[s00];omega
 |trans _ _ b c=>rw[b,c]
theorem f0g{a:Int->Int}{v:Int}:∀(es:List Q0),(∀ e∈es,(a e.1=a v↔e.1=v)/\(a e.2.2=a v↔e.2.2=v))->s00 (a v) (es.map λe=>(a e.1,e.2.1,a e.2.2))=s00 v es
 | [],h=>rfl
 |e::r,h=>by
  obtain⟨b,d⟩:=h e mS
  have i:=f0g r λf g=>h f (mC _ g)
  simp only[List.map_cons,s00,i,G0g]
  congr 2
  ·by_cases c:e.1=v
   ·rw[if_pos (b.2 c),if_pos c]
   ·rw[if_neg λq=>c (b.1 q),if_neg c]
  ·by_cases c:e.2.2=v
   ·rw[if_pos (d.2 c),if_pos c]
   ·rw[if_neg λq=>c (d.1 q),if_neg c]
theorem v0m:∀(m:Nat) (o:List Int),(∀ i:Nat,i<m->(i:Int)∈o)->m<=o.length
 |0,o,h=>Nat.zero_le _
 |m+1,o,h=>by
  have a:=h m (by omega)
  have b:=v0m m (o.erase (m:Int)) λi c=>(List.mem_erase_of_ne (by omega)).2 (h i (by omega))
  rw[List.length_erase_of_mem a]at b
  have:=List.length_pos_of_mem a
  omega
theorem c0d{es:List Q0}(c:Asc U0 es):es.Nodup:=by
 refine List.Pairwise.imp (λ{a b} h e=>?_) c
 rw[e,A4.refl]at h;omega
theorem i0l{es:List Q0}(a:Asc U0 es):l7 U0 [] es=es :=
 T07 A4 (A03 A4 _ _ .nil) a λx=>by rw[o9 A4];simp
theorem w0m{t:l0}(hf:V0 t=true)(ab:o7 t=none):L1 (Y2 t)=true:=by
 have av:=P3 hf
 obtain⟨A,aU,aV,aW⟩:=O1 hf
 have ak:=p07 av
 obtain⟨⟨M,G⟩,aE⟩:=M03 hf
 have aB:=w01 _ _ M G
 have Y:∀ x:Int,0<=x->x<t.2.1->x∈D3 t:=λx h0 d=>a0d hf ab h0 d
 obtain⟨aX,aK⟩:=P0a t
 obtain⟨n,ad⟩:∃ n:Nat,t.2.1=(n:Int):=⟨t.2.1.toNat,by omega⟩
 have Q:t.2.1.toNat=n:=by omega
 rw[Q]at G aB
 have ag:(D3 t).length=n:=by
  have:=v0m n (D3 t) λi F=>Y _ (by omega) (by omega)
  omega
 let P:Int->Int:=getI (plc n (D3 t))
 have K:∀(i:Nat) (v:Int),(D3 t)[i]?=some v->P v=(i:Int):=λi v F=>e0g G M F
 have L:∀ x:Int,0<=x->x<t.2.1->0<=P x/\P x<(n:Int):=λx h0 d=>by
  obtain⟨i,F⟩:=List.getElem?_of_mem (Y x h0 d)
  have:=(List.getElem?_eq_some_iff.1 F).1
  rw[K i x F];omega
 have B:∀ x y:Int,0<=x->x<t.2.1->0<=y->y<t.2.1->P x=P y->x=y:=λx y h0 d p aQ h=>z0e G M h0 p (L x h0 d).1 h
 have S:P 0=0:=K 0 0 (by rw[aK];rfl)
 have aF:pE (plc n (D3 t)) t.2.2=t.2.2.map λe=>(P e.1,e.2.1,P e.2.2):=b0d _ _ λe g=>by
  have:=A e g
  exact⟨(L e.1 this.1.1 this.1.2).1,(L e.2.2 this.2.1.1 this.2.1.2).1⟩
 have J:Y2 t=(t.1,(n:Int),l7 U0 [] (t.2.2.map λe=>(P e.1,e.2.1,P e.2.2))):=by
  unfold Y2 r6
  rw[Q,aF,ag]
 have ay:∀ e∈t.2.2,∀ j∈t.2.2,((P e.1,e.2.1,P e.2.2):Q0)=(P j.1,j.2.1,P j.2.2)->e=j:=λe g j U h=>by
  have a:=A e g
  have b:=A j U
  simp only[Prod.mk.injEq]at h
  have d:=B _ _ a.1.1 a.1.2 b.1.1 b.1.2 h.1
  have p:=B _ _ a.2.1.1 a.2.1.2 b.2.1.1 b.2.1.2 h.2.2
  obtain⟨aN,H,X⟩:=e
  obtain⟨aO,aP,f2⟩:=j
  simp only at d p h
  rw[d,p,h.2.1]
 have aD:(t.2.2.map λe=>((P e.1,e.2.1,P e.2.2):Q0)).Nodup:=by
  have:=c0d ak
  rw[List.Nodup,List.pairwise_map]
  exact List.Pairwise.imp_of_mem (λ{a b} ao C h e=>h (ay a ao b C e)) this
 have O:∀ j,j∈(Y2 t).2.2↔∃ e∈t.2.2,j=(P e.1,e.2.1,P e.2.2):=λj=>by
  rw[J]
  simp only
  rw[o9 A4]
  simp only[List.not_mem_nil,false_or,List.mem_map]
  exact⟨λ⟨e,d,p⟩=>⟨e,d,p.symm⟩,λ⟨e,d,p⟩=>⟨e,d,p.symm⟩⟩
 have I:V0 (Y2 t)=true:=G06 hf (by rw[Q];exact G) M aE (by omega)
 have Z:=P3 I
 have D:(Y2 t).2.1=(n:Int):=by rw[J]
 have ar:∀ v:Int,0<=v->v<t.2.1->s00 (P v) (Y2 t).2.2=s00 v t.2.2:=λv h0 d=>by
  rw[J]
  simp only
  rw[Q0h _ (S0d _ [] (by simpa using aD)),List.nil_append]
  refine f0g _ λe g=>?_
  have:=A e g
  exact⟨⟨λh=>B _ _ this.1.1 this.1.2 h0 d h,λh=>by rw[h]⟩,⟨λh=>B _ _ this.2.1.1 this.2.1.2 h0 d h,λh=>by rw[h]⟩⟩
 have aH:∀ x,Rch t.2.2 0 x->Rch (Y2 t).2.2 0 (P x):=λx s =>
  Rch.sub (P:=λx=>Rch (Y2 t).2.2 0 (P x)) (by show Rch _ 0 (P 0);rw[S];exact .base) (λe g=>Rch.closed (P e.1,e.2.1,P e.2.2) ((O _).2 ⟨e,g,rfl⟩)) s
 have aA:o7 (Y2 t)=none:=by
  unfold o7
  refine Q0a λk aS aL=>?_
  rw[D,Int.toNat_natCast]at aL
  obtain⟨v,w⟩:∃ v,(D3 t)[k]?=some v:=⟨_,List.getElem?_eq_getElem (by omega)⟩
  have aJ:=G v (List.mem_of_getElem? w)
  have T:=K k v w
  have aR:v≠0:=λh=>by rw[h,S]at T;omega
  have C:=L09 ab v.toNat (by omega) (by omega)
  unfold Z08 at C ⊢
  rw[show((v.toNat:Nat):Int)=v by omega]at C
  simp only[Bool.or_eq_false_iff,Bool.not_eq_false',decide_eq_true_eq,decide_eq_false_iff_not]at C ⊢
  refine⟨?_,?_⟩
  ·rw[←T,ar v aJ.1 (by omega)];exact C.1
  ·rw[←T]
   exact(E06 _ _ _).2 (aH v ((E06 _ _ _).1 C.2))
 have ae:∀ v x:Int,0<=v->v<t.2.1->(j1 t v x = -1/\j1 (Y2 t) (P v) x = -1)∨((0<=j1 t v x/\j1 t v x<t.2.1)/\j1 (Y2 t) (P v) x=P (j1 t v x)):=λv x h0 d=>by
  rcases d02 t v x with⟨H,X⟩|H
  ·left
   refine⟨H,?_⟩
   rcases d02 (Y2 t) (P v) x with⟨R,aM⟩|R
   ·exact R
   ·exfalso
    obtain⟨j,U,V⟩:=c4.1 R
    obtain⟨e,g,rfl⟩:=(O j).1 U
    have E:=A e g
    have:∃ y,y∈r00 v x t.2.2:=by
     rcases V with⟨a,b,c,_⟩|⟨a,b,c,_⟩
     ·exact⟨_,c4.2 ⟨e,g,.inl ⟨a,b,B _ _ E.1.1 E.1.2 h0 d c,rfl⟩⟩⟩
     ·exact⟨_,c4.2 ⟨e,g,.inr ⟨a,b,B _ _ E.2.1.1 E.2.1.2 h0 d c,rfl⟩⟩⟩
    obtain⟨y,ai⟩:=this
    rw[X]at ai;cases ai
  ·right
   generalize j1 t v x=y at H
   obtain⟨e,g,V⟩:=c4.1 H
   have E:=A e g
   rcases V with⟨a,b,c,rfl⟩|⟨a,b,c,rfl⟩
   ·exact⟨E.2.1,t05 I (c4.2 ⟨_,(O _).2 ⟨e,g,rfl⟩,.inl ⟨a,b,by show P e.1=P v;rw[c],rfl⟩⟩)⟩
   ·exact⟨E.1,t05 I (c4.2 ⟨_,(O _).2 ⟨e,g,rfl⟩,.inr ⟨a,b,by show P e.2.2=P v;rw[c],rfl⟩⟩)⟩
 have aj:∀ u:List Int,gud n u->∀ x∈u,0<=x/\x<t.2.1:=λu o x s=>by have:=o.2 x s;omega
 have ax:inG (t.1,(n:Int),t.2.2):=by
  have:=A
  intro e g
  have:=A e g
  rw[ad]at this;exact this
 have au:(t.1,(n:Int),t.2.2)=t:=by
  rw[←ad]
 have an:∀(u:List Int) (y z:Int),gud n u->(y = -1/\z = -1)∨((0<=y/\y<t.2.1)/\z=P y)->M06 (u.map P) z=(M06 u y).map P:=λu y z o h=>by
  unfold M06
  rcases h with⟨rfl,rfl⟩|⟨⟨h0,d⟩,rfl⟩
  ·rw[if_neg (by omega),if_neg (by omega)]
  ·have ac:P y∈u.map P↔y∈u:=by
    constructor
    ·intro h
     obtain⟨x,s,e⟩:=List.mem_map.1 h
     have:=aj u o x s
     rw[←B x y this.1 this.2 h0 d e];exact s
    ·exact λh=>List.mem_map.2 ⟨y,h,rfl⟩
   by_cases c:y∈u
   ·rw[if_neg λq=>q.2 (ac.2 c),if_neg λq=>q.2 c]
   ·rw[if_pos ⟨(L y h0 d).1,λq=>c (ac.1 q)⟩,if_pos ⟨h0,c⟩];simp
 have al:∀(v:Int),0<=v->v<t.2.1->∀(m u:List Int),gud n u->X01 (Y2 t) (P v) m (u.map P)=(X01 t v m u).map P:=λv h0 d m=>by
  induction m with
  |nil=>intro u o;rfl
  |cons x l W =>
   intro u o
   have s:j1 t v x = -1∨(0<=j1 t v x/\j1 t v x<(n:Int)):=by
    rcases ae v x h0 d with⟨a,_⟩|⟨a,_⟩
    ·exact .inl a
    ·exact .inr (by omega)
   rw[X01,X01,an u _ _ o (ae v x h0 d),W _ (J0k o s)]
 have am:∀(f i:Nat) (u:List Int) (m:List Int),gud n u->R7 (Y2 t) m f i (u.map P)=(R7 t m f i u).map P:=λf=>by
  induction f with
  |zero=>intro i u m o;rfl
  |succ f W =>
   intro i u m o
   unfold R7
   rw[List.getElem?_map]
   cases e:u[i]? with
   |none=>rfl
   |some v =>
    have w:=aj u o v (List.mem_of_getElem? e)
    have aw:gud n (X01 t v m u):=by
     have:=v04 ax v m u o
     rw[au]at this;exact this
    simp only[Option.map_some]
    rw[al v w.1 w.2 m u o]
    exact W (i+1) _ m aw
 have ah:D3 (Y2 t)=(D3 t).map P:=by
  have d:(Y2 t).1=t.1:=by rw[J]
  have p:=am (n+1) 0 [0] (V4 t.1.toNat 1) ⟨by simp,λx s=>by simp at s;subst s;omega⟩
  rw[List.map_cons,List.map_nil,S]at p
  show R7 (Y2 t) (V4 (Y2 t).1.toNat 1) ((Y2 t).2.1.toNat+1) 0 [0]=(R7 t (V4 t.1.toNat 1) (t.2.1.toNat+1) 0 [0]).map P
  rw[d,D,Q,Int.toNat_natCast]
  exact p
 have az:∀ i:Nat,i<n->(D3 (Y2 t))[i]?=some (i:Int):=λi F=>by
  rw[ah,List.getElem?_map]
  obtain⟨v,w⟩:∃ v,(D3 t)[i]?=some v:=⟨_,List.getElem?_eq_getElem (by omega)⟩
  rw[w,Option.map_some,K i v w]
 obtain⟨⟨aq,af⟩,_⟩:=M03 I
 rw[D,Int.toNat_natCast]at af
 have N:∀ x:Int,0<=x->x<(n:Int)->getI (plc n (D3 (Y2 t))) x=x:=λx h0 d=>by
  have:=e0g af aq (az x.toNat (by omega))
  rw[show((x.toNat:Nat):Int)=x by omega]at this;exact this
 have aC:(D3 (Y2 t)).length=n:=by rw[ah,List.length_map,ag]
 have aa:=(J2 Z).1
 have ap:Y2 (Y2 t)=Y2 t:=by
  have aG:pE (plc n (D3 (Y2 t))) (Y2 t).2.2=(Y2 t).2.2:=by
   rw[b0d _ _ λe g=>by
    have:=aa e g
    rw[D]at this
    exact⟨by rw[N _ this.1.1 this.1.2];exact this.1.1,by rw[N _ this.2.1.1 this.2.1.2];exact this.2.1.1⟩]
   refine(List.map_congr_left λe g=>?_).trans (List.map_id _)
   have:=aa e g
   rw[D]at this
   rw[N _ this.1.1 this.1.2,N _ this.2.1.1 this.2.1.2];rfl
  show r6 (Y2 t) (D3 (Y2 t))=Y2 t
  unfold r6
  rw[D,Int.toNat_natCast,aG,i0l (p07 Z),aC]
  rw[←D]
 unfold L1
 rw[I,aA,ap]
 simp[m07]
theorem M0o{g:l0}(hf:V0 g=true):L1 (f09 g)=true:=by
 have a:=P3 hf
 have:=(J2 a).2.2.1
 exact w0m (c02 40 hf) (a0g 40 a (by omega))
def K0d(g:l0)(w:List Int):Bool:=decide ((w4 g 0 w).2=w.length)&&decide ((w4 g 0 w).1=0)
theorem T0d{g:l0}(h:L1 g=true):V0 g=true:=by
 unfold L1 at h
 simp only[Bool.and_eq_true]at h
 exact h.1
def rdw(g:l0):Int->List Int->Option Int
 |v,[]=>some v
 |v,x::w=>if j1 g v x<0 then none else rdw g (j1 g v x) w
theorem R0h(g:l0):∀(w:List Int) (v u:Int),rdw g v w=some u↔((w4 g v w).2=w.length/\(w4 g v w).1=u)
 | [],v,u=>by simp[rdw,w4]
 |x::w,v,u=>by
  have a:=R0h g w (j1 g v x) u
  unfold rdw w4
  by_cases c:j1 g v x<0
  ·rw[if_pos c,if_pos c];simp
  ·rw[if_neg c,if_neg c,a];simp
theorem N0o(g:l0)(w:List Int):K0d g w=true↔rdw g 0 w=some 0:=by
 unfold K0d
 rw[R0h];simp
theorem I0n(g:l0):∀(a b:List Int) (v:Int),rdw g v (a++b)=(rdw g v a).bind λu=>rdw g u b
 | [],b,v=>rfl
 |x::a,b,v=>by
  have d:=I0n g a b (j1 g v x)
  show(if j1 g v x<0 then none else rdw g (j1 g v x) (a++b))=(if j1 g v x<0 then none else rdw g (j1 g v x) a).bind λu=>rdw g u b
  by_cases c:j1 g v x<0
  ·rw[if_pos c,if_pos c];rfl
  ·rw[if_neg c,if_neg c];exact d
theorem O0o{g:l0}(hf:V0 g=true){v x u:Int}(h:j1 g v x=u)(h0:0<=u):j1 g u (-x)=v:=by
 rcases d02 g v x with⟨e,_⟩|e
 ·omega
 ·rw[h]at e
  obtain⟨d,i,f⟩:=c4.1 e
  refine t05 hf (c4.2 ⟨d,i,?_⟩)
  rcases f with⟨a,b,c,rfl⟩|⟨a,b,c,rfl⟩
  ·exact .inr ⟨by omega,by omega,rfl,c.symm⟩
  ·exact .inl ⟨by omega,b,rfl,c.symm⟩
structure Mor (a b:l0) (f:Int->Int):Prop where
 base:f 0=0
 rng:∀ v,0<=v->v<a.2.1->0<=f v/\f v<b.2.1
 step:∀ v x,0<=v->v<a.2.1->0<=j1 a v x->j1 b (f v) x=f (j1 a v x)
theorem Mor.rdw{a b:l0}{f:Int->Int}(m:Mor a b f)(i:inG a):∀(w:List Int) (v u:Int),0<=v->v<a.2.1->rdw a v w=some u->rdw b (f v) w=some (f u)
 | [],v,u,h0,g,h=>by
  simp only[Go.Proofs.YtmgikbbmpnbbjaaGreat.rdw,Option.some.injEq]at h ⊢
  rw[h]
 |x::w,v,u,h0,g,h=>by
  unfold Go.Proofs.YtmgikbbmpnbbjaaGreat.rdw at h ⊢
  by_cases c:j1 a v x<0
  ·rw[if_pos c]at h;cases h
  ·rw[if_neg c]at h
   have j:=m.step v x h0 g (by omega)
   have d:0<=j1 a v x/\j1 a v x<a.2.1:=by
    rcases q05 i v x with e|e
    ·omega
    ·exact e
   have k:=m.rng _ d.1 d.2
   rw[j,if_neg (by omega)]
   exact Mor.rdw m i w _ u d.1 d.2 h
theorem Mor.loop{a b:l0}{f:Int->Int}(m:Mor a b f)(c:V0 a=true){w:List Int}(h:K0d a w=true):K0d b w=true:=by
 obtain⟨d,e,g,i⟩:=O1 c
 rw[N0o]at h ⊢
 have:=m.rdw d w 0 0 (iR _) (by omega) h
 rwa [m.base]at this
abbrev Im:=List Int×List Int
def x0m(a b:Im):Prop:=(∃ t,b.2=a.2++t)/\∀ v∈a.2,getI b.1 v=getI a.1 v
theorem x0m.refl(s:Im):x0m s s:=⟨⟨[],by simp⟩,λ_ _=>rfl⟩
theorem x0m.trans{b c d:Im}(h:x0m b c)(h':x0m c d):x0m b d:=by
 obtain⟨⟨t,e⟩,f⟩:=h
 obtain⟨⟨j,g⟩,i⟩:=h'
 exact⟨⟨t++j,by rw[g,e,List.append_assoc]⟩,λv a=>(i v (by rw[e];exact List.mem_append_left _ a)).trans (f v a)⟩
def L0s(a b:l0)(v x:Int)(s:Im):Prop:=0<=j1 a v x->j1 a v x∈s.2/\j1 b (getI s.1 v) x=getI s.1 (j1 a v x)
theorem L0s.le{a b:l0}{v x:Int}{c g:Im}(j:v∈c.2)(h:L0s a b v x c)(l:x0m c g):L0s a b v x g:=λh0=>by
 obtain⟨d,i⟩:=h h0
 obtain⟨⟨t,e⟩,f⟩:=l
 exact⟨by rw[e];exact List.mem_append_left _ d,by rw[f v j,f _ d];exact i⟩
theorem P0o{g:l0}(h:L1 g=true):o7 g=none:=by
 unfold L1 at h
 simp only[Bool.and_eq_true,Option.isNone_iff_eq_none]at h
 exact h.2.1
theorem y0m{g:l0}(h:L1 g=true){x:Int}(h0:0<=x)(b:x<g.2.1):Rch g.2.2 0 x:=by
 by_cases c:x=0
 ·subst c;exact .base
 ·have:=L09 (P0o h) x.toNat (by omega) (by omega)
  unfold Z08 at this
  simp only[Bool.or_eq_false_iff,Bool.not_eq_false',decide_eq_true_eq]at this
  have a:=this.2
  rw[show((x.toNat:Nat):Int)=x by omega]at a
  exact(E06 _ _ _).1 a
theorem r07{a b:List Int}(c:E9 a)(d:E9 b):E9 (a++b):=λx e=>by
 rcases List.mem_append.1 e with h|h
 ·exact c x h
 ·exact d x h
theorem Q0o{a:List Int}(b:E9 a):E9 a.reverse:=λx c=>b x (List.mem_reverse.1 c)
theorem h05(w:List Int)(hl:w.length<=1099511627776)(n0:Nat)(hn:n0<=1099511627776):∀(d k fuel:Nat) (s:List Int),k+d=w.length->d<fuel->s.length<=n0+k ->
  P6 w fuel (k:Int) s.reverse=some (L0a s (w.drop k)).reverse
 |d,k,0,s,hk,hf,hsl=>by omega
 |0,k,fuel+1,s,hk,hf,hsl=>by
  rw[P6.eq_2,if_neg (by simp;omega),T1 (by omega)]
  rfl
 |d+1,k,fuel+1,s,hk,hf,hsl=>by
  have hkl:k<w.length:=by omega
  have hx:=a7 hkl
  generalize w[k]=x at hx
  have next:=h05 w hl n0 hn d (k+1) fuel (e05 s x) (by omega) (by omega) (by have:=M0c s x;omega)
  rw[U1 hx]
  show _=some (L0a (e05 s x) (w.drop (k+1))).reverse
  rw[←next,P6.eq_2,if_pos (by simp;omega),B3 hx,oB,oB,J0 (by rw[List.length_reverse];omega),oB,oB,oB]
  rw[A2 hkl (by omega:w.length<=9223372036854775807)]
  cases s with
  |nil =>
   have hz:decide ((((([]:List Int).reverse).length:Nat):Int)>0)=false:=rfl
   simp only[hz,C3,oB,cond_false,Bool.false_eq_true,if_false]
   rw[J0 (by simp)]
   rfl
  |cons l t =>
   have hp:decide ((((l::t).reverse.length:Nat):Int)>0)=true:=by simp
   have hpr:IntKind.i64.wrap ((((l::t).reverse.length:Nat):Int)-1)=((t.length:Nat):Int):=by
    rw[w0k (by simp) (by simp only[List.length_cons]at hsl;simp only[List.length_reverse,List.length_cons];omega)];simp
   have hpush:(grd (((l::t).reverse.length + [x].length)*8<=140737488355328))=some ():=J0 (by simp only[List.length_cons]at hsl;simp only[List.length_reverse,List.length_cons,List.length_nil];omega)
   have hlen:(grd ((l::t).reverse.length<=9223372036854775807))=some ():=J0 (by rw[List.length_reverse];omega)
   simp only[hp,hpr,K1,oB,cond_true,B3 u0f,O0i,e05]
   have hcc:(!(l == 0) && !(l == -9223372036854775808)&&(x == IntKind.i64.wrap (0-l)))=t0f l x:=rfl
   rw[hcc]
   cases hc:t0f l x with
   |true =>
    simp only[if_true,cond_true,hlen,oB]
    rw[J0 (by simp only[List.length_reverse,List.length_cons];omega),oB,Int.toNat_natCast,t0h]
   |false =>
    simp only[Bool.false_eq_true,if_false,cond_false,hpush,hlen,oB]
    exact congrArg _ (List.reverse_cons ..).symm
def l0q:List (List Int)->Nat
 | []=>0
 |w::r=>w.length+l0q r
def M0s(s:List Int):List (List Int)->List Int
 | []=>s
 |w::r=>M0s (L0a s w) r
theorem i05(b:List (List Int))(h:b.length<=1099511627776):∀(d k fuel:Nat) (a:List Int),k+d=b.length->d<fuel->a.length+l0q (b.drop k)<=1099511627776 ->
  Y7 b fuel (k:Int) a.reverse=some (M0s a (b.drop k)).reverse
 |d,k,0,a,f,hf,c=>by omega
 |0,k,fuel+1,a,f,hf,c=>by
  rw[Y7.eq_2,if_neg (by simp;omega),T1 (by omega)]
  rfl
 |d+1,k,fuel+1,a,f,hf,c=>by
  have g:k<b.length:=by omega
  have e:=a7 g
  generalize b[k]=w at e
  rw[U1 e]at c ⊢
  simp only[l0q]at c
  have i:=U08 w a
  have h0:=h05 w (by omega) a.length (by omega) w.length 0 P0 a (by omega) (F1 (by omega)) (by omega)
  rw[show((0:Nat):Int)=0 from rfl,List.drop_zero]at h0
  rw[Y7.eq_2,if_pos (by simp;omega),B3 e,oB,h0,oB,A2 g (by omega:b.length<=9223372036854775807)]
  exact i05 b h d (k+1) fuel (L0a a w) (by omega) (by omega) (by omega)
theorem L0g(a:List (List Int))(c:a.length<=1099511627776)(b:l0q a<=1099511627776):I02 a=some (M0s [] a).reverse:=by
 unfold I02
 have h:=i05 a c a.length 0 P0 [] (by omega) (F1 (by omega)) (by simpa using b)
 rw[show((0:Nat):Int)=0 from rfl,List.drop_zero,List.reverse_nil]at h
 rw[h]
 rfl
abbrev Tr8:=List (Option (List Int))×List Int
def trS(g:l0)(v x:Int)(s:Tr8):Tr8:=if 0<=j1 g v x/\j1 g v x ∉ s.2 then(s.1.set (j1 g v x).toNat (some ((A8 s.1 v).getD [] ++ [x])),s.2 ++ [j1 g v x])else s
def d0e(g:l0)(v:Int):List Int->Tr8->Tr8
 | [],s=>s
 |x::r,s=>d0e g v r (trS g v x s)
def H06(g:l0)(b:List Int):Nat->Nat->Tr8->Tr8
 |0,i,a=>a
 |f+1,i,a=>match a.2[i]? with
  |some v=>H06 g b f (i+1) (d0e g v b a)
  |none=>a
def c00(g:l0)(p:Int):List Int:=R7 g (V4 g.1.toNat 1) (g.2.1.toNat+1) 0 [p]
def l03(g:l0)(p:Int):Tr8:=H06 g (V4 g.1.toNat 1) (g.2.1.toNat+1) 0 ((List.replicate g.2.1.toNat none).set p.toNat (some []),[p])
theorem J0n(g:l0)(v x:Int)(s:Tr8):(trS g v x s).2=M06 s.2 (j1 g v x):=by
 unfold trS M06
 split<;>rfl
theorem g0g(g:l0)(v:Int):∀(b:List Int) (a:Tr8),(d0e g v b a).2=X01 g v b a.2
 | [],a=>rfl
 |x::r,a=>by rw[d0e,g0g g v r,J0n];rfl
theorem S0h(g:l0)(b:List Int):∀(f i:Nat) (a:Tr8),(H06 g b f i a).2=R7 g b f i a.2
 |0,i,a=>rfl
 |f+1,i,a=>by
  unfold H06 R7
  cases a.2[i]? with
  |none=>rfl
  |some v=>simp only[S0h g b f,g0g]
theorem j0l(g:l0)(p:Int):(l03 g p).2=c00 g p:=S0h _ _ _ _ _
structure TOk (g:l0) (p:Int) (n:Nat) (s:Tr8):Prop where
 ok:WOk n s.1 s.2
 gd:gud n s.2
 base:p∈s.2
 word:A8 s.1 p=some []
 par:∀ y∈s.2,y≠p->∃ v∈s.2,∃ x,x∈V4 g.1.toNat 1/\j1 g v x=y/\∃ a,A8 s.1 v=some a/\A8 s.1 y=some (a ++ [x])
 red:∀ y∈s.2,∀ a,A8 s.1 y=some a->Red a.reverse=true
theorem WOk.add{n:Nat}{b:List (Option (List Int))}{u:List Int}(a:WOk n b u){y:Int}(d:0<=y)(h:y<(n:Int))(v x:Int):WOk n (b.set y.toNat (some ((A8 b v).getD [] ++ [x]))) (u ++ [y]):=by
 have e:=a.short v
 refine⟨by simp[a.len],λz h0 f=>?_,λz=>?_⟩
 ·rw[k02 d (by have:=a.len;omega) h0]
  by_cases c:z=y
  ·rw[if_pos c];simp[c]
  ·rw[if_neg c,a.iff z h0 f];simp[c]
 ·by_cases hz:0<=z
  ·rw[k02 d (by have:=a.len;omega) hz]
   by_cases c:z=y
   ·rw[if_pos c];simp;exact e
   ·rw[if_neg c];have:=a.short z;simp only[List.length_append];omega
  ·have g:A8 (b.set y.toNat (some ((A8 b v).getD [] ++ [x]))) z=A8 (b.set y.toNat (some ((A8 b v).getD [] ++ [x]))) 0:=by
    unfold A8;rw[show z.toNat=(0:Int).toNat by omega]
   rw[g,k02 d (by have:=a.len;omega) (iR 0)]
   by_cases c:(0:Int)=y
   ·rw[if_pos c];simp;exact e
   ·rw[if_neg c];have:=a.short 0;simp only[List.length_append];omega
theorem WOk.get{n:Nat}{b:List (Option (List Int))}{u:List Int}(f:WOk n b u){v:Int}(h0:0<=v)(c:v<(n:Int))(d:v∈u):∃ a,A8 b v=some a:=by
 cases e:A8 b v with
 |none=>exact absurd d ((f.iff v h0 c).1 (by rw[e];rfl))
 |some a=>exact⟨a,rfl⟩
theorem d0d{R:Nat}(b:R<=900){x:Int}(a:x∈V4 R 1):I00 x/\x≠0 /\ -(R:Int)<=x/\x<=(R:Int):=by
 obtain⟨j,c,d,e⟩:=d09 _ _ _ a
 exact⟨⟨⟨by omega,by omega⟩,by omega⟩,by omega,by omega,by omega⟩
theorem m0q{l x:Int}(a:I00 l)(h:t0f l x=true):x = -l:=by
 unfold t0f at h
 simp only[Bool.and_eq_true,beq_iff_eq]at h
 rw[h.2];exact v0k a.1 a.2
theorem TOk.add{g:l0}(hf:V0 g=true){p:Int}{n:Nat}(S:g.2.1=(n:Int)){B:Tr8}(h:TOk g p n B){v x:Int}(j:v∈B.2)(N:x∈V4 g.1.toNat 1):TOk g p n (trS g v x B):=by
 obtain⟨Q,T,U,V⟩:=O1 hf
 unfold trS
 split
 ·rename_i c
  obtain⟨o,s⟩:=c
  have P:j1 g v x<(n:Int):=by
   rcases q05 Q v x with e|e<;>omega
  obtain⟨m,u⟩:=B
  obtain⟨ok,q,base,I,F,G⟩:=h
  simp only at j o s ok q base I F G ⊢
  have D:=q.2 v j
  obtain⟨a,i⟩:=ok.get D.1 D.2 j
  have R:=ok.len
  have keep:∀ z∈u,A8 (m.set (j1 g v x).toNat (some ((A8 m v).getD [] ++ [x]))) z=A8 m z:=λz K=>by
   have:=q.2 z K
   rw[k02 o (by omega) this.1,if_neg λ(e:z=j1 g v x)=>s (by rw[←e];exact K)]
  have new:A8 (m.set (j1 g v x).toNat (some ((A8 m v).getD [] ++ [x]))) (j1 g v x)=some (a ++ [x]):=by
   rw[k02 o (by omega) o,if_pos rfl,i];rfl
  refine⟨ok.add o P v x,⟨List.nodup_append.2 ⟨q.1,by simp,λa i b f=>?_⟩,λy d=>?_⟩,List.mem_append_left _ base,?_,λy d O=>?_,λy d b f=>?_⟩
  ·simp at f;subst f;exact λe=>s (e▸i)
  ·rcases List.mem_append.1 d with d|d
   ·exact q.2 y d
   ·simp at d;subst d;omega
  ·rw[keep p base];exact I
  ·rcases List.mem_append.1 d with d|d
   ·obtain⟨H,A,L,E,C,b,w,k⟩:=F y d O
    exact⟨H,List.mem_append_left _ A,L,E,C,b,by rw[keep H A];exact w,by rw[keep y d];exact k⟩
   ·simp at d;subst d
    exact⟨v,List.mem_append_left _ j,x,N,rfl,a,by rw[keep v j];exact i,new⟩
  ·rcases List.mem_append.1 d with d|d
   ·rw[keep y d]at f;exact G y d b f
   ·simp at d;subst d
    rw[new]at f;cases f
    have J:=G v j a i
    rw[List.reverse_append]
    show Red (x::a.reverse)=true
    cases e:a.reverse with
    |nil=>rfl
    |cons l t =>
     rw[e]at J
     unfold Red
     rw[J,Bool.and_true]
     cases hc:t0f l x with
     |false=>rfl
     |true =>
      exfalso
      have M:v≠p:=λw=>by
       subst w
       rw[I]at i;cases i;simp at e
      obtain⟨H,A,L,E,C,b,w,k⟩:=F v j M
      rw[i]at k
      injection k with k
      rw[k,List.reverse_append]at e
      simp only[List.reverse_cons,List.reverse_nil,List.nil_append,List.cons_append,List.cons.injEq]at e
      rw[←e.1]at hc
      have:=m0q (d0d (by omega) E).1 hc
      have f:=O0o hf C D.1
      rw[←this]at f
      exact s (f▸A)
 ·exact h
theorem i0j(g:l0)(v x:Int)(s:Tr8):∃ t,(trS g v x s).2=s.2++t:=by rw[J0n];exact N0f _ _
theorem k0l(g:l0)(v:Int)(b:List Int)(a:Tr8):∃ t,(d0e g v b a).2=a.2++t:=by rw[g0g];exact L03 _ _ _ _
theorem TOk.inn{g:l0}(hf:V0 g=true){p:Int}{n:Nat}(d:g.2.1=(n:Int)){v:Int}:∀(f:List Int) {a:Tr8},TOk g p n a->v∈a.2->(∀ x∈f,x∈V4 g.1.toNat 1)->TOk g p n (d0e g v f a)
 | [],a,h,c,b=>h
 |x::r,a,h,c,b=>by
  obtain⟨t,e⟩:=i0j g v x a
  exact TOk.inn hf d r (h.add hf d c (b x mS)) (by rw[e];exact List.mem_append_left _ c) λy i=>b y (mC _ i)
theorem TOk.out{g:l0}(hf:V0 g=true){p:Int}{n:Nat}(b:g.2.1=(n:Int)):∀(f i:Nat) {a:Tr8},TOk g p n a->TOk g p n (H06 g (V4 g.1.toNat 1) f i a)
 |0,i,a,h=>h
 |f+1,i,a,h=>by
  unfold H06
  cases e:a.2[i]? with
  |none=>exact h
  |some v=>exact TOk.out hf b f (i+1) (h.inn hf b _ (List.mem_of_getElem? e) λx c=>c)
theorem n0q(N:Nat)(x:Int):A8 (List.replicate N (none:Option (List Int))) x=none:=by
 unfold A8
 rw[List.getD_eq_getElem?_getD,List.getElem?_replicate];split<;>rfl
theorem e0d(g:l0){p:Int}{N:Nat}(d:0<=p/\p<(N:Int)):TOk g p N ((List.replicate N none).set p.toNat (some []),[p]):=by
 have f:∀ x,0<=x->A8 ((List.replicate N (none:Option (List Int))).set p.toNat (some [])) x=if x=p then some []else none:=λx h0=>by
  rw[k02 d.1 (by simp;omega) h0,n0q]
 refine⟨⟨by simp,λx h0 k=>?_,λx=>?_⟩,⟨by simp,λx j=>by simp at j;subst j;exact d⟩,by simp,?_,λy b h=>?_,λy b a i=>?_⟩
 ·simp only
  rw[f x h0]
  by_cases c:x=p
  ·rw[if_pos c];simp[c]
  ·rw[if_neg c];simp[c]
 ·have:∀ x,0<=x->((A8 ((List.replicate N (none:Option (List Int))).set p.toNat (some [])) x).getD []).length<=1:=λx h0=>by
   rw[f x h0];split<;>simp
  by_cases hz:0<=x
  ·exact this x hz
  ·have e:A8 ((List.replicate N (none:Option (List Int))).set p.toNat (some [])) x=A8 ((List.replicate N (none:Option (List Int))).set p.toNat (some [])) 0:=by
    unfold A8;rw[show x.toNat=(0:Int).toNat by omega]
   simp only
   rw[e];exact this 0 (iR 0)
 ·simp only
  rw[f p d.1,if_pos rfl]
 ·simp at b;exact absurd b h
 ·simp at b;subst b
  simp only at i
  rw[f y d.1,if_pos rfl]at i
  cases i;rfl
theorem M09{g:l0}(hf:V0 g=true){p:Int}(a:0<=p/\p<g.2.1):TOk g p g.2.1.toNat (l03 g p):=by
 obtain⟨b,c,d,e⟩:=O1 hf
 exact TOk.out hf (by omega) _ _ (e0d g ⟨a.1,by omega⟩)
theorem X0r{g:l0}(hf:V0 g=true)(p:Int){n:Nat}(u:g.2.1=(n:Int))(b:List Int)(s:∀ x∈b,x∈V4 g.1.toNat 1)(B:b.length<=1000000)(v:Int):∀(d k fuel:Nat) (a:Tr8),TOk g p n a->v∈a.2->k+d=b.length->d<fuel ->
  Q2 b g.1 g.2.1 g.2.2 v fuel (k:Int) a.1 a.2=some (d0e g v (b.drop k) a)
 |d,k,0,a,c,e,m,hf=>by omega
 |0,k,fuel+1,a,c,e,m,hf=>by
  rw[Q2.eq_2,if_neg (by simp;omega),T1 (by omega)];rfl
 |d+1,k,fuel+1,a,c,e,m,G=>by
  obtain⟨z,K,F,L⟩:=O1 hf
  have q:k<b.length:=by omega
  have i:=a7 q
  have j:=s _ (List.mem_of_getElem? i)
  have o:=U1 i
  generalize b[k]=x at i j o
  have D:=(d0d (by omega) j).1
  have H:=w01 n a.2 c.gd.1 c.gd.2
  have I:=q05 z v x
  have C:=c.add hf u e j
  obtain⟨t,A⟩:=i0j g v x a
  have E:=X0r hf p u b s B v d (k+1) fuel (trS g v x a) C (by rw[A];exact List.mem_append_left _ e) (by omega) (by omega)
  have f:=c.ok
  have w:=c.gd.2 v e
  rw[Q2.eq_2,if_pos (by simp;omega),o,d0e,←E]
  simp only[B3 i,oB,show(g.1,g.2.1,g.2.2)=g from rfl,W07 g v x D (by omega),J0 (r05 z F.2 v x),A2 q (show b.length<=9223372036854775807 by omega)]
  unfold trS
  generalize j1 g v x=y at *
  by_cases c1:0<=y
  ·have l:y<(n:Int):=by omega
   simp only[show decide (y ≥ 0)=true by simpa using c1,K1,giO f.len c1 l,oB,cond_true]
   by_cases c2:y∈a.2
   ·have : ¬ ((A8 a.1 y).isNone=true):=λh=>(f.iff y c1 l).1 h c2
    rw[if_neg this,if_neg λh=>h.2 c2]
   ·have:(A8 a.1 y).isNone=true:=(f.iff y c1 l).2 c2
    have J:=f.short v
    rw[if_pos this,if_pos ⟨c1,c2⟩,giO f.len w.1 w.2,oB,C0n (by omega),oB,J0 (by simp;omega),oB,J0 (by simp;omega),oB]
  ·simp only[show decide (y ≥ 0)=false by simpa using c1,C3,oB,cond_false]
   rw[if_neg (by simp),if_neg λh=>c1 h.1]
theorem Y0r{g:l0}(hf:V0 g=true)(p:Int){n:Nat}(d:g.2.1=(n:Int)):∀(f i fuel:Nat) (a:Tr8),TOk g p n a->i<=a.2.length->n+1<=i+f->f<fuel ->
  f4 g.1 g.2.1 g.2.2 fuel (i:Int) a.1 a.2=some (H06 g (V4 g.1.toNat 1) f i a)
 |f,i,0,a,c,j,h,hf=>by omega
 |0,i,fuel+1,a,c,j,h,hf=>by have:=w01 n a.2 c.gd.1 c.gd.2;omega
 |f+1,i,fuel+1,a,c,j,h,o=>by
  obtain⟨s,u,w,y⟩:=O1 hf
  have q:=w01 n a.2 c.gd.1 c.gd.2
  rw[f4.eq_2,oB,J0 (by omega),oB]
  by_cases hk:i<a.2.length
  ·have b:=a7 hk
   generalize a.2[i]=v at b
   have k:=List.mem_of_getElem? b
   have h0:=X0r hf p d (V4 g.1.toNat 1) (λx b=>b) (by rw[H01];omega) v (V4 g.1.toNat 1).length 0 P0 a c k (by omega) (F1 (by rw[H01];omega))
   rw[show((0:Nat):Int)=0 from rfl,List.drop_zero]at h0
   obtain⟨t,e⟩:=k0l g v (V4 g.1.toNat 1) a
   have m:=Y0r hf p d f (i+1) fuel _ (c.inn hf d _ k λx b=>b) (by rw[e,List.length_append];omega) (by omega) (by omega)
   have l:N7 g.1=some (V4 g.1.toNat 1):=by
    have:=X0i g.1.toNat (by omega)
    rwa [show((g.1.toNat:Nat):Int)=g.1 by omega]at this
   rw[if_pos (by simpa using hk),B3 b,oB,l,oB,h0,oB]
   simp only[A2 hk (show a.2.length<=9223372036854775807 by omega),H06,b]
   exact m
  ·have b:a.2[i]?=none:=List.getElem?_eq_none (by omega)
   rw[if_neg (by simpa using hk)]
   simp only[H06,b]
structure j0j (g:l0) (p:Int) (t:Int->List Int):Prop where
 z:t p = []
 par:∀ y∈c00 g p,y≠p->∃ v∈c00 g p,∃ x,x∈V4 g.1.toNat 1/\j1 g v x=y/\t y=t v ++ [x]
 red:∀ y∈c00 g p,Red (t y).reverse=true
 len:∀ y,(t y).length<=40
theorem l0l{g:l0}(hf:V0 g=true){p:Int}(a:0<=p/\p<g.2.1):gud g.2.1.toNat (c00 g p):=by
 rw[←j0l];exact(M09 hf a).gd
theorem j0j.ind{g:l0}{p:Int}{t:Int->List Int}(h:j0j g p t)(P:Int->Prop)(h0:P p)(d:∀ v∈c00 g p,∀ y∈c00 g p,∀ x,x∈V4 g.1.toNat 1->j1 g v x=y->t y=t v ++ [x]->P v->P y):∀(k:Nat) (y:Int),(t y).length<=k->y∈c00 g p->P y
 |k,y,a,f=>by
  by_cases c:y=p
  ·rw[c];exact h0
  ·obtain⟨v,e,x,j,i,b⟩:=h.par y f c
   cases k with
   |zero=>rw[b]at a;simp at a
   |succ k=>exact d v e y f x j i b (j0j.ind h P h0 d k v (by rw[b]at a;simp at a;omega) e)
theorem j0j.induct{g:l0}{p:Int}{t:Int->List Int}(h:j0j g p t){P:Int->Prop}(h0:P p)(a:∀ v∈c00 g p,∀ y∈c00 g p,∀ x,x∈V4 g.1.toNat 1->j1 g v x=y->t y=t v ++ [x]->P v->P y){y:Int}(b:y∈c00 g p):P y:=h.ind P h0 a _ y (Nat.le_refl _) b
theorem u0r{g:l0}{v x y:Int}(h:j1 g v x=y)(h0:0<=y):rdw g v [x]=some y:=by
 unfold rdw
 rw[if_neg (by omega),h];rfl
theorem j0j.rd{g:l0}(hf:V0 g=true){p:Int}(d:0<=p/\p<g.2.1){t:Int->List Int}(h:j0j g p t){y:Int}(a:y∈c00 g p):rdw g p (t y)=some y:=by
 refine h.induct (P:=λy=>rdw g p (t y)=some y) ?_ (λv f y a x i b c e=>?_) a
 ·rw[h.z];rfl
 ·rw[c,I0n,e,oB]
  exact u0r b ((l0l hf d).2 y a).1
theorem j0j.let{g:l0}{p:Int}{t:Int->List Int}(h:j0j g p t){y:Int}(c:y∈c00 g p):∀ x∈t y,x∈V4 g.1.toNat 1:=by
 refine h.induct (P:=λy=>∀ x∈t y,x∈V4 g.1.toNat 1) ?_ (λv i y c x b f d e=>?_) c
 ·rw[h.z];exact λx b=>by cases b
 ·rw[d]
  intro z a
  rcases List.mem_append.1 a with a|a
  ·exact e z a
  ·simp at a;rw[a];exact b
theorem T0h(g:l0):∀ d k,(q0a g d k).length<=d*(V4 g.1.toNat 1).length
 |0,k=>Nat.zero_le _
 |d+1,k=>by
  have a:=K09 g (k:Int) (V4 g.1.toNat 1)
  have b:=T0h g d (k+1)
  rw[q0a,List.length_append,Nat.succ_mul]
  omega
theorem U0d{g:l0}(hf:V0 g=true):(L01 g).length<=1000:=by
 obtain⟨b,c,d,e⟩:=O1 hf
 have h:=T0h g g.2.1.toNat 0
 rw[H01]at h
 unfold L01
 have a:g.2.1.toNat*(2*g.1.toNat)<=40*(2*3):=Nat.mul_le_mul (by omega) (by omega)
 omega
def A02(g:l0):Bool:=L1 g&&decide ((L01 g).length=0)
theorem v0r(n:Nat):decide (((n:Nat):Int)=0)=decide (n=0):=by
 by_cases c:n=0
 ·rw[decide_eq_true c,decide_eq_true (by omega)]
 ·rw[decide_eq_false c,decide_eq_false (by omega)]
theorem K5{g:l0}(h:L1 g=true):V0 g=true:=by
 unfold L1 at h
 simp only[Bool.and_eq_true]at h
 exact h.1
theorem g09(g:l0)(i:g.2.2.length<=140737488355328):F6 g=some (A02 g):=by
 have d:=s05 g i
 have f:L1 g=true->U8 g=some (L01 g):=λc=>J0g (K5 c)
 have h:L1 g=true->(L01 g).length<=1000:=λc=>U0d (K5 c)
 unfold A02
 obtain⟨a,b,c⟩:=g
 unfold F6 L3
 simp only[d,oB]
 cases e:L1 (a,b,c)with
 |false=>rfl
 |true =>
  have:=h e
  simp only[K1,f e,oB,cond_true,Bool.true_and]
  rw[J0 (by omega),oB,v0r]
theorem V0d(g:l0)(i:g.2.2.length<=140737488355328):H6 g=some (A02 g):=by
 have d:=Y03 g i
 have f:L1 g=true->V8 g=some (L01 g):=λc=>K0g (K5 c)
 have h:L1 g=true->(L01 g).length<=1000:=λc=>U0d (K5 c)
 unfold A02
 obtain⟨a,b,c⟩:=g
 unfold H6
 simp only[d,oB]
 cases e:L1 (a,b,c)with
 |false=>rfl
 |true =>
  have:=h e
  simp only[K1,f e,oB,cond_true,Bool.true_and]
  rw[J0 (by omega),oB,v0r]
theorem U0b{g:l0}(h:A02 g=true):L1 g=true:=by
 unfold A02 at h
 simp only[Bool.and_eq_true]at h
 exact h.1
def P03(g:l0)(v:Int):List Int:=v::wo v.toNat g.2.1.toNat 0
def Z5(g:l0)(v:Int):l0:=f09 (r6 g (P03 g v))
theorem o0q(g:Nat):∀(d k:Nat),(g:Int) ∉ wo g d k
 |0,k,h=>nomatch h
 |d+1,k,h=>by
  unfold wo at h
  split at h
  ·exact o0q g d (k+1) h
  ·rcases List.mem_cons.1 h with h|h
   ·omega
   ·exact o0q g d (k+1) h
theorem z0m(g:Nat):∀(d k j:Nat),k<=j->j<k+d->j≠g->(j:Int)∈wo g d k
 |0,k,j,b,e,a=>by omega
 |d+1,k,j,b,e,a=>by
  unfold wo
  split
  ·exact z0m g d (k+1) j (by omega) (by omega) a
  ·by_cases c:j=k
   ·rw[c];exact mS
   ·exact mC _ (z0m g d (k+1) j (by omega) (by omega) a)
theorem V0b{g:l0}(hf:V0 g=true){v:Int}(b:0<=v/\v<g.2.1):inV g.2.1.toNat (P03 g v)/\(P03 g v).Nodup/\(P03 g v).length=g.2.1.toNat:=by
 obtain⟨c,d,e,f⟩:=O1 hf
 refine⟨λx a=>?_,?_,?_⟩
 ·rcases List.mem_cons.1 a with rfl|a
  ·omega
  ·exact M0k _ _ _ _ (by omega) x a
 ·refine List.nodup_cons.2 ⟨λh=>?_,e09 _ _ _⟩
  have:=o0q v.toNat g.2.1.toNat 0
  rw[show((v.toNat:Nat):Int)=v by omega]at this
  exact this h
 ·unfold P03
  rw[List.length_cons,R0f,if_pos (by omega)]
  omega
theorem f0d{g:l0}(hf:V0 g=true){v:Int}(c:0<=v/\v<g.2.1):V0 (r6 g (P03 g v))=true:=by
 obtain⟨e,f,h,i⟩:=O1 hf
 obtain⟨a,b,d⟩:=V0b hf c
 exact G06 hf a b (by omega) (by omega)
theorem f03{g:l0}(hf:V0 g=true){v:Int}(a:0<=v/\v<g.2.1):L1 (Z5 g v)=true:=M0o (f0d hf a)
theorem p0q(n:Nat)(v:Int)(h0:0<=v)(i:n<=1000):∀(d k fuel:Nat) (acc:List Int),k+d=n->d<fuel->acc.length<=k+1 ->
  R4 (n:Int) v fuel (k:Int) acc=some (acc++wo v.toNat d k)
 |d,k,0,acc,b,hf,a=>by omega
 |0,k,fuel+1,acc,b,hf,a=>by
  rw[R4.eq_2,if_neg (by simp only[decide_eq_true_eq];omega)];simp[wo]
 |d+1,k,fuel+1,acc,b,hf,a=>by
  have f:=λg h=>p0q n v h0 i d (k+1) fuel g (by omega) (by omega) h
  rw[R4.eq_2,if_pos (by simp only[decide_eq_true_eq];omega),A2 (show k<10000 by omega) (by omega)]
  unfold wo
  by_cases c:k=v.toNat
  ·have e:decide ((k:Int)=v)=true:=decide_eq_true (by omega)
   rw[e,if_neg (by simp),if_pos c,f _ (by omega)]
  ·have e:decide ((k:Int)=v)=false:=decide_eq_false (by omega)
   rw[e,if_pos (show(!false)=true from rfl),if_neg c,J0 (by simp;omega),oB,f _ (by simp;omega)]
   simp
theorem Z0r(n:Nat)(v:Int):∀(fuel:Nat) (k:Int) (acc:List Int),E7 (n:Int) v fuel k acc=R4 (n:Int) v fuel k acc
 |0,k,acc=>rfl
 |fuel+1,k,acc=>by
  rw[E7.eq_2,R4.eq_2]
  simp only[Z0r n v fuel]
theorem Y07{g:l0}(hf:V0 g=true){v:Int}(e:0<=v/\v<g.2.1):K4 g v=some (Z5 g v,true):=by
 obtain⟨p,s,l,t⟩:=O1 hf
 obtain⟨i,j,m⟩:=V0b hf e
 have h:=F8 g (by omega)
 rw[hf]at h
 have d:=p0q g.2.1.toNat v e.1 (by omega) g.2.1.toNat 0 P0 [v] (by omega) (F1 (by omega)) (by simp)
 have k:=t0m (f0d hf e)
 have f:=N0a g.1 g.2.1.toNat g.2.2 (P03 g v) (by rw[show((g.2.1.toNat:Nat):Int)=g.2.1 by omega];exact P3 hf) i j (by omega) (by omega)
 rw[show((0:Nat):Int)=0 from rfl]at d
 rw[show((g.2.1.toNat:Nat):Int)=g.2.1 by omega]at d f
 rw[show [v]++wo v.toNat g.2.1.toNat 0=P03 g v from rfl]at d
 rw[show(g.1,g.2.1,g.2.2)=g from rfl]at f
 unfold Z5
 generalize P03 g v=o at *
 generalize n:r6 g o=q at *
 obtain⟨a,b,c⟩:=g
 obtain⟨u,w,x⟩:=q
 simp only at d e l ⊢
 unfold K4
 simp only[h,oB,Bool.not_true,Bool.not_false,K1,D01,cond_false]
 rw[w64 (by omega) (by omega),show inR 0 (b-1) v=true by simp[inR];omega]
 simp only[Bool.not_true,Bool.false_eq_true,if_false,d,oB,f,k]
theorem R0a{g:l0}(hf:V0 g=true){v:Int}(f:0<=v/\v<g.2.1):j00 g v=some (Z5 g v,true):=by
 obtain⟨n,w,p,x⟩:=O1 hf
 obtain⟨j,s,t⟩:=V0b hf f
 have i:=G01 g (by omega)
 rw[hf]at i
 have m:=z0t (P3 hf) f
 have d:=p0q g.2.1.toNat v f.1 (by omega) g.2.1.toNat 0 P0 [v] (by omega) (F1 (by omega)) (by simp)
 rw[←Z0r]at d
 have k:=u0m (f0d hf f)
 have h:=W0i g.1 g.2.1.toNat g.2.2 (P03 g v) (λe l=>by have:=n e l;omega) j (by omega) (by omega) (by omega)
 rw[show((0:Nat):Int)=0 from rfl]at d
 rw[show((g.2.1.toNat:Nat):Int)=g.2.1 by omega]at d h
 rw[show [v]++wo v.toNat g.2.1.toNat 0=P03 g v from rfl]at d
 rw[show(g.1,g.2.1,g.2.2)=g from rfl]at h
 unfold Z5
 generalize P03 g v=o at *
 generalize u:r6 g o=q at *
 obtain⟨a,b,c⟩:=g
 obtain⟨y,z,A⟩:=q
 simp only at d f p ⊢
 unfold j00
 simp only[i,oB,Bool.not_true,Bool.not_false,K1,m,cond_false]
 simp only[Bool.false_eq_true,if_false,d,oB,h,k]
theorem H8{g:l0}(h:L1 g=true):g.2.2.length<=120/\(1<=g.2.1/\g.2.1<=40)/\(1<=g.1/\g.1<=3):=by
 obtain⟨d,a,b,c⟩:=O1 (K5 h)
 exact⟨c,b,a⟩
theorem m0l(b:List Int)(r n:Int)(es:List Q0)(v:Int):∀(fuel:Nat) (k:Int) (a:List (Option (List Int))) (u:List Int),T9 b r n es v fuel k a u=Q2 b r n es v fuel k a u
 |0,k,a,u=>rfl
 |fuel+1,k,a,u=>by
  rw[T9.eq_2,Q2.eq_2]
  simp only[m0l b r n es v fuel]
theorem n0l(r n:Int)(es:List Q0):∀(fuel:Nat) (k:Int) (W:List (Option (List Int))) (u:List Int),J00 r n es fuel k W u=f4 r n es fuel k W u
 |0,k,W,u=>rfl
 |fuel+1,k,W,u=>by
  rw[J00.eq_2,f4.eq_2]
  simp only[n0l r n es fuel,m0l]
theorem w0r{g:l0}(hf:V0 g=true){p:Int}(f:0<=p/\p<g.2.1):b04 g p=some (c00 g p,(l03 g p).1):=by
 obtain⟨h,i,j,l⟩:=O1 hf
 have d:g.2.1=((g.2.1.toNat:Nat):Int):=by omega
 have h0:=Y0r hf p d (g.2.1.toNat+1) 0 P0 _ (e0d g (N:=g.2.1.toNat) ⟨f.1,by omega⟩) (by simp) (by omega) (F1 (by omega))
 have e:gi (List.replicate g.2.1.toNat (none:Option (List Int))) p=some none:=by
  have:=B3 (xs:=List.replicate g.2.1.toNat (none:Option (List Int))) (k:=p.toNat) (x:=none) (by rw[List.getElem?_replicate,if_pos (by omega)])
  rwa [show((p.toNat:Nat):Int)=p by omega]at this
 rw[←j0l]
 unfold l03
 obtain⟨a,b,c⟩:=g
 simp only at *
 unfold b04
 simp only
 rw[J0 (by omega),oB,e,oB,n0l]
 rw[show((0:Nat):Int)=0 from rfl]at h0
 rw[h0]
 rfl
def isS(o:Option (List Int)):Bool:=o.isSome
def gtD(o:Option (List Int)):List Int:=o.getD []
theorem giM{b e:Type}{f:b->e}{a:List b}{n:Nat}(h:a.length=n){x:Int}(h0:0<=x)(g:x<(n:Int)){y:b}(d:gi a x=some y):gi (a.map f) x=some (f y):=by
 obtain⟨_,c⟩:=C0b d
 have:=B3 (xs:=a.map f) (k:=x.toNat) (x:=f y) (by rw[List.getElem?_map,c];rfl)
 rwa [show((x.toNat:Nat):Int)=x by omega]at this
theorem q0q{g:l0}(hf:V0 g=true)(p:Int){n:Nat}(G:g.2.1=(n:Int))(j:List Int)(F:∀ x∈j,x∈V4 g.1.toNat 1)(N:j.length<=1000000)(i:Nat)(v:Int):∀(d k fuel:Nat) (c:Tr8),TOk g p n c->c.2[i]?=some v->k+d=j.length->d<fuel ->
  l6 j (i:Int) g.1 g.2.1 g.2.2 fuel (k:Int) (c.1.map isS) (c.1.map gtD) c.2=some ((d0e g v (j.drop k) c).1.map isS,(d0e g v (j.drop k) c).1.map gtD,(d0e g v (j.drop k) c).2)
 |d,k,0,c,m,u,C,hf=>by omega
 |0,k,fuel+1,c,m,u,C,hf=>by
  rw[l6.eq_2,if_neg (by simp only[decide_eq_true_eq];omega),T1 (by omega)];rfl
 |d+1,k,fuel+1,c,m,w,C,T=>by
  obtain⟨I,W,S,X⟩:=O1 hf
  have E:k<j.length:=by omega
  have z:=a7 E
  have B:=F _ (List.mem_of_getElem? z)
  have D:=U1 z
  generalize j[k]=x at z B D
  have Q:=(d0d (by omega) B).1
  have U:=w01 n c.2 m.gd.1 m.gd.2
  have V:=q05 I v x
  have u:=List.mem_of_getElem? w
  have O:=m.add hf G u B
  obtain⟨t,J⟩:=i0j g v x c
  have R:=q0q hf p G j F N i v d (k+1) fuel (trS g v x c) O (by rw[J,List.getElem?_append_left (List.getElem?_eq_some_iff.1 w).1];exact w) (by omega) (by omega)
  have l:=m.ok
  have o:=m.gd.2 v u
  have H:=l.short v
  obtain⟨a,A⟩:=l.get o.1 o.2 u
  have P:gi c.1 v=some (some a):=by rw[giO l.len o.1 o.2,A]
  rw[A]at H
  rw[l6.eq_2,if_pos (by simp only[decide_eq_true_eq];omega),D,d0e,←R]
  simp only[B3 w,B3 z,oB,show(g.1,g.2.1,g.2.2)=g from rfl,t04 g v x Q (by omega),J0 (r05 I S.2 v x),A2 E (show j.length<=9223372036854775807 by omega),giM (f:=gtD) l.len o.1 o.2 P]
  unfold trS
  generalize j1 g v x=y at *
  by_cases c1:0<=y
  ·have q:y<(n:Int):=by omega
   have M:=giM (f:=isS) l.len c1 q (giO l.len c1 q)
   have L:=giM (f:=gtD) l.len c1 q (giO l.len c1 q)
   simp only[show decide (y ≥ 0)=true by simpa using c1,K1,M,L,oB,cond_true]
   by_cases c2:y∈c.2
   ·have:isS (A8 c.1 y)=true:=by
     have s : ¬ ((A8 c.1 y).isNone=true):=λh=>(l.iff y c1 q).1 h c2
     unfold isS
     cases e:A8 c.1 y with
     |none=>rw[e]at s;exact absurd rfl s
     |some b=>rfl
    rw[this,if_neg (by simp),if_neg λh=>h.2 c2]
   ·have:isS (A8 c.1 y)=false:=by
     have s:(A8 c.1 y).isNone=true:=(l.iff y c1 q).2 c2
     unfold isS
     cases e:A8 c.1 y with
     |none=>rfl
     |some b=>rw[e]at s;cases s
    have K:gtD (some a)=a:=rfl
    simp only[Option.getD_some]at H
    rw[this,if_pos (by simp),if_pos ⟨c1,c2⟩,K,J0 (by omega),oB,J0 (by simp;omega),oB,J0 (by simp;omega),oB,A]
    simp only[List.map_set,Option.getD_some]
    rfl
  ·simp only[show decide (y ≥ 0)=false by simpa using c1,C3,oB,cond_false]
   rw[if_neg (by simp),if_neg λh=>c1 h.1]
theorem r0q{g:l0}(hf:V0 g=true)(p:Int){n:Nat}(d:g.2.1=(n:Int)):∀(f i fuel:Nat) (a:Tr8),TOk g p n a->i<=a.2.length->n+1<=i+f->f<fuel ->
  I8 (V4 g.1.toNat 1) g.1 g.2.1 g.2.2 fuel (i:Int) (a.1.map isS) (a.1.map gtD) a.2=some ((H06 g (V4 g.1.toNat 1) f i a).1.map isS,(H06 g (V4 g.1.toNat 1) f i a).1.map gtD,(H06 g (V4 g.1.toNat 1) f i a).2)
 |f,i,0,a,c,j,h,hf=>by omega
 |0,i,fuel+1,a,c,j,h,hf=>by have:=w01 n a.2 c.gd.1 c.gd.2;omega
 |f+1,i,fuel+1,a,c,j,h,m=>by
  obtain⟨q,s,u,w⟩:=O1 hf
  have o:=w01 n a.2 c.gd.1 c.gd.2
  rw[I8.eq_2,oB,J0 (by omega),oB]
  by_cases hk:i<a.2.length
  ·have b:=a7 hk
   generalize a.2[i]=v at b
   have k:=List.mem_of_getElem? b
   have h0:=q0q hf p d (V4 g.1.toNat 1) (λx b=>b) (by rw[H01];omega) i v (V4 g.1.toNat 1).length 0 P0 a c b (by omega) (F1 (by rw[H01];omega))
   rw[show((0:Nat):Int)=0 from rfl,List.drop_zero]at h0
   obtain⟨t,e⟩:=k0l g v (V4 g.1.toNat 1) a
   have l:=r0q hf p d f (i+1) fuel _ (c.inn hf d _ k λx b=>b) (by rw[e,List.length_append];omega) (by omega) (by omega)
   rw[if_pos (by simpa using hk),h0,oB]
   simp only[A2 hk (show a.2.length<=9223372036854775807 by omega),H06,b]
   exact l
  ·have b:a.2[i]?=none:=List.getElem?_eq_none (by omega)
   rw[if_neg (by simpa using hk)]
   simp only[H06,b]
theorem k0j{g:l0}(hf:V0 g=true){p:Int}(i:0<=p/\p<g.2.1):q02 g p=some ((l03 g p).1.map isS,(l03 g p).1.map gtD):=by
 obtain⟨l,m,n,o⟩:=O1 hf
 have h:g.2.1=((g.2.1.toNat:Nat):Int):=by omega
 have h0:=r0q hf p h (g.2.1.toNat+1) 0 P0 _ (e0d g (N:=g.2.1.toNat) ⟨i.1,by omega⟩) (by simp) (by omega) (F1 (by omega))
 have d:=Y0i g.1.toNat (by omega)
 rw[show((g.1.toNat:Nat):Int)=g.1 by omega]at d
 have rep:∀ {j:Type} (z:j),gi (List.replicate g.2.1.toNat z) p=some z:=λz=>by
  have:=B3 (xs:=List.replicate g.2.1.toNat z) (k:=p.toNat) (x:=z) (by rw[List.getElem?_replicate,if_pos (by omega)])
  rwa [show((p.toNat:Nat):Int)=p by omega]at this
 have e:((List.replicate g.2.1.toNat (none:Option (List Int))).set p.toNat (some [])).map isS=(List.replicate g.2.1.toNat false).set p.toNat true:=by
  rw[List.map_set,List.map_replicate];rfl
 have f:((List.replicate g.2.1.toNat (none:Option (List Int))).set p.toNat (some [])).map gtD=(List.replicate g.2.1.toNat ([]:List Int)).set p.toNat []:=by
  rw[List.map_set,List.map_replicate];rfl
 rw[e,f]at h0
 unfold l03
 obtain⟨a,b,c⟩:=g
 simp only at *
 unfold q02
 simp only
 rw[J0 (by omega),oB,J0 (by omega),oB,rep false,oB,rep [],oB,d,oB]
 rw[show((0:Nat):Int)=0 from rfl]at h0
 rw[h0]
 rfl
def h09(g:l0)(u v:Int):List Int×Bool:=bif V0 g&&(inR 0 (g.2.1-1) u&&inR 0 (g.2.1-1) v)then(match A8 (l03 g u).1 v with
 |some w=>(w,true)
 |none=>([],false))else([],false)
theorem i0g{n u:Int}(h:inR 0 (n-1) u=true):0<=u/\u<n:=by
 simp only[inR,Bool.and_eq_true,decide_eq_true_eq]at h
 omega
theorem s0q(g:l0)(a:W0 g=true)(u:Int):I4 g u=some (inR 0 (g.2.1-1) u):=by
 obtain⟨c,d,b,e⟩:=J2 a
 obtain⟨r,n,es⟩:=g
 simp only at b
 unfold I4
 simp only[Y05]
 rw[w64 (by omega) (by omega)]
 rfl
theorem U0h{g:l0}(hf:V0 g=true){u v:Int}(a:0<=u/\u<g.2.1):(gtD (A8 (l03 g u).1 v)).length<=40:=by
 obtain⟨b,c,d,e⟩:=O1 hf
 have h:=M09 hf a
 have:=h.ok.short v
 have:=w01 _ _ h.gd.1 h.gd.2
 unfold gtD
 omega
theorem A0m(g:l0)(o:g.2.2.length<=140737488355328)(u v:Int):b9 g u v=some (h09 g u v):=by
 have d:=F8 g o
 unfold h09
 cases hf:V0 g with
 |false =>
  obtain⟨a,b,c⟩:=g
  unfold b9
  simp only[d,hf,oB,Bool.not_false,Bool.not_true,C3,cond_true]
  rfl
 |true =>
  obtain⟨s,t,k,x⟩:=O1 hf
  cases hu:inR 0 (g.2.1-1) u with
  |false =>
   obtain⟨a,b,c⟩:=g
   unfold b9
   simp only at hu k
   simp only[d,hf,oB,Bool.not_false,Bool.not_true,K1,cond_false,D01]
   rw[w64 (by omega) (by omega),hu]
   rfl
  |true =>
   cases hv:inR 0 (g.2.1-1) v with
   |false =>
    obtain⟨a,b,c⟩:=g
    unfold b9
    simp only at hu hv k
    simp only[d,hf,oB,Bool.not_false,Bool.not_true,K1,cond_false,D01]
    rw[w64 (by omega) (by omega),hu]
    simp only[Bool.not_true,Bool.not_false,oB,cond_false,K1,hv]
    rfl
   |true =>
    have j:=i0g hu
    have i:=i0g hv
    have p:=k0j hf j
    have h:=(M09 hf j).ok
    have l:=giM (f:=isS) h.len i.1 (by omega) (giO h.len i.1 (by omega))
    have m:=giM (f:=gtD) h.len i.1 (by omega) (giO h.len i.1 (by omega))
    have n:=U0h hf (v:=v) j
    obtain⟨a,b,c⟩:=g
    unfold b9
    simp only at hu hv k l m
    simp only[d,hf,oB,Bool.not_false,Bool.not_true,K1,cond_false,D01]
    rw[w64 (by omega) (by omega),hu]
    simp only[Bool.not_true,Bool.not_false,oB,cond_false,K1,hv,Bool.false_eq_true,if_false,p,l,m,Bool.and_self,cond_true]
    cases e:A8 (l03 (a,b,c) u).1 v with
    |none=>rfl
    |some w =>
     rw[e]at n
     have q:gtD (some w)=w:=rfl
     rw[q]at n ⊢
     rw[show isS (some w)=true from rfl,if_neg (by simp),J0 (by simp only[List.length_nil];omega),oB,List.nil_append]
theorem B0m(g:l0)(l:g.2.2.length<=140737488355328)(u v:Int):c9 g u v=some (h09 g u v):=by
 have f:=G01 g l
 unfold h09
 cases hf:V0 g with
 |false =>
  obtain⟨a,b,c⟩:=g
  unfold c9
  simp only[f,hf,oB,Bool.not_false,Bool.not_true,C3,cond_true]
  rfl
 |true =>
  obtain⟨p,q,i,s⟩:=O1 hf
  have d:=s0q g (P3 hf) u
  have h:=s0q g (P3 hf) v
  cases hu:inR 0 (g.2.1-1) u with
  |false =>
   obtain⟨a,b,c⟩:=g
   unfold c9
   simp only at hu d i
   simp only[f,hf,oB,Bool.not_false,Bool.not_true,K1,cond_false,d,hu]
   rfl
  |true =>
   cases hv:inR 0 (g.2.1-1) v with
   |false =>
    obtain⟨a,b,c⟩:=g
    unfold c9
    simp only at hu hv d h i
    simp only[f,hf,oB,Bool.not_false,Bool.not_true,K1,cond_false,d,hu,h,hv]
    rfl
   |true =>
    have k:=i0g hu
    have o:=i0g hv
    have n:=w0r hf k
    have m:=(M09 hf k).ok
    have j:=giO m.len o.1 (show v<((g.2.1.toNat:Nat):Int) by omega)
    obtain⟨a,b,c⟩:=g
    unfold c9
    simp only at hu hv d h i j
    simp only[f,hf,oB,Bool.not_false,Bool.not_true,K1,cond_false,d,hu,h,hv,Bool.false_eq_true,if_false,n,j,Bool.and_self,cond_true]
    cases e:A8 (l03 (a,b,c) u).1 v with
    |none=>rfl
    |some w=>rfl
def p9(g:l0)(v:Int):List Int:=(h09 g 0 v).1
theorem i09(g:l0)(d:g.2.2.length<=140737488355328)(v:Int):U00 g v=some (p9 g v):=by
 have h:=A0m g d 0 v
 unfold p9
 obtain⟨a,b,c⟩:=g
 unfold U00
 simp only[h,oB]
theorem j09(g:l0)(d:g.2.2.length<=140737488355328)(v:Int):V00 g v=some (p9 g v):=by
 have h:=B0m g d 0 v
 unfold p9
 obtain⟨a,b,c⟩:=g
 unfold V00
 simp only[h,oB]
theorem o0l(g:l0)(u v:Int):(h09 g u v).1.length<=40:=by
 unfold h09
 cases hf:V0 g with
 |false=>simp
 |true =>
  cases hu:inR 0 (g.2.1-1) u with
  |false=>simp
  |true =>
   cases hv:inR 0 (g.2.1-1) v with
   |false=>simp
   |true =>
    have a:=U0h hf (v:=v) (i0g hu)
    simp only[Bool.and_self,cond_true]
    cases e:A8 (l03 g u).1 v with
    |none=>simp
    |some w=>rw[e]at a;exact a
theorem j05(a b:List Int)(c:E9 a)(d:E9 b)(e:a.length+b.length<=1099511627776):W7 a b=some (L0a [] (a++b)).reverse:=by
 unfold W7
 rw[J0 (by simp only[List.length_nil];omega),oB,J0 (by simp only[List.length_append,List.length_nil];omega),oB,List.nil_append,
  g05 _ (r07 c d) (by simp only[List.length_append];omega)]
 rfl
theorem p0l(g:l0)(d:g.2.2.length<=140737488355328):L3 g=some (L1 g):=by
 have:=s05 g d
 obtain⟨a,b,c⟩:=g
 unfold L3
 show(t01 (a,b,c)).bind (λe=>some e)=_
 rw[this];rfl
def A0e(g:l0):l0:=Y2 (U04 (I01 g).1)
theorem W0d{g:l0}(f:W0 g=true):c6 g=some (A0e g):=by
 obtain⟨m,o,p,s⟩:=J2 f
 have h:=o0a g (by omega)
 have hf:=a09 f
 obtain⟨v,d⟩:=X0f (P3 hf)
 have e:=X08 (U04 (I01 g).1) (c02 40 hf)
 unfold A0e
 obtain⟨r,n,es⟩:=g
 unfold c6
 generalize I01 (r,n,es)=q at *
 obtain⟨⟨a,b,c⟩,l⟩:=q
 simp only[h,oB]
 simp only at d e
 generalize U04 (a,b,c)=q2 at *
 obtain⟨i,j,k⟩:=q2
 simp only[d,oB,e]
def K0n(r:Int)(a:List (List Int)):l0×Bool:=bif G00 r a then(A0e (Y0f a (r,1,[])),true)else((0,0,[]),false)
theorem j0g{r:Int}{a:List (List Int)}(h:G00 r a=true):W0 (Y0f a (r,1,[]))=true:=by
 obtain⟨b,d,c⟩:=L0h h
 exact R0d a (M0h b) c
theorem R0o(r:Int)(d:List (List Int))(j:d.length<=140737488355328)(k:Z05 d):h01 r d=some (K0n r d):=by
 have e:=h0j r d j k
 have f:G00 r d=true->_:=λh=>W0d (j0g h)
 unfold h01 K0n
 unfold Z0f at e
 cases hA:G00 r d with
 |false=>rw[hA]at e;simp only[cond_false]at e;simp[e]
 |true =>
  rw[hA]at e
  simp only[cond_true]at e
  have i:=f hA
  generalize Y0f d (r,1,[])=g at *
  obtain⟨a,b,c⟩:=g
  simp only[e,oB,i,Bool.not_true,Bool.false_eq_true,if_false,cond_true]
def N09(g:l0)(v:Int):l0×Bool:=bif V0 g&&inR 0 (g.2.1-1) v then(Z5 g v,true)else(g,false)
theorem X0d(g:l0)(h:g.2.2.length<=1099511627776)(v:Int):K4 g v=some (N09 g v):=by
 unfold N09
 cases hf:V0 g with
 |false =>
  have d:=F8 g (by omega)
  have e:=v01 g (by omega)
  rw[hf]at d
  obtain⟨a,b,c⟩:=g
  unfold K4
  simp only[d,oB,Bool.not_false,Bool.not_true,C3,cond_true,if_true,e,Bool.false_and,cond_false]
 |true =>
  cases hv:inR 0 (g.2.1-1) v with
  |true=>exact Y07 hf (by simp only[inR,Bool.and_eq_true,decide_eq_true_eq]at hv;omega)
  |false =>
   obtain⟨i,j,f,k⟩:=O1 hf
   have d:=F8 g (by omega)
   have e:=v01 g (by omega)
   rw[hf]at d
   obtain⟨a,b,c⟩:=g
   simp only at hv f
   unfold K4
   simp only[d,oB,Bool.not_false,Bool.not_true,K1,D01,w64 (show -9223372036854775808<=b-1 by omega) (show b-1<=9223372036854775807 by omega),hv,cond_false,if_true,e,Bool.true_and]
theorem k0g(g:l0):∀(w:List Int) (v:Int),w4 g v (w.take (w4 g v w).2)=w4 g v w
 | [],v=>rfl
 |x::w,v=>by
  have a:=k0g g w (j1 g v x)
  by_cases c:j1 g v x<0
  ·have e:w4 g v (x::w)=(v,0):=by rw[w4,if_pos c]
   rw[e];rfl
  ·have e:w4 g v (x::w)=((w4 g (j1 g v x) w).1,(w4 g (j1 g v x) w).2+1):=by rw[w4,if_neg c]
   rw[e,List.take_succ_cons,w4,if_neg c,a]
theorem q0l{g:l0}(a:inG g):∀(w:List Int) (v:Int),(0<=v/\v<g.2.1)->0<=(w4 g v w).1/\(w4 g v w).1<g.2.1
 | [],v,h=>h
 |x::w,v,h=>by
  unfold w4
  split
  ·exact h
  ·rename_i c
   have b:=q05 a v x
   refine q0l a w _ ?_
   rcases b with e|e<;>omega
theorem V0h{b a:Int}{w:List Int}:∀ {d k:Nat},(∀ i,k<=i->i<k+d->r0f b a w i=false)->X05 b a w d k=true
 |0,k,h=>rfl
 |d+1,k,h=>by
  unfold X05
  rw[h k (Nat.le_refl _) (by omega),V0h λi c e=>h i (by omega) (by omega)]
  rfl
theorem S0o{r:Int}{w:List Int}(h:c7 r w=true)(n:Nat):c7 r (w.drop n)=true:=by
 simp only[c7,Bool.and_eq_true,decide_eq_true_eq]at h ⊢
 refine⟨⟨h.1.1,by rw[List.length_drop];omega⟩,V0h λi d c=>?_⟩
 have a:=K0c h.2 (n+i) (Nat.zero_le _) (by rw[List.length_drop]at c;omega)
 unfold r0f at a ⊢
 rw[List.getElem?_drop,List.getElem?_drop]
 cases hw:w[n+i]? with
 |none=>rw[hw]at a;exact a
 |some x =>
  rw[hw]at a
  simp only[Bool.or_eq_false_iff]at a ⊢
  refine⟨a.1,?_⟩
  cases i with
  |zero=>rfl
  |succ j =>
   have b:=a.2
   rw[show n+(j+1)-1=n+j by omega]at b
   rw[show n+(j+1-1)=n+j by omega]
   rw[show decide (0<n+(j+1))=true from decide_eq_true (by omega)]at b
   rw[show decide (0<j+1)=true from decide_eq_true (by omega)]
   exact b
def s07(g:l0)(w:List Int):l0×Bool :=
 bif L1 g&&c7 g.1 w then
  (bif decide ((w4 g 0 w).2<w.length)then
   (bif(c5 g).2 then
    (bif(W8 (c5 g).1 (w4 g 0 w).1 (w.drop (w4 g 0 w).2) g.2.1).2 then N09 (W8 (c5 g).1 (w4 g 0 w).1 (w.drop (w4 g 0 w).2) g.2.1).1 g.2.1 else((0,0,[]),false))
   else((0,0,[]),false))
  else N09 g (w4 g 0 w).1)
 else((0,0,[]),false)
theorem W0h{g:l0}(f:inG g)(j:g.2.1<=40)(e:g.2.2.length<=1099511627776)(w:List Int)(l:∀ x∈w,I00 x)(n:w.length<=140737488355328):∀(d k fuel:Nat) (v:Int),k+d=w.length->d<fuel ->
  g6 w g.1 g.2.1 g.2.2 fuel v (k:Int)=some (bif decide ((w4 g v (w.drop k)).2<d)then .inl (((k+(w4 g v (w.drop k)).2:Nat):Int))else .inr ())
 |d,k,0,v,b,hf=>by omega
 |0,k,fuel+1,v,b,hf=>by
  rw[g6.eq_2,if_neg (by simp only[decide_eq_true_eq];omega),T1 (by omega)]
  rfl
 |d+1,k,fuel+1,v,b,hf=>by
  have i:k<w.length:=by omega
  have a:=a7 i
  have m:=l _ (List.mem_of_getElem? a)
  have c:=U1 a
  generalize w[k]=x at a m c
  rw[g6.eq_2,if_pos (by simp only[decide_eq_true_eq];omega),B3 a,oB,show(g.1,g.2.1,g.2.2)=g from rfl,t04 g v x m e,oB,J0 (r05 f j v x),oB,c]
  unfold w4
  by_cases h:j1 g v x<0
  ·rw[if_pos (by simpa using h),if_pos h]
   simp
  ·rw[if_neg (by simpa using h),if_neg h,A2 i (by omega),W0h f j e w l n d (k+1) fuel _ (by omega) (by omega)]
   simp only[Nat.add_lt_add_iff_right]
   rw[show k+1+(w4 g (j1 g v x) (w.drop (k+1))).2=k+((w4 g (j1 g v x) (w.drop (k+1))).2+1) by omega]
theorem T0o{g:l0}(hf:V0 g=true){v:Int}(f:0<=v/\v<g.2.1){w:List Int}(i:∀ x∈w,I00 x)(a:w.length<=140737488355328):g01 g v w=some (((w4 g v w).2:Nat):Int):=by
 obtain⟨j,l,b,m⟩:=O1 hf
 have d:=F8 g (by omega)
 have h:=W0h j b.2 (by omega) w i a w.length 0 P0 v (by omega) (F1 a)
 rw[show((0:Nat):Int)=0 from rfl,List.drop_zero,Nat.zero_add]at h
 have k:=B0f g w v
 obtain⟨r,n,es⟩:=g
 simp only at f b h
 have e:inR 0 (n-1) v=true:=by simp only[inR,Bool.and_eq_true,decide_eq_true_eq];omega
 unfold g01
 simp only[d,hf,oB,Bool.not_true,Bool.not_false,K1,D01,w64 (show -9223372036854775808<=n-1 by omega) (show n-1<=9223372036854775807 by omega),e,cond_false,Bool.false_eq_true,if_false,h]
 by_cases c:(w4 (r,n,es) v w).2<w.length
 ·rw[decide_eq_true c];rfl
 ·rw[decide_eq_false c,show(w4 (r,n,es) v w).2=w.length by omega];rfl
theorem l0j{g:l0}(h:(c5 g).2=true):c5 g=((g.1,g.2.1+1,g.2.2),true)/\g.2.1<40:=by
 unfold c5 at h ⊢
 by_cases c:g.2.1<40
 ·simp[c]
 ·simp[c]at h
theorem C0m(g:l0)(K:g.2.2.length<=140737488355328)(w:List Int)(L:w.length<=140737488355328):U4 g w=some (s07 g w):=by
 have d:=p0l g K
 have e:=U07 g.1 w L
 unfold s07
 cases hc:L1 g with
 |false =>
  rw[hc]at d
  obtain⟨a,b,c⟩:=g
  unfold U4
  simp only[d,oB,Bool.not_false,Bool.not_true,C3,cond_true,if_true,Bool.false_and,cond_false]
 |true =>
  cases hwd:c7 g.1 w with
  |false =>
   rw[hc]at d
   rw[hwd]at e
   obtain⟨a,b,c⟩:=g
   simp only at e
   unfold U4
   simp only[d,oB,Bool.not_false,Bool.not_true,K1,e,cond_false,if_true,Bool.true_and]
  |true =>
   have hf:=T0d hc
   have B:=P3 hf
   obtain⟨F,G,N,Q⟩:=O1 hf
   obtain⟨S,O⟩:=e0j hwd
   have E:∀ x∈w,I00 x:=λx l=>(O x l).1
   have z:(0:Int)<=0/\(0:Int)<g.2.1:=⟨iR _,by omega⟩
   have p:=T0o hf z E (by omega)
   have j:=B0f g w 0
   have i:=G0s g hf 0 z (w.take (w4 g 0 w).2) (λx l=>E x (List.mem_of_mem_take l)) (by rw[List.length_take];omega)
   rw[k0g,List.length_take,show min (w4 g 0 w).2 w.length=(w4 g 0 w).2 by omega,decide_eq_false (Nat.lt_irrefl _)]at i
   have s:=E0k F N.2 w 0 ⟨by omega,by omega⟩
   have H:=v01 g (by omega)
   have t:=S0f (xs:=w) (k:=(w4 g 0 w).2) j
   have A:=d06 (xs:=w) (k:=(w4 g 0 w).2) j
   have I:=c0e B
   have J:=q0l F w 0 z
   have D:=X0d g (by omega) (w4 g 0 w).1
   have C:=f08 B
   have m:(c5 g).2=true->_:=λh=>p0a (g:=(c5 g).1) (u:=(w4 g 0 w).1) (v:=g.2.1) (w:=w.drop (w4 g 0 w).2) C (by rw[(l0j h).1];simp only;omega) (by rw[(l0j h).1];simp only;omega) (by rw[(l0j h).1];exact S0o hwd _)
   have P:=Q0d C (w4 g 0 w).1 (w.drop (w4 g 0 w).2) g.2.1
   have f:=X0d (W8 (c5 g).1 (w4 g 0 w).1 (w.drop (w4 g 0 w).2) g.2.1).1 (by omega) g.2.1
   rw[hc]at d
   rw[hwd]at e
   generalize w4 g 0 w=R at *
   obtain⟨v,n⟩:=R
   obtain⟨a,b,c⟩:=g
   simp only at e p i s t A j J D f m ⊢
   unfold U4
   simp only[d,oB,Bool.not_true,Bool.not_false,K1,e,cond_false,Bool.false_eq_true,if_false,p,Bool.true_and,cond_true]
   rw[J0 (show I0 ((n:Nat):Int) from⟨by omega,by omega⟩),oB,t,oB,i]
   simp only[cond_false,oB]
   rw[J0 s]
   simp only[oB,H]
   by_cases c1:n<w.length
   ·rw[if_pos (by simp only[decide_eq_true_eq];omega),decide_eq_true c1,I]
    simp only[oB,cond_true]
    cases hok:(c5 (a,b,c)).2 with
    |false =>
     generalize c5 (a,b,c)=q at *
     obtain⟨⟨x,y,z⟩,ok⟩:=q
     simp only at hok
     subst hok
     rfl
    |true =>
     have o:=m hok
     generalize c5 (a,b,c)=q at *
     obtain⟨⟨x,y,z⟩,ok⟩:=q
     simp only at hok o f
     subst hok
     simp only[Bool.not_true,Bool.false_eq_true,if_false,A,oB,o,cond_true]
     generalize W8 (x,y,z) v (w.drop n) b=G at *
     obtain⟨⟨T,U,V⟩,M⟩:=G
     cases M with
     |false=>rfl
     |true=>simp only[Bool.not_true,Bool.false_eq_true,if_false,cond_true]at f ⊢;rw[f];rfl
   ·rw[if_neg (by simp only[decide_eq_true_eq];omega),decide_eq_false c1,D];rfl
theorem X0h{g:l0}(a:W0 g=true):(A0e g).2.2.length<=120:=V0c (c02 40 (a09 a))
theorem D0m{g:l0}{e:Q0}(f:W0 g=true)(h:r0m g e):W0 (w04 g e).1=true/\(w04 g e).1.1=g.1/\(w04 g e).1.2.1=g.2.1:=by
 obtain⟨i,j,k,t,l⟩:=(K7 g).1 f
 unfold w04
 cases c:decide (g.2.2.length<120) && !decide (e∈g.2.2)
 ·exact⟨f,rfl,rfl⟩
 ·simp only[Bool.and_eq_true,decide_eq_true_eq,Bool.not_eq_true',decide_eq_false_iff_not]at c
  refine⟨(K7 _).2 ⟨λx a=>?_,j,k,?_,T08 A4 _ _ l⟩,rfl,rfl⟩
  ·rcases(N04 A4 _ _ _).1 a with rfl|a
   ·obtain⟨b,d,q,s⟩:=h
    have m:=b.1;have n:=b.2;have o:=d.1;have p:=d.2
    simp only[cond_true]
    refine⟨?_,?_,?_⟩<;>constructor<;>omega
   ·exact i x a
  ·simp only[cond_true]
   rw[R0b e c.2];omega
theorem A0t{bs:List Int}:∀(d fuel:Nat) (g:l0) (q:Int×Int),d<fuel->d<=1000->W0 g=true->okQ bs q ->
  ∃ h i,W6 bs fuel (d:Int) g.1 g.2.1 g.2.2 q=some (h.1,h.2.1,h.2.2,i)/\W0 h=true/\okQ bs i
 |d,0,g,q,hf,_,_,_=>by omega
 |0,fuel+1,g,q,hf,p,a,b=>by
  rw[W6.eq_2,if_neg (by simp)]
  exact⟨g,q,rfl,a,b⟩
 |d+1,fuel+1,g,q,hf,p,a,b=>by
  obtain⟨_,B,C,_⟩:=(K7 g).1 a
  rw[W6.eq_2,if_pos (by simp only[decide_eq_true_eq];omega)]
  obtain⟨x,D,j,e,s⟩:=b00 b (n:=g.2.1) (by omega) (by omega)
  obtain⟨y,E,k,A,t⟩:=b00 s (n:=g.1) (by omega) (by omega)
  obtain⟨z,w,l,f,u⟩:=b00 t (n:=g.2.1) (by omega) (by omega)
  have v:IntKind.i64.wrap (1+y)=1+y:=w64 (by omega) (by omega)
  have c:r0m g (x,1+y,z):=⟨⟨e.1,e.2⟩,⟨f.1,f.2⟩,by simp only;omega,by simp only;omega⟩
  have o:=I0g a c
  obtain⟨m,_,_⟩:=D0m a c
  simp only[j,k,l,oB,v,J0 (show I0 x from⟨by omega,by omega⟩),J0 (show I0 y from⟨by omega,by omega⟩),J0 (show I0 z from⟨by omega,by omega⟩),show(g.1,g.2.1,g.2.2)=g from rfl,o,p0r d (by omega)]
  exact A0t d fuel (w04 g (x,1+y,z)).1 w (by omega) (by omega) m u
theorem x0r{bs:List Int}{q:Int×Int}(k:okQ bs q):Drw bs (Q02 bs q) λg=>g.2.2.length<=120:=by
 unfold Q02
 refine(k07 k (by decide) (by decide)).bind λr v a l=>?_
 have a:1<=r/\r<=3:=(by decide:∀ x∈([1,2,2,2,3]:List Int),1<=x/\x<=3) r a
 refine .grd ⟨by omega,by omega⟩ ((b00 l (by decide) (by decide)).bind λn w u o => .grd ⟨by omega,by omega⟩ ((b00 o (by decide) (by decide)).bind λm b j p => .grd ⟨by omega,by omega⟩ ?_))
 obtain⟨d,rfl⟩:=Int.eq_ofNat_of_zero_le j.1
 rw[w64 (x:=1+n) (by omega) (by omega)]
 have f:W0 (r,1+n,[])=true:=(K7 _).2 ⟨(λe c=>by cases c),a,⟨by simp only;omega,by simp only;omega⟩,by simp,List.Pairwise.nil⟩
 obtain⟨h,t,e,i,s⟩:=A0t d P0 (r,1+n,[]) b (by unfold P0;omega) (by omega) f p
 have e:W6 bs P0 (d:Int) r (1+n) [] b=some (h.1,h.2.1,h.2.2,t):=e
 rw[e]
 exact⟨_,_,rfl,((K7 h).1 i).2.2.2.1,s⟩
theorem N0s{bs:List Int}{q:Int×Int}(f:okQ bs q):Drw bs (c04 bs q) λg=>g.2.2.length<=121:=by
 unfold c04
 refine(x0r f).bind λg j e h=>(b00 h (by decide) (by decide)).bind λx k i b => .grd ⟨by omega,by omega⟩ ?_
 obtain⟨r,n,es⟩:=g
 simp only at e ⊢
 split
 ·refine(k07 b (by decide) (by decide)).bind λy d c a => .grd ((by decide:∀ x∈([(-1),0,1,41]:List Int),I0 x) y c) ⟨_,_,rfl,by simp only;omega,a⟩
 ·split
  ·refine(k07 b (by decide) (by decide)).bind λy d c a => .grd ((by decide:∀ x∈([0,1,4]:List Int),I0 x) y c) ⟨_,_,rfl,by simp only;omega,a⟩
  ·split
   ·refine(b00 b (by decide) (by decide)).bind λy d c a => .grd ⟨by omega,by omega⟩ (.grd (by simp only[List.length_singleton];omega) ⟨_,_,rfl,by simp;omega,a⟩)
   ·exact⟨_,_,rfl,by simp only;omega,b⟩
theorem t0q{r:Int}{a:List (List Int)}:(K0n r a).1.2.2.length<=120:=by
 unfold K0n
 cases h:G00 r a
 ·simp
 ·exact X0h (j0g h)
theorem v0f.sh{a:List (List Int)}(h:v0f a):Z05 a:=λw b=>by have:=(h w b).2;omega
theorem O0s{bs:List Int}{q:Int×Int}(c:okQ bs q):Drw bs (d04 bs q) λg=>g.2.2.length<=120:=by
 unfold d04
 refine(k07 c (by decide) (by decide)).bind λr i a d=>?_
 have a:1<=r/\r<=3:=(by decide:∀ x∈([1,2,2,2,2,3]:List Int),1<=x/\x<=3) r a
 refine .grd ⟨by omega,by omega⟩ ((q0r d (by omega) (by omega)).bind λf j b e=>?_)
 have h:=b.2
 simp only[R0o r f (by omega) b.1.sh,oB]
 exact⟨_,_,rfl,t0q,e⟩
theorem P0s{bs:List Int}{q:Int×Int}(h:okQ bs q):Drw bs (e04 bs q) λg=>g.2.2.length<=121:=by
 unfold e04
 refine(R0i h (by decide) (by decide)).bind λb j _ f=>?_
 simp only
 split
 ·exact(N0s f).bind λg i d e=>⟨_,_,rfl,d,e⟩
 ·exact(O0s f).bind λg i d e=>by
   obtain⟨a,b,c⟩:=g
   exact⟨_,_,rfl,by simp only at d ⊢;omega,e⟩
def smL(l:J09):Prop:=l.length<=17/\∀ e∈l,e.1.size<=16/\e.2.2.2.length<=121
theorem smL.sm{l:J09}(h:smL l):q0m l:=⟨by have:=h.1;omega,λe a=>by have:=h.2 e a;omega⟩
def i06(g:l0):Bool:=L1 g&&decide (g.2.2.length=0)
theorem U0o{g:l0}(h:L1 g=true)(a:g.2.2.length=0):g.2.1=1:=by
 have hf:=K5 h
 obtain⟨f,i,j,k⟩:=O1 hf
 have c:g.2.2 = []:=List.eq_nil_of_length_eq_zero a
 refine Classical.byContradiction λd=>?_
 have b:Rch g.2.2 0 1:=y0m h (by omega) (by omega)
 rw[c]at b
 have:=Rch.sub (P:=λx=>x=0) rfl (λe a=>by cases a) b
 omega
theorem m0j(g:l0)(e:g.2.2.length<=140737488355328):N01 g=some (i06 g):=by
 have d:=s05 g e
 unfold i06
 obtain⟨a,b,c⟩:=g
 unfold N01 L3
 simp only[d,oB,v0r]
 cases L1 (a,b,c)<;>rfl
theorem n0j(g:l0)(f:g.2.2.length<=140737488355328):O01 g=some (i06 g):=by
 have d:=Y03 g f
 have e := @U0o g
 unfold i06
 obtain⟨a,b,c⟩:=g
 unfold O01
 simp only[d,oB,v0r]
 cases hc:L1 (a,b,c)with
 |false=>rfl
 |true =>
  by_cases he:c.length=0
  ·have:=e hc he
   simp only at this
   rw[decide_eq_true he,decide_eq_true this];rfl
  ·rw[decide_eq_false he]
   cases decide (b=1)<;>rfl
def nzA(g:l0):Nat->Nat->List (List Int)
 |0,_=>[]
 |d+1,v=>if Z5 g (v:Int)=g then p9 g (v:Int)::nzA g d (v+1)else nzA g d (v+1)
def Z07(g:l0):List (List Int):=bif A02 g then nzA g g.2.1.toNat 0 else []
theorem L0n(g:l0):∀ d v,(nzA g d v).length<=d
 |0,v=>Nat.le_refl _
 |d+1,v=>by
  have:=L0n g d (v+1)
  rw[nzA]
  split
  ·rw[List.length_cons];omega
  ·omega
theorem a0s{g:l0}(a:A02 g=true):∀(d k fuel:Nat) (acc:List (List Int)),k+d=g.2.1.toNat->d<fuel->acc.length<=k ->
  l3 g.2.1 g.1 g.2.2 fuel (k:Int) acc=some (acc++nzA g d k)
 |d,k,0,acc,b,e,f=>by omega
 |0,k,fuel+1,acc,b,e,f=>by
  have:decide ((k:Int)<g.2.1)=false:=decide_eq_false (by omega)
  rw[l3.eq_2,this,C3];simp[nzA]
 |d+1,k,fuel+1,acc,b,e,f=>by
  have hf:=K5 (U0b a)
  obtain⟨w,x,y,z⟩:=O1 hf
  have n:=g09 g (by omega)
  have o:=Y07 hf (v:=(k:Int)) ⟨by omega,by omega⟩
  have u:=H8 (f03 hf (v:=(k:Int)) ⟨by omega,by omega⟩)
  have l:=R0c (Z5 g (k:Int)) g (by omega)
  have p:=i09 g (by omega) (k:Int)
  have i:=λj h=>a0s a d (k+1) fuel j (by omega) (by omega) h
  have:decide ((k:Int)<g.2.1)=true:=decide_eq_true (by omega)
  rw[l3.eq_2,this,K1,show(g.1,g.2.1,g.2.2)=g from rfl,n,a,oB,cond_true,if_pos rfl,o,oB,A2 (show k<1000 by omega) (by omega),nzA]
  generalize Z5 g (k:Int)=m at *
  obtain⟨q,s,t⟩:=m
  simp only
  rw[l,oB]
  unfold m07
  by_cases c:(q,s,t)=g
  ·rw[if_pos (by simpa using c),if_pos c,p,oB,J0 (by simp;omega),oB,i _ (by simp;omega)]
   simp
  ·rw[if_neg (by simpa using c),if_neg c]
   exact i acc (by omega)
theorem b0s{g:l0}(hf:V0 g=true):∀(d k fuel:Nat) (acc:List (List Int)),k+d=g.2.1.toNat->d<fuel->acc.length<=k ->
  Q3 g.2.1 g.1 g.2.2 fuel (k:Int) acc=some (acc++nzA g d k)
 |d,k,0,acc,a,b,e=>by omega
 |0,k,fuel+1,acc,a,b,e=>by
  obtain⟨s,t,u,w⟩:=O1 hf
  rw[Q3.eq_2,if_neg (by simp only[decide_eq_true_eq];omega)];simp[nzA]
 |d+1,k,fuel+1,acc,a,b,e=>by
  obtain⟨s,t,u,w⟩:=O1 hf
  have l:=R0a hf (v:=(k:Int)) ⟨by omega,by omega⟩
  have x:=H8 (f03 hf (v:=(k:Int)) ⟨by omega,by omega⟩)
  have j:=Q0c (Z5 g (k:Int)) g (by omega)
  have n:=j09 g (by omega) (k:Int)
  have f:=λi h=>b0s hf d (k+1) fuel i (by omega) (by omega) h
  rw[Q3.eq_2,if_pos (by simp only[decide_eq_true_eq];omega),show(g.1,g.2.1,g.2.2)=g from rfl,l,oB,A2 (show k<1000 by omega) (by omega),nzA]
  generalize Z5 g (k:Int)=m at *
  obtain⟨o,p,q⟩:=m
  simp only
  rw[j,oB]
  unfold m07
  by_cases c:(o,p,q)=g
  ·rw[if_pos (by simpa using c),if_pos c,n,oB,J0 (by simp;omega),oB,f _ (by simp;omega)]
   simp
  ·rw[if_neg (by simpa using c),if_neg c]
   exact f acc (by omega)
theorem r0l(g:l0)(e:g.2.2.length<=140737488355328):U6 g=some (Z07 g):=by
 have d:=g09 g e
 unfold Z07
 cases hg:A02 g with
 |true =>
  obtain⟨f,i,j,k⟩:=O1 (K5 (U0b hg))
  have h:=a0s hg g.2.1.toNat 0 P0 [] (by omega) (F1 (by omega)) (by simp)
  obtain⟨a,b,c⟩:=g
  unfold U6
  simp only at h ⊢
  rw[show(0:Int)=((0:Nat):Int) from rfl,h];rfl
 |false =>
  obtain⟨a,b,c⟩:=g
  unfold U6
  simp only
  rw[show P0=(P0-1)+1 from rfl,l3.eq_2]
  cases decide ((0:Int)<b)
  ·rfl
  ·rw[K1,d,hg];rfl
theorem s0l(g:l0)(e:g.2.2.length<=140737488355328):V6 g=some (Z07 g):=by
 have d:=V0d g e
 unfold Z07
 cases hg:A02 g with
 |true =>
  have hf:=K5 (U0b hg)
  obtain⟨f,i,j,k⟩:=O1 hf
  have h:=b0s hf g.2.1.toNat 0 P0 [] (by omega) (F1 (by omega)) (by simp)
  obtain⟨a,b,c⟩:=g
  unfold V6
  simp only[d,hg,oB,Bool.not_true,Bool.false_eq_true,if_false]at h ⊢
  rw[show(0:Int)=((0:Nat):Int) from rfl,h];rfl
 |false =>
  obtain⟨a,b,c⟩:=g
  unfold V6
  simp only[d,hg,oB,Bool.not_false,if_true,cond_false]
theorem Y0h(g:l0):(Z07 g).length<=40:=by
 unfold Z07
 cases hg:A02 g with
 |false=>simp
 |true =>
  obtain⟨a,b,c,d⟩:=O1 (K5 (U0b hg))
  have:=L0n g g.2.1.toNat 0
  rw[cond_true];omega
def e02(g:l0):Bool:=i06 g || (A02 g&&decide ((((Z07 g).length:Nat):Int)=g.2.1))
theorem l0g(g:l0)(d:g.2.2.length<=140737488355328):r02 g=some (e02 g):=by
 have e:=m0j g d
 have f:=g09 g d
 have h:=r0l g d
 have i:=Y0h g
 unfold e02
 obtain⟨a,b,c⟩:=g
 unfold r02
 simp only[e,oB]
 cases i06 (a,b,c)
 ·simp only[Bool.not_false,K1,f,oB,Bool.and_true,Bool.false_or]
  cases A02 (a,b,c)
  ·rfl
  ·simp only[K1,h,oB,cond_false,cond_true,Bool.true_and]
   rw[J0 (by omega)];rfl
 ·simp only[Bool.not_true,C3,oB,Bool.and_false,cond_true,Bool.true_or]
  rfl
theorem m0g(g:l0)(d:g.2.2.length<=140737488355328):s02 g=some (e02 g):=by
 have e:=n0j g d
 have f:=V0d g d
 have h:=s0l g d
 have i:=Y0h g
 unfold e02
 obtain⟨a,b,c⟩:=g
 unfold s02
 simp only[e,oB]
 cases i06 (a,b,c)
 ·simp only[Bool.not_false,K1,f,oB,Bool.and_true,Bool.false_or]
  cases A02 (a,b,c)
  ·rfl
  ·simp only[K1,h,oB,cond_false,cond_true,Bool.true_and]
   rw[J0 (by omega)];rfl
 ·simp only[Bool.not_true,C3,oB,Bool.and_false,cond_true,Bool.true_or]
  rfl
def noA(l:List l0):Nat->Nat->List Int
 |0,_=>[]
 |d+1,k=>match l[k]? with
  |some g=>bif e02 g then(k:Int)::noA l d (k+1)else noA l d (k+1)
  |none=>[]
def f04(l:List l0):List Int:=noA l l.length 0
def n0g(l:List l0):Prop:=l.length<=1048576/\∀ g∈l,g.2.2.length<=140737488355328
theorem c0s(l:List l0)(b:n0g l):∀(d k fuel:Nat) (acc:List Int),k+d=l.length->d<fuel->acc.length<=k ->
  d5 l fuel (k:Int) acc=some (acc++noA l d k)
 |d,k,0,acc,e,f,c=>by omega
 |0,k,fuel+1,acc,e,f,c=>by
  rw[d5.eq_2,if_neg (by simp only[decide_eq_true_eq];omega)];simp[noA]
 |d+1,k,fuel+1,acc,e,f,c=>by
  have t:=b.1
  have i:k<l.length:=by omega
  have a:=a7 i
  have j:=b.2 _ (List.mem_of_getElem? a)
  generalize l[k]=g at a j
  have s:=l0g g j
  have m:=λn h=>c0s l b d (k+1) fuel n (by omega) (by omega) h
  rw[d5.eq_2,if_pos (by simp only[decide_eq_true_eq];omega),B3 a,oB,A2 i (by omega),noA,a]
  obtain⟨o,p,q⟩:=g
  simp only
  rw[s,oB]
  cases e02 (o,p,q)
  ·rw[if_neg (by simp)]
   exact m acc (by omega)
  ·rw[if_pos rfl,J0 (by simp;omega),oB,m _ (by simp;omega)]
   simp
theorem d0s(l:List l0)(b:n0g l):∀(d k fuel:Nat) (acc:List Int),k+d=l.length->d<fuel->acc.length<=k ->
  i5 l fuel (k:Int) acc=some (acc++noA l d k)
 |d,k,0,acc,e,f,c=>by omega
 |0,k,fuel+1,acc,e,f,c=>by
  rw[i5.eq_2,if_neg (by simp only[decide_eq_true_eq];omega)];simp[noA]
 |d+1,k,fuel+1,acc,e,f,c=>by
  have t:=b.1
  have i:k<l.length:=by omega
  have a:=a7 i
  have j:=b.2 _ (List.mem_of_getElem? a)
  generalize l[k]=g at a j
  have s:=m0g g j
  have m:=λn h=>d0s l b d (k+1) fuel n (by omega) (by omega) h
  rw[i5.eq_2,if_pos (by simp only[decide_eq_true_eq];omega),B3 a,oB,A2 i (by omega),noA,a]
  obtain⟨o,p,q⟩:=g
  simp only
  rw[s,oB]
  cases e02 (o,p,q)
  ·rw[if_neg (by simp)]
   exact m acc (by omega)
  ·rw[if_pos rfl,J0 (by simp;omega),oB,m _ (by simp;omega)]
   simp
theorem g0d(l:List l0)(a:n0g l):e01 l=some (f04 l):=by
 have b:=a.1
 have h:=c0s l a l.length 0 P0 [] (by omega) (F1 (by omega)) (by simp)
 unfold e01
 rw[show(0:Int)=((0:Nat):Int) from rfl,h];rfl
theorem h0d(l:List l0)(a:n0g l):f01 l=some (f04 l):=by
 have b:=a.1
 have h:=d0s l a l.length 0 P0 [] (by omega) (F1 (by omega)) (by simp)
 unfold f01
 rw[show(0:Int)=((0:Nat):Int) from rfl,h];rfl
theorem o0g{g:l0}(h:g.2.2.length<=120)(v:Int):(N09 g v).1.2.2.length<=120:=by
 unfold N09
 cases hf:V0 g with
 |false=>simpa using h
 |true =>
  cases hv:inR 0 (g.2.1-1) v with
  |false=>simpa using h
  |true =>
   simp only[Bool.and_self,cond_true]
   exact(H8 (f03 hf (by simp only[inR,Bool.and_eq_true,decide_eq_true_eq]at hv;omega))).1
theorem o0j(g:l0)(w:List Int):(s07 g w).1.2.2.length<=120:=by
 unfold s07
 cases hc:L1 g with
 |false=>simp
 |true =>
  have a:=P3 (T0d hc)
  have b:=(H8 hc).1
  cases c7 g.1 w with
  |false=>simp
  |true =>
   simp only[Bool.and_self,cond_true]
   cases decide ((w4 g 0 w).2<w.length)with
   |false=>simp only[cond_false];exact o0g b _
   |true =>
    simp only[cond_true]
    cases (c5 g).2 with
    |false=>simp
    |true =>
     simp only[cond_true]
     have c:=Q0d (f08 a) (w4 g 0 w).1 (w.drop (w4 g 0 w).2) g.2.1
     cases (W8 (c5 g).1 (w4 g 0 w).1 (w.drop (w4 g 0 w).2) g.2.1).2 with
     |false=>simp
     |true=>simp only[cond_true];exact o0g c _
theorem V0o{g:l0}{e:Q0}(i:W0 g=true)(h:r0m g e)(u:g.2.2.length<120):W0 (g.1,g.2.1,x00 U0 e g.2.2)=true/\(x00 U0 e g.2.2).length<=g.2.2.length+1:=by
 obtain⟨k,l,m,v,f⟩:=(K7 g).1 i
 have j:(x00 U0 e g.2.2).length<=g.2.2.length+1:=by
  by_cases c:e∈g.2.2
  ·rw[H0n f c];omega
  ·rw[R0b e c];omega
 refine⟨(K7 _).2 ⟨λx a=>?_,l,m,by simp only;omega,T08 A4 _ _ f⟩,j⟩
 rcases(N04 A4 _ _ _).1 a with rfl|a
 ·obtain⟨b,d,s,t⟩:=h
  have n:=b.1;have o:=b.2;have p:=d.1;have q:=d.2
  refine⟨?_,?_,?_⟩<;>constructor<;>omega
 ·exact k x a
theorem u0q(m:Int)(f:IntKind.i64.wrap (1+m)<=10)(q:Int×Int):∀(d k fuel:Nat) (acc:List Int),((k+d:Nat):Int)=IntKind.i64.wrap (1+m)->d<fuel->acc.length=k->(∀ x∈acc,0<=x/\x<IntKind.i64.wrap (1+m)) ->
  ∃ l,R5 m fuel (k:Int) acc q=some (l,q)/\((l.length:Nat):Int)=IntKind.i64.wrap (1+m)/\∀ x∈l,0<=x/\x<IntKind.i64.wrap (1+m)
 |d,k,0,acc,e,hf,c,b=>by omega
 |0,k,fuel+1,acc,e,hf,c,b=>by
  rw[R5.eq_2,if_neg (by simp only[decide_eq_true_eq];omega)]
  exact⟨acc,rfl,by omega,b⟩
 |d+1,k,fuel+1,acc,e,hf,c,b=>by
  rw[R5.eq_2,if_pos (by simp only[decide_eq_true_eq];omega),J0 (by simp only[List.length_singleton];omega),oB,show IntKind.i64.wrap ((k:Int)+1)=((k+1:Nat):Int) from by rw[w64 (by omega) (by omega)];omega]
  refine u0q m f q d (k+1) fuel (acc ++ [(k:Int)]) (by omega) (by omega) (by simp;omega) λx a=>?_
  rcases List.mem_append.1 a with a|a
  ·exact b x a
  ·rw[List.mem_singleton.1 a];omega
theorem Q0s{l:List Int}{k:Nat}(a:k<l.length):W05 l 0 (k:Int)=some (l.take k)/\W05 l ((k+1:Nat):Int) (l.length:Int)=some (l.drop (k+1)):=by
 unfold W05
 rw[if_pos ⟨by omega,by omega,by omega⟩,if_pos ⟨by omega,by omega,by omega⟩]
 refine⟨by simp,by simp⟩
theorem v0q{bs:List Int}{r n:Int}(K:1<=r/\r<=3)(H:1<=n/\n<=10){m x:Int}(a:IntKind.i64.wrap (1+m)=n)(i:1<=x/\x<=r):∀(d k fuel:Nat) (l:List Int) (es:List Q0) (q:Int×Int),((k+d:Nat):Int)=n->d<fuel->l.length=d->(∀ y∈l,0<=y/\y<n)->W0 (r,n,es)=true->es.length+d<=100->okQ bs q ->
  ∃(b:List Q0) (g:Int×Int),Q5 m bs x fuel l (k:Int) r n es q=some (r,n,b,g)/\W0 (r,n,b)=true/\b.length<=es.length+d/\okQ bs g
 |d,k,0,l,es,q,o,hf,s,f,c,p,e=>by omega
 |0,k,fuel+1,l,es,q,o,hf,s,f,c,p,e=>by
  rw[Q5.eq_2,if_neg (by simp only[decide_eq_true_eq];omega)]
  exact⟨es,q,rfl,c,by omega,e⟩
 |d+1,k,fuel+1,l,es,q,o,hf,s,f,c,p,e=>by
  rw[Q5.eq_2,if_pos (by simp only[decide_eq_true_eq];omega)]
  obtain⟨z,M,w,L,J⟩:=b00 e (n:=((l.length:Nat):Int)) (by omega) (by omega)
  obtain⟨j,rfl⟩:=Int.eq_ofNat_of_zero_le L.1
  have h:j<l.length:=by omega
  have t:=f _ (List.getElem_mem h)
  have F:r0m (r,n,es) ((k:Int),x,l[j]):=⟨⟨by simp only;omega,by simp only;omega⟩,⟨t.1,t.2⟩,i.1,i.2⟩
  obtain⟨A,B⟩:=V0o c F (by simp only;omega)
  have N:(x00 U0 ((k:Int),x,l[j]) es).length<=es.length+1:=B
  obtain⟨u,v⟩:=Q0s h
  have I:=D06 es ((k:Int),x,l[j]) (by omega)
  have G:(([]:D0)++l.take j++l.drop (j+1)).length=d:=by simp;omega
  simp only[w,oB,J0 (show I0 ((j:Nat):Int) from⟨by omega,by omega⟩),B3 (a7 h),I,u,show IntKind.i64.wrap (((j:Nat):Int)+1)=((j+1:Nat):Int) from by rw[w64 (by omega) (by omega)];omega,v,show IntKind.i64.wrap ((k:Int)+1)=((k+1:Nat):Int) from by rw[w64 (by omega) (by omega)];omega]
  rw[J0 (by simp;omega),oB,J0 (by simp;omega),oB]
  obtain⟨b,g,C,D,O,E⟩:=v0q K H a i d (k+1) fuel (([]:D0)++l.take j++l.drop (j+1)) (x00 U0 ((k:Int),x,l[j]) es) M (by omega) (by omega) G (λy a=>f y (by
   simp only[List.nil_append]at a
   rcases List.mem_append.1 a with a|a
   ·exact List.mem_of_mem_take a
   ·exact List.mem_of_mem_drop a)) A (by omega) J
  exact⟨b,g,C,D,by omega,E⟩
theorem e0s{bs:List Int}{r n:Int}(p:1<=r/\r<=3)(o:1<=n/\n<=10){m:Int}(c:IntKind.i64.wrap (1+m)=n):∀(d k fuel:Nat) (es:List Q0) (q:Int×Int),((k+d:Nat):Int)=r+1->1<=k->d<fuel->W0 (r,n,es)=true->es.length+10*d<=90->okQ bs q ->
  ∃(a:List Q0) (t:Int×Int),S5 r m bs fuel (k:Int) r n es q=some (r,n,a,t)/\W0 (r,n,a)=true/\okQ bs t
 |d,k,0,es,q,h,j,hf,b,i,e=>by omega
 |0,k,fuel+1,es,q,h,j,hf,b,i,e=>by
  rw[S5.eq_2,if_neg (by simp only[decide_eq_true_eq];omega)]
  exact⟨es,q,rfl,b,e⟩
 |d+1,k,fuel+1,es,q,h,j,hf,b,i,e=>by
  rw[S5.eq_2,if_pos (by simp only[decide_eq_true_eq];omega)]
  obtain⟨N,B⟩:=Int.eq_ofNat_of_zero_le (show 0<=n by omega)
  obtain⟨l,f,w,s⟩:=u0q m (by omega) q N 0 P0 [] (by rw[c];omega) (by unfold P0;omega) rfl (λx z=>nomatch z)
  rw[c]at w s
  obtain⟨a,u,g,v,A,y⟩:=v0q p o c (x:=(k:Int)) (by omega) N 0 P0 l es q (by omega) (by unfold P0;omega) (by omega) s b (by omega) e
  have f:R5 m P0 0 [] q=some (l,q):=f
  have g:Q5 m bs (k:Int) P0 l 0 r n es q=some (r,n,a,u):=g
  simp only[f,g,oB,show IntKind.i64.wrap ((k:Int)+1)=((k+1:Nat):Int) from by rw[w64 (by omega) (by omega)];omega]
  exact e0s p o c d (k+1) fuel a u (by omega) (by omega) (by omega) v (by omega) y
theorem B0t{bs:List Int}{q:Int×Int}(i:okQ bs q):Drw bs (P01 bs q) λg=>g.2.2.length<=120:=by
 unfold P01
 refine(k07 i (by decide) (by decide)).bind λr t a j=>?_
 have a:1<=r/\r<=3:=(by decide:∀ x∈([1,2,2,2,3]:List Int),1<=x/\x<=3) r a
 refine .grd ⟨by omega,by omega⟩ ((b00 j (by decide) (by decide)).bind λm d s k => .grd ⟨by omega,by omega⟩ ?_)
 have c:IntKind.i64.wrap (1+m)=1+m:=w64 (by omega) (by omega)
 obtain⟨R,p⟩:=Int.eq_ofNat_of_zero_le (show 0<=r by omega)
 have h:W0 (r,1+m,[])=true:=(K7 _).2 ⟨(λe f=>by cases f),a,⟨by simp only;omega,by simp only;omega⟩,by simp,List.Pairwise.nil⟩
 obtain⟨es,o,e,b,l⟩:=e0s a (n:=1+m) (by omega) c R 1 P0 [] d (by omega) (by omega) (by unfold P0;omega) h (by simp;omega) k
 have e:S5 r m bs P0 1 r (1+m) [] d=some (r,1+m,es,o):=e
 simp only[c,e,oB,W0d b]
 exact⟨_,_,rfl,X0h b,l⟩
theorem y0r{bs:List Int}{q:Int×Int}(h:okQ bs q):Drw bs (s03 bs q) λg=>g.2.2.length<=121:=by
 unfold s03
 refine(R0i h (by decide) (by decide)).bind λb j _ f=>?_
 simp only
 split
 ·exact(B0t f).bind λg i d e=>by
   obtain⟨a,b,c⟩:=g
   exact⟨_,_,rfl,by simp only at d ⊢;omega,e⟩
 ·exact(P0s f).bind λg i d e=>⟨_,_,rfl,d,e⟩
def Z0h(l:List l0):Prop:=∀ g∈l,g.2.2.length<=121
theorem f0s{bs:List Int}:∀(d fuel:Nat) (acc:List l0) (q:Int×Int),d<fuel->2*d+acc.length<=1000->Z0h acc->okQ bs q ->
  Drw bs (s5 bs fuel (d:Int) acc q) λl=>Z0h l/\l.length<=2*d+acc.length
 |d,0,acc,q,hf,_,_,_=>by omega
 |0,fuel+1,acc,q,hf,z,m,n=>by
  rw[s5.eq_2,if_neg (by simp)]
  exact⟨_,_,rfl,⟨m,by omega⟩,n⟩
 |d+1,fuel+1,acc,q,hf,z,m,n=>by
  have snoc:∀ {l:List l0} {g:l0},Z0h l->g.2.2.length<=121->Z0h (l ++ [g]):=λe k x a=>by
   rcases List.mem_append.1 a with a|a
   ·exact e x a
   ·rw[List.mem_singleton.1 a];exact k
  rw[s5.eq_2,if_pos (by simp only[decide_eq_true_eq];omega)]
  refine(y0r n).bind λg I s A=>?_
  obtain⟨f,h,i⟩:=g
  have e:=snoc m s
  refine .grd (by simp only[List.length_singleton];omega) ((R0i A (by decide) (by decide)).bind λb D _ t=>?_)
  rw[p0r d (by omega)]
  have j:∀(l:List l0) (c:Int×Int),Z0h l->l.length<=acc.length+2->okQ bs c->Drw bs (s5 bs fuel (d:Int) l c) λl=>Z0h l/\l.length<=2*(d+1)+acc.length:=λl c k H y =>
   (f0s d fuel l c (by omega) (by omega) k y).mono λx a=>⟨a.1,by have:=a.2;omega⟩
  cases b
  ·exact j _ D e (by simp) t
  ·refine(U0p t (rank:=1) (most:=2) (by decide) (by decide) (by decide) (by decide)).bind λw c B u=>?_
   have o:=C0m (f,h,i) (by simp only at s ⊢;omega) w (by have:=B.2;omega)
   have p:=o0j (f,h,i) w
   generalize s07 (f,h,i) w=C at o p
   obtain⟨⟨E,F,G⟩,v⟩:=C
   simp only[o,oB]
   cases v
   ·rw[if_neg (by simp)];exact j _ c e (by simp) u
   ·rw[if_pos rfl]
    exact .grd (by simp;omega) (j _ c (snoc e (by simp only at p ⊢;omega)) (by simp) u)
theorem z0r{bs:List Int}(i:bs.length<=1048576):∃ l,Q01 bs=some l/\n0g l/\l.length<=10:=by
 obtain⟨q,e,k⟩:=p0n i
 obtain⟨m,p,c,j,o⟩:=b00 k (n:=6) (by decide) (by decide)
 obtain⟨d,rfl⟩:=Int.eq_ofNat_of_zero_le j.1
 obtain⟨l,t,f,b,s⟩:=f0s d P0 [] p (by unfold P0;omega) (by simp;omega) (λg a=>nomatch a) o
 have h:=b.2
 simp at h
 refine⟨l,?_,⟨by omega,λg a=>by have:=b.1 g a;omega⟩,by omega⟩
 unfold Q01
 simp only[e,c,f,oB,J0 (show I0 ((d:Nat):Int) from⟨by omega,by omega⟩)]
structure Iso (t c:l0) (P:Int->Int) (n:Nat):Prop where
 rank:c.1=t.1
 nt:t.2.1=(n:Int)
 nc:c.2.1=(n:Int)
 ft:V0 t=true
 fc:V0 c=true
 rng:∀ x:Int,0<=x->x<(n:Int)->0<=P x/\P x<(n:Int)
 inj:∀ x y:Int,0<=x->x<(n:Int)->0<=y->y<(n:Int)->P x=P y->x=y
 mem:∀ e',e'∈c.2.2↔∃ e∈t.2.2,e'=(P e.1,e.2.1,P e.2.2)
theorem Iso.inE{t c:l0}{P:Int->Int}{n:Nat}(a:Iso t c P n){e:Q0}(b:e∈t.2.2):(0<=e.1/\e.1<(n:Int))/\(0<=e.2.2/\e.2.2<(n:Int)):=by
 have:=(O1 a.ft).1 e b
 rw[a.nt]at this
 exact⟨this.1,this.2.1⟩
theorem Iso.comp{a b c:l0}{P Q:Int->Int}{n:Nat}(d:Iso a b P n)(u:Iso b c Q n):Iso a c (λx=>Q (P x)) n where
 rank:=by rw[u.rank,d.rank]
 nt:=d.nt
 nc:=u.nc
 ft:=d.ft
 fc:=u.fc
 rng:=λx h0 g=>u.rng _ (d.rng x h0 g).1 (d.rng x h0 g).2
 inj:=λx y h0 g i j h=>d.inj x y h0 g i j (u.inj _ _ (d.rng x h0 g).1 (d.rng x h0 g).2 (d.rng y i j).1 (d.rng y i j).2 h)
 mem:=λl=>by
  rw[u.mem]
  constructor
  ·rintro⟨e,k,rfl⟩
   obtain⟨f,hf,rfl⟩:=(d.mem e).1 k
   exact⟨f,hf,rfl⟩
  ·rintro⟨f,hf,rfl⟩
   exact⟨_,(d.mem _).2 ⟨f,hf,rfl⟩,rfl⟩
theorem t0l{t:l0}(hf:V0 t=true){o:List Int}(g:o.Nodup)(d:inV t.2.1.toNat o)(l:∀ x:Int,0<=x->x<t.2.1->x∈o):
  Iso t (r6 t o) (getI (plc t.2.1.toNat o)) t.2.1.toNat/\(∀(i:Nat) (v:Int),o[i]?=some v->getI (plc t.2.1.toNat o) v=(i:Int)):=by
 have B:=P3 hf
 obtain⟨z,C,D,E⟩:=O1 hf
 have q:=w01 _ _ g d
 obtain⟨n,s⟩:∃ n:Nat,t.2.1=(n:Int):=⟨t.2.1.toNat,by omega⟩
 have j:t.2.1.toNat=n:=by omega
 rw[j]at d q ⊢
 have u:o.length=n:=by
  have:=v0m n o λi c=>l _ (by omega) (by omega)
  omega
 have k:∀(i:Nat) (v:Int),o[i]?=some v->getI (plc n o) v=(i:Int):=λi v c=>e0g d g c
 have f:∀ x:Int,0<=x->x<(n:Int)->0<=getI (plc n o) x/\getI (plc n o) x<(n:Int):=λx h0 a=>by
  obtain⟨i,c⟩:=List.getElem?_of_mem (l x h0 (by omega))
  have:=(List.getElem?_eq_some_iff.1 c).1
  rw[k i x c];omega
 have w:pE (plc n o) t.2.2=t.2.2.map λe=>(getI (plc n o) e.1,e.2.1,getI (plc n o) e.2.2):=b0d _ _ λe p=>by
  have:=z e p
  exact⟨(f e.1 this.1.1 (by omega)).1,(f e.2.2 this.2.1.1 (by omega)).1⟩
 refine⟨⟨rfl,s,by show((o.length:Nat):Int)=_;rw[u],hf,G06 hf (by rw[j];exact d) g (by omega) (by omega),f,λx y h0 a b A h=>z0e d g h0 b (f x h0 a).1 h,λm=>?_⟩,k⟩
 show m∈l7 U0 [] (pE (plc t.2.1.toNat o) t.2.2)↔_
 rw[j,w,o9 A4]
 simp only[List.not_mem_nil,false_or,List.mem_map]
 exact⟨λ⟨e,a,b⟩=>⟨e,a,b.symm⟩,λ⟨e,a,b⟩=>⟨e,a,b.symm⟩⟩
theorem Iso.next{t c:l0}{P:Int->Int}{n:Nat}(d:Iso t c P n)(v x:Int)(h0:0<=v)(k:v<(n:Int)):
  (j1 t v x = -1/\j1 c (P v) x = -1)∨((0<=j1 t v x/\j1 t v x<(n:Int))/\j1 c (P v) x=P (j1 t v x)):=by
 rcases d02 t v x with⟨h,o⟩|h
 ·left
  refine⟨h,?_⟩
  rcases d02 c (P v) x with⟨i,q⟩|i
  ·exact i
  ·exfalso
   obtain⟨m,p,j⟩:=c4.1 i
   obtain⟨e,f,rfl⟩:=(d.mem m).1 p
   have g:=d.inE f
   have:∃ y,y∈r00 v x t.2.2:=by
    rcases j with⟨a,b,c,_⟩|⟨a,b,c,_⟩
    ·exact⟨_,c4.2 ⟨e,f,.inl ⟨a,b,d.inj _ _ g.1.1 g.1.2 h0 k c,rfl⟩⟩⟩
    ·exact⟨_,c4.2 ⟨e,f,.inr ⟨a,b,d.inj _ _ g.2.1 g.2.2 h0 k c,rfl⟩⟩⟩
   obtain⟨y,l⟩:=this
   rw[o]at l;cases l
 ·right
  generalize j1 t v x=y at h
  obtain⟨e,f,j⟩:=c4.1 h
  have g:=d.inE f
  rcases j with⟨a,b,c,rfl⟩|⟨a,b,c,rfl⟩
  ·exact⟨g.2,t05 d.fc (c4.2 ⟨_,(d.mem _).2 ⟨e,f,rfl⟩,.inl ⟨a,b,by show P e.1=P v;rw[c],rfl⟩⟩)⟩
  ·exact⟨g.1,t05 d.fc (c4.2 ⟨_,(d.mem _).2 ⟨e,f,rfl⟩,.inr ⟨a,b,by show P e.2.2=P v;rw[c],rfl⟩⟩)⟩
theorem Iso.order{t c:l0}{P:Int->Int}{n:Nat}(g:Iso t c P n)(C:P 0=0):D3 c=(D3 t).map P:=by
 have w:∀ u:List Int,gud n u->∀ x∈u,0<=x/\x<(n:Int):=λu d x j=>by have:=d.2 x j;omega
 have H:inG (t.1,(n:Int),t.2.2):=by
  intro e E
  have:=(O1 g.ft).1 e E
  rw[g.nt]at this;exact this
 have F:(t.1,(n:Int),t.2.2)=t:=by rw[←g.nt]
 have D:∀(u:List Int) (y z:Int),gud n u->(y = -1/\z = -1)∨((0<=y/\y<(n:Int))/\z=P y)->M06 (u.map P) z=(M06 u y).map P:=λu y z d h=>by
  unfold M06
  rcases h with⟨rfl,rfl⟩|⟨⟨h0,k⟩,rfl⟩
  ·rw[if_neg (by omega),if_neg (by omega)]
  ·have p:P y∈u.map P↔y∈u:=by
    constructor
    ·intro h
     obtain⟨x,j,e⟩:=List.mem_map.1 h
     have:=w u d x j
     rw[←g.inj x y this.1 this.2 h0 k e];exact j
    ·exact λh=>List.mem_map.2 ⟨y,h,rfl⟩
   by_cases c:y∈u
   ·rw[if_neg λq=>q.2 (p.2 c),if_neg λq=>q.2 c]
   ·rw[if_pos ⟨(g.rng y h0 k).1,λq=>c (p.1 q)⟩,if_pos ⟨h0,c⟩];simp
 have A:∀(v:Int),0<=v->v<(n:Int)->∀(b u:List Int),gud n u->X01 c (P v) b (u.map P)=(X01 t v b u).map P:=λv h0 k b=>by
  induction b with
  |nil=>intro u d;rfl
  |cons x l m =>
   intro u d
   have j:j1 t v x = -1∨(0<=j1 t v x/\j1 t v x<(n:Int)):=by
    rcases g.next v x h0 k with⟨a,_⟩|⟨a,_⟩
    ·exact .inl a
    ·exact .inr (by omega)
   rw[X01,X01,D u _ _ d (g.next v x h0 k),m _ (J0k d j)]
 have B:∀(f i:Nat) (u:List Int) (b:List Int),gud n u->R7 c b f i (u.map P)=(R7 t b f i u).map P:=λf=>by
  induction f with
  |zero=>intro i u b d;rfl
  |succ f m =>
   intro i u b d
   unfold R7
   rw[List.getElem?_map]
   cases e:u[i]? with
   |none=>rfl
   |some v =>
    have s:=w u d v (List.mem_of_getElem? e)
    have G:gud n (X01 t v b u):=by
     have:=v04 H v b u d
     rw[F]at this;exact this
    simp only[Option.map_some]
    rw[A v s.1 s.2 b u d]
    exact m (i+1) _ b G
 obtain⟨_,_,I,_⟩:=O1 g.ft
 have o:=B (n+1) 0 [0] (V4 t.1.toNat 1) ⟨by simp,λx j=>by simp at j;subst j;have:=g.nt;omega⟩
 rw[List.map_cons,List.map_nil,C]at o
 show R7 c (V4 c.1.toNat 1) (c.2.1.toNat+1) 0 [0]=(R7 t (V4 t.1.toNat 1) (t.2.1.toNat+1) 0 [0]).map P
 rw[g.rank,g.nc,g.nt,Int.toNat_natCast]
 exact o
theorem Iso.canon{t c:l0}{P:Int->Int}{n:Nat}(a:Iso t c P n)(m:P 0=0)(o:∀ x:Int,0<=x->x<(n:Int)->x∈D3 t):Y2 c=Y2 t:=by
 have k:=a.order m
 obtain⟨⟨p,h⟩,g⟩:=M03 a.ft
 obtain⟨⟨q,j⟩,_⟩:=M03 a.fc
 rw[a.nt,Int.toNat_natCast]at h
 rw[a.nc,Int.toNat_natCast]at j
 have b:∀ x:Int,0<=x->x<(n:Int)->getI (plc n (D3 c)) (P x)=getI (plc n (D3 t)) x/\0<=getI (plc n (D3 t)) x:=λx h0 g=>by
  obtain⟨i,l⟩:=List.getElem?_of_mem (o x h0 g)
  have s:(D3 c)[i]?=some (P x):=by rw[k,List.getElem?_map,l];rfl
  rw[e0g j q s,e0g h p l];omega
 unfold Y2 r6
 rw[a.nt,a.nc,Int.toNat_natCast,a.rank,show(D3 c).length=(D3 t).length by rw[k,List.length_map]]
 refine congrArg (λz=>(t.1,_,z)) (T07 A4 (A03 A4 _ _ .nil) (A03 A4 _ _ .nil) λw=>?_)
 have u:pE (plc n (D3 t)) t.2.2=t.2.2.map λe=>(getI (plc n (D3 t)) e.1,e.2.1,getI (plc n (D3 t)) e.2.2):=b0d _ _ λe d=>by
  have:=a.inE d
  exact⟨(b e.1 this.1.1 this.1.2).2,(b e.2.2 this.2.1 this.2.2).2⟩
 have v:pE (plc n (D3 c)) c.2.2=c.2.2.map λe=>(getI (plc n (D3 c)) e.1,e.2.1,getI (plc n (D3 c)) e.2.2):=b0d _ _ λe d=>by
  obtain⟨f,hf,rfl⟩:=(a.mem e).1 d
  have:=a.inE hf
  rw[(b f.1 this.1.1 this.1.2).1,(b f.2.2 this.2.1 this.2.2).1]
  exact⟨(b f.1 this.1.1 this.1.2).2,(b f.2.2 this.2.1 this.2.2).2⟩
 rw[o9 A4,o9 A4,u,v]
 simp only[List.not_mem_nil,false_or,List.mem_map]
 constructor
 ·rintro⟨e,d,rfl⟩
  obtain⟨f,hf,rfl⟩:=(a.mem e).1 d
  have:=a.inE hf
  exact⟨f,hf,by rw[(b f.1 this.1.1 this.1.2).1,(b f.2.2 this.2.1 this.2.2).1]⟩
 ·rintro⟨f,hf,rfl⟩
  have:=a.inE hf
  exact⟨_,(a.mem _).2 ⟨f,hf,rfl⟩,by rw[(b f.1 this.1.1 this.1.2).1,(b f.2.2 this.2.1 this.2.2).1]⟩
theorem Iso.perm{t c:l0}{P:Int->Int}{n:Nat}(d:Iso t c P n):c.2.2.Perm (t.2.2.map λe=>(P e.1,e.2.1,P e.2.2)):=by
 have k:=c0d (p07 (P3 d.ft))
 have l:=c0d (p07 (P3 d.fc))
 have p:(t.2.2.map λe=>((P e.1,e.2.1,P e.2.2):Q0)).Nodup:=by
  rw[List.Nodup,List.pairwise_map]
  refine List.Pairwise.imp_of_mem (λ{a b} m o h e=>h ?_) k
  have i:=d.inE m
  have j:=d.inE o
  simp only[Prod.mk.injEq]at e
  have f:=d.inj _ _ i.1.1 i.1.2 j.1.1 j.1.2 e.1
  have g:=d.inj _ _ i.2.1 i.2.2 j.2.1 j.2.2 e.2.2
  obtain⟨s,u,v⟩:=a
  obtain⟨w,x,f2⟩:=b
  simp only at f g e
  rw[f,g,e.2.1]
 refine(List.perm_ext_iff_of_nodup l p).2 λq=>?_
 rw[d.mem,List.mem_map]
 exact⟨λ⟨e,f,g⟩=>⟨e,f,g.symm⟩,λ⟨e,f,g⟩=>⟨e,f,g.symm⟩⟩
theorem Iso.len{t c:l0}{P:Int->Int}{n:Nat}(s:Iso t c P n):c.2.2.length=t.2.2.length:=by
 rw[s.perm.length_eq,List.length_map]
theorem Iso.deg{t c:l0}{P:Int->Int}{n:Nat}(a:Iso t c P n){v:Int}(h0:0<=v)(b:v<(n:Int)):s00 (P v) c.2.2=s00 v t.2.2:=by
 rw[Q0h _ a.perm]
 refine f0g _ λe d=>?_
 have:=a.inE d
 exact⟨⟨λh=>a.inj _ _ this.1.1 this.1.2 h0 b h,λh=>by rw[h]⟩,⟨λh=>a.inj _ _ this.2.1 this.2.2 h0 b h,λh=>by rw[h]⟩⟩
theorem Iso.rch{t c:l0}{P:Int->Int}{n:Nat}(d:Iso t c P n){a x:Int}(h:Rch t.2.2 a x):Rch c.2.2 (P a) (P x) :=
 Rch.sub (P:=λx=>Rch c.2.2 (P a) (P x)) .base (λe b=>Rch.closed (P e.1,e.2.1,P e.2.2) ((d.mem _).2 ⟨e,b,rfl⟩)) h
theorem Iso.onto{t c:l0}{P:Int->Int}{n:Nat}(g:Iso t c P n){y:Int}(h0:0<=y)(j:y<(n:Int)):∃ x:Int,(0<=x/\x<(n:Int))/\P x=y:=by
 let L:List Int:=(List.range n).map λi:Nat=>P (i:Int)
 have p:L.Nodup:=by
  rw[List.Nodup,List.pairwise_map]
  refine List.Pairwise.imp_of_mem (λ{a b} l m h e=>h ?_) List.nodup_range
  have:=g.inj _ _ (by omega) (by have:=List.mem_range.1 l;omega) (by omega) (by have:=List.mem_range.1 m;omega) e
  omega
 have q:inV n L:=λz d=>by
  obtain⟨i,f,rfl⟩:=List.mem_map.1 d
  have:=List.mem_range.1 f
  exact g.rng _ (by omega) (by omega)
 have s:y∈L:=by
  refine Classical.byContradiction λo=>?_
  have k:=w01 n (y::L) (List.nodup_cons.2 ⟨o,p⟩) λz d=>by
   rcases List.mem_cons.1 d with rfl|d
   ·exact⟨h0,j⟩
   ·exact q z d
  simp[L]at k
  omega
 obtain⟨i,f,e⟩:=List.mem_map.1 s
 have:=List.mem_range.1 f
 exact⟨_,⟨by omega,by omega⟩,e⟩
theorem Rch.tr{es:List Q0}{a b c:Int}(h:Rch es a b)(k:Rch es b c):Rch es a c:=Rch.sub (P:=λx=>Rch es a x) h Rch.closed k
theorem Rch.sym{es:List Q0}{a b:Int}(h:Rch es a b):Rch es b a :=
 Rch.sub (P:=λx=>Rch es x a) .base (λe c=>⟨λk=>Rch.tr (.bwd c .base) k,λk=>Rch.tr (.fwd c .base) k⟩) h
theorem u0l{v:Int}:∀ {es:List Q0},s00 v es=0->∀ e∈es,e.1≠v/\e.2.2≠v
 | [],_,e,a=>by cases a
 |x::r,h,e,a=>by
  simp only[s00,G0g]at h
  rcases List.mem_cons.1 a with rfl|a
  ·refine⟨λc=>?_,λc=>?_⟩
   ·rw[if_pos c]at h;omega
   ·rw[if_pos c]at h;omega
  ·exact u0l (by omega) e a
theorem S0a{g:l0}(h:L1 g=true):Y2 g=g/\o7 g=none:=by
 unfold L1 m07 at h
 simp only[Bool.and_eq_true,decide_eq_true_eq,Option.isNone_iff_eq_none]at h
 exact⟨h.2.2,h.2.1⟩
theorem v0l{g:l0}(h:L1 g=true){v:Int}(h0:1<=v)(b:v<g.2.1):2<=s00 v g.2.2/\Rch g.2.2 0 v:=by
 have a:=L09 (S0a h).2 v.toNat (by omega) (by omega)
 unfold Z08 at a
 rw[show((v.toNat:Nat):Int)=v by omega]at a
 simp only[Bool.or_eq_false_iff,Bool.not_eq_false',decide_eq_true_eq,decide_eq_false_iff_not]at a
 exact⟨by omega,(E06 _ _ _).1 a.2⟩
theorem p0g{g:l0}(h:L1 g=true){v:Int}(h0:0<=v)(a:v<g.2.1):Rch g.2.2 0 v:=by
 by_cases c:v=0
 ·rw[c];exact .base
 ·exact(v0l h (by omega) a).2
def x04(g:l0):Bool:=decide (1<g.2.1)&&decide (s00 0 g.2.2=1)
theorem A0r{g:l0}(h:L1 g=true)(a:x04 g=false)(d:1<g.2.1){v:Int}(h0:0<=v)(i:v<g.2.1):2<=s00 v g.2.2:=by
 by_cases c:v=0
 ·subst c
  have j:s00 0 g.2.2≠1:=λe=>by
   rw[x04,decide_eq_true d,decide_eq_true e]at a;cases a
  have l:s00 0 g.2.2≠0:=λe=>by
   have f:=u0l e
   have:=Rch.sub (P:=λx=>x=0) rfl (λe b=>⟨λk=>absurd k (f e b).1,λk=>absurd k (f e b).2⟩) (p0g h (v:=1) (by omega) d)
   omega
  omega
 ·exact(v0l h (by omega) i).1
theorem W0o{g:l0}{v:Int}(h0:0<=v):∀ x:Int,0<=x->x<g.2.1->x∈P03 g v:=λx a b=>by
 unfold P03
 by_cases c:x=v
 ·rw[c];exact mS
 ·refine mC _ ?_
  have:=z0m v.toNat g.2.1.toNat 0 x.toNat (Nat.zero_le _) (by omega) (by omega)
  rw[show((x.toNat:Nat):Int)=x by omega]at this;exact this
theorem p0j{g:l0}(hf:V0 g=true){v:Int}(a:0<=v/\v<g.2.1):∃ P,Iso g (r6 g (P03 g v)) P g.2.1.toNat/\P v=0:=by
 obtain⟨b,c,f⟩:=V0b hf a
 obtain⟨e,d⟩:=t0l hf c b (W0o a.1)
 exact⟨_,e,d 0 v rfl⟩
theorem X0o{g:l0}(h:o7 g=none):U04 g=g:=by
 unfold U04 a04
 rw[h]
theorem a0i{g:l0}(h:L1 g=true)(f:x04 g=false){v:Int}(c:0<=v/\v<g.2.1):o7 (r6 g (P03 g v))=none:=by
 have hf:=K5 h
 obtain⟨P,a,e⟩:=p0j hf c
 have i:=a.nt
 generalize g.2.1.toNat=n at a i
 generalize r6 g (P03 g v)=t at a
 unfold o7
 refine Q0a λk l j=>?_
 rw[a.nc,Int.toNat_natCast]at j
 obtain⟨x,b,d⟩:=a.onto (y:=(k:Int)) (by omega) (by omega)
 unfold Z08
 simp only[Bool.or_eq_false_iff,Bool.not_eq_false',decide_eq_true_eq,decide_eq_false_iff_not]
 refine⟨?_,?_⟩
 ·rw[←d,a.deg b.1 b.2]
  have:=A0r h f (by omega) b.1 (by omega)
  omega
 ·refine(E06 _ _ _).2 ?_
  have:=a.rch (Rch.tr (Rch.sym (p0g h c.1 c.2)) (p0g h b.1 (by omega)))
  rw[e,d]at this;exact this
theorem w0l{g:l0}(h:L1 g=true)(a:x04 g=false){v:Int}(b:0<=v/\v<g.2.1):Z5 g v=Y2 (r6 g (P03 g v)):=by
 unfold Z5 f09
 rw[X0o (a0i h a b)]
theorem Y0o{x y:l0}(c:L1 x=true)(f:x04 x=false)(m:x04 y=false){v:Int}(d:0<=v/\v<x.2.1)(h:Z5 x v=y):
  (y.2.1=x.2.1/\y.2.2.length=x.2.2.length)/\∃ u:Int,(0<=u/\u<y.2.1)/\Z5 y u=x:=by
 have hf:=K5 c
 have j:L1 y=true:=by rw[←h];exact f03 hf d
 have i:=a0i c f d
 rw[w0l c f d]at h
 obtain⟨P,b,H⟩:=p0j hf d
 have I:(0:Int)<x.2.1:=by omega
 generalize J:r6 x (P03 x v)=t at b i h
 obtain⟨⟨s,A⟩,_⟩:=M03 b.fc
 obtain⟨s2,o⟩:=t0l b.fc s A λz E F=>a0d b.fc i E F
 obtain⟨K,q⟩:=P0a t
 have g:=o 0 0 (by rw[q];rfl)
 rw[b.nc,Int.toNat_natCast]at s2 g
 generalize getI (plc x.2.1.toNat (D3 t))=B at s2 g
 have p:Iso t y B x.2.1.toNat:=by rw[←h];exact s2
 have w:=b.comp p
 refine⟨⟨by rw[w.nc];exact w.nt.symm,w.len⟩,B (P 0),?_⟩
 have D:=w.rng 0 (by omega) (by omega)
 have e:0<=B (P 0)/\B (P 0)<y.2.1:=by rw[w.nc];exact D
 refine⟨e,?_⟩
 rw[w0l j m e]
 obtain⟨C,k,n⟩:=p0j (K5 j) e
 rw[w.nc,Int.toNat_natCast]at k
 have z:=w.comp k
 rw[z.canon n λa l G=>a0d hf (S0a c).2 l (by omega)]
 exact(S0a c).1
theorem x0l:∀(d:Nat) {g:l0},W0 g=true->(a04 d g).2.1<=g.2.1
 |0,g,a=>iR _
 |d+1,g,a=>by
  unfold a04
  cases e:o7 g with
  |none=>exact iR _
  |some k =>
   obtain⟨b,h,c,f⟩:=q07 a e
   have:=x0l d (g06 a b c f)
   have q:=(J2 a).2.2.1
   refine Int.le_trans this ?_
   show(((wo k g.2.1.toNat 0).length:Nat):Int)<=_
   omega
theorem B0r{g:l0}(a:W0 g=true)(h:o7 g≠none):(U04 g).2.1<g.2.1:=by
 unfold U04 a04
 cases e:o7 g with
 |none=>exact absurd e h
 |some k =>
  obtain⟨b,f,c,d⟩:=q07 a e
  have:=x0l 39 (g06 a b c d)
  have q:=(J2 a).2.2.1
  refine Int.lt_of_le_of_lt this ?_
  show(((wo k g.2.1.toNat 0).length:Nat):Int)<_
  omega
theorem w0q{g:l0}(hf:V0 g=true):(Y2 g).2.1<=g.2.1:=by
 obtain⟨⟨a,b⟩,_⟩:=M03 hf
 have:=w01 _ _ a b
 have q:=(O1 hf).2.2.1
 show(((D3 g).length:Nat):Int)<=_
 omega
theorem C0r{a:Nat->Bool}{d v k:Nat}(c:v<=k)(e:k<v+d)(b:a k=true):lf a d v≠none:=λh=>by
 rw[L09 h k c e]at b;cases b
theorem T0a{g:l0}(h:L1 g=true)(b:x04 g=true){v:Int}(c:0<=v/\v<g.2.1)(h0:v≠0):(Z5 g v).2.1<g.2.1:=by
 have hf:=K5 h
 unfold x04 at b
 simp only[Bool.and_eq_true,decide_eq_true_eq]at b
 obtain⟨P,a,j⟩:=p0j hf c
 have m:=a.nt
 have o:=a.rng 0 (by omega) (by omega)
 have n:P 0≠0:=λe=>h0 (a.inj v 0 c.1 (by omega) (by omega) (by omega) (by rw[j,e]))
 have l:o7 (r6 g (P03 g v))≠none:=by
  unfold o7
  refine C0r (k:=(P 0).toNat) (by omega) (by rw[a.nc];omega) ?_
  unfold Z08
  rw[show(((P 0).toNat:Nat):Int)=P 0 by omega,a.deg (by omega) (by omega),b.2]
  rfl
 have d:=B0r (P3 a.fc) l
 have f:=w0q (c02 40 a.fc)
 have i:=a.nc
 unfold Z5 f09
 refine Int.lt_of_le_of_lt f (Int.lt_of_lt_of_le d ?_)
 rw[i,m];exact iR _
def t07(g:l0):List Int->Option Int
 | []=>none
 |x::r=>if 0<=j1 g 0 x then some (j1 g 0 x)else t07 g r
theorem M0n{g:l0}:∀ {a:List Int} {v:Int},t07 g a=some v->∃ x∈a,j1 g 0 x=v/\0<=v
 | [],v,h=>by cases h
 |x::r,v,h=>by
  unfold t07 at h
  by_cases c:0<=j1 g 0 x
  ·rw[if_pos c]at h;cases h;exact⟨x,mS,rfl,c⟩
  ·rw[if_neg c]at h
   obtain⟨y,b,d⟩:=M0n h
   exact⟨y,mC _ b,d⟩
theorem i0d{g:l0}:∀ {a:List Int} {x:Int},x∈a->0<=j1 g 0 x->∃ v,t07 g a=some v
 |y::r,x,h,h0=>by
  unfold t07
  by_cases c:0<=j1 g 0 y
  ·rw[if_pos c];exact⟨_,rfl⟩
  ·rw[if_neg c]
   rcases List.mem_cons.1 h with rfl|h
   ·exact absurd h0 c
   ·exact i0d h h0
theorem q0j{v:Int}{e:Q0}(a:e.1=v)(b:e.2.2=v):∀ {es:List Q0},e∈es->2<=s00 v es
 |x::r,h=>by
  simp only[s00,G0g]
  rcases List.mem_cons.1 h with rfl|h
  ·rw[if_pos a,if_pos b];omega
  ·have:=q0j a b h;omega
theorem q0g{g:l0}(h:L1 g=true)(s:x04 g=true):∃ v,t07 g (V4 g.1.toNat 1)=some v/\(0<=v/\v<g.2.1)/\v≠0:=by
 have hf:=K5 h
 obtain⟨q,D,E,F⟩:=O1 hf
 have m:=s
 unfold x04 at m
 simp only[Bool.and_eq_true,decide_eq_true_eq]at m
 have t:∃ e∈g.2.2,e.1=0∨e.2.2=0:=by
  refine Classical.byContradiction λz=>?_
  have A:∀ es:List Q0,(∀ e∈es,¬ (e.1=0∨e.2.2=0))->s00 0 es=0:=λes=>by
   induction es with
   |nil=>intro _;rfl
   |cons x r B =>
    intro d
    have a:=d x mS
    simp only[s00,G0g,B λe b=>d e (mC _ b)]
    rw[if_neg λk=>a (.inl k),if_neg λk=>a (.inr k)]
  have:=A g.2.2 λe b k=>z ⟨e,b,k⟩
  omega
 obtain⟨e,b,d⟩:=t
 have n:=q e b
 have l:=b0g g.1.toNat 1 e.2.1.toNat (by omega) (by omega)
 rw[show((e.2.1.toNat:Nat):Int)=e.2.1 by omega]at l
 obtain⟨v,p⟩:∃ v,t07 g (V4 g.1.toNat 1)=some v:=by
  rcases d with k|k
  ·refine i0d l.1 ?_
   rw[t05 hf (v:=0) (x:=e.2.1) (y:=e.2.2) (c4.2 ⟨e,b,.inl ⟨by omega,rfl,k,rfl⟩⟩)]
   exact n.2.1.1
  ·refine i0d l.2 ?_
   rw[t05 hf (v:=0) (x := -e.2.1) (y:=e.1) (c4.2 ⟨e,b,.inr ⟨by omega,by omega,k,rfl⟩⟩)]
   exact n.1.1
 obtain⟨x,C,w,h0⟩:=M0n p
 refine⟨v,p,?_⟩
 rcases d02 g 0 x with⟨a,_⟩|a
 ·omega
 ·rw[w]at a
  obtain⟨f,j,u⟩:=c4.1 a
  have o:=q f j
  rcases u with⟨_,_,i,rfl⟩|⟨_,_,i,rfl⟩
  ·refine⟨⟨h0,o.2.1.2⟩,λc=>?_⟩
   have:=q0j i c j;omega
  ·refine⟨⟨h0,o.1.2⟩,λc=>?_⟩
   have:=q0j c i j;omega
def N06:Nat->l0->l0
 |0,g=>g
 |d+1,g=>bif x04 g then(match t07 g (V4 g.1.toNat 1)with
  |some v=>N06 d (Z5 g v)
  |none=>g)else g
def M0g(g:l0):List Int->Option Int
 | []=>none
 |x::r=>if 0<=j1 g 0 x then some x else M0g g r
theorem E0m(g:l0):∀ a,t07 g a=(M0g g a).map (j1 g 0)
 | []=>rfl
 |x::r=>by
  unfold t07 M0g
  by_cases c:0<=j1 g 0 x
  ·rw[if_pos c,if_pos c];rfl
  ·rw[if_neg c,if_neg c];exact E0m g r
def y04:Nat->l0->List Int
 |0,_=>[]
 |d+1,g=>bif x04 g then(match M0g g (V4 g.1.toNat 1)with
  |some x=>x::y04 d (Z5 g (j1 g 0 x))
  |none=>[])else []
theorem N0n:∀(d:Nat) (g:l0),L1 g=true->g.2.1<=(d:Int)+1->L1 (N06 d g)=true/\x04 (N06 d g)=false
 |0,g,h,e=>by
  refine⟨h,?_⟩
  show x04 g=false
  unfold x04
  rw[decide_eq_false (show ¬ 1<g.2.1 by omega)];rfl
 |d+1,g,h,e=>by
  unfold N06
  cases hc:x04 g
  ·exact⟨h,hc⟩
  ·obtain⟨v,b,a,c⟩:=q0g h hc
   have:=T0a h hc a c
   rw[cond_true,b]
   exact N0n d _ (f03 (K5 h) a) (by omega)
def m04(g:l0):l0:=bif L1 g then N06 40 g else g
def j06(x y:l0):Nat->Nat->Bool
 |0,_=>false
 |d+1,v=>bif m07 (Z5 x v) y then true else j06 x y d (v+1)
theorem j0d(x y:l0):∀ d v,j06 x y d v=true↔∃ u:Nat,(v<=u/\u<v+d)/\Z5 x (u:Int)=y
 |0,v=>by simp[j06];omega
 |d+1,v=>by
  unfold j06 m07
  by_cases c:Z5 x (v:Int)=y
  ·rw[decide_eq_true c,cond_true]
   exact⟨λ_=>⟨v,by omega,c⟩,λ_=>rfl⟩
  ·rw[decide_eq_false c,cond_false,j0d x y d (v+1)]
   constructor
   ·rintro⟨u,b,a⟩;exact⟨u,by omega,a⟩
   ·rintro⟨u,b,a⟩
    by_cases k:u=v
    ·rw[k]at a;exact absurd a c
    ·exact⟨u,by omega,a⟩
def R01(a b:l0):Bool:=bif L1 a&&(L1 b&&decide (a.1=b.1))then j06 (m04 a) (m04 b) (m04 a).2.1.toNat 0 else false
theorem k0d{a:l0}(h:L1 a=true):L1 (m04 a)=true/\x04 (m04 a)=false:=by
 unfold m04
 rw[h,cond_true]
 have:=(H8 h).2.1
 exact N0n 40 a h (by omega)
theorem b0i{x y:l0}(f:L1 x=true)(a:x04 x=false)(b:x04 y=false)(h:j06 x y x.2.1.toNat 0=true):
  (y.2.1=x.2.1/\y.2.2.length=x.2.2.length)/\j06 y x y.2.1.toNat 0=true:=by
 obtain⟨u,g,e⟩:=(j0d x y _ _).1 h
 obtain⟨d,w,i,c⟩:=Y0o f a b (v:=(u:Int)) ⟨by omega,by omega⟩ e
 refine⟨d,(j0d y x _ _).2 ⟨w.toNat,by omega,?_⟩⟩
 rw[show((w.toNat:Nat):Int)=w by omega];exact c
theorem x0q(a b:l0):R01 a b=R01 b a:=by
 have c:∀ a b,R01 a b=true->R01 b a=true:=λa b h=>by
  unfold R01 at h ⊢
  cases ha:L1 a
  ·rw[ha]at h;cases h
  cases hb:L1 b
  ·rw[ha,hb]at h;cases h
  by_cases hr:a.1=b.1
  ·rw[ha,hb,decide_eq_true hr]at h
   rw[decide_eq_true hr.symm]
   exact(b0i (k0d ha).1 (k0d ha).2 (k0d hb).2 h).2
  ·rw[ha,hb,decide_eq_false hr]at h;cases h
 cases h1:R01 a b
 ·cases h2:R01 b a
  ·rfl
  ·rw[c b a h2]at h1;cases h1
 ·rw[c a b h1]
theorem y0q{g:l0}(hf:V0 g=true){x:Int}(h:x∈V4 g.1.toNat 1):I0 x:=by
 obtain⟨j,a,b,c⟩:=d09 _ _ _ h
 have:=(O1 hf).2.1
 unfold I0
 omega
theorem z0q{g:l0}(hf:V0 g=true){p:Int}(i:0<=p/\p<g.2.1):∀(m:Nat) (y:Int),y∈(l03 g p).2->∀ a,A8 (l03 g p).1 y=some a->a.length<=m->E9 a
 |m,y,n,a,d,f=>by
  have h:=M09 hf i
  by_cases c:y=p
  ·rw[c,h.word]at d;cases d
   intro x e;cases e
  ·obtain⟨v,l,x,e,_,b,j,k⟩:=h.par y n c
   rw[k]at d;cases d
   cases m with
   |zero=>simp at f
   |succ m =>
    have q:=z0q hf i m v l b j (by simp at f;omega)
    exact r07 q λz o=>by rw[List.mem_singleton.1 o];exact y0q hf e
theorem T0t{g:l0}(hf:V0 g=true){v:Int}(d:0<=v/\v<g.2.1):E9 (p9 g v):=by
 have q:=(O1 hf).2.2.1
 have h:=M09 hf (p:=0) (by omega)
 unfold p9 h09
 cases V0 g&&(inR 0 (g.2.1-1) 0&&inR 0 (g.2.1-1) v)
 ·intro x c;cases c
 ·rw[cond_true]
  cases e:A8 (l03 g 0).1 v with
  |none=>intro x c;cases c
  |some a =>
   have b:v∈(l03 g 0).2:=Classical.byContradiction λb=>by have:=(h.ok.iff v d.1 (by omega)).2 b;rw[e]at this;cases this
   exact z0q hf (by omega) a.length v b a e (Nat.le_refl _)
theorem A0q{g:l0}(h:L1 g=true)(b:List Int)(s:∀ x∈b,x∈V4 g.1.toNat 1)(E:b.length<=1000)(p:List Int)(H:p.length<=1000){v:Int}(t:∀ u,t07 g b=some u->0<=u/\u<g.2.1):∀(d k fuel:Nat),k+d=b.length->d<fuel->t07 g (b.drop k)=some v->t07 g b=some v ->
  ∃ x,(I0 x/\M0g g (b.drop k)=some x)/\I6 b fuel (k:Int) g.1 g.2.1 g.2.2 p=some ((Z5 g v).1,(Z5 g v).2.1,(Z5 g v).2.2,p ++ [x])
 |d,k,0,n,hf,a,j=>by omega
 |0,k,fuel+1,n,hf,a,j=>by rw[T1 (by omega)]at a;cases a
 |d+1,k,fuel+1,n,hf,a,j=>by
  have o:k<b.length:=by omega
  have i:=a7 o
  have m:=s _ (List.mem_of_getElem? i)
  rw[U1 i]at a
  generalize b[k]=x at i m a
  have l:=K5 h
  obtain⟨M,N,O⟩:=H8 h
  have G:=t04 g 0 x (O0b _ _ (by omega) x m) (by omega)
  have B:I0 (j1 g 0 x):=by
   rcases d02 g 0 x with⟨e,_⟩|e
   ·rw[e];decide
   ·obtain⟨f,C,D⟩:=c4.1 e
    have:=(O1 l).1 f C
    unfold I0
    rcases D with⟨_,_,_,q⟩|⟨_,_,_,q⟩<;>rw[q]<;>omega
  have I:=A0q h b s E p H (v:=v) t d (k+1) fuel (by omega) (by omega)
  have F:=Y07 l (t v j)
  rw[I6.eq_2,if_pos (by simp only[decide_eq_true_eq];omega)]
  obtain⟨w,y,A⟩:=g
  simp only[B3 i,oB,G,J0 B]
  unfold t07 at a
  by_cases c:0<=j1 (w,y,A) 0 x
  ·rw[if_pos c]at a
   cases a
   rw[if_pos (by simp only[decide_eq_true_eq];exact c),J0 (by simp only[List.length_singleton];omega),oB,F,oB]
   exact⟨x,⟨y0q l m,by rw[U1 i];unfold M0g;rw[if_pos c]⟩,rfl⟩
  ·rw[if_neg c]at a
   rw[if_neg (by simp only[decide_eq_true_eq];exact c),A2 o (by omega)]
   obtain⟨z,⟨J,K⟩,L⟩:=I a j
   exact⟨z,⟨J,by rw[U1 i];unfold M0g;rw[if_neg c];exact K⟩,L⟩
theorem B0q{g:l0}(h:L1 g=true)(b:List Int)(s:∀ x∈b,x∈V4 g.1.toNat 1)(E:b.length<=1000)(p:List Int)(H:p.length<=1000){v:Int}(t:∀ u,t07 g b=some u->0<=u/\u<g.2.1):∀(d k fuel:Nat),k+d=b.length->d<fuel->t07 g (b.drop k)=some v->t07 g b=some v ->
  ∃ x,(I0 x/\M0g g (b.drop k)=some x)/\K6 b fuel (k:Int) g.1 g.2.1 g.2.2 p=some ((Z5 g v).1,(Z5 g v).2.1,(Z5 g v).2.2,p ++ [x])
 |d,k,0,n,hf,a,j=>by omega
 |0,k,fuel+1,n,hf,a,j=>by rw[T1 (by omega)]at a;cases a
 |d+1,k,fuel+1,n,hf,a,j=>by
  have o:k<b.length:=by omega
  have i:=a7 o
  have m:=s _ (List.mem_of_getElem? i)
  rw[U1 i]at a
  generalize b[k]=x at i m a
  have l:=K5 h
  obtain⟨M,N,O⟩:=H8 h
  have G:=W07 g 0 x (O0b _ _ (by omega) x m) (by omega)
  have B:I0 (j1 g 0 x):=by
   rcases d02 g 0 x with⟨e,_⟩|e
   ·rw[e];decide
   ·obtain⟨f,C,D⟩:=c4.1 e
    have:=(O1 l).1 f C
    unfold I0
    rcases D with⟨_,_,_,q⟩|⟨_,_,_,q⟩<;>rw[q]<;>omega
  have I:=B0q h b s E p H (v:=v) t d (k+1) fuel (by omega) (by omega)
  have F:=R0a l (t v j)
  rw[K6.eq_2,if_pos (by simp only[decide_eq_true_eq];omega)]
  obtain⟨w,y,A⟩:=g
  simp only[B3 i,oB,G,J0 B]
  unfold t07 at a
  by_cases c:0<=j1 (w,y,A) 0 x
  ·rw[if_pos c]at a
   cases a
   rw[if_pos (by simp only[decide_eq_true_eq];exact c),F,oB]
   simp only
   rw[J0 (by simp only[List.length_singleton];omega),oB]
   exact⟨x,⟨y0q l m,by rw[U1 i];unfold M0g;rw[if_pos c]⟩,rfl⟩
  ·rw[if_neg c]at a
   rw[if_neg (by simp only[decide_eq_true_eq];exact c),A2 o (by omega)]
   obtain⟨z,⟨J,K⟩,L⟩:=I a j
   exact⟨z,⟨J,by rw[U1 i];unfold M0g;rw[if_neg c];exact K⟩,L⟩
theorem O0n(g:l0):x04 g=(decide (g.2.1>1)&&decide (((s00 0 g.2.2:Nat):Int)=1)):=by
 unfold x04
 congr 1
 exact decide_eq_decide.2 (by omega)
theorem C0q:∀(d:Nat) (g:l0) (k fuel:Nat) (p:List Int),L1 g=true->g.2.1<=(d:Int)+1->k+d<=40->d<fuel->p.length<=k->E9 p ->
  J6 fuel (k:Int) g.1 g.2.1 g.2.2 p=some ((N06 d g).1,(N06 d g).2.1,(N06 d g).2.2,p++y04 d g)/\(p++y04 d g).length<=40/\E9 (p++y04 d g)
 |d,g,k,0,p,h,K,I,hf,L,l=>by omega
 |d,g,k,fuel+1,p,h,K,I,hf,L,l=>by
  obtain⟨B,C,D⟩:=H8 h
  have i:=P0c g 0 (by omega)
  have b:=O0n g
  have w:=Y0i g.1.toNat (by omega)
  rw[show((g.1.toNat:Nat):Int)=g.1 by omega]at w
  have q:s00 0 g.2.2<=1000:=by
   have:∀ es:List Q0,s00 0 es<=2*es.length:=λes=>by
    induction es with
    |nil=>exact Nat.le_refl _
    |cons x r T =>
     simp only[s00,G0g,List.length_cons]
     split<;>split<;>omega
   have:=this g.2.2;omega
  have R:=H01 g.1.toNat 1
  have H:∀ u,t07 g (V4 g.1.toNat 1)=some u->x04 g=true->0<=u/\u<g.2.1:=λu j a=>by
   obtain⟨v,c,f,A⟩:=q0g h a
   rw[c]at j;cases j;exact f
  rw[J6.eq_2]
  cases a:x04 g
  ·have o:N06 d g=g:=by
    cases d with
    |zero=>rfl
    |succ d=>unfold N06;rw[a];rfl
   have n:y04 d g = []:=by
    cases d with
    |zero=>rfl
    |succ d=>unfold y04;rw[a];rfl
   rw[o,n,List.append_nil]
   obtain⟨E,e,F⟩:=g
   simp only at b i B C D q
   refine⟨?_,by omega,l⟩
   have t:(bif decide ((k:Int)<40)then decide (e>1)else false)=(decide ((k:Int)<40)&&decide (e>1)):=by cases decide ((k:Int)<40)<;>rfl
   rw[t]
   rw[a]at b
   cases hb:(decide ((k:Int)<40)&&decide (e>1))
   ·simp only[chk,cond_false,Bool.false_eq_true,if_false,oB]
    rw[J0 (by decide),oB]
   ·have G:decide (e>1)=true:=(Bool.and_eq_true_iff.1 hb).2
    simp only[chk,if_true,i,oB]
    rw[J0 (c64 (by omega) (by omega)),oB]
    rw[G,Bool.true_and]at b
    rw[←b]
    simp only[cond_true,Bool.false_eq_true,if_false]
  ·obtain⟨v,c,f,A⟩:=q0g h a
   have S:=T0a h a f A
   have J:=f03 (K5 h) f
   cases d with
   |zero =>
    exfalso
    unfold x04 at a
    simp only[Bool.and_eq_true,decide_eq_true_eq]at a
    omega
   |succ d =>
    obtain⟨x,⟨y,s⟩,m⟩:=A0q h (V4 g.1.toNat 1) (λx y=>y) (by omega) p (by omega) (v:=v) (λu j=>H u j a) (V4 g.1.toNat 1).length 0 P0 (by omega) (F1 (by omega)) (by rw[List.drop_zero];exact c) c
    obtain⟨N,O,P⟩:=C0q d (Z5 g v) (k+1) fuel (p ++ [x]) J (by omega) (by omega) (by omega) (by simp;omega) (r07 l λz Q=>by rw[List.mem_singleton.1 Q];exact y)
    rw[List.drop_zero]at s
    have M:j1 g 0 x=v:=by
     have:=c
     rw[E0m,s]at this
     exact oJ this
    have n:p++y04 (d+1) g=p ++ [x]++y04 d (Z5 g v):=by
     rw[y04,a,cond_true,s]
     simp only[M,List.append_assoc,List.singleton_append]
    have o:N06 (d+1) g=N06 d (Z5 g v):=by
     rw[N06,a,cond_true,c]
    rw[o,n]
    refine⟨?_,O,P⟩
    have t:decide ((k:Int)<40)=true:=decide_eq_true (by omega)
    rw[a]at b
    have b:=b.symm
    rw[Bool.and_eq_true]at b
    obtain⟨E,e,F⟩:=g
    simp only at b i w m ⊢
    rw[t,b.1]
    simp only[chk,cond_true,if_true,i,oB]
    rw[J0 (c64 (by simp only at q;omega) (by simp only at q;omega)),oB,b.2,if_pos rfl,w,oB]
    rw[show((0:Nat):Int)=0 from rfl]at m
    rw[m,oB]
    simp only
    rw[show IntKind.i64.wrap ((k:Int)+1)=((k+1:Nat):Int) from A2 (show k<41 by omega) (by omega)]
    exact N
theorem D0q:∀(d:Nat) (g:l0) (fuel:Nat) (p:List Int),L1 g=true->g.2.1<=(d:Int)+1->d<=40->d<fuel->p.length+d<=40->E9 p ->
  L6 fuel g.1 g.2.1 g.2.2 p=some ((N06 d g).1,(N06 d g).2.1,(N06 d g).2.2,p++y04 d g)/\(p++y04 d g).length<=40/\E9 (p++y04 d g)
 |d,g,0,p,h,H,F,hf,I,j=>by omega
 |d,g,fuel+1,p,h,H,F,hf,I,j=>by
  obtain⟨y,A,B⟩:=H8 h
  have f:=y0h g 0 (by omega)
  have b:=O0n g
  have q:=X0i g.1.toNat (by omega)
  rw[show((g.1.toNat:Nat):Int)=g.1 by omega]at q
  have n:s00 0 g.2.2<=1000:=by
   have:∀ es:List Q0,s00 0 es<=2*es.length:=λes=>by
    induction es with
    |nil=>exact Nat.le_refl _
    |cons x r Q =>
     simp only[s00,G0g,List.length_cons]
     split<;>split<;>omega
   have:=this g.2.2;omega
  have O:=H01 g.1.toNat 1
  have E:∀ u,t07 g (V4 g.1.toNat 1)=some u->x04 g=true->0<=u/\u<g.2.1:=λu i a=>by
   obtain⟨v,c,e,t⟩:=q0g h a
   rw[c]at i;cases i;exact e
  rw[L6.eq_2]
  cases a:x04 g
  ·have m:N06 d g=g:=by
    cases d with
    |zero=>rfl
    |succ d=>unfold N06;rw[a];rfl
   have l:y04 d g = []:=by
    cases d with
    |zero=>rfl
    |succ d=>unfold y04;rw[a];rfl
   rw[m,l,List.append_nil]
   obtain⟨C,w,D⟩:=g
   simp only at b f y A B n
   refine⟨?_,by omega,j⟩
   rw[a]at b
   cases hb2:decide (w>1)
   ·simp only[chk,cond_false,Bool.false_eq_true,if_false,oB]
    rw[J0 (by decide),oB]
   ·simp only[chk,if_true,f,oB]
    rw[J0 (c64 (by omega) (by omega)),oB]
    rw[hb2,Bool.true_and]at b
    rw[←b]
    simp only[cond_true,Bool.false_eq_true,if_false]
  ·obtain⟨v,c,e,t⟩:=q0g h a
   have P:=T0a h a e t
   have G:=f03 (K5 h) e
   cases d with
   |zero =>
    exfalso
    unfold x04 at a
    simp only[Bool.and_eq_true,decide_eq_true_eq]at a
    omega
   |succ d =>
    obtain⟨x,⟨s,o⟩,k⟩:=B0q h (V4 g.1.toNat 1) (λx s=>s) (by omega) p (by omega) (v:=v) (λu i=>E u i a) (V4 g.1.toNat 1).length 0 P0 (by omega) (F1 (by omega)) (by rw[List.drop_zero];exact c) c
    obtain⟨K,L,M⟩:=D0q d (Z5 g v) fuel (p ++ [x]) G (by omega) (by omega) (by omega) (by simp;omega) (r07 j λz N=>by rw[List.mem_singleton.1 N];exact s)
    rw[List.drop_zero]at o
    have J:j1 g 0 x=v:=by
     have:=c
     rw[E0m,o]at this
     exact oJ this
    have l:p++y04 (d+1) g=p ++ [x]++y04 d (Z5 g v):=by
     rw[y04,a,cond_true,o]
     simp only[J,List.append_assoc,List.singleton_append]
    have m:N06 (d+1) g=N06 d (Z5 g v):=by
     rw[N06,a,cond_true,c]
    rw[m,l]
    refine⟨?_,L,M⟩
    rw[a]at b
    have b:=b.symm
    rw[Bool.and_eq_true]at b
    obtain⟨C,w,D⟩:=g
    simp only at b f q k ⊢
    rw[b.1]
    simp only[chk,cond_true,if_true,f,oB]
    rw[J0 (c64 (by simp only at n;omega) (by simp only at n;omega)),oB,b.2,if_pos rfl,q,oB]
    rw[show((0:Nat):Int)=0 from rfl]at k
    rw[k,oB]
    exact K
theorem U0a(g:l0)(a:g.2.2.length<=140737488355328):L3 g=some (L1 g):=by
 unfold L3
 simp only[s05 g a,oB]
theorem c0i{g:l0}(h:L1 g=true):r9 g=some (m04 g,y04 40 g)/\(y04 40 g).length<=40/\E9 (y04 40 g):=by
 obtain⟨i,j,k⟩:=H8 h
 have e:=U0a g (by omega)
 have d:=v01 g (by omega)
 obtain⟨a,b,c⟩:=C0q 40 g 0 P0 [] h (by omega) (by omega) (F1 (by omega)) (Nat.le_refl _) (λx f=>nomatch f)
 rw[List.nil_append]at a b c
 refine⟨?_,b,c⟩
 unfold m04
 rw[h,cond_true]
 rw[show((0:Nat):Int)=0 from rfl]at a
 obtain⟨l,m,n⟩:=g
 unfold r9
 simp only at a
 simp only[e,h,d,oB,Bool.not_true,Bool.false_eq_true,if_false,a]
theorem d0i{g:l0}(h:L1 g=true):t9 g=some (m04 g,y04 40 g)/\(y04 40 g).length<=40/\E9 (y04 40 g):=by
 obtain⟨i,j,k⟩:=H8 h
 have e:=Y03 g (by omega)
 have d:=u04 g (by omega)
 obtain⟨a,b,c⟩:=D0q 40 g P0 [] h (by omega) (by omega) (F1 (by omega)) (by simp) (λx f=>nomatch f)
 rw[List.nil_append]at a b c
 refine⟨?_,b,c⟩
 unfold m04
 rw[h,cond_true]
 obtain⟨l,m,n⟩:=g
 unfold t9
 simp only at a
 simp only[e,h,d,oB,Bool.not_true,Bool.false_eq_true,if_false,a]
end Go.Proofs.YtmgikbbmpnbbjaaGreat
