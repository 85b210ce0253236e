/- Texts of the claim, joined: Plain laws: trimming and the core of a folded graph and others. -/
import Derived.Test.YtohcdjhocpakkaaGreatPart24
import Derived.Test.YtohcdjhocpakkaaGreatPart19
import Derived.Test.YtohcdjhocpakkaaGreatPart18
import Derived.Test.YtohcdjhocpakkaaGreatH36
import Derived.Test.YtohcdjhocpakkaaGreatH33
namespace Go.Proofs.YtohcdjhocpakkaaGreat
open Go.H
set_option linter.unusedVariables false
set_option linter.unusedSimpArgs false
theorem t0l(g:Nat):∀(d k:Nat) (x:Int),x∈wo g d k->∃ j:Nat,x=(j:Int)/\k<=j/\j<k+d
 |0,k,x,h=>nomatch h
 |d+1,k,x,h=>by
  unfold wo at h
  split at h
  ·obtain⟨j,a,b,c⟩:=t0l g d (k+1) x h
   exact⟨j,a,by omega,by omega⟩
  ·rcases List.mem_cons.1 h with rfl|h
   ·exact⟨k,rfl,Nat.le_refl _,by omega⟩
   ·obtain⟨j,a,b,c⟩:=t0l g d (k+1) x h
    exact⟨j,a,by omega,by omega⟩
theorem a08(g:Nat):∀(d k:Nat),(wo g d k).Nodup
 |0,k=>List.nodup_nil
 |d+1,k=>by
  unfold wo
  split
  ·exact a08 g d (k+1)
  ·refine List.nodup_cons.2 ⟨λh=>?_,a08 g d (k+1)⟩
   obtain⟨j,a,b,c⟩:=t0l g d (k+1) _ h
   omega
theorem O0e(P:List Int):∀(es:List J0),∀ e∈pE P es,∃ a∈es,e=(getI P a.1,a.2.1,getI P a.2.2)/\0<=getI P a.1/\0<=getI P a.2.2
 | [],e,h=>nomatch h
 |b::r,e,h=>by
  unfold pE at h
  cases hb:decide (0<=getI P b.1)&&decide (0<=getI P b.2.2)
  ·rw[hb]at h
   obtain⟨a,c,d⟩:=O0e P r e h
   exact⟨a,mC _ c,d⟩
  ·rw[hb]at h
   simp only[Bool.and_eq_true,decide_eq_true_eq]at hb
   rcases List.mem_cons.1 h with rfl|h
   ·exact⟨b,mS,rfl,hb.1,hb.2⟩
   ·obtain⟨a,c,d⟩:=O0e P r e h
    exact⟨a,mC _ c,d⟩
theorem B09{g:j0}{o:List Int}(f:O0 g=true)(b:inV g.2.1.toNat o)(p:1<=o.length)(q:o.length<=40):O0 (O8 g o)=true:=by
 obtain⟨k,l,t,u⟩:=B3 f
 have s:=S0h (plc g.2.1.toNat o) g.2.2
 refine O0a l ⟨by omega,by omega⟩ (by omega) λe d=>?_
 obtain⟨a,c,rfl,i,j⟩:=O0e _ _ e d
 have h:=k a c
 have m:=(w04 b (x:=a.1) (by omega)).2
 have n:=(w04 b (x:=a.2.2) (by omega)).2
 exact⟨⟨i,m⟩,⟨j,n⟩,h.2.2⟩
theorem P0e{n:Nat}:∀(o:List Int) (k:Nat) (A:List Int),A.length=n->inV n o->o.Nodup->(∀ x,0<=x->getI A x<(k:Int))->(∀ x a,0<=x->0<=a->0<=getI A x->getI A x=getI A a->x=a) ->
  ∀ x a,0<=x->0<=a->0<=getI (a01 A k o) x->getI (a01 A k o) x=getI (a01 A k o) a->x=a
 | [],k,A,i,g,j,d,f=>f
 |v::r,k,A,i,g,j,d,f=>by
  have hv:=g v mS
  refine P0e r (k+1) (A.set v.toNat (k:Int)) (by simp[i]) (λw l=>g w (mC _ l)) (List.nodup_cons.1 j).2 (λx c=>?_) (λx a c h h0 b=>?_)
  ·rw[O03 hv.1 (by omega) c]
   have:=d x c
   split<;>omega
  ·rw[O03 hv.1 (by omega) c]at h0 b
   rw[O03 hv.1 (by omega) h]at b
   have m:=d x c
   have p:=d a h
   by_cases c1:x=v
   ·by_cases c2:a=v
    ·rw[c1,c2]
    ·rw[if_pos c1,if_neg c2]at b;omega
   ·by_cases c2:a=v
    ·rw[if_neg c1,if_pos c2]at b;omega
    ·rw[if_neg c1]at h0;rw[if_neg c1,if_neg c2]at b
     exact f x a c h h0 b
theorem c0i{n:Nat}{o:List Int}(f:inV n o)(c:o.Nodup){x a:Int}(b:0<=x)(g:0<=a)(h0:0<=getI (plc n o) x)(d:getI (plc n o) x=getI (plc n o) a):x=a:=by
 refine P0e o 0 (List.replicate n (-1)) (by simp) f c (λx b=>by rw[W07];omega) (λx a _ _ h _=>by rw[W07]at h;omega) x a b g h0 d
theorem E0p{es:List J0}(h:es.Pairwise λa b=>a05 a b=false){a b:J0}(g:a∈es)(j:b∈es)(l:a≠b):a05 a b=false:=by
 induction es with
 |nil=>cases g
 |cons c r m =>
  obtain⟨f,k⟩:=List.pairwise_cons.1 h
  rcases List.mem_cons.1 g with rfl|i
  ·rcases List.mem_cons.1 j with rfl|d
   ·exact absurd rfl l
   ·exact f b d
  ·rcases List.mem_cons.1 j with rfl|d
   ·rw[L0b];exact f a i
   ·exact m k i d
theorem j0r{es:List J0}(i:Asc P0 es)(h:∀ a∈es,∀ b∈es,a≠b->a05 a b=false):es.Pairwise λa b=>a05 a b=false:=by
 induction es with
 |nil=>exact .nil
 |cons c r k =>
  obtain⟨f,g⟩:=List.pairwise_cons.1 i
  refine List.pairwise_cons.2 ⟨λb d=>h c mS b (mC _ d) λe=>?_,k g λa j b d=>h a (mC _ j) b (mC _ d)⟩
  have:=f b d
  rw[e,Y3.refl]at this;omega
theorem T0b{g:j0}(c:O0 g=true):Z0 g=true↔∀ a∈g.2.2,∀ b∈g.2.2,a≠b->a05 a b=false:=by
 rw[L0e,S0b]
 exact⟨λh a d b f i=>E0p h.2 d f i,λh=>⟨c,j0r (graph_asc' c) h⟩⟩
where graph_asc' {g:j0} (h:O0 g=true):Asc P0 g.2.2:=((P02 g).1 h).2.2.2.2
theorem b08{g:j0}{o:List Int}(hf:Z0 g=true)(j:inV g.2.1.toNat o)(m:o.Nodup)(s:1<=o.length)(t:o.length<=40):Z0 (O8 g o)=true:=by
 have i:=w7 hf
 obtain⟨n,G,H,I⟩:=B3 i
 refine(T0b (B09 i j s t)).2 λa u b v z=>?_
 have mem:∀ e∈(O8 g o).2.2,∃ a∈g.2.2,e=(getI (plc g.2.1.toNat o) a.1,a.2.1,getI (plc g.2.1.toNat o) a.2.2)/\0<=getI (plc g.2.1.toNat o) a.1/\0<=getI (plc g.2.1.toNat o) a.2.2:=λe y=>by
  rcases(D4 Y3 e _ _).1 y with h|h
  ·cases h
  ·exact O0e _ _ e h
 obtain⟨d,k,rfl,C,D⟩:=mem a u
 obtain⟨f,l,rfl,E,F⟩:=mem b v
 have A:d≠f:=λe=>z (by rw[e])
 have c:=(T0b i).1 hf d k f l A
 have p:=n d k
 have q:=n f l
 unfold a05 at c ⊢
 simp only[Bool.and_eq_false_iff,Bool.or_eq_false_iff,decide_eq_false_iff_not]at c ⊢
 rcases c with c|⟨w,x⟩
 ·exact .inl c
 ·exact .inr ⟨λe=>w (c0i j m p.1.1 q.1.1 C e),λe=>x (c0i j m p.2.1.1 q.2.1.1 D e)⟩
def t00:Nat->j0->j0
 |0,g=>g
 |d+1,g=>match d00 g with
  |none=>g
  |some k=>t00 d (O8 g (wo k g.2.1.toNat 0))
theorem r0d{g:j0}{k:Nat}(h:d00 g=some k):1<=k/\k<g.2.1.toNat:=by
 have:=X07 _ _ _ h
 omega
theorem z08{g:j0}(b:O0 g=true){k:Nat}(h:d00 g=some k):inV g.2.1.toNat (wo k g.2.1.toNat 0)/\(wo k g.2.1.toNat 0).length=g.2.1.toNat-1/\1<=(wo k g.2.1.toNat 0).length/\(wo k g.2.1.toNat 0).length<=40:=by
 obtain⟨d,f,i,j⟩:=B3 b
 have c:=r0d h
 have a:=V0h k g.2.1.toNat 0
 rw[if_pos (by omega)]at a
 exact⟨F0m k _ _ 0 (by omega),a,by omega,by omega⟩
theorem n04:∀(d:Nat) {g:j0},Z0 g=true->Z0 (t00 d g)=true
 |0,g,h=>h
 |d+1,g,h=>by
  unfold t00
  cases e:d00 g with
  |none=>exact h
  |some k =>
   obtain⟨a,f,b,c⟩:=z08 (w7 h) e
   exact n04 d (b08 h a (a08 _ _ _) b c)
theorem Q0e(n g:Nat)(i:n<=1000)(u:List Int)(j:u.length=n):∀(d k fuel:Nat) (acc a:List Int),k+d=n->d<fuel->acc.length<=k->a.length<=k ->
  ∃ v,H5 (n:Int) (g:Int) u fuel (k:Int) acc a=some (acc++wo g d k,v)/\v.length+acc.length=a.length+(acc++wo g d k).length
 |d,k,0,acc,a,h,hf,b,f=>by omega
 |0,k,fuel+1,acc,a,h,hf,b,f=>by
  rw[H5.eq_2,if_neg (by simp;omega)];exact⟨a,by simp[wo],by simp[wo]⟩
 |d+1,k,fuel+1,acc,a,h,hf,b,f=>by
  have l:=d5 (show k<u.length by omega)
  generalize u[k]=x at l
  rw[H5.eq_2,if_pos (by simp;omega),C2 (show k<10000 by omega) (by omega)]
  unfold wo
  by_cases c:k=g
  ·have e:decide ((k:Int)=(g:Int))=true:=decide_eq_true (by omega)
   rw[e,if_neg (by simp),if_pos c]
   exact Q0e n g i u j d (k+1) fuel acc a (by omega) (by omega) (by omega) (by omega)
  ·have e:decide ((k:Int)=(g:Int))=false:=decide_eq_false (by omega)
   rw[e,if_pos (show(!false)=true from rfl),if_neg c,F0 (by simp;omega),oB,V1 l,oB,F0 (by simp;omega),oB]
   obtain⟨v,m,o⟩:=Q0e n g i u j d (k+1) fuel (acc ++ [(k:Int)]) (a ++ [x]) (by omega) (by omega) (by simp;omega) (by simp;omega)
   refine⟨v,by rw[m];simp,?_⟩
   simp only[List.length_append,List.length_cons,List.length_nil]at o ⊢
   omega
theorem U0j(g:j0)(a:O0 g=true):∀(d k fuel:Nat) (acc:List Int),k+d=g.2.1.toNat->d<fuel->acc.length=k ->
  ∃ u,o6 g.2.1 g.1 g.2.2 fuel (k:Int) acc=some u/\u.length=g.2.1.toNat
 |d,k,0,acc,c,hf,b=>by omega
 |0,k,fuel+1,acc,c,hf,b=>by
  obtain⟨i,j,l,m⟩:=B3 a
  rw[o6.eq_2,show decide (((k:Nat):Int)<g.2.1)=false by simp;omega]
  exact⟨acc,by simp[chk],by omega⟩
 |d+1,k,fuel+1,acc,c,hf,b=>by
  obtain⟨i,j,l,m⟩:=B3 a
  obtain⟨u,f,h⟩:=U0j g a d (k+1) fuel (acc ++ [(k:Int)]) (by omega) (by omega) (by simp;omega)
  rw[o6.eq_2,show decide (((k:Nat):Int)<g.2.1)=true by simp;omega,Z2,show(g.1,g.2.1,g.2.2)=g from rfl,G8 g (by omega),oB,a]
  rw[if_pos (show(bif true then true else false)=true from rfl),F0 (by simp;omega),oB,C2 (show k<1000 by omega) (by omega),f]
  exact⟨u,rfl,h⟩
theorem V0j(h:j0)(o:O0 h=true):∀(d k fuel:Nat) (g:j0) (u:List Int),k+d=40->d<fuel->O0 g=true->u.length=g.2.1.toNat->g.2.1.toNat<=d+1 ->
  ∃ v,(l6 h.1 h.2.1 h.2.2 fuel u (k:Int) g.1 g.2.1 g.2.2).bind (λX=>t7 X (λy=>match y with|(a,b,c,e)=>some ((b,c,e),a)))=some (t00 d g,v)
 |d,k,0,g,u,s,hf,i,x,t=>by omega
 |0,k,fuel+1,g,u,s,hf,i,x,t=>by
  rw[l6.eq_2,show decide (((k:Nat):Int)<40)=false by simp;omega]
  exact⟨u,by simp[chk,t7,t00]⟩
 |d+1,k,fuel+1,g,u,s,hf,i,x,t=>by
  obtain⟨I,J,K,p4⟩:=B3 o
  obtain⟨L,M,N,O⟩:=B3 i
  have D:=A0p g i
  rw[l6.eq_2,show decide (((k:Nat):Int)<40)=true by simp;omega,Z2,show(h.1,h.2.1,h.2.2)=h from rfl,G8 h (by omega),oB,o]
  rw[if_pos (show(bif true then true else false)=true from rfl),show(g.1,g.2.1,g.2.2)=g from rfl,D]
  unfold t00
  cases e:d00 g with
  |none =>
   simp only[oB]
   rw[F0 (show K0 (-1) from⟨by omega,by omega⟩),oB,if_pos (by simp)]
   exact⟨u,rfl⟩
  |some j =>
   obtain⟨p,A,n,C⟩:=z08 i e
   have H:=r0d e
   obtain⟨f,m⟩:∃ f:Nat,g.2.1=(f:Int):=⟨g.2.1.toNat,by omega⟩
   have l:g.2.1.toNat=f:=by omega
   obtain⟨v,F,G⟩:=Q0e f j (by omega) u (by omega) f 0 Q0 [] [] (by omega) (j1 (by omega)) (Nat.le_refl _) (Nat.le_refl _)
   have w:=G0e g.1 f g.2.2 (wo j f 0) (by rw[←m];exact i) (by rw[←l];exact p) (a08 _ _ _) (by rw[←l];exact n) (by rw[←l];omega)
   rw[←m,show(g.1,g.2.1,g.2.2)=g from rfl]at w
   have q:=B09 i p n C
   rw[l]at q A n
   obtain⟨E,z⟩:=V0j h o d (k+1) fuel (O8 g (wo j f 0)) v (by omega) (by omega) q (by simp only[List.nil_append,List.length_nil]at G;show v.length=((wo j f 0).length:Int).toNat;omega) (by show((wo j f 0).length:Int).toNat<=d+1;omega)
   simp only[oB]
   rw[F0 (show K0 ((j:Nat):Int) from⟨by omega,by omega⟩),oB,if_neg (by simp),m,show(0:Int)=((0:Nat):Int) from rfl,F]
   simp only[oB,List.nil_append]
   rw[←m,w]
   simp only[oB]
   rw[C2 (show k<1000 by omega) (by omega),l]
   exact⟨E,z⟩
def c08(g:j0):j0:=t00 40 g
theorem u0l{g:j0}(a:O0 g=true):∃ v,N00 g=some (c08 g,v):=by
 obtain⟨h,i,j,k⟩:=B3 a
 have f:=T06 g (by omega)
 obtain⟨u,b,d⟩:=U0j g a g.2.1.toNat 0 Q0 [] (by omega) (j1 (by omega)) rfl
 obtain⟨v,c⟩:=V0j g a 40 0 Q0 g u rfl (j1 (by omega)) a d (by omega)
 refine⟨v,?_⟩
 obtain⟨r,n,es⟩:=g
 unfold N00
 simp only[f,oB]
 simp only at b c
 rw[show(0:Int)=((0:Nat):Int) from rfl,b,oB]
 exact c
theorem W0j:∀(n fuel d:Nat) (left:List Int) (r:Int) (es:List J0),1<=n->n<=40->inN n es->es.length<=120->left.length=n->n<fuel->n<=d+1 ->
  ∃ j,G5 fuel left r (n:Int) es=some (.inl (t00 d (r,(n:Int),es),j))
 |n,0,d,left,r,es,l,m,b,D,E,hf,C=>by omega
 |n,fuel+1,d,left,r,es,l,m,b,D,E,hf,C=>by
  obtain⟨c,y,I,z⟩:=E0j r n es b (by omega) l (by omega)
  have u:=U0h r n es (by omega) c I m (n-1) 1 Q0 (Nat.le_refl _) (by omega) (by omega) (j1 (by omega))
  have A:lf (λv=>decide (X03 (v:Int) es<2) || !C9 c (v:Int)) (n-1) 1=lf (M0a es) (n-1) 1:=K0e _ _ λk K L=>by
   unfold M0a
   have:=z (k:Int) (by omega) (by omega)
   have o:=J0a es 0 (k:Int)
   congr 2
   cases hb:C9 c (k:Int)
   ·symm;exact decide_eq_false λh=>by rw[this.2 (o.1 h)]at hb;cases hb
   ·symm;exact decide_eq_true (o.2 (this.1 hb))
  rw[A]at u
  have p:d00 (r,(n:Int),es)=lf (M0a es) (n-1) 1:=by simp only[d00,Int.toNat_natCast]
  rw[G5.eq_2,y,oB,show(1:Int)=((1:Nat):Int) from rfl,u,oB]
  cases hlf:lf (M0a es) (n-1) 1 with
  |none =>
   have f:t00 d (r,(n:Int),es)=(r,(n:Int),es):=by
    cases d with
    |zero=>rfl
    |succ d=>unfold t00;rw[p,hlf]
   rw[f]
   exact⟨left,by rw[if_pos (by rfl)]⟩
  |some k =>
   have J:=X07 _ _ _ hlf
   have x:decide ((k:Int)=0)=false:=decide_eq_false (by omega)
   have q:=F0m k n n 0 (by omega)
   have i:=V0h k n 0
   rw[if_pos (by omega)]at i
   have t:=W0h n k (by omega) n 0 Q0 [] (by omega) (j1 (by omega)) (Nat.le_refl _)
   rw[show((0:Nat):Int)=0 from rfl,List.nil_append]at t
   have F:=p0l r n es (wo k n 0) b q (by omega) (by omega) (by omega)
   have G:=y09 (r,(n:Int),es) (wo k n 0)
   have s:=B0g (r:=r) q b
   have H:IntKind.i64.wrap ((k:Int)+((1:Nat):Int))=((k+1:Nat):Int):=by rw[w64 (by omega) (by omega)];rfl
   obtain⟨a,rfl⟩:∃ a,d=a+1:=⟨d-1,by omega⟩
   have g:O8 (r,(n:Int),es) (wo k n 0)=(r,((n-1:Nat):Int),(O8 (r,(n:Int),es) (wo k n 0)).2.2):=by rw[←i];rfl
   obtain⟨j,w⟩:=W0j (n-1) fuel a (left.take k++left.drop (k+1)) r (O8 (r,(n:Int),es) (wo k n 0)).2.2 (by omega) (by omega) (by rw[i]at s;exact s) (by simp only at G;omega) (by simp only[List.length_append,List.length_take,List.length_drop];omega) (by omega) (by omega)
   refine⟨j,?_⟩
   rw[←g]at w
   have f:t00 (a+1) (r,(n:Int),es)=t00 a (O8 (r,(n:Int),es) (wo k n 0)):=by
    show(match d00 (r,(n:Int),es)with|none=>(r,(n:Int),es)|some k=>t00 a (O8 (r,(n:Int),es) (wo k ((n:Int)).toNat 0)))=_
    rw[p,hlf,Int.toNat_natCast]
   rw[f]
   simp only[x,Bool.false_eq_true,if_false,t,oB,F]
   generalize O8 (r,(n:Int),es) (wo k n 0)=gp at *
   rw[g]
   simp only[H]
   rw[P03 (by omega),oB,v03 (by omega),oB,F0 (by simp only[List.length_take,List.length_drop];omega),oB,w,←g]
theorem X0j{g:j0}(h:O0 g=true):∃ v,H7 g=some (c08 g,v):=by
 obtain⟨c,j,k,d⟩:=B3 h
 have o:=x01 g (by omega)
 have l:=w03 g (by omega)
 obtain⟨r,n,es⟩:=g
 simp only at j k d
 obtain⟨a,rfl⟩:∃ a:Nat,n=(a:Int):=⟨n.toNat,by omega⟩
 have m:inN a es:=λe f=>⟨(c e f).1,(c e f).2.1⟩
 obtain⟨u,b,i⟩:=X0h a (by omega) a 0 Q0 [] (by omega) (j1 (by omega)) rfl
 obtain⟨p,q⟩:=W0j a Q0 40 u r es (by omega) (by omega) m d i (j1 (by omega)) (by omega)
 refine⟨p,?_⟩
 unfold H7
 rw[show((0:Nat):Int)=0 from rfl]at b
 simp only[l,oB,o,h,Bool.not_true,Bool.false_eq_true,if_false,b,q,t7]
 rfl
def C09(g:j0):j0:=c03 (c08 g)
theorem F0p{a r u x v:Int}(b:0<=u/\u<a)(hv:0<=v/\v<a)(c:x≠0 /\ -r<=x/\x<=r):(0<=(stp u x v).1/\(stp u x v).1<a)/\(0<=(stp u x v).2.2/\(stp u x v).2.2<a)/\1<=(stp u x v).2.1/\(stp u x v).2.1<=r:=by
 unfold stp
 split<;>(simp only;omega)
theorem Y0j{b r v:Int}(hv:0<=v/\v<b):∀(w:List Int) (u n:Int),(0<=u/\u<b)->0<=n->n+((w.length-1:Nat):Int)<=b->(∀ x∈w,x≠0 /\ -r<=x/\x<=r) ->
  ∀ e∈p8 v w u n,(0<=e.1/\e.1<b)/\(0<=e.2.2/\e.2.2<b)/\1<=e.2.1/\e.2.1<=r
 | [],u,n,d,h0,f,c,e,a=>nomatch a
 | [x],u,n,d,h0,f,c,e,a=>by
  simp only[p8,List.mem_singleton]at a
  subst a
  exact F0p d hv (c x mS)
 |x::h::l,u,n,d,h0,f,c,e,a=>by
  simp only[List.length_cons]at f
  simp only[p8]at a
  rcases List.mem_cons.1 a with rfl|a
  ·exact F0p d ⟨h0,by omega⟩ (c x mS)
  ·exact Y0j hv (h::l) n (n+1) ⟨h0,by omega⟩ (by omega) (by simp only[List.length_cons];omega) (λz g=>c z (mC _ g)) e a
theorem y01{g:j0}{u v:Int}{w:List Int}(b:O0 g=true)(o:0<=u/\u<g.2.1)(hv:0<=v/\v<g.2.1)(c:I3 g.1 w=true):O0 (O1 g u w v).1=true:=by
 obtain⟨f,i,p,q,j⟩:=(P02 g).1 b
 obtain⟨wl,k⟩:=i02 c
 unfold O1
 cases hc:(!w.isEmpty&&decide (g.2.1+(w.length:Int)-1<=40)&&decide (g.2.2.length+w.length<=120))with
 |false=>exact b
 |true =>
  simp only[Bool.and_eq_true,decide_eq_true_eq,Bool.not_eq_true',List.isEmpty_eq_false_iff]at hc
  have n:1<=w.length:=by
   have:=List.length_pos_iff.2 hc.1.1;omega
  have l:=O02 (p8 v w u g.2.1) g.2.2
  have m:=x04 v w u g.2.1
  simp only[cond_true]
  refine(P02 _).2 ⟨λe a=>?_,i,⟨by simp only;omega,by simp only;omega⟩,by simp only;omega,N01 Y3 _ _ j⟩
  simp only at a ⊢
  rcases(D4 Y3 e _ _).1 a with h|h
  ·have:=f e h
   omega
  ·exact Y0j ⟨by omega,by omega⟩ w u g.2.1 ⟨by omega,by omega⟩ (by omega) (iR _) (λx d=>(k x d).2) e h
theorem c01(g:j0)(u:Int)(w:List Int)(v:Int):(O1 g u w v).1.1=g.1:=by
 unfold O1
 cases (!w.isEmpty&&decide (g.2.1+(w.length:Int)-1<=40)&&decide (g.2.2.length+w.length<=120))<;>rfl
def L5:List (List Int)->j0->j0
 | [],g=>g
 |w::r,g=>L5 r (O1 g 0 w 0).1
theorem J0c:∀(c:List (List Int)) {g:j0},O0 g=true->(∀ w∈c,I3 g.1 w=true)->O0 (L5 c g)=true
 | [],g,a,b=>a
 |w::r,g,a,b=>by
  obtain⟨h,i,j,k⟩:=B3 a
  exact J0c r (y01 a ⟨iR _,by omega⟩ ⟨iR _,by omega⟩ (b w mS)) λf d=>by
   rw[c01];exact b f (mC _ d)
theorem Z0j{g:j0}{w:List Int}(a:O0 g=true)(b:I3 g.1 w=true):k01 g w=some (O1 g 0 w 0):=by
 obtain⟨c,d,f,i⟩:=B3 a
 have h:=G0f a (u:=0) (v:=0) ⟨iR _,by omega⟩ ⟨iR _,by omega⟩ b
 obtain⟨r,n,es⟩:=g
 unfold k01
 simp only[h,oB]
theorem a0k{g:j0}{w:List Int}(a:O0 g=true)(b:I3 g.1 w=true):o01 g w=some (O1 g 0 w 0):=by
 obtain⟨c,d,f,i⟩:=B3 a
 have h:=H0f a (u:=0) (v:=0) ⟨iR _,by omega⟩ ⟨iR _,by omega⟩ b
 obtain⟨r,n,es⟩:=g
 unfold o01
 simp only[h,oB]
theorem I0g(a:List (List Int))(l:a.length<=1000):∀(d k fuel:Nat) (g:j0),k+d=a.length->d<fuel->O0 g=true->(∀ w∈a,I3 g.1 w=true) ->
  W6 a fuel (k:Int) g.1 g.2.1 g.2.2=some (L5 (a.drop k) g)
 |d,k,0,g,j,hf,b,c=>by omega
 |0,k,fuel+1,g,j,hf,b,c=>by
  rw[W6.eq_2,if_neg (by simp;omega),I1 (by omega)];rfl
 |d+1,k,fuel+1,g,j,hf,b,c=>by
  have f:k<a.length:=by omega
  have i:=d5 f
  have h:=c _ (List.getElem_mem f)
  generalize a[k]=w at i h
  obtain⟨n,o,p,q⟩:=B3 b
  have m:=I0g a l d (k+1) fuel (O1 g 0 w 0).1 (by omega) (by omega) (y01 b ⟨iR _,by omega⟩ ⟨iR _,by omega⟩ h) (by rw[c01];exact c)
  rw[W6.eq_2,if_pos (by simp;omega),V1 i,oB,show(g.1,g.2.1,g.2.2)=g from rfl,Z0j b h,oB,C2 f (by omega),K1 i]
  exact m
theorem J0g(a:List (List Int))(n:a.length<=1000):∀(d k fuel:Nat) (g:j0),k+d=a.length->d<fuel->O0 g=true->(∀ w∈a,I3 g.1 w=true) ->
  W5 a fuel (k:Int) g.1 g.2.1 g.2.2=some (L5 (a.drop k) g)
 |d,k,0,g,m,hf,b,f=>by omega
 |0,k,fuel+1,g,m,hf,b,f=>by
  rw[W5.eq_2,if_neg (by simp;omega),I1 (by omega)];rfl
 |d+1,k,fuel+1,g,m,hf,b,f=>by
  have h:k<a.length:=by omega
  have j:=d5 h
  have i:=f _ (List.getElem_mem h)
  generalize a[k]=w at j i
  obtain⟨o,p,q,s⟩:=B3 b
  have l:=J0g a n d (k+1) fuel (O1 g 0 w 0).1 (by omega) (by omega) (y01 b ⟨iR _,by omega⟩ ⟨iR _,by omega⟩ i) (by rw[c01];exact f)
  rw[W5.eq_2,if_pos (by simp;omega),V1 j,oB,C2 h (by omega),K1 j]
  by_cases c:w = []
  ·subst c
   rw[if_neg (by simp)]
   have e:(O1 g 0 [] 0).1=g:=rfl
   rw[e]at l
   rw[l]
   show _=some (L5 (a.drop (k+1)) (O1 g 0 [] 0).1)
   rw[e]
  ·have:0<w.length:=List.length_pos_iff.2 c
   rw[if_pos (by simp;omega),show(g.1,g.2.1,g.2.2)=g from rfl,a0k b i,oB]
   exact l
def n06(r:Int)(a:List (List Int)):j0×Bool:=bif N2 r a then(L5 a (r,1,[]),true)else((0,0,[]),false)
theorem Q00{r:Int}{a:List (List Int)}(h:N2 r a=true):(1<=r/\r<=3)/\a.length<=6/\∀ w∈a,I3 r w=true:=by
 simp only[N2,inR,Bool.and_eq_true,decide_eq_true_eq]at h
 refine⟨h.1.1.1,h.1.1.2,?_⟩
 have b:∀ {a:List (List Int)},W04 r a=true->∀ w∈a,I3 r w=true:=by
  intro a
  induction a with
  |nil=>intro _ w b;cases b
  |cons v l c =>
   intro h w b
   simp only[W04,Bool.and_eq_true]at h
   rcases List.mem_cons.1 b with rfl|b
   ·exact h.1
   ·exact c h.2 w b
 exact b h.1.2
theorem y04{r:Int}(b:1<=r/\r<=3):O0 (r,1,[])=true:=(P02 _).2 ⟨(λe a=>by cases a),b,⟨by simp,by simp⟩,by simp,List.Pairwise.nil⟩
theorem d0i(r:Int)(a:List (List Int))(d:a.length<=140737488355328)(g:S3 a):l01 r a=some (n06 r a):=by
 have b:=S07 r a d g
 unfold l01 n06
 rw[b,oB]
 cases hA:N2 r a with
 |false=>rfl
 |true =>
  obtain⟨f,j,i⟩:=Q00 hA
  have h:=I0g a (by omega) a.length 0 Q0 (r,1,[]) (by omega) (j1 (by omega)) (y04 f) i
  have c:j01 r=some ((r,1,[]),true):=by
   unfold j01
   rw[M00,oB,if_neg (by simp[inR];omega)]
  rw[if_neg (by simp),c,oB]
  simp only[]at h ⊢
  rw[show(0:Int)=((0:Nat):Int) from rfl,h]
  rfl
theorem e0i(r:Int)(a:List (List Int))(d:a.length<=140737488355328)(g:S3 a):p01 r a=some (n06 r a):=by
 have b:=T07 r a d g
 unfold p01 n06
 rw[b,oB]
 cases hA:N2 r a with
 |false=>rfl
 |true =>
  obtain⟨f,j,i⟩:=Q00 hA
  have h:=J0g a (by omega) a.length 0 Q0 (r,1,[]) (by omega) (j1 (by omega)) (y04 f) i
  have c:n01 r=some ((r,1,[]),true):=by
   unfold n01
   rw[U7,oB,if_neg (by simp[inR];omega)]
  rw[if_neg (by simp),c,oB]
  simp only[]at h ⊢
  rw[show(0:Int)=((0:Nat):Int) from rfl,h]
  rfl
theorem R0e:∀(d:Nat) {g:j0},O0 g=true->g.2.1.toNat<=d+1->d00 (t00 d g)=none
 |0,g,a,h=>by
  cases e:d00 g with
  |none=>exact e
  |some k=>have:=r0d e;omega
 |d+1,g,a,h=>by
  unfold t00
  cases e:d00 g with
  |none=>exact e
  |some k =>
   obtain⟨b,i,c,f⟩:=z08 a e
   exact R0e d (B09 a b c f) (by show(((wo k g.2.1.toNat 0).length:Nat):Int).toNat<=d+1;omega)
theorem V0n{g:j0}(hf:Z0 g=true){v x n z:Int}(s:n∈O9 v x g.2.2)(t:z∈O9 v x g.2.2):n=z:=by
 obtain⟨e,p,l⟩:=i6.1 s
 obtain⟨k,q,m⟩:=i6.1 t
 by_cases hne:e=k
 ·subst hne
  rcases l with⟨a,b,c,rfl⟩|⟨a,b,c,rfl⟩<;>rcases m with⟨h,i,j,rfl⟩|⟨h,i,j,rfl⟩<;>first|rfl|omega
 ·have f:=(T0b (w7 hf)).1 hf e p k q hne
  unfold a05 at f
  simp only[Bool.and_eq_false_iff,Bool.or_eq_false_iff,decide_eq_false_iff_not]at f
  rcases l with⟨a,b,c,d⟩|⟨a,b,c,d⟩<;>rcases m with⟨h,i,j,o⟩|⟨h,i,j,o⟩<;>first|omega|(exfalso;rcases f with f|⟨u,w⟩<;>omega)
theorem c05(g:j0)(v x:Int):(C1 g v x = -1/\O9 v x g.2.2 = [])∨C1 g v x∈O9 v x g.2.2:=by
 unfold C1
 cases e:C02 g v x with
 |nil =>
  left
  refine⟨rfl,List.eq_nil_iff_forall_not_mem.2 λb c=>?_⟩
  have:b∈C02 g v x:=(D4 L8 b _ _).2 (.inr c)
  rw[e]at this;cases this
 |cons a l=>exact .inr (t0g (by rw[e];exact mS))
theorem V06{g:j0}(hf:Z0 g=true){v x b:Int}(a:b∈O9 v x g.2.2):C1 g v x=b:=by
 rcases c05 g v x with⟨_,h⟩|h
 ·rw[h]at a;cases a
 ·exact V0n hf h a
theorem b0k:∀(d i j:Nat),i<=j->j<i+d->(j:Int)∈b01 d i /\ -(j:Int)∈b01 d i
 |0,i,j,f,g=>by omega
 |d+1,i,j,f,g=>by
  simp only[b01,List.mem_cons]
  by_cases c:j=i
  ·subst c;simp
  ·obtain⟨a,b⟩:=b0k d (i+1) j (by omega) (by omega)
   exact⟨.inr (.inr a),.inr (.inr b)⟩
theorem K0g(g:j0)(v:Int):∀(b u:List Int) (x:Int),x∈b->0<=C1 g v x->C1 g v x∈c04 g v b u
 |c::r,u,x,a,h0=>by
  rw[c04]
  rcases List.mem_cons.1 a with rfl|a
  ·obtain⟨t,e⟩:=x03 g v r (z09 u (C1 g v x))
   rw[e]
   refine List.mem_append_left _ ?_
   unfold z09
   split
   ·exact List.mem_append_right _ (List.mem_singleton.2 rfl)
   ·rename_i h
    by_cases hm:C1 g v x∈u
    ·exact hm
    ·exact absurd ⟨h0,hm⟩ h
  ·exact K0g g v r _ x a h0
theorem S0e(g:j0)(a:List Int):∀(f i:Nat) (u:List Int),∃ t,E00 g a f i u=u++t
 |0,i,u=>⟨[],by simp[E00]⟩
 |f+1,i,u=>by
  unfold E00
  split
  ·rename_i v _
   obtain⟨d,b⟩:=x03 g v a u
   obtain⟨h,c⟩:=S0e g a f (i+1) (c04 g v a u)
   exact⟨d++h,by rw[c,b,List.append_assoc]⟩
  ·exact⟨[],by simp⟩
theorem T0e{r:Int}{n:Nat}{es:List J0}(l:inG (r,(n:Int),es))(a:List Int):∀(f i:Nat) (u:List Int),gud n u->n+1<=f+i->i<=u.length ->
  (∀ j,j<i->∀ v,u[j]?=some v->∀ x∈a,0<=C1 (r,(n:Int),es) v x->C1 (r,(n:Int),es) v x∈u) ->
  ∀ v∈E00 (r,(n:Int),es) a f i u,∀ x∈a,0<=C1 (r,(n:Int),es) v x->C1 (r,(n:Int),es) v x∈E00 (r,(n:Int),es) a f i u
 |0,i,u,d,p,m,h=>by have:=Y03 n u d.1 d.2;omega
 |f+1,i,u,d,p,m,h=>by
  unfold E00
  cases e:u[i]? with
  |none =>
   have:i=u.length:=by have:=List.getElem?_eq_none_iff.1 e;omega
   show ∀ v∈u,∀ x∈a,0<=C1 (r,(n:Int),es) v x->C1 (r,(n:Int),es) v x∈u
   intro v hv x g h0
   obtain⟨j,k⟩:=List.getElem?_of_mem hv
   exact h j (by have:=(List.getElem?_eq_some_iff.1 k).1;omega) v k x g h0
  |some w =>
   have o:=(List.getElem?_eq_some_iff.1 e).1
   obtain⟨t,b⟩:=x03 (r,(n:Int),es) w a u
   refine T0e l a f (i+1) _ (l06 l w a u d) (by omega) (by rw[b,List.length_append];omega) λj k v hv x g h0=>?_
   by_cases c:j=i
   ·subst c
    rw[b,List.getElem?_append_left o,e]at hv
    cases hv
    exact K0g _ _ a u x g h0
   ·rw[b,List.getElem?_append_left (by omega)]at hv
    rw[b]
    exact List.mem_append_left _ (h j (by omega) v hv x g h0)
theorem U0e(g:j0):∃ t,q00 g=0::t:=by
 obtain⟨t,e⟩:=S0e g (b01 g.1.toNat 1) (g.2.1.toNat+1) 0 [0]
 exact⟨t,e⟩
theorem c0k{g:j0}(hf:Z0 g=true){x:Int}(h:Rch g.2.2 0 x):x∈q00 g:=by
 obtain⟨m,q,s,w⟩:=j4 hf
 have o:=U0e g
 have d:∀ v∈q00 g,∀ x∈b01 g.1.toNat 1,0<=C1 g v x->C1 g v x∈q00 g:=by
  obtain⟨r,n,es⟩:=g
  simp only at q s
  obtain⟨a,rfl⟩:∃ a:Nat,n=(a:Int):=⟨n.toNat,by omega⟩
  exact T0e m _ (((a:Int)).toNat+1) 0 [0] ⟨by simp,λx i=>by simp at i;subst i;omega⟩ (by simp only[Int.toNat_natCast];omega) (Nat.zero_le _) (λj f=>by omega)
 refine Rch.sub (P:=λx=>x∈q00 g) ?_ (λe c=>?_) h
 ·obtain⟨t,e⟩:=o
  rw[e];exact mS
 ·have u:=m e c
  obtain⟨j,f⟩:∃ j:Nat,e.2.1=(j:Int):=⟨e.2.1.toNat,by omega⟩
  obtain⟨l1,p⟩:=b0k g.1.toNat 1 j (by omega) (by omega)
  have k:C1 g e.1 (j:Int)=e.2.2:=V06 hf (i6.2 ⟨e,c,.inl ⟨by omega,f,rfl,rfl⟩⟩)
  have l:C1 g e.2.2 (-(j:Int))=e.1:=V06 hf (i6.2 ⟨e,c,.inr ⟨by omega,by omega,rfl,rfl⟩⟩)
  constructor
  ·intro b
   have:=d e.1 b (j:Int) l1 (by rw[k];omega)
   rwa [k]at this
  ·intro b
   have:=d e.2.2 b (-(j:Int)) p (by rw[l];omega)
   rwa [l]at this
theorem f0i{bad:Nat->Bool}:∀ {d v:Nat},lf bad d v=none->∀ k,v<=k->k<v+d->bad k=false
 |0,v,h,k,a,b=>by omega
 |d+1,v,h,k,a,b=>by
  unfold lf at h
  cases hb:bad v with
  |true=>rw[hb]at h;cases h
  |false =>
   rw[hb]at h
   by_cases c:k=v
   ·rw[c];exact hb
   ·exact f0i (d:=d) (v:=v+1) h k (by omega) (by omega)
theorem W0n{g:j0}(hf:Z0 g=true)(b:d00 g=none){x:Int}(h0:0<=x)(d:x<g.2.1):x∈q00 g:=by
 refine c0k hf ?_
 by_cases c:x=0
 ·subst c;exact .base
 ·have:=f0i b x.toNat (by omega) (by omega)
  unfold M0a at this
  simp only[Bool.or_eq_false_iff,Bool.not_eq_false',decide_eq_true_eq]at this
  have a:=this.2
  rw[show((x.toNat:Nat):Int)=x by omega]at a
  exact(J0a _ _ _).1 a
theorem L0g{n:Nat}:∀(o:List Int) (k:Nat) (A:List Int),A.length=n->inV n o->o.Nodup->∀(i:Nat) (v:Int),o[i]?=some v->getI (a01 A k o) v=((k+i:Nat):Int)
 | [],k,A,c,b,g,i,v,a=>by simp at a
 |w::r,k,A,c,b,g,i,v,a=>by
  have f:=b w mS
  obtain⟨hd1,h⟩:=List.nodup_cons.1 g
  cases i with
  |zero =>
   simp at a;subst a
   rw[a01,F0e r _ _ w (by simp[c]) (λu d=>b u (mC _ d)) f.1 hd1,O03 f.1 (by omega) f.1,if_pos rfl];rfl
  |succ i =>
   rw[a01,L0g r (k+1) _ (by simp[c]) (λu d=>b u (mC _ d)) h i v (by simpa using a)]
   omega
theorem G0p{n:Nat}{o:List Int}(c:inV n o)(a:o.Nodup){i:Nat}{v:Int}(b:o[i]?=some v):getI (plc n o) v=(i:Int):=by
 have:=L0g o 0 (List.replicate n (-1)) (by simp) c a i v b
 rw[Nat.zero_add]at this;exact this
theorem o06{es:List J0}(c:Asc P0 es):es.Nodup:=by
 refine List.Pairwise.imp (λ{a b} h e=>?_) c
 rw[e,Y3.refl]at h;omega
def A0c(g:j0)(w:List Int):Bool:=decide ((E0c g 0 w).2=w.length)&&decide ((E0c g 0 w).1=0)
theorem w05{g:j0}(h:r00 g=true):Z0 g=true:=by
 unfold r00 at h
 simp only[Bool.and_eq_true]at h
 exact h.1
def rdw(g:j0):Int->List Int->Option Int
 |v,[]=>some v
 |v,x::w=>if C1 g v x<0 then none else rdw g (C1 g v x) w
theorem O0g(g:j0):∀(w:List Int) (v u:Int),rdw g v w=some u↔((E0c g v w).2=w.length/\(E0c g v w).1=u)
 | [],v,u=>by simp[rdw,E0c]
 |x::w,v,u=>by
  have a:=O0g g w (C1 g v x) u
  unfold rdw E0c
  by_cases c:C1 g v x<0
  ·rw[if_pos c,if_pos c];simp
  ·rw[if_neg c,if_neg c,a];simp
theorem Z0n(g:j0)(w:List Int):A0c g w=true↔rdw g 0 w=some 0:=by
 unfold A0c
 rw[O0g];simp
theorem I0m(g:j0):∀(a b:List Int) (v:Int),rdw g v (a++b)=(rdw g v a).bind λu=>rdw g u b
 | [],b,v=>rfl
 |x::a,b,v=>by
  have d:=I0m g a b (C1 g v x)
  show(if C1 g v x<0 then none else rdw g (C1 g v x) (a++b))=(if C1 g v x<0 then none else rdw g (C1 g v x) a).bind λu=>rdw g u b
  by_cases c:C1 g v x<0
  ·rw[if_pos c,if_pos c];rfl
  ·rw[if_neg c,if_neg c];exact d
theorem a0o{g:j0}(hf:Z0 g=true){v x u:Int}(h:C1 g v x=u)(h0:0<=u):C1 g u (-x)=v:=by
 rcases c05 g v x with⟨e,_⟩|e
 ·omega
 ·rw[h]at e
  obtain⟨d,i,f⟩:=i6.1 e
  refine V06 hf (i6.2 ⟨d,i,?_⟩)
  rcases f with⟨a,b,c,rfl⟩|⟨a,b,c,rfl⟩
  ·exact .inr ⟨by omega,by omega,rfl,c.symm⟩
  ·exact .inl ⟨by omega,b,rfl,c.symm⟩
structure Mor (a b:j0) (f:Int->Int):Prop where
 base:f 0=0
 rng:∀ v,0<=v->v<a.2.1->0<=f v/\f v<b.2.1
 step:∀ v x,0<=v->v<a.2.1->0<=C1 a v x->C1 b (f v) x=f (C1 a v x)
theorem Mor.rdw{a b:j0}{f:Int->Int}(m:Mor a b f)(i:inG a):∀(w:List Int) (v u:Int),0<=v->v<a.2.1->rdw a v w=some u->rdw b (f v) w=some (f u)
 | [],v,u,h0,g,h=>by
  simp only[Go.Proofs.YtohcdjhocpakkaaGreat.rdw,Option.some.injEq]at h ⊢
  rw[h]
 |x::w,v,u,h0,g,h=>by
  unfold Go.Proofs.YtohcdjhocpakkaaGreat.rdw at h ⊢
  by_cases c:C1 a v x<0
  ·rw[if_pos c]at h;cases h
  ·rw[if_neg c]at h
   have j:=m.step v x h0 g (by omega)
   have d:0<=C1 a v x/\C1 a v x<a.2.1:=by
    rcases S06 i v x with e|e
    ·omega
    ·exact e
   have k:=m.rng _ d.1 d.2
   rw[j,if_neg (by omega)]
   exact Mor.rdw m i w _ u d.1 d.2 h
theorem Mor.loop{a b:j0}{f:Int->Int}(m:Mor a b f)(c:Z0 a=true){w:List Int}(h:A0c a w=true):A0c b w=true:=by
 obtain⟨d,g,i,j⟩:=j4 c
 rw[Z0n]at h ⊢
 have:=m.rdw d w 0 0 (iR _) (by omega) h
 rwa [m.base]at this
abbrev Im:=List Int×List Int
def v0l(s a:Im):Prop:=(∃ t,a.2=s.2++t)/\∀ v∈s.2,getI a.1 v=getI s.1 v
theorem v0l.refl(s:Im):v0l s s:=⟨⟨[],by simp⟩,λ_ _=>rfl⟩
theorem v0l.trans{s a b:Im}(h:v0l s a)(g:v0l a b):v0l s b:=by
 obtain⟨⟨t,e⟩,f⟩:=h
 obtain⟨⟨i,c⟩,d⟩:=g
 exact⟨⟨t++i,by rw[c,e,List.append_assoc]⟩,λv hv=>(d v (by rw[e];exact List.mem_append_left _ hv)).trans (f v hv)⟩
def B0s(a b:j0)(v x:Int)(s:Im):Prop:=0<=C1 a v x->C1 a v x∈s.2/\C1 b (getI s.1 v) x=getI s.1 (C1 a v x)
theorem B0s.le{a b:j0}{v x:Int}{s d:Im}(hv:v∈s.2)(h:B0s a b v x s)(l:v0l s d):B0s a b v x d:=λh0=>by
 obtain⟨c,g⟩:=h h0
 obtain⟨⟨t,e⟩,f⟩:=l
 exact⟨by rw[e];exact List.mem_append_left _ c,by rw[f v hv,f _ c];exact g⟩
theorem b0o{a b:List Int}(c:d08 a)(d:d08 b):d08 (a++b):=λx f=>by
 rcases List.mem_append.1 f with h|h
 ·exact c x h
 ·exact d x h
theorem e04(w:List Int)(hl:w.length<=17592186044416)(n0:Nat)(hn:n0+w.length<=17592186044416):∀(d k fuel:Nat) (s:List Int),k+d=w.length->d<fuel->s.length<=n0+k ->
  C6 w fuel (k:Int) s.reverse=some (y02 s (w.drop k)).reverse
 |d,k,0,s,hk,hf,hsl=>by omega
 |0,k,fuel+1,s,hk,hf,hsl=>by
  rw[C6.eq_2,if_neg (by simp;omega),I1 (by omega)]
  rfl
 |d+1,k,fuel+1,s,hk,hf,hsl=>by
  have hkl:k<w.length:=by omega
  have hx:=d5 hkl
  generalize w[k]=x at hx
  have next:=e04 w hl n0 hn d (k+1) fuel (Q6 s x) (by omega) (by omega) (by have:=U0b s x;omega)
  rw[K1 hx]
  show _=some (y02 (Q6 s x) (w.drop (k+1))).reverse
  rw[←next,C6.eq_2,if_pos (by simp;omega),V1 hx,oB,oB,F0 (by rw[List.length_reverse];omega),oB,oB,oB]
  rw[C2 hkl (by omega:w.length<=9223372036854775807)]
  cases s with
  |nil =>
   have hz:decide ((((([]:List Int).reverse).length:Nat):Int)>0)=false:=rfl
   simp only[hz,L4,oB,cond_false,Bool.false_eq_true,if_false]
   rw[F0 (by simp)]
   rfl
  |cons l t =>
   have hp:decide ((((l::t).reverse.length:Nat):Int)>0)=true:=by simp
   have hpr:IntKind.i64.wrap ((((l::t).reverse.length:Nat):Int)-1)=((t.length:Nat):Int):=by
    rw[n0e (by simp) (by simp only[List.length_cons]at hsl;simp only[List.length_reverse,List.length_cons];omega)];simp
   have hpush:(grd (((l::t).reverse.length + [x].length)*8<=140737488355328))=some ():=F0 (by simp only[List.length_cons]at hsl;simp only[List.length_reverse,List.length_cons,List.length_nil];omega)
   have hlen:(grd ((l::t).reverse.length<=9223372036854775807))=some ():=F0 (by rw[List.length_reverse];omega)
   simp only[hp,hpr,Z2,oB,cond_true,V1 W0e,y0a,Q6]
   have hcc:(!(l == 0) && !(l == -9223372036854775808)&&(x == IntKind.i64.wrap (0-l)))=e05 l x:=rfl
   rw[hcc]
   cases hc:e05 l x with
   |true =>
    simp only[if_true,cond_true,hlen,oB]
    rw[F0 (by simp only[List.length_reverse,List.length_cons];omega),oB,Int.toNat_natCast,N0g]
   |false =>
    simp only[Bool.false_eq_true,if_false,cond_false,hpush,hlen,oB]
    exact congrArg _ (List.reverse_cons ..).symm
def k0r:List (List Int)->Nat
 | []=>0
 |w::r=>w.length+k0r r
def C0s(s:List Int):List (List Int)->List Int
 | []=>s
 |w::r=>C0s (y02 s w) r
theorem f04(a:List (List Int))(h:a.length<=17592186044416):∀(d k fuel:Nat) (s:List Int),k+d=a.length->d<fuel->s.length+k0r (a.drop k)<=17592186044416 ->
  M7 a fuel (k:Int) s.reverse=some (C0s s (a.drop k)).reverse
 |d,k,0,s,f,hf,b=>by omega
 |0,k,fuel+1,s,f,hf,b=>by
  rw[M7.eq_2,if_neg (by simp;omega),I1 (by omega)]
  rfl
 |d+1,k,fuel+1,s,f,hf,b=>by
  have g:k<a.length:=by omega
  have c:=d5 g
  generalize a[k]=w at c
  rw[K1 c]at b ⊢
  simp only[k0r]at b
  have i:=Q0a w s
  have h0:=e04 w (by omega) s.length (by omega) w.length 0 Q0 s (by omega) (j1 (by omega)) (by omega)
  rw[show((0:Nat):Int)=0 from rfl,List.drop_zero]at h0
  rw[M7.eq_2,if_pos (by simp;omega),V1 c,oB,h0,oB,C2 g (by omega:a.length<=9223372036854775807)]
  exact f04 a h d (k+1) fuel (y02 s w) (by omega) (by omega) (by omega)
theorem I0f(a:List (List Int))(c:a.length<=17592186044416)(b:k0r a<=17592186044416):j2 a=some (C0s [] a).reverse:=by
 unfold j2
 have h:=f04 a c a.length 0 Q0 [] (by omega) (j1 (by omega)) (by simpa using b)
 rw[show((0:Nat):Int)=0 from rfl,List.drop_zero,List.reverse_nil]at h
 rw[h]
 rfl
abbrev Tr8:=List (Option (List Int))×List Int
def trS(g:j0)(v x:Int)(s:Tr8):Tr8:=if 0<=C1 g v x/\C1 g v x ∉ s.2 then(s.1.set (C1 g v x).toNat (some ((c00 s.1 v).getD [] ++ [x])),s.2 ++ [C1 g v x])else s
def J0p(g:j0)(v:Int):List Int->Tr8->Tr8
 | [],s=>s
 |x::r,s=>J0p g v r (trS g v x s)
def P0g(g:j0)(a:List Int):Nat->Nat->Tr8->Tr8
 |0,i,s=>s
 |f+1,i,s=>match s.2[i]? with
  |some v=>P0g g a f (i+1) (J0p g v a s)
  |none=>s
def F9(g:j0)(p:Int):List Int:=E00 g (b01 g.1.toNat 1) (g.2.1.toNat+1) 0 [p]
def K0p(g:j0)(p:Int):Tr8:=P0g g (b01 g.1.toNat 1) (g.2.1.toNat+1) 0 ((List.replicate g.2.1.toNat none).set p.toNat (some []),[p])
theorem J0m(g:j0)(v x:Int)(s:Tr8):(trS g v x s).2=z09 s.2 (C1 g v x):=by
 unfold trS z09
 split<;>rfl
theorem e0k(g:j0)(v:Int):∀(a:List Int) (s:Tr8),(J0p g v a s).2=c04 g v a s.2
 | [],s=>rfl
 |x::r,s=>by rw[J0p,e0k g v r,J0m];rfl
theorem Q0g(g:j0)(a:List Int):∀(f i:Nat) (s:Tr8),(P0g g a f i s).2=E00 g a f i s.2
 |0,i,s=>rfl
 |f+1,i,s=>by
  unfold P0g E00
  cases s.2[i]? with
  |none=>rfl
  |some v=>simp only[Q0g g a f,e0k]
theorem L0p(g:j0)(p:Int):(K0p g p).2=F9 g p:=Q0g _ _ _ _ _
structure TOk (g:j0) (p:Int) (n:Nat) (s:Tr8):Prop where
 ok:WOk n s.1 s.2
 gd:gud n s.2
 base:p∈s.2
 word:c00 s.1 p=some []
 par:∀ y∈s.2,y≠p->∃ v∈s.2,∃ x,x∈b01 g.1.toNat 1/\C1 g v x=y/\∃ a,c00 s.1 v=some a/\c00 s.1 y=some (a ++ [x])
 red:∀ y∈s.2,∀ a,c00 s.1 y=some a->Red a.reverse=true
theorem WOk.add{n:Nat}{d:List (Option (List Int))}{u:List Int}(b:WOk n d u){a:Int}(f:0<=a)(j:a<(n:Int))(v x:Int):WOk n (d.set a.toNat (some ((c00 d v).getD [] ++ [x]))) (u ++ [a]):=by
 have g:=b.short v
 refine⟨by simp[b.len],λz h0 h=>?_,λz=>?_⟩
 ·rw[h01 f (by have:=b.len;omega) h0]
  by_cases c:z=a
  ·rw[if_pos c];simp[c]
  ·rw[if_neg c,b.iff z h0 h];simp[c]
 ·by_cases hz:0<=z
  ·rw[h01 f (by have:=b.len;omega) hz]
   by_cases c:z=a
   ·rw[if_pos c];simp;exact g
   ·rw[if_neg c];have:=b.short z;simp only[List.length_append];omega
  ·have i:c00 (d.set a.toNat (some ((c00 d v).getD [] ++ [x]))) z=c00 (d.set a.toNat (some ((c00 d v).getD [] ++ [x]))) 0:=by
    unfold c00;rw[show z.toNat=(0:Int).toNat by omega]
   rw[i,h01 f (by have:=b.len;omega) (iR 0)]
   by_cases c:(0:Int)=a
   ·rw[if_pos c];simp;exact g
   ·rw[if_neg c];have:=b.short 0;simp only[List.length_append];omega
theorem WOk.get{n:Nat}{b:List (Option (List Int))}{u:List Int}(d:WOk n b u){v:Int}(h0:0<=v)(c:v<(n:Int))(hv:v∈u):∃ a,c00 b v=some a:=by
 cases e:c00 b v with
 |none=>exact absurd hv ((d.iff v h0 c).1 (by rw[e];rfl))
 |some a=>exact⟨a,rfl⟩
theorem c0o{R:Nat}(b:R<=900){x:Int}(a:x∈b01 R 1):t6 x/\x≠0 /\ -(R:Int)<=x/\x<=(R:Int):=by
 obtain⟨j,c,d,f⟩:=T0j _ _ _ a
 exact⟨⟨⟨by omega,by omega⟩,by omega⟩,by omega,by omega,by omega⟩
theorem M0p{l x:Int}(a:t6 l)(h:e05 l x=true):x = -l:=by
 unfold e05 at h
 simp only[Bool.and_eq_true,beq_iff_eq]at h
 rw[h.2];exact D0c a.1 a.2
theorem TOk.add{g:j0}(hf:Z0 g=true){p:Int}{n:Nat}(R:g.2.1=(n:Int)){s:Tr8}(h:TOk g p n s){v x:Int}(hv:v∈s.2)(M:x∈b01 g.1.toNat 1):TOk g p n (trS g v x s):=by
 obtain⟨P,S,T,U⟩:=j4 hf
 unfold trS
 split
 ·rename_i c
  obtain⟨o,w⟩:=c
  have O:C1 g v x<(n:Int):=by
   rcases S06 P v x with e|e<;>omega
  obtain⟨m,u⟩:=s
  obtain⟨C,q,base,H,par,red⟩:=h
  simp only at hv o w C q base H par red ⊢
  have E:=q.2 v hv
  obtain⟨a,i⟩:=C.get E.1 E.2 hv
  have Q:=C.len
  have keep:∀ z∈u,c00 (m.set (C1 g v x).toNat (some ((c00 m v).getD [] ++ [x]))) z=c00 m z:=λz J=>by
   have:=q.2 z J
   rw[h01 o (by omega) this.1,if_neg λ(e:z=C1 g v x)=>w (by rw[←e];exact J)]
  have new:c00 (m.set (C1 g v x).toNat (some ((c00 m v).getD [] ++ [x]))) (C1 g v x)=some (a ++ [x]):=by
   rw[h01 o (by omega) o,if_pos rfl,i];rfl
  refine⟨C.add o O v x,⟨List.nodup_append.2 ⟨q.1,by simp,λa i b f=>?_⟩,λj d=>?_⟩,List.mem_append_left _ base,?_,λj d N=>?_,λj d b f=>?_⟩
  ·simp at f;subst f;exact λe=>w (e▸i)
  ·rcases List.mem_append.1 d with d|d
   ·exact q.2 j d
   ·simp at d;subst d;omega
  ·rw[keep p base];exact H
  ·rcases List.mem_append.1 d with d|d
   ·obtain⟨G,A,K,F,D,b,y,k⟩:=par j d N
    exact⟨G,List.mem_append_left _ A,K,F,D,b,by rw[keep G A];exact y,by rw[keep j d];exact k⟩
   ·simp at d;subst d
    exact⟨v,List.mem_append_left _ hv,x,M,rfl,a,by rw[keep v hv];exact i,new⟩
  ·rcases List.mem_append.1 d with d|d
   ·rw[keep j d]at f;exact red j d b f
   ·simp at d;subst d
    rw[new]at f;cases f
    have I:=red v hv a i
    rw[List.reverse_append]
    show Red (x::a.reverse)=true
    cases e:a.reverse with
    |nil=>rfl
    |cons l t =>
     rw[e]at I
     unfold Red
     rw[I,Bool.and_true]
     cases hc:e05 l x with
     |false=>rfl
     |true =>
      exfalso
      have L:v≠p:=λy=>by
       subst y
       rw[H]at i;cases i;simp at e
      obtain⟨G,A,K,F,D,b,y,k⟩:=par v hv L
      rw[i]at k
      injection k with k
      rw[k,List.reverse_append]at e
      simp only[List.reverse_cons,List.reverse_nil,List.nil_append,List.cons_append,List.cons.injEq]at e
      rw[←e.1]at hc
      have:=M0p (c0o (by omega) F).1 hc
      have f:=a0o hf D E.1
      rw[←this]at f
      exact w (f▸A)
 ·exact h
theorem l0r(g:j0)(v x:Int)(s:Tr8):∃ t,(trS g v x s).2=s.2++t:=by rw[J0m];exact H0e _ _
theorem TOk.inn{g:j0}(hf:Z0 g=true){p:Int}{n:Nat}(b:g.2.1=(n:Int)){v:Int}:∀(c:List Int) {s:Tr8},TOk g p n s->v∈s.2->(∀ x∈c,x∈b01 g.1.toNat 1)->TOk g p n (J0p g v c s)
 | [],s,h,hv,a=>h
 |x::r,s,h,hv,a=>by
  obtain⟨t,e⟩:=l0r g v x s
  exact TOk.inn hf b r (h.add hf b hv (a x mS)) (by rw[e];exact List.mem_append_left _ hv) λf d=>a f (mC _ d)
theorem TOk.out{g:j0}(hf:Z0 g=true){p:Int}{n:Nat}(a:g.2.1=(n:Int)):∀(f i:Nat) {s:Tr8},TOk g p n s->TOk g p n (P0g g (b01 g.1.toNat 1) f i s)
 |0,i,s,h=>h
 |f+1,i,s,h=>by
  unfold P0g
  cases e:s.2[i]? with
  |none=>exact h
  |some v=>exact TOk.out hf a f (i+1) (h.inn hf a _ (List.mem_of_getElem? e) λx b=>b)
theorem N0p(N:Nat)(x:Int):c00 (List.replicate N (none:Option (List Int))) x=none:=by
 unfold c00
 rw[List.getD_eq_getElem?_getD,List.getElem?_replicate];split<;>rfl
theorem d0o(g:j0){p:Int}{b:Nat}(f:0<=p/\p<(b:Int)):TOk g p b ((List.replicate b none).set p.toNat (some []),[p]):=by
 have i:∀ x,0<=x->c00 ((List.replicate b (none:Option (List Int))).set p.toNat (some [])) x=if x=p then some []else none:=λx h0=>by
  rw[h01 f.1 (by simp;omega) h0,N0p]
 refine⟨⟨by simp,λx h0 m=>?_,λx=>?_⟩,⟨by simp,λx k=>by simp at k;subst k;exact f⟩,by simp,?_,λl d h=>?_,λl d a j=>?_⟩
 ·simp only
  rw[i x h0]
  by_cases c:x=p
  ·rw[if_pos c];simp[c]
  ·rw[if_neg c];simp[c]
 ·have:∀ x,0<=x->((c00 ((List.replicate b (none:Option (List Int))).set p.toNat (some [])) x).getD []).length<=1:=λx h0=>by
   rw[i x h0];split<;>simp
  by_cases hz:0<=x
  ·exact this x hz
  ·have e:c00 ((List.replicate b (none:Option (List Int))).set p.toNat (some [])) x=c00 ((List.replicate b (none:Option (List Int))).set p.toNat (some [])) 0:=by
    unfold c00;rw[show x.toNat=(0:Int).toNat by omega]
   simp only
   rw[e];exact this 0 (iR 0)
 ·simp only
  rw[i p f.1,if_pos rfl]
 ·simp at d;exact absurd d h
 ·simp at d;subst d
  simp only at j
  rw[i l f.1,if_pos rfl]at j
  cases j;rfl
theorem m0r{g:j0}(hf:Z0 g=true){p:Int}(a:0<=p/\p<g.2.1):TOk g p g.2.1.toNat (K0p g p):=by
 obtain⟨b,c,d,f⟩:=j4 hf
 exact TOk.out hf (by omega) _ _ (d0o g ⟨a.1,by omega⟩)
structure g0i (g:j0) (p:Int) (t:Int->List Int):Prop where
 z:t p = []
 par:∀ y∈F9 g p,y≠p->∃ v∈F9 g p,∃ x,x∈b01 g.1.toNat 1/\C1 g v x=y/\t y=t v ++ [x]
 red:∀ y∈F9 g p,Red (t y).reverse=true
 len:∀ y,(t y).length<=40
theorem f0k{g:j0}(hf:Z0 g=true){p:Int}(a:0<=p/\p<g.2.1):gud g.2.1.toNat (F9 g p):=by
 rw[←L0p];exact(m0r hf a).gd
theorem g0i.ind{g:j0}{p:Int}{t:Int->List Int}(h:g0i g p t)(P:Int->Prop)(h0:P p)(f:∀ v∈F9 g p,∀ a∈F9 g p,∀ x,x∈b01 g.1.toNat 1->C1 g v x=a->t a=t v ++ [x]->P v->P a):∀(k:Nat) (a:Int),(t a).length<=k->a∈F9 g p->P a
 |k,a,b,i=>by
  by_cases c:a=p
  ·rw[c];exact h0
  ·obtain⟨v,hv,x,l,j,d⟩:=h.par a i c
   cases k with
   |zero=>rw[d]at b;simp at b
   |succ k=>exact f v hv a i x l j d (g0i.ind h P h0 f k v (by rw[d]at b;simp at b;omega) hv)
theorem g0i.induct{g:j0}{p:Int}{t:Int->List Int}(h:g0i g p t){P:Int->Prop}(h0:P p)(b:∀ v∈F9 g p,∀ a∈F9 g p,∀ x,x∈b01 g.1.toNat 1->C1 g v x=a->t a=t v ++ [x]->P v->P a){a:Int}(c:a∈F9 g p):P a:=h.ind P h0 b _ a (Nat.le_refl _) c
theorem n0r{g:j0}{v x y:Int}(h:C1 g v x=y)(h0:0<=y):rdw g v [x]=some y:=by
 unfold rdw
 rw[if_neg (by omega),h];rfl
theorem g0i.rd{g:j0}(hf:Z0 g=true){p:Int}(f:0<=p/\p<g.2.1){t:Int->List Int}(h:g0i g p t){a:Int}(b:a∈F9 g p):rdw g p (t a)=some a:=by
 refine h.induct (P:=λa=>rdw g p (t a)=some a) ?_ (λv hv a b x j c d i=>?_) b
 ·rw[h.z];rfl
 ·rw[d,I0m,i,oB]
  exact n0r c ((f0k hf f).2 a b).1
theorem g0i.let{g:j0}{p:Int}{t:Int->List Int}(h:g0i g p t){b:Int}(d:b∈F9 g p):∀ x∈t b,x∈b01 g.1.toNat 1:=by
 refine h.induct (P:=λb=>∀ x∈t b,x∈b01 g.1.toNat 1) ?_ (λv hv b d x c j f i=>?_) d
 ·rw[h.z];exact λx c=>by cases c
 ·rw[f]
  intro z a
  rcases List.mem_append.1 a with a|a
  ·exact i z a
  ·simp at a;rw[a];exact c
theorem Z03{x:Int}(h:t6 x):ng x = -x:=D0c h.1 h.2
theorem y03{x:Int}(h:t6 x):t6 (-x):=⟨⟨by have:=h.1.2;have:=h.2;omega,by have:=h.1.1;have:=h.2;omega⟩,by have:=h.1.2;omega⟩
theorem e08{l x:Int}(a:t6 l)(h0:l≠0):e05 l x=true↔x = -l:=by
 unfold e05
 rw[Z03 a]
 simp only[Bool.and_eq_true,Bool.not_eq_true',beq_eq_false_iff_ne,beq_iff_eq,ne_eq]
 constructor
 ·exact λh=>h.2
 ·exact λh=>⟨⟨h0,a.2⟩,h⟩
theorem o0r{w:List Int}(a:∀ x∈w,t6 x):inv (inv w)=w:=by
 unfold inv
 rw[List.map_reverse,List.reverse_reverse,List.map_map]
 refine(List.map_congr_left λx b=>?_).trans (List.map_id w)
 have h:=a x b
 show ng (ng x)=x
 rw[Z03 h,Z03 (y03 h)];omega
theorem X0e(x:Int)(w:List Int):inv (x::w)=inv w ++ [ng x]:=by simp[inv]
theorem p0r{w:List Int}(a:∀ x∈w,t6 x):∀ x∈inv w,t6 x:=λx b=>by
 simp only[inv,List.mem_reverse,List.mem_map]at b
 obtain⟨d,c,rfl⟩:=b
 rw[Z03 (a d c)];exact y03 (a d c)
theorem R0g{s:List Int}{x y:Int}(h:y∈Q6 s x):y∈s∨y=x:=by
 cases s with
 |nil=>simp[Q6]at h;exact .inr h
 |cons l t =>
  simp only[Q6]at h
  cases c:e05 l x with
  |true=>rw[c]at h;exact .inl (mC _ h)
  |false =>
   rw[c]at h
   rcases List.mem_cons.1 h with h|h
   ·exact .inr h
   ·exact .inl h
theorem Y0e:∀(w s:List Int) {y:Int},y∈y02 s w->y∈s∨y∈w
 | [],s,y,h => .inl h
 |x::w,s,y,h=>by
  rcases Y0e w (Q6 s x) h with h|h
  ·rcases R0g h with h|rfl
   ·exact .inl h
   ·exact .inr mS
  ·exact .inr (mC _ h)
theorem j00{g:j0}(hf:Z0 g=true){e:J0}(a:e∈g.2.2):C1 g e.1 e.2.1=e.2.2/\C1 g e.2.2 (-e.2.1)=e.1:=by
 have b:=(j4 hf).1 e a
 exact⟨V06 hf (i6.2 ⟨e,a,.inl ⟨by omega,rfl,rfl,rfl⟩⟩),V06 hf (i6.2 ⟨e,a,.inr ⟨by omega,by omega,rfl,rfl⟩⟩)⟩
theorem j02{g:j0}{v x:Int}(h0:0<=C1 g v x):x≠0/\∃ e∈g.2.2,e=stp v x (C1 g v x)/\((0<x/\e.2.1=x/\e.1=v/\e.2.2=C1 g v x)∨(x<0/\e.2.1 = -x/\e.2.2=v/\e.1=C1 g v x)):=by
 rcases c05 g v x with⟨e,_⟩|e
 ·omega
 ·obtain⟨d,i,h⟩:=i6.1 e
  obtain⟨d0,j,k⟩:=d
  simp only at h
  rcases h with⟨a,b,c,f⟩|⟨a,b,c,f⟩
  ·refine⟨by omega,_,i,?_,.inl ⟨a,b,c,f.symm⟩⟩
   unfold stp
   rw[if_neg (by omega),←b,←c,b,c,←f]
  ·refine⟨by omega,_,i,?_,.inr ⟨a,b,c,f.symm⟩⟩
   unfold stp
   rw[if_pos a,←f,b,c]
def Lw(w:List Int):Prop:=∀ x∈w,t6 x/\x≠0
theorem Lw.app{a b:List Int}(h:Lw a)(k:Lw b):Lw (a++b):=λx c=>(List.mem_append.1 c).elim (h x) (k x)
theorem Lw.nil:Lw []:=λx a=>by cases a
theorem Lw.one{x:Int}(h:t6 x)(h0:x≠0):Lw [x]:=λb a=>by rw[List.mem_singleton.1 a];exact⟨h,h0⟩
theorem Lw.nm{a:List Int}(h:Lw a):∀ x∈a,t6 x:=λx b=>(h x b).1
theorem Lw.inv{a:List Int}(h:Lw a):Lw (inv a):=λx b=>by
 unfold Go.Proofs.YtohcdjhocpakkaaGreat.inv at b
 obtain⟨d,c,rfl⟩:=List.mem_map.1 (List.mem_reverse.1 b)
 have:=h d c
 rw[Z03 this.1]
 exact⟨y03 this.1,by omega⟩
theorem Lw.red{s w:List Int}(a:Lw s)(b:Lw w):Lw (y02 s w):=λx c=>(Y0e w s c).elim (a x) (b x)
structure Eqv (a b:List Int):Prop where
 l:Lw a
 r:Lw b
 e:∀ s,Red s=true->Lw s->y02 s a=y02 s b
theorem Eqv.refl{a:List Int}(h:Lw a):Eqv a a:=⟨h,h,λ_ _ _=>rfl⟩
theorem Eqv.symm{a b:List Int}(h:Eqv a b):Eqv b a:=⟨h.r,h.l,λs c k=>(h.e s c k).symm⟩
theorem Eqv.trans{a b c:List Int}(h:Eqv a b)(k:Eqv b c):Eqv a c:=⟨h.l,k.r,λs d n=>(h.e s d n).trans (k.e s d n)⟩
theorem Eqv.app{a b c d:List Int}(h:Eqv a b)(k:Eqv c d):Eqv (a++c) (b++d) :=
 ⟨h.l.app k.l,h.r.app k.r,λs f n=>by rw[P0a,P0a,h.e s f n,k.e _ (V0e _ _ f) (n.red h.r)]⟩
theorem e0o{s:List Int}(g:Red s=true)(j:Lw s){x:Int}(i:t6 x)(h0:x≠0):Q6 (Q6 s x) (ng x)=s:=by
 have e:=Z03 i
 have f:e05 x (ng x)=true:=(e08 i h0).2 e
 cases s with
 |nil =>
  show Q6 [x] (ng x) = []
  unfold Q6
  simp only[f,cond_true,if_true]
 |cons m t =>
  have a:=j m mS
  by_cases c:x = -m
  ·have b:e05 m x=true:=(e08 a.1 a.2).2 c
   have d:Q6 (m::t) x=t:=by
    unfold Q6
    simp only[b,cond_true,if_true]
   rw[d,e,c,show -(-m)=m by omega]
   cases t with
   |nil=>rfl
   |cons k r =>
    simp only[Red,Bool.and_eq_true,Bool.not_eq_true']at g
    unfold Q6
    simp only[g.1,cond_false,Bool.false_eq_true,if_false]
  ·have b:e05 m x=false:=Bool.eq_false_iff.2 λh=>c ((e08 a.1 a.2).1 h)
   have d:Q6 (m::t) x=x::m::t:=by
    unfold Q6
    simp only[b,cond_false,Bool.false_eq_true,if_false]
   rw[d]
   unfold Q6
   simp only[f,cond_true,if_true]
theorem q0r{x:Int}(a:t6 x)(h0:x≠0):Eqv ([x] ++ [ng x]) [] :=
 ⟨(Lw.one a h0).app (by rw[Z03 a];exact Lw.one (y03 a) (by omega)),Lw.nil,λs c b=>e0o c b a h0⟩
theorem s0d:∀ {a:List Int},Lw a->Eqv (a++inv a) []
 | [],h=>Eqv.refl Lw.nil
 |x::a,h=>by
  have b:=h x mS
  have d:Lw a:=λi f=>h i (mC _ f)
  have g:=s0d d
  have c:=((Eqv.refl (Lw.one b.1 b.2)).app (g.app (Eqv.refl (Lw.one (x:=ng x) (by rw[Z03 b.1];exact y03 b.1) (by rw[Z03 b.1];omega)))))
  rw[X0e]
  have e:x::a++(inv a ++ [ng x]) = [x]++(a++inv a ++ [ng x]):=by simp
  rw[e]
  exact c.trans (q0r b.1 b.2)
theorem g0k{a:List Int}(h:Lw a):Eqv (inv a++a) []:=by
 have:=s0d h.inv
 rwa [o0r h.nm]at this
theorem J08(a b:List Int)(c:d08 a)(d:d08 b)(f:a.length+b.length<=17592186044416):U4 a b=some (y02 [] (a++b)).reverse:=by
 unfold U4
 rw[F0 (by simp only[List.length_nil];omega),oB,F0 (by simp only[List.length_append,List.length_nil];omega),oB,List.nil_append,
  I08 _ (b0o c d) (by simp only[List.length_append];omega)]
 rfl
theorem h0i{x:Int}(h:K0 x)(a:x ≠ -9223372036854775808):(if IntKind.i64.wrap (0-x)>x then IntKind.i64.wrap (0-x)else x)=if x<0 then -x else x:=by
 rw[D0c h a]
 split<;>split<;>omega
theorem O0p:(if IntKind.i64.wrap (0-(-9223372036854775808)) > -9223372036854775808 then IntKind.i64.wrap (0-(-9223372036854775808))else -9223372036854775808) = -9223372036854775808:=by decide
theorem e09{x a:Int}(g:K0 x)(h:K0 a):W01 x a=some (H08 x a):=by
 have bx:=g.1;have i:=h.1
 have j:=g.2;have k:=h.2
 unfold W01 H08 N5 j0e
 by_cases e:x=a
 ·subst e;simp
 ·rw[if_neg (by simpa using e)]
  by_cases ex:x = -9223372036854775808
  ·subst ex
   rw[O0p]
   rw[if_pos (by simp)]
   congr 1
   repeat' split
   all_goals omega
  ·rw[h0i g ex]
   by_cases ey:a = -9223372036854775808
   ·subst ey
    rw[O0p]
    have d : ¬ (if x<0 then -x else x)<0:=by split<;>omega
    have f : ¬ (if x<0 then -x else x) = -9223372036854775808:=by split<;>omega
    simp only[d,f,decide_false,decide_true,cond_false]
    rw[if_neg (by simp)]
    congr 1
    repeat' split
    all_goals omega
   ·rw[h0i h ey]
    have d : ¬ (if x<0 then -x else x)<0:=by split<;>omega
    have f:(if a<0 then -a else a) ≥ 0:=by split<;>omega
    simp only[d,f,decide_false,decide_true,cond_false,cond_true]
    generalize b:(if x<0 then -x else x)=ax
    generalize c:(if a<0 then -a else a)=ay
    by_cases h3:ax>ay
    ·simp only[h3,decide_true,cond_true,if_true]
     congr 1
     split at b<;>split at c<;>(repeat' split)<;>omega
    ·simp only[h3,decide_false,cond_false]
     by_cases h4:ax=ay
     ·simp only[h4,decide_true,cond_true]
      by_cases h5:x<a
      ·simp only[h5,decide_true,if_true]
       congr 1
       split at b<;>split at c<;>(repeat' split)<;>omega
      ·simp only[h5,decide_false,Bool.false_eq_true,if_false]
       congr 1
       split at b<;>split at c<;>(repeat' split)<;>omega
     ·simp only[h4,decide_false,cond_false,Bool.false_eq_true,if_false]
      congr 1
      split at b<;>split at c<;>(repeat' split)<;>omega
theorem F03(x y:Int):K3 x y=some (N5 x y):=by
 unfold K3 N5
 by_cases h:x<y
 ·simp[h]
 ·by_cases h2:x>y
  ·simp[h,h2]
  ·simp[h,h2]
theorem V0b{x a:Int}(b:K0 x)(c:K0 a):t8 x a=some (H08 x a):=by
 have bx:=b.1;have d:=c.1
 have f:=b.2;have g:=c.2
 unfold t8
 by_cases e:x=a
 ·subst e;rw[if_pos (by simp),w0j.refl]
 ·rw[if_neg (by simpa using e)]
  by_cases ex:x = -9223372036854775808
  ·subst ex
   rw[if_pos (by simp)]
   unfold H08 N5 j0e
   congr 1
   repeat' split
   all_goals omega
  ·rw[if_neg (by simpa using ex)]
   by_cases ey:a = -9223372036854775808
   ·subst ey
    rw[if_pos (by simp)]
    unfold H08 N5 j0e
    congr 1
    repeat' split
    all_goals omega
   ·rw[if_neg (by simpa using ey),h0i b ex,h0i c ey,F03,oB,F0 (s05 _ _),oB]
    by_cases h:N5 (if x<0 then -x else x) (if a<0 then -a else a)=0
    ·rw[if_neg (by simpa using h),F03,oB,F0 (s05 _ _),oB]
     have h:=L8.eq _ _ h
     unfold H08 N5 j0e
     congr 1
     split at h<;>split at h<;>(repeat' split)<;>omega
    ·rw[if_pos (by simpa using h)]
     unfold H08 N5 j0e
     unfold N5 at h
     congr 1
     (repeat' split)<;>omega
def W06(w:List Int):Prop:=∀(k:Nat) (x:Int),w[k]?=some x->K0 x
theorem K0m(a b:List Int)(n:a.length=b.length)(g:W06 a)(i:W06 b)(l:a.length<=9223372036854775807):∀(d k fuel:Nat),k+d=a.length->d<fuel ->
  Y2 a b fuel (k:Int)=some (bif decide (g06 H08 (a.drop k) (b.drop k)=0)then .inr ()else .inl (g06 H08 (a.drop k) (b.drop k)))
 |d,k,0,j,hf=>by omega
 |0,k,fuel+1,j,hf=>by
  rw[Y2.eq_2,if_neg (by simp;omega),I1 (by omega),I1 (by omega)]
  rfl
 |d+1,k,fuel+1,j,hf=>by
  have c:=d5 (show k<a.length by omega)
  have f:=d5 (show k<b.length by omega)
  have next:=K0m a b n g i l d (k+1) fuel (by omega) (by omega)
  generalize a[k]=x at c
  generalize b[k]=y at f
  have m:K0 (H08 x y):=q0m _ _
  rw[Y2.eq_2,if_pos (by simp;omega),V1 c,oB,V1 f,oB,e09 (g _ _ c) (i _ _ f),oB,F0 m,oB,
   K1 c,K1 f]
  simp only[g06,thenC]
  by_cases h:H08 x y=0
  ·rw[if_neg (by simpa using h),C2 (show k<a.length by omega) l,next]
   simp[h]
  ·rw[if_pos (by simpa using h)]
   simp[h]
theorem d01{a b:List Int}(c:W06 a)(d:W06 b)(f:a.length<=9223372036854775807):P5 a b=some (C4 a b):=by
 unfold P5 C4
 by_cases h:a.length=b.length
 ·rw[if_neg (by simp[h])]
  have:=K0m a b h c d (by omega) a.length 0 Q0 (by omega) (r0e f)
  rw[show((0:Nat):Int)=0 from rfl]at this
  rw[this]
  simp only[List.drop_zero,oB]
  have e:N5 (a.length:Int) (b.length:Int)=0:=by rw[h];exact L8.refl _
  rw[e]
  by_cases h2:g06 H08 a b=0
  ·simp[h2,thenC,t7]
  ·simp[h2,thenC,t7]
 ·rw[if_pos (by simp;omega)]
  by_cases h2:a.length<b.length
  ·rw[if_pos (by simp;omega)]
   have e:N5 (a.length:Int) (b.length:Int) = -1:=by unfold N5;rw[if_pos (by omega)]
   rw[e];rfl
  ·rw[if_neg (by simp;omega)]
   have e:N5 (a.length:Int) (b.length:Int)=1:=by unfold N5;rw[if_neg (by omega),if_pos (by omega)]
   rw[e];rfl
theorem h0k(a b:List Int)(l:a.length=b.length)(g:W06 a)(h:W06 b)(j:a.length<=9223372036854775807):∀(d k fuel:Nat),k+d=a.length ->
  H4 a b fuel (k:Int)=Y2 a b fuel (k:Int)
 |d,k,0,i=>rfl
 |0,k,fuel+1,i=>by
  rw[Y2.eq_2,H4.eq_2,if_neg (by simp;omega),if_neg (by simp;omega)]
 |d+1,k,fuel+1,i=>by
  have c:=d5 (show k<a.length by omega)
  have f:=d5 (show k<b.length by omega)
  have next:=h0k a b l g h j d (k+1) fuel (by omega)
  generalize a[k]=x at c
  generalize b[k]=y at f
  rw[Y2.eq_2,H4.eq_2,V1 c,oB,V1 f,oB,oB,oB,e09 (g _ _ c) (h _ _ f),V0b (g _ _ c) (h _ _ f),C2 (show k<a.length by omega) j,next]
theorem G02{a b:List Int}(f:W06 a)(g:W06 b)(i:a.length<=9223372036854775807):N6 a b=some (C4 a b):=by
 have c:=d01 f g i
 unfold N6
 rw[F03,oB,F0 (s05 _ _),oB]
 unfold C4
 by_cases h:N5 (a.length:Int) (b.length:Int)=0
 ·have d:a.length=b.length:=by have:=L8.eq _ _ h;omega
  rw[if_neg (by simpa using h),show H4 a b Q0 0=Y2 a b Q0 0 from h0k a b d f g (by omega) a.length 0 Q0 (by omega)]
  unfold P5 at c
  rw[if_neg (by simp[d])]at c
  exact c
 ·rw[if_pos (by simpa using h)]
  unfold thenC
  rw[if_pos h]
theorem w0l(g:Nat):∀(d k j:Nat),k<=j->j<k+d->j≠g->(j:Int)∈wo g d k
 |0,k,j,b,f,a=>by omega
 |d+1,k,j,b,f,a=>by
  unfold wo
  split
  ·exact w0l g d (k+1) j (by omega) (by omega) a
  ·by_cases c:j=k
   ·rw[c];exact mS
   ·exact mC _ (w0l g d (k+1) j (by omega) (by omega) a)
def isS(o:Option (List Int)):Bool:=o.isSome
theorem K0c(g:j0)(d:g.2.2.length<=140737488355328):W8 g=some (r00 g):=by
 have:=Y0h g d
 obtain⟨a,b,c⟩:=g
 unfold W8
 show(B00 (a,b,c)).bind (λf=>some f)=_
 rw[this];rfl
def o04(g:j0):j0:=c03 (c08 (E5 g).1)
theorem i0k{g:j0}(h:O0 g=true):O00 g=some (o04 g):=by
 obtain⟨o,p,s,t⟩:=B3 h
 have i:=E0f g (by omega)
 have hf:=P01 h
 obtain⟨v,d⟩:=u0l (w7 hf)
 have f:=H0c (c08 (E5 g).1) (n04 40 hf)
 unfold o04
 obtain⟨r,n,es⟩:=g
 unfold O00
 generalize E5 (r,n,es)=q at *
 obtain⟨⟨a,b,c⟩,l⟩:=q
 simp only[i,oB]
 simp only at d f
 generalize c08 (a,b,c)=q2 at *
 obtain⟨j,k,m⟩:=q2
 simp only[d,oB,f]
theorem j0k{g:j0}(h:O0 g=true):P00 g=some (o04 g):=by
 obtain⟨o,p,s,t⟩:=B3 h
 have i:=F0f g (by omega)
 have hf:=P01 h
 obtain⟨v,d⟩:=X0j (w7 hf)
 have f:=G0c (c08 (E5 g).1) (n04 40 hf)
 unfold o04
 obtain⟨r,n,es⟩:=g
 unfold P00
 generalize E5 (r,n,es)=q at *
 obtain⟨⟨a,b,c⟩,l⟩:=q
 simp only[i,oB]
 simp only at d f
 generalize c08 (a,b,c)=q2 at *
 obtain⟨j,k,m⟩:=q2
 simp only[d,oB,f]
def u00(r:Int)(a:List (List Int)):j0×Bool:=bif N2 r a then(o04 (L5 a (r,1,[])),true)else((0,0,[]),false)
theorem X01{r:Int}{a:List (List Int)}(h:N2 r a=true):O0 (L5 a (r,1,[]))=true:=by
 obtain⟨b,d,c⟩:=Q00 h
 exact J0c a (y04 b) c
theorem S0g(r:Int)(d:List (List Int))(k:d.length<=140737488355328)(l:S3 d):Y8 r d=some (u00 r d):=by
 have f:=d0i r d k l
 have i:N2 r d=true->_:=λh=>i0k (X01 h)
 unfold Y8 u00
 unfold n06 at f
 cases hA:N2 r d with
 |false=>rw[hA]at f;simp only[cond_false]at f;simp[f]
 |true =>
  rw[hA]at f
  simp only[cond_true]at f
  have j:=i hA
  generalize L5 d (r,1,[])=g at *
  obtain⟨a,b,c⟩:=g
  simp only[f,oB,j,Bool.not_true,Bool.false_eq_true,if_false,cond_true]
theorem T0g(r:Int)(d:List (List Int))(k:d.length<=140737488355328)(l:S3 d):Z8 r d=some (u00 r d):=by
 have f:=e0i r d k l
 have i:N2 r d=true->_:=λh=>j0k (X01 h)
 unfold Z8 u00
 unfold n06 at f
 cases hA:N2 r d with
 |false=>rw[hA]at f;simp only[cond_false]at f;simp[f]
 |true =>
  rw[hA]at f
  simp only[cond_true]at f
  have j:=i hA
  generalize L5 d (r,1,[])=g at *
  obtain⟨a,b,c⟩:=g
  simp only[f,oB,j,Bool.not_true,Bool.false_eq_true,if_false,cond_true]
theorem U0g{b a:Int}{w:List Int}:∀ {d k:Nat},(∀ i,k<=i->i<k+d->V04 b a w i=false)->E02 b a w d k=true
 |0,k,h=>rfl
 |d+1,k,h=>by
  unfold E02
  rw[h k (Nat.le_refl _) (by omega),U0g λi c f=>h i (by omega) (by omega)]
  rfl
def R03(g:j0):Int:=bif r00 g then(g.2.2.length:Int)-g.2.1+1 else -1
theorem r0r(g:j0):K0 (R03 g):=by
 unfold R03
 cases hc:r00 g with
 |false=>exact⟨by rw[cond_false];omega,by rw[cond_false];omega⟩
 |true =>
  obtain⟨a,b,c,d⟩:=j4 (w05 hc)
  exact⟨by rw[cond_true];omega,by rw[cond_true];omega⟩
theorem x0l(g:j0)(f:g.2.2.length<=140737488355328):z01 g=some (R03 g)/\K0 (R03 g):=by
 have d:=K0c g f
 unfold R03
 cases hc:r00 g with
 |false =>
  rw[hc]at d
  obtain⟨a,b,c⟩:=g
  unfold z01
  simp only[d,oB,Bool.not_false,if_true,cond_false]
  exact⟨trivial,⟨by omega,by omega⟩⟩
 |true =>
  obtain⟨j,k,h,i⟩:=j4 (w05 hc)
  rw[hc]at d
  obtain⟨a,b,c⟩:=g
  simp only at h i
  unfold z01
  simp only[d,oB,Bool.not_true,Bool.false_eq_true,if_false,cond_true]
  rw[w64 (x:=((c.length:Nat):Int)-b) (by omega) (by omega),w64 (by omega) (by omega)]
  exact⟨rfl,⟨by omega,by omega⟩⟩
theorem y0l(g:j0)(f:g.2.2.length<=140737488355328):A01 g=some (R03 g):=by
 have d:=N0a g f
 unfold R03
 cases hc:r00 g with
 |false =>
  rw[hc]at d
  obtain⟨a,b,c⟩:=g
  unfold A01
  simp only[d,oB,Bool.not_false,if_true,cond_false]
 |true =>
  obtain⟨j,k,h,i⟩:=j4 (w05 hc)
  rw[hc]at d
  obtain⟨a,b,c⟩:=g
  simp only at h i
  unfold A01
  simp only[d,oB,Bool.not_true,Bool.false_eq_true,if_false,cond_true]
  rw[w64 (x:=((c.length:Nat):Int)-b) (by omega) (by omega),w64 (by omega) (by omega)]
def exO(bs:List (List Int))(k:Int):Option (List Int):=if 0<k/\k<=(bs.length:Int)then some (bs.getD (k.toNat-1) [])else if k<0 /\ -(bs.length:Int)<=k then some (inv (bs.getD ((-k).toNat-1) []))else none
def exP(bs:List (List Int))(k:Int):List Int:=(exO bs k).getD []
def BOk(bs:List (List Int)):Prop:=(∀ w∈bs,(∀ x∈w,t6 x)/\w.length<=1000)/\bs.length<=1000
theorem k0k{bs:List (List Int)}{k:Nat}(h:k<bs.length):bs.getD k []∈bs:=by
 rw[List.getD_eq_getElem?_getD,List.getElem?_eq_getElem h];exact List.getElem_mem h
theorem s0r{bs:List (List Int)}(h:BOk bs){k:Int}{w:List Int}(e:exO bs k=some w):w.length<=1000/\∀ x∈w,K0 x:=by
 unfold exO at e
 split at e
 ·rename_i c
  have a:=k0k (bs:=bs) (k:=k.toNat-1) (by omega)
  simp only[Option.some.injEq]at e
  rw[←e]
  exact⟨(h.1 _ a).2,λx b=>((h.1 _ a).1 x b).1⟩
 ·split at e
  ·rename_i c
   have a:=k0k (bs:=bs) (k:=(-k).toNat-1) (by omega)
   simp only[Option.some.injEq]at e
   rw[←e]
   exact⟨by rw[e03];exact(h.1 _ a).2,λx b=>(p0r (h.1 _ a).1 x b).1⟩
  ·cases e
theorem t0r{bs:List (List Int)}(h:BOk bs)(k:Int):(exP bs k).length<=1000/\∀ x∈exP bs k,K0 x:=by
 unfold exP
 cases e:exO bs k with
 |none=>exact⟨by simp,λx a=>by cases a⟩
 |some w=>exact s0r h e
theorem J01{bs:List (List Int)}(h:BOk bs):∀ l:List Int,(l.flatMap (exP bs)).length<=1000*l.length/\∀ x∈l.flatMap (exP bs),K0 x
 | []=>⟨by simp,λx a=>by cases a⟩
 |k::r=>by
  have b:=t0r h k
  have c:=J01 h r
  rw[List.flatMap_cons]
  refine⟨by rw[List.length_append,List.length_cons];omega,λx a=>?_⟩
  rcases List.mem_append.1 a with a|a
  ·exact b.2 x a
  ·exact c.2 x a
theorem P0p(l:List (List Int))(i:l.length<=1099511627776)(h:∀ w∈l,w.length<=17592186044416):∀(d k fuel:Nat) (acc:List (List Int)),k+d=l.length->d<fuel->acc.length<=k ->
  N7 l fuel (k:Int) acc=some (acc++l.drop k)
 |d,k,0,acc,c,hf,b=>by omega
 |0,k,fuel+1,acc,c,hf,b=>by
  rw[N7.eq_2,if_neg (by simp only[decide_eq_true_eq];omega),I1 (by omega),List.append_nil]
 |d+1,k,fuel+1,acc,c,hf,b=>by
  have g:k<l.length:=by omega
  have a:=d5 g
  have j:=h _ (List.mem_of_getElem? a)
  have f:=K1 a
  generalize l[k]=w at a j f
  rw[N7.eq_2,if_pos (by simp only[decide_eq_true_eq];omega),V1 a,oB,F0 (by simp only[List.length_nil];omega),oB,F0 (by simp only[List.length_singleton];omega),oB,C2 g (by omega),
   P0p l i h d (k+1) fuel _ (by omega) (by omega) (by simp only[List.length_append,List.length_singleton];omega),f,List.nil_append,List.append_assoc];rfl
theorem W0b(l:List (List Int))(a:l.length<=1099511627776)(b:∀ w∈l,w.length<=17592186044416):V7 l=some l:=by
 have h:=P0p l a b l.length 0 Q0 [] (by omega) (j1 (by omega)) (by simp)
 rw[show((0:Nat):Int)=0 from rfl,List.drop_zero,List.nil_append]at h
 unfold V7
 rw[h];rfl
theorem j0t{a:List Int}(b:a.length<=17592186044416):o8 a=some a:=by
 unfold o8
 rw[F0 (by simp;omega)]
 rfl
theorem k0t(l:List (List Int))(j:l.length<=1099511627776)(h:∀ w∈l,w.length<=17592186044416):∀(d k fuel:Nat) (acc:List (List Int)),k+d=l.length->d<fuel->acc.length<=k ->
  p6 l fuel (k:Int) acc=some (acc++l.drop k)
 |d,k,0,acc,c,hf,b=>by omega
 |0,k,fuel+1,acc,c,hf,b=>by
  rw[p6.eq_2,if_neg (by simp only[decide_eq_true_eq];omega),I1 (by omega),List.append_nil]
 |d+1,k,fuel+1,acc,c,hf,b=>by
  have g:k<l.length:=by omega
  have a:=d5 g
  have i:=h _ (List.mem_of_getElem? a)
  have f:=K1 a
  generalize l[k]=w at a i f
  rw[p6.eq_2,if_pos (by simp only[decide_eq_true_eq];omega),V1 a,oB,j0t i,oB,F0 (by simp only[List.length_singleton];omega),oB,C2 g (by omega),
   k0t l j h d (k+1) fuel _ (by omega) (by omega) (by simp only[List.length_append,List.length_singleton];omega),f,List.append_assoc];rfl
theorem Q0p(l:List (List Int))(a:l.length<=1099511627776)(b:∀ w∈l,w.length<=17592186044416):D6 l=some l:=by
 have h:=k0t l a b l.length 0 Q0 [] (by omega) (j1 (by omega)) (by simp)
 rw[show((0:Nat):Int)=0 from rfl,List.drop_zero,List.nil_append]at h
 unfold D6
 rw[F0 (by omega),oB]
 exact(congrArg (λo=>Option.bind o λc=>some c) h)
theorem Lw.a64{a:List Int}(h:Lw a):d08 a:=λx b=>(h x b).1.1
theorem Lw.a64'{a:List Int}(h:Lw a):W06 a:=λk x b=>(h x (List.mem_of_getElem? b)).1.1
def K08(a b:List Int):List Int:=(y02 [] (a++b)).reverse
theorem t0d{a b:List Int}(h:Lw a)(k:Lw b):Lw (K08 a b):=λx c=>Lw.red Lw.nil (h.app k) x (List.mem_reverse.1 c)
theorem i0i{a b:List Int}(c:Lw a)(d:Lw b)(f:a.length+b.length<=17592186044416):U4 a b=some (K08 a b):=J08 a b c.a64 d.a64 f
theorem f08{a b:List Int}(c:a.length+b.length<=17592186044416):j2 [a,b]=some (K08 a b):=by
 have:=I0f [a,b] (by simp) (by show a.length+(b.length+0)<=_;omega)
 rw[this]
 show some (y02 (y02 [] a) b).reverse=some (y02 [] (a++b)).reverse
 rw[P0a]
def p4(n:Nat)(w x:List Int):List Int:=match n with
 |0=>K08 w x
 |1=>K08 w (inv x)
 |2=>K08 x w
 |_=>K08 (inv x) w
def kd(n:Nat):Int:=match n with
 |0=>2
 |1=>2
 |_=>3
def sg(n:Nat):Int:=match n with
 |0=>1
 |1 => -1
 |2=>1
 |_ => -1
theorem R0p{n:Nat}{w x:List Int}(h:Lw w)(k:Lw x):Lw (p4 n w x):=by
 unfold p4
 split
 ·exact t0d h k
 ·exact t0d h k.inv
 ·exact t0d k h
 ·exact t0d k.inv h
theorem x05(a b:List Int):K0 (C4 a b):=by
 have d:=s05 (a.length:Int) (b.length:Int)
 have f:∀ x c:List Int,K0 (g06 H08 x c):=λx=>by
  induction x with
  |nil=>intro c;cases c<;>(simp only[g06];decide)
  |cons p x g =>
   intro c
   cases c with
   |nil=>simp only[g06];decide
   |cons q c =>
    simp only[g06,thenC]
    split
    ·exact q0m _ _
    ·exact g c
 unfold C4 thenC
 split
 ·exact d
 ·exact f _ _
def hv(w:List Int):List Int×List Int :=
 bif decide (C4 (w.take ((w.length+1) / 2)) ((inv w).take ((w.length+1) / 2))>0)then((inv w).take ((w.length+1) / 2),w.take ((w.length+1) / 2))else(w.take ((w.length+1) / 2),(inv w).take ((w.length+1) / 2))
def cN(a b:List Int):Int :=
 bif decide (a.length=b.length)then thenC (C4 (hv a).1 (hv b).1) (C4 (hv a).2 (hv b).2)else N5 (a.length:Int) (b.length:Int)
theorem Lw.take{a:List Int}(h:Lw a)(k:Nat):Lw (a.take k):=λx b=>h x (List.mem_of_mem_take b)
theorem L0m{w:List Int}(h:Lw w):(Lw (hv w).1/\Lw (hv w).2)/\(hv w).1.length<=w.length/\(hv w).2.length<=w.length:=by
 have:=e03 w
 unfold hv
 cases decide (C4 (w.take ((w.length+1) / 2)) ((inv w).take ((w.length+1) / 2))>0)
 ·exact⟨⟨h.take _,h.inv.take _⟩,by simp only[cond_false,List.length_take];omega,by simp only[cond_false,List.length_take];omega⟩
 ·exact⟨⟨h.inv.take _,h.take _⟩,by simp only[cond_true,List.length_take];omega,by simp only[cond_true,List.length_take];omega⟩
theorem M0m{w:List Int}(a:w.length<=1000):IntKind.i64.wrap (Int.tdiv (IntKind.i64.wrap (((w.length:Nat):Int)+1)) 2)=(((w.length+1) / 2:Nat):Int):=by
 rw[w64 (x:=(w.length:Int)+1) (by omega) (by omega),show((w.length:Nat):Int)+1=((w.length+1:Nat):Int) by omega,show(2:Int)=((2:Nat):Int) from rfl,←Int.ofNat_tdiv,w64 (by omega) (by omega)]
theorem V0g{w:List Int}(h:Lw w)(a:w.length<=1000):G9 w=some (hv w):=by
 have b:=e03 w
 unfold G9
 rw[F0 (by decide),oB,M0m a,P03 (by omega),oB,F0 (by simp only[List.length_nil,List.length_take];omega),oB,R00 w (by omega),oB,P03 (by omega),oB,
  List.nil_append,d01 (h.take _).a64' (h.inv.take _).a64' (by simp only[List.length_take];omega),oB,F0 (x05 _ _),oB]
 unfold hv
 cases decide (C4 (w.take ((w.length+1) / 2)) ((inv w).take ((w.length+1) / 2))>0)<;>rfl
theorem W0g{w:List Int}(h:Lw w)(a:w.length<=1000):D01 w=some (hv w):=by
 have b:=e03 w
 unfold D01
 rw[F0 (by decide),oB,M0m a,P03 (by omega),oB,S00 w (by omega),oB,P03 (by omega),oB,
  G02 (h.inv.take _).a64' (h.take _).a64' (by simp only[List.length_take];omega),oB,F0 (x05 _ _),oB]
 unfold hv
 have:=m0p.anti ((inv w).take ((w.length+1) / 2)) (w.take ((w.length+1) / 2))
 by_cases c:C4 ((inv w).take ((w.length+1) / 2)) (w.take ((w.length+1) / 2))<0
 ·rw[if_pos (by simpa using c),decide_eq_true (by omega),cond_true]
 ·rw[if_neg (by simpa using c),decide_eq_false (by omega),cond_false]
theorem l0k(a b:List Int):K0 (cN a b):=by
 unfold cN thenC
 cases decide (a.length=b.length)
 ·rw[cond_false];unfold N5;constructor<;>split<;>(try split)<;>omega
 ·rw[cond_true]
  split
  ·exact x05 _ _
  ·exact x05 _ _
theorem D0s{a b:List Int}(h:cN a b<0):a.length<=b.length:=by
 unfold cN at h
 by_cases c:a.length=b.length
 ·omega
 ·rw[decide_eq_false c,cond_false]at h
  unfold N5 at h
  split at h
  ·omega
  ·split at h<;>omega
theorem l0t{a b:List Int}(h:Lw a)(i:Lw b)(j:a.length<=1000)(k:b.length<=1000):w8 a b=some (cN a b):=by
 have f:=L0m h
 have g:=L0m i
 unfold w8 cN
 by_cases c:a.length=b.length
 ·rw[if_neg (by simp[c]),V0g h j,oB,V0g i k,decide_eq_true c,cond_true]
  generalize hv a=p at *
  generalize hv b=q at *
  obtain⟨l,n⟩:=p
  obtain⟨m,o⟩:=q
  simp only at f g
  simp only[oB]
  rw[d01 f.1.1.a64' g.1.1.a64' (by omega),oB,F0 (x05 _ _),oB,d01 f.1.2.a64' g.1.2.a64' (by omega),oB,F0 (x05 _ _),oB]
  unfold thenC
  by_cases d:C4 l m=0
  ·rw[if_pos (by simpa using d)];simp[d]
  ·rw[if_neg (by simpa using d)];simp[d]
 ·rw[if_pos (by simp;omega),decide_eq_false c,cond_false]
  unfold N5
  by_cases d:(a.length:Int)<(b.length:Int)
  ·rw[if_pos (by simpa using d),if_pos d]
  ·rw[if_neg (by simpa using d),if_neg d,if_pos (by omega)]
theorem m0t{a b:List Int}(i:Lw a)(j:Lw b)(k:a.length<=1000)(l:b.length<=1000):O2 a b=some (cN a b):=by
 have f:=L0m i
 have g:=L0m j
 unfold O2 cN
 rw[F03,oB,F0 (by unfold N5;constructor<;>split<;>(try split)<;>omega),oB]
 by_cases c:a.length=b.length
 ·have e:N5 (a.length:Int) (b.length:Int)=0:=by rw[c];exact L8.refl _
  rw[e,if_neg (by decide),W0g i k,oB,W0g j l,decide_eq_true c,cond_true]
  generalize hv a=p at *
  generalize hv b=q at *
  obtain⟨m,o⟩:=p
  obtain⟨n,s⟩:=q
  simp only at f g
  simp only[oB]
  rw[G02 f.1.1.a64' g.1.1.a64' (by omega),oB,F0 (x05 _ _),oB,G02 f.1.2.a64' g.1.2.a64' (by omega),oB,F0 (x05 _ _),oB]
  unfold thenC
  by_cases d:C4 m n=0
  ·rw[if_neg (by simpa using d)];simp[d]
  ·rw[if_pos (by simpa using d)];simp[d]
 ·rw[decide_eq_false c,cond_false,if_pos]
  have:N5 (a.length:Int) (b.length:Int)≠0:=λh=>c (by have:=L8.eq _ _ h;omega)
  simpa using this
structure Bd (l:List (List Int)):Prop where
 n:l.length<=6
 w:∀ w∈l,Lw w/\w.length<=17592186044416
 p:∀(i j:Nat) (a b:List Int),i≠j->l[i]?=some a->l[j]?=some b->a.length+b.length<=17592186044416
theorem z03{l:List (List Int)}(h:l.length<=6){i:Nat}{w:List Int}(a:l[i]?=some w):inR 0 (IntKind.i64.wrap (((l.length:Nat):Int)-1)) (i:Int)=true:=by
 have:=(List.getElem?_eq_some_iff.1 a).1
 rw[w64 (by omega) (by omega)]
 unfold inR
 simp only[Bool.and_eq_true,decide_eq_true_eq]
 omega
theorem N0m{l:List (List Int)}(h:Bd l){i:Nat}{w:List Int}(a:l[i]?=some w):C3 l (4,(i:Int),0,0)=some (bif w.isEmpty then(l.take i++l.drop (i+1),true)else(l,false)):=by
 have b:=(List.getElem?_eq_some_iff.1 a).1
 have c:=h.n
 unfold C3
 simp only
 rw[W0b l (by omega) (λw d=>(h.w w d).2),oB,M00,z03 c a,oB,if_neg (by decide),if_neg (by decide),if_pos (by decide),V1 a,oB]
 cases w with
 |cons x r=>rw[if_pos (by simp)];rfl
 |nil =>
  rw[if_neg (by simp),P03 (by omega),oB,F0 (by simp only[List.length_nil,List.length_take];omega),oB,C2 b (by omega:l.length<=9223372036854775807),v03 (by omega),oB,
   F0 (by simp only[List.length_nil,List.length_append,List.length_take,List.length_drop];omega),oB]
  rfl
theorem O0m{l:List (List Int)}(h:Bd l){i:Nat}{w:List Int}(a:l[i]?=some w):l4 l (4,(i:Int),0,0)=some (bif w.isEmpty then(l.take i++l.drop (i+1),true)else(l,false)):=by
 have b:=(List.getElem?_eq_some_iff.1 a).1
 have c:=h.n
 unfold l4
 simp only
 rw[Q0p l (by omega) (λw d=>(h.w w d).2),oB,U7,z03 c a,oB,if_neg (by decide),V1 a,oB,if_neg (by decide),if_pos (by decide)]
 cases w with
 |cons x r=>rw[if_pos (by simp)];rfl
 |nil =>
  rw[if_neg (by simp),P03 (by omega),oB,C2 b (by omega:l.length<=9223372036854775807),v03 (by omega),oB,
   F0 (by simp only[List.length_take,List.length_drop];omega),oB]
  rfl
theorem z0l{l:List (List Int)}(h:Bd l){i j:Nat}{w x:List Int}(k:i≠j)(b:l[i]?=some w)(a:l[j]?=some x){n:Nat}(m:n<4):C3 l (kd n,(i:Int),(j:Int),sg n)=some (l.set i (p4 n w x),true):=by
 have f:=h.n
 have c:=h.w w (List.mem_of_getElem? b)
 have d:=h.w x (List.mem_of_getElem? a)
 have o:=h.p i j w x k b a
 have g:decide ((i:Int)=(j:Int))=false:=decide_eq_false (by omega)
 have hv:=e03 x
 unfold C3
 simp only
 rw[W0b l (by omega) (λw c=>(h.w w c).2),oB,M00,z03 f b,oB,if_neg (by decide)]
 match n,m with
 |0,_ =>
  rw[if_neg (by decide),if_neg (by decide),M00,z03 f a,oB,g,if_neg (by decide),V1 a,oB,if_neg (by decide),if_pos (by decide),V1 b,oB,oB,i0i c.1 d.1 (by omega),oB,Int.toNat_natCast]
  rfl
 |1,_ =>
  rw[if_neg (by decide),if_neg (by decide),M00,z03 f a,oB,g,if_neg (by decide),V1 a,oB,if_pos (by decide),R00 x d.2,oB,if_pos (by decide),V1 b,oB,oB,i0i c.1 d.1.inv (by omega),oB,Int.toNat_natCast]
  rfl
 |2,_ =>
  rw[if_neg (by decide),if_neg (by decide),M00,z03 f a,oB,g,if_neg (by decide),V1 a,oB,if_neg (by decide),if_neg (by decide),if_pos (by decide),V1 b,oB,oB,i0i d.1 c.1 (by omega),oB,Int.toNat_natCast]
  rfl
 |3,_ =>
  rw[if_neg (by decide),if_neg (by decide),M00,z03 f a,oB,g,if_neg (by decide),V1 a,oB,if_pos (by decide),R00 x d.2,oB,if_neg (by decide),if_pos (by decide),V1 b,oB,oB,i0i d.1.inv c.1 (by omega),oB,Int.toNat_natCast]
  rfl
theorem S0p{l:List (List Int)}(h:Bd l){i j:Nat}{w x:List Int}(k:i≠j)(d:l[i]?=some w)(a:l[j]?=some x){n:Nat}(m:n<4):l4 l (kd n,(i:Int),(j:Int),sg n)=some (l.set i (p4 n w x),true):=by
 have b:=h.n
 have f:=h.w w (List.mem_of_getElem? d)
 have g:=h.w x (List.mem_of_getElem? a)
 have o:=h.p i j w x k d a
 have c:decide ((j:Int)=(i:Int))=false:=decide_eq_false (by omega)
 have hv:=e03 x
 unfold l4
 simp only
 rw[Q0p l (by omega) (λw f=>(h.w w f).2),oB,U7,z03 b d,oB,if_neg (by decide),V1 d,oB]
 match n,m with
 |0,_ =>
  rw[if_neg (by decide),if_neg (by decide),if_pos (by decide),if_pos (by decide),U7,z03 b a,oB,c,if_neg (by decide),V1 a,oB,if_neg (by decide),if_pos (by decide),f08 (by omega),oB,oB,Int.toNat_natCast]
  rfl
 |1,_ =>
  rw[if_neg (by decide),if_neg (by decide),if_pos (by decide),if_pos (by decide),U7,z03 b a,oB,c,if_neg (by decide),V1 a,oB,if_pos (by decide),S00 x g.2,oB,if_pos (by decide),f08 (by omega),oB,oB,Int.toNat_natCast]
  rfl
 |2,_ =>
  rw[if_neg (by decide),if_neg (by decide),if_neg (by decide),if_pos (by decide),U7,z03 b a,oB,c,if_neg (by decide),V1 a,oB,if_neg (by decide),if_neg (by decide),f08 (by omega),oB,oB,Int.toNat_natCast]
  rfl
 |3,_ =>
  rw[if_neg (by decide),if_neg (by decide),if_neg (by decide),if_pos (by decide),U7,z03 b a,oB,c,if_neg (by decide),V1 a,oB,if_pos (by decide),S00 x g.2,oB,if_neg (by decide),f08 (by omega),oB,oB,Int.toNat_natCast]
  rfl
theorem u0r{l:List (List Int)}(h:Bd l){i:Nat}{w:List Int}(a:l[i]?=some w){n:Nat}(c:n<4):C3 l (kd n,(i:Int),(i:Int),sg n)=some (l,false):=by
 have b:=h.n
 unfold C3
 simp only
 rw[W0b l (by omega) (λw d=>(h.w w d).2),oB,M00,z03 b a,oB,if_neg (by decide),decide_true]
 match n,c with
 |0,_=>rw[if_neg (by decide),if_neg (by decide),oB,if_pos (by decide)]
 |1,_=>rw[if_neg (by decide),if_neg (by decide),oB,if_pos (by decide)]
 |2,_=>rw[if_neg (by decide),if_neg (by decide),oB,if_pos (by decide)]
 |3,_=>rw[if_neg (by decide),if_neg (by decide),oB,if_pos (by decide)]
structure Iso (t c:j0) (P:Int->Int) (n:Nat):Prop where
 rank:c.1=t.1
 nt:t.2.1=(n:Int)
 nc:c.2.1=(n:Int)
 ft:Z0 t=true
 fc:Z0 c=true
 rng:∀ x:Int,0<=x->x<(n:Int)->0<=P x/\P x<(n:Int)
 inj:∀ x y:Int,0<=x->x<(n:Int)->0<=y->y<(n:Int)->P x=P y->x=y
 mem:∀ e',e'∈c.2.2↔∃ e∈t.2.2,e'=(P e.1,e.2.1,P e.2.2)
theorem Iso.inE{t c:j0}{P:Int->Int}{n:Nat}(s:Iso t c P n){e:J0}(a:e∈t.2.2):(0<=e.1/\e.1<(n:Int))/\(0<=e.2.2/\e.2.2<(n:Int)):=by
 have:=(j4 s.ft).1 e a
 rw[s.nt]at this
 exact⟨this.1,this.2.1⟩
theorem Iso.comp{a b c:j0}{P Q:Int->Int}{n:Nat}(s:Iso a b P n)(u:Iso b c Q n):Iso a c (λx=>Q (P x)) n where
 rank:=by rw[u.rank,s.rank]
 nt:=s.nt
 nc:=u.nc
 ft:=s.ft
 fc:=u.fc
 rng:=λx h0 d=>u.rng _ (s.rng x h0 d).1 (s.rng x h0 d).2
 inj:=λx j h0 d g i h=>s.inj x j h0 d g i (u.inj _ _ (s.rng x h0 d).1 (s.rng x h0 d).2 (s.rng j g i).1 (s.rng j g i).2 h)
 mem:=λl=>by
  rw[u.mem]
  constructor
  ·rintro⟨e,k,rfl⟩
   obtain⟨f,hf,rfl⟩:=(s.mem e).1 k
   exact⟨f,hf,rfl⟩
  ·rintro⟨f,hf,rfl⟩
   exact⟨_,(s.mem _).2 ⟨f,hf,rfl⟩,rfl⟩
theorem Iso.next{t c:j0}{P:Int->Int}{n:Nat}(s:Iso t c P n)(v x:Int)(h0:0<=v)(k:v<(n:Int)):
  (C1 t v x = -1/\C1 c (P v) x = -1)∨((0<=C1 t v x/\C1 t v x<(n:Int))/\C1 c (P v) x=P (C1 t v x)):=by
 rcases c05 t v x with⟨g,o⟩|g
 ·left
  refine⟨g,?_⟩
  rcases c05 c (P v) x with⟨h,q⟩|h
  ·exact h
  ·exfalso
   obtain⟨m,p,i⟩:=i6.1 h
   obtain⟨e,d,rfl⟩:=(s.mem m).1 p
   have f:=s.inE d
   have:∃ j,j∈O9 v x t.2.2:=by
    rcases i with⟨a,b,c,_⟩|⟨a,b,c,_⟩
    ·exact⟨_,i6.2 ⟨e,d,.inl ⟨a,b,s.inj _ _ f.1.1 f.1.2 h0 k c,rfl⟩⟩⟩
    ·exact⟨_,i6.2 ⟨e,d,.inr ⟨a,b,s.inj _ _ f.2.1 f.2.2 h0 k c,rfl⟩⟩⟩
   obtain⟨j,l⟩:=this
   rw[o]at l;cases l
 ·right
  generalize C1 t v x=j at g
  obtain⟨e,d,i⟩:=i6.1 g
  have f:=s.inE d
  rcases i with⟨a,b,c,rfl⟩|⟨a,b,c,rfl⟩
  ·exact⟨f.2,V06 s.fc (i6.2 ⟨_,(s.mem _).2 ⟨e,d,rfl⟩,.inl ⟨a,b,by show P e.1=P v;rw[c],rfl⟩⟩)⟩
  ·exact⟨f.1,V06 s.fc (i6.2 ⟨_,(s.mem _).2 ⟨e,d,rfl⟩,.inr ⟨a,b,by show P e.2.2=P v;rw[c],rfl⟩⟩)⟩
theorem Iso.perm{t c:j0}{P:Int->Int}{n:Nat}(s:Iso t c P n):c.2.2.Perm (t.2.2.map λe=>(P e.1,e.2.1,P e.2.2)):=by
 have j:=o06 (m06 (w7 s.ft))
 have k:=o06 (m06 (w7 s.fc))
 have o:(t.2.2.map λe=>((P e.1,e.2.1,P e.2.2):J0)).Nodup:=by
  rw[List.Nodup,List.pairwise_map]
  refine List.Pairwise.imp_of_mem (λ{a b} l m h e=>h ?_) j
  have g:=s.inE l
  have i:=s.inE m
  simp only[Prod.mk.injEq]at e
  have d:=s.inj _ _ g.1.1 g.1.2 i.1.1 i.1.2 e.1
  have f:=s.inj _ _ g.2.1 g.2.2 i.2.1 i.2.2 e.2.2
  obtain⟨q,u,v⟩:=a
  obtain⟨w,x,f2⟩:=b
  simp only at d f e
  rw[d,f,e.2.1]
 refine(List.perm_ext_iff_of_nodup k o).2 λp=>?_
 rw[s.mem,List.mem_map]
 exact⟨λ⟨e,d,f⟩=>⟨e,d,f.symm⟩,λ⟨e,d,f⟩=>⟨e,d,f.symm⟩⟩
theorem Iso.len{t c:j0}{P:Int->Int}{n:Nat}(s:Iso t c P n):c.2.2.length=t.2.2.length:=by
 rw[s.perm.length_eq,List.length_map]
theorem Iso.rch{t c:j0}{P:Int->Int}{n:Nat}(s:Iso t c P n){a x:Int}(h:Rch t.2.2 a x):Rch c.2.2 (P a) (P x) :=
 Rch.sub (P:=λx=>Rch c.2.2 (P a) (P x)) .base (λe b=>Rch.closed (P e.1,e.2.1,P e.2.2) ((s.mem _).2 ⟨e,b,rfl⟩)) h
theorem Iso.onto{t c:j0}{P:Int->Int}{n:Nat}(s:Iso t c P n){f:Int}(h0:0<=f)(j:f<(n:Int)):∃ x:Int,(0<=x/\x<(n:Int))/\P x=f:=by
 let L:List Int:=(List.range n).map λi:Nat=>P (i:Int)
 have p:L.Nodup:=by
  rw[List.Nodup,List.pairwise_map]
  refine List.Pairwise.imp_of_mem (λ{a b} l m h e=>h ?_) List.nodup_range
  have:=s.inj _ _ (by omega) (by have:=List.mem_range.1 l;omega) (by omega) (by have:=List.mem_range.1 m;omega) e
  omega
 have q:inV n L:=λz d=>by
  obtain⟨i,g,rfl⟩:=List.mem_map.1 d
  have:=List.mem_range.1 g
  exact s.rng _ (by omega) (by omega)
 have u:f∈L:=by
  refine Classical.byContradiction λo=>?_
  have k:=Y03 n (f::L) (List.nodup_cons.2 ⟨o,p⟩) λz d=>by
   rcases List.mem_cons.1 d with rfl|d
   ·exact⟨h0,j⟩
   ·exact q z d
  simp[L]at k
  omega
 obtain⟨i,g,e⟩:=List.mem_map.1 u
 have:=List.mem_range.1 g
 exact⟨_,⟨by omega,by omega⟩,e⟩
theorem Rch.tr{es:List J0}{a b c:Int}(h:Rch es a b)(k:Rch es b c):Rch es a c:=Rch.sub (P:=λx=>Rch es a x) h Rch.closed k
structure Hom (x t:j0) (g:Int->Int):Prop where
 rng:∀ v,0<=v->v<x.2.1->0<=g v/\g v<t.2.1
 step:∀ v l,0<=v->v<x.2.1->0<=C1 x v l->C1 t (g v) l=g (C1 x v l)
structure Emb (c t:j0) (E:Int->Int):Prop where
 fc:Z0 c=true
 hom:Hom c t E
 inj:∀ x y,0<=x->x<c.2.1->0<=y->y<c.2.1->E x=E y->x=y
 full:∀ x y l,0<=x->x<c.2.1->0<=y->y<c.2.1->C1 t (E x) l=E y->C1 c x l=y
theorem R0a{g:j0}(hf:Z0 g=true){v l:Int}(h:0<=C1 g v l):C1 g v l<g.2.1:=by
 rcases S06 (j4 hf).1 v l with e|e<;>omega
theorem Emb.comp{a b c:j0}{E D:Int->Int}(e:Emb a b E)(d:Emb b c D):Emb a c (λx=>D (E x)) where
 fc:=e.fc
 hom:=⟨λv h0 f=>d.hom.rng _ (e.hom.rng v h0 f).1 (e.hom.rng v h0 f).2,λv l h0 f h=>by
  have m:=e.hom.step v l h0 f h
  have k:=e.hom.rng v h0 f
  have n:=e.hom.rng _ h (R0a e.fc h)
  show C1 c (D (E v)) l=D (E (C1 a v l))
  rw[d.hom.step _ l k.1 k.2 (by rw[m];exact n.1),m]⟩
 inj:=λx j h0 f g i h=>e.inj x j h0 f g i (d.inj _ _ (e.hom.rng x h0 f).1 (e.hom.rng x h0 f).2 (e.hom.rng j g i).1 (e.hom.rng j g i).2 h)
 full:=λx j l h0 f g i h=>e.full x j l h0 f g i (d.full _ _ l (e.hom.rng x h0 f).1 (e.hom.rng x h0 f).2 (e.hom.rng j g i).1 (e.hom.rng j g i).2 h)
theorem T0p{g:j0}{a v l:Int}(h:0<=C1 g v l):Rch g.2.2 a v↔Rch g.2.2 a (C1 g v l):=by
 obtain⟨_,e,f,_,i⟩:=j02 h
 have b:=Rch.closed (v:=a) e f
 rcases i with⟨_,_,c,d⟩|⟨_,_,c,d⟩
 ·rw[c,d]at b;exact b
 ·rw[c,d]at b;exact b.symm
theorem Hom.rch{x t:j0}{g:Int->Int}(m:Hom x t g)(hf:Z0 x=true){a b:Int}(h:Rch x.2.2 a b):Rch t.2.2 (g a) (g b):=by
 refine Rch.sub (P:=λz=>Rch t.2.2 (g a) (g z)) .base (λe f=>?_) h
 have c:=(j4 hf).1 e f
 have i:=(j00 hf f).1
 have d:=m.step e.1 e.2.1 c.1.1 c.1.2 (by rw[i];exact c.2.1.1)
 rw[i]at d
 have:=T0p (g:=t) (a:=g a) (v:=g e.1) (l:=e.2.1) (by rw[d];exact(m.rng _ c.2.1.1 c.2.1.2).1)
 rw[d]at this;exact this
theorem Hom.comp{a b c:j0}{g k:Int->Int}(e:Hom a b g)(d:Hom b c k)(hf:Z0 a=true):Hom a c (λx=>k (g x)) where
 rng:=λv h0 f=>d.rng _ (e.rng v h0 f).1 (e.rng v h0 f).2
 step:=λv l h0 f h=>by
  have j:=e.step v l h0 f h
  have i:=e.rng v h0 f
  have m:=e.rng _ h (R0a hf h)
  show C1 c (k (g v)) l=k (g (C1 a v l))
  rw[d.step _ l i.1 i.2 (by rw[j];exact m.1),j]
theorem Hom.lift{x c t:j0}{g E:Int->Int}(m:Hom x t g)(hf:Z0 x=true)(e:Emb c t E)(h:∀ v,0<=v->v<x.2.1->∃ w,(0<=w/\w<c.2.1)/\E w=g v):∃ f,Hom x c f/\∀ v,0<=v->v<x.2.1->E (f v)=g v:=by
 have n:∀ v:Int,∃ w:Int,0<=v->v<x.2.1->(0<=w/\w<c.2.1)/\E w=g v:=λv=>by
  by_cases k:0<=v/\v<x.2.1
  ·obtain⟨w,p⟩:=h v k.1 k.2
   exact⟨w,λ_ _=>p⟩
  ·exact⟨0,λh0 d=>absurd ⟨h0,d⟩ k⟩
 let f:Int->Int:=λv=>Classical.choose (n v)
 have i:∀ v,0<=v->v<x.2.1->(0<=f v/\f v<c.2.1)/\E (f v)=g v:=λv=>Classical.choose_spec (n v)
 refine⟨f,⟨λv h0 d=>(i v h0 d).1,λv l h0 d j=>?_⟩,λv h0 d=>(i v h0 d).2⟩
 have o:=R0a hf j
 have a:=i v h0 d
 have b:=i _ j o
 exact e.full _ _ l a.1.1 a.1.2 b.1.1 b.1.2 (by rw[a.2,b.2];exact m.step v l h0 d j)
theorem u0d{o:List Int}{i:Nat}{v:Int}(h:o[i]?=some v):getI o (i:Int)=v:=by
 unfold getI
 simp[List.getD_eq_getElem?_getD,h]
theorem U0p(P:List Int):∀(es:List J0) (a:J0),a∈es->0<=getI P a.1->0<=getI P a.2.2->((getI P a.1,a.2.1,getI P a.2.2):J0)∈pE P es
 |b::r,a,h,c,d=>by
  unfold pE
  rcases List.mem_cons.1 h with rfl|h
  ·rw[decide_eq_true c,decide_eq_true d]
   exact mS
  ·have f:=U0p P r a h c d
   cases decide (0<=getI P b.1)&&decide (0<=getI P b.2.2)
   ·exact f
   ·exact mC _ f
theorem Z0e{t:j0}{o:List Int}{a:J0}:a∈(O8 t o).2.2↔∃ e∈t.2.2,a=(getI (plc t.2.1.toNat o) e.1,e.2.1,getI (plc t.2.1.toNat o) e.2.2)/\0<=getI (plc t.2.1.toNat o) e.1/\0<=getI (plc t.2.1.toNat o) e.2.2:=by
 show a∈K6 P0 [] _↔_
 rw[D4 Y3]
 constructor
 ·rintro(h|h)
  ·cases h
  ·exact O0e _ _ a h
 ·rintro⟨e,d,rfl,b,c⟩
  exact .inr (U0p _ _ e d b c)
theorem P0m{n:Nat}{o:List Int}(b:inV n o)(d:o.Nodup){x:Int}(f:0<=x)(h:0<=getI (plc n o) x):getI o (getI (plc n o) x)=x:=by
 have k:=(w04 b f).2
 have i:(getI (plc n o) x).toNat<o.length:=by omega
 have a:=d5 i
 generalize hv:o[(getI (plc n o) x).toNat]=v at a
 have j:=G0p b d a
 have g:=c0i b d f (b v (List.mem_of_getElem? a)).1 h (by omega)
 have c:=u0d a
 rw[show(((getI (plc n o) x).toNat:Nat):Int)=getI (plc n o) x by omega]at c
 rw[c,g]
theorem V0p{o:List Int}{x:Int}(h0:0<=x)(b:x<(o.length:Int)):o[x.toNat]?=some (getI o x):=by
 have a:=d5 (xs:=o) (k:=x.toNat) (by omega)
 have:=u0d a
 rw[show((x.toNat:Nat):Int)=x by omega]at this
 rw[this];exact a
theorem m0k{t:j0}(hf:Z0 t=true){o:List Int}(s:o.Nodup)(n:inV t.2.1.toNat o)(G:1<=o.length)(H:o.length<=40):Emb (O8 t o) t (getI o):=by
 have y:=b08 hf n s G H
 obtain⟨L,N,O,P⟩:=j4 hf
 have m:∀ x:Int,0<=x->x<(o.length:Int)->(0<=getI o x/\getI o x<t.2.1)/\getI (plc t.2.1.toNat o) (getI o x)=x:=λx a b=>by
  have A:=V0p a b
  have:=n _ (List.mem_of_getElem? A)
  exact⟨by omega,by rw[G0p n s A];omega⟩
 refine⟨y,⟨λv a b=>(m v a b).1,λv l a b h=>?_⟩,λx q a b c d h=>?_,λx q l a b c d h=>?_⟩
 ·obtain⟨_,M,I,_,u⟩:=j02 h
  obtain⟨e,k,rfl,J,K⟩:=Z0e.1 I
  have D:=L e k
  have C:=j00 hf k
  have E:=P0m n s D.1.1 J
  have F:=P0m n s D.2.1.1 K
  rcases u with⟨_,j,f,i⟩|⟨_,j,f,i⟩
  ·simp only at j f i
   rw[←i,F,←f,E,←j];exact C.1
  ·simp only at j f i
   rw[←i,E,←f,F,show l = -e.2.1 by omega];exact C.2
 ·rw[←(m x a b).2,h,(m q c d).2]
 ·have w:=m x a b
  have p:=m q c d
  obtain⟨_,e,k,_,u⟩:=j02 (g:=t) (v:=getI o x) (x:=l) (by rw[h];exact p.1.1)
  rw[h]at u
  rcases u with⟨_,j,f,i⟩|⟨_,j,f,i⟩
  ·have z:((x,e.2.1,q):J0)∈(O8 t o).2.2:=Z0e.2 ⟨e,k,by rw[f,i,w.2,p.2],by rw[f,w.2];exact a,by rw[i,p.2];exact c⟩
   have:=(j00 y z).1
   simp only at this
   rw[←j];exact this
  ·have z:((q,e.2.1,x):J0)∈(O8 t o).2.2:=Z0e.2 ⟨e,k,by rw[f,i,w.2,p.2],by rw[i,p.2];exact c,by rw[f,w.2];exact a⟩
   have:=(j00 y z).2
   simp only at this
   rw[show l = -e.2.1 by omega];exact this
structure n0t (x:j0) (p:Int):Prop where
 fx:Z0 x=true
 pr:0<=p/\p<x.2.1
 two:∀ v,0<=v->v<x.2.1->v≠p->∀ z,∃ l,l≠z/\0<=C1 x v l
 con:∀ v,0<=v->v<x.2.1->Rch x.2.2 p v
def L0c(c t:j0)(E:Int->Int):Prop:=∀(x:j0) (p:Int) (g:Int->Int),n0t x p->Hom x t g->(∃ w,(0<=w/\w<c.2.1)/\E w=g p)->∀ v,0<=v->v<x.2.1->∃ w,(0<=w/\w<c.2.1)/\E w=g v
theorem L0c.comp{a b c:j0}{E D:Int->Int}(e:Emb a b E)(d:Emb b c D)(z:L0c a b E)(A:L0c b c D):L0c a c (λx=>D (E x)):=by
 rintro x p g f m ⟨w,i,q⟩
 have h:=e.hom.rng w i.1 i.2
 obtain⟨j,n,l⟩:=m.lift f.fx d (A x p g f m ⟨E w,h,q⟩)
 have o:=n.rng p f.pr.1 f.pr.2
 have s:E w=j p:=d.inj _ _ h.1 h.2 o.1 o.2 (by rw[l p f.pr.1 f.pr.2];exact q)
 intro v h0 k
 obtain⟨u,t,y⟩:=z x p j f n ⟨w,i,s⟩ v h0 k
 exact⟨u,t,by show D (E u)=g v;rw[y];exact l v h0 k⟩
theorem D09{c t:j0}{E:Int->Int}(h:∀ v,0<=v->v<t.2.1->∃ w,(0<=w/\w<c.2.1)/\E w=v):L0c c t E:=λx p g d b _ v h0 a=>h _ (b.rng v h0 a).1 (b.rng v h0 a).2
theorem S0a{v:Int}:∀ {es:List J0} {e:J0},e∈es->T0c v e<=X03 v es
 |x::r,e,h=>by
  simp only[X03]
  rcases List.mem_cons.1 h with a|a
  ·rw[a];omega
  ·have:=S0a (v:=v) a;omega
theorem X0g{v:Int}:∀ {es:List J0} {e d:J0},e∈es->d∈es->e≠d->T0c v e+T0c v d<=X03 v es
 |x::r,e,d,h,k,c=>by
  simp only[X03]
  rcases List.mem_cons.1 h with b|b
  ·rcases List.mem_cons.1 k with a|a
   ·exact absurd (b.trans a.symm) c
   ·have:=S0a (v:=v) a;rw[b];omega
  ·rcases List.mem_cons.1 k with a|a
   ·have:=S0a (v:=v) b;rw[a];omega
   ·have:=X0g (v:=v) b a c;omega
theorem v0r{g:j0}(hf:Z0 g=true){v:Int}(h:∀ z,∃ l,l≠z/\0<=C1 g v l):2<=X03 v g.2.2:=by
 obtain⟨l,_,t⟩:=h 0
 obtain⟨k,n,s⟩:=h l
 obtain⟨_,e,j,w,m⟩:=j02 t
 obtain⟨_,d,q,u,o⟩:=j02 s
 by_cases c:e=d
 ·subst c
  have:=S0a (v:=v) j
  have i:e.1=v/\e.2.2=v:=by
   rcases m with⟨_,a,b,_⟩|⟨_,a,b,_⟩<;>rcases o with⟨_,p,f,_⟩|⟨_,p,f,_⟩
   ·exact absurd (by omega) n
   ·exact⟨b,f⟩
   ·exact⟨f,b⟩
   ·exact absurd (by omega) n
  unfold T0c at this
  rw[if_pos i.1,if_pos i.2]at this
  omega
 ·have:=X0g (v:=v) j q c
  have x:1<=T0c v e:=by
   unfold T0c
   rcases m with⟨_,_,b,_⟩|⟨_,_,b,_⟩
   ·rw[if_pos b];omega
   ·rw[if_pos b];omega
  have i:1<=T0c v d:=by
   unfold T0c
   rcases o with⟨_,_,b,_⟩|⟨_,_,b,_⟩
   ·rw[if_pos b];omega
   ·rw[if_pos b];omega
  omega
theorem Hom.two{x t:j0}{g:Int->Int}(m:Hom x t g)(hf:Z0 x=true){v:Int}(h0:0<=v)(b:v<x.2.1)(h:∀ z,∃ l,l≠z/\0<=C1 x v l):∀ z,∃ l,l≠z/\0<=C1 t (g v) l:=λz=>by
 obtain⟨l,c,a⟩:=h z
 exact⟨l,c,by rw[m.step v l h0 b a];exact(m.rng _ a (R0a hf a)).1⟩
theorem A0l(g:Nat):∀(d k:Nat),(g:Int) ∉ wo g d k
 |0,k,h=>nomatch h
 |d+1,k,h=>by
  unfold wo at h
  by_cases c:k=g
  ·rw[if_pos c]at h;exact A0l g d (k+1) h
  ·rw[if_neg c]at h
   rcases List.mem_cons.1 h with h|h
   ·omega
   ·exact A0l g d (k+1) h
theorem Y0r{bad:Nat->Bool}:∀(d v k:Nat),lf bad d v=some k->bad k=true
 |0,v,k,h=>by cases h
 |d+1,v,k,h=>by
  unfold lf at h
  cases hb:bad v with
  |true=>rw[hb]at h;cases h;exact hb
  |false=>rw[hb]at h;exact Y0r d (v+1) k h
theorem n0k:∀(d:Nat) {h:j0},Z0 h=true->(∀ w,0<=w->w<(t00 d h).2.1->Rch (t00 d h).2.2 0 w)->∃ E,Emb (t00 d h) h E/\E 0=0/\L0c (t00 d h) h E
 |0,h,hf,o=>⟨id,⟨hf,⟨λv a b=>⟨a,b⟩,λv l a b k=>rfl⟩,λx D _ _ _ _ e=>e,λx D l _ _ _ _ e=>e⟩,rfl,D09 λv a b=>⟨v,⟨a,b⟩,rfl⟩⟩
 |d+1,h,hf,o=>by
  unfold t00 at o ⊢
  cases e:d00 h with
  |none=>exact⟨id,⟨hf,⟨λv a b=>⟨a,b⟩,λv l a b k=>rfl⟩,λx D _ _ _ _ e=>e,λx D l _ _ _ _ e=>e⟩,rfl,D09 λv a b=>⟨v,⟨a,b⟩,rfl⟩⟩
  |some k =>
   rw[e]at o
   obtain⟨ac,ad,ae,af⟩:=j4 hf
   obtain⟨s1,s2,O,P⟩:=z08 (w7 hf) e
   have ab:=r0d e
   have q:=Y0r _ _ _ e
   have L:=a08 k h.2.1.toNat 0
   have A:=m0k hf L s1 O P
   have V:=b08 hf s1 L O P
   simp only at o ⊢
   obtain⟨E,z,F,Q⟩:=n0k d V o
   have N:getI (wo k h.2.1.toNat 0) 0=0:=by
    obtain⟨m,S⟩:∃ m,h.2.1.toNat=m+1:=⟨h.2.1.toNat-1,by omega⟩
    rw[S,wo,if_neg (by omega)];rfl
   have H:=z.comp A
   refine⟨_,H,by rw[F];exact N,?_⟩
   rintro x p g f y ⟨w,s,C⟩
   have t:=z.hom.rng w s.1 s.2
   have W:Rch h.2.2 0 (g p):=by
    have:=H.hom.rch z.fc (o w s.1 s.2)
    rw[F,N]at this
    rw[←C];exact this
   have T:∀ u,0<=u->u<(O8 h (wo k h.2.1.toNat 0)).2.1->getI (wo k h.2.1.toNat 0) u≠(k:Int):=λu Z aa c=>by
    have:=List.mem_of_getElem? (V0p Z aa)
    rw[c]at this
    exact A0l k _ _ this
   have U:∀ v,0<=v->v<x.2.1->g v≠(k:Int):=λv j n c=>by
    by_cases cp:v=p
    ·rw[cp,←C]at c
     exact T _ t.1 t.2 c
    ·unfold M0a at q
     simp only[Bool.or_eq_true,decide_eq_true_eq,Bool.not_eq_true',decide_eq_false_iff_not]at q
     rcases q with q|q
     ·have:=v0r hf (y.two f.fx j n (f.two v j n cp))
      rw[c]at this;omega
     ·refine q ((J0a _ _ _).2 ?_)
      rw[←c]
      exact Rch.tr W (y.rch f.fx (f.con v j n))
   obtain⟨G,I,J⟩:=y.lift f.fx A λv j n=>by
    have o:=y.rng v j n
    have:=w0l k h.2.1.toNat 0 (g v).toNat (Nat.zero_le _) (by omega) (λc=>U v j n (by omega))
    rw[show(((g v).toNat:Nat):Int)=g v by omega]at this
    obtain⟨i,K⟩:=List.getElem?_of_mem this
    refine⟨(i:Int),⟨by omega,?_⟩,u0d K⟩
    show(i:Int)<(((wo k h.2.1.toNat 0).length:Nat):Int)
    have:=(List.getElem?_eq_some_iff.1 K).1
    omega
   have M:=I.rng p f.pr.1 f.pr.2
   have R:E w=G p:=A.inj _ _ t.1 t.2 M.1 M.2 (by rw[J p f.pr.1 f.pr.2];exact C)
   intro v j n
   obtain⟨u,X,Y⟩:=Q x p G f I ⟨w,s,R⟩ v j n
   exact⟨u,X,by show getI _ (E u)=g v;rw[Y];exact J v j n⟩
theorem a0f{h:j0}(hf:Z0 h=true):∃ E,Emb (C09 h) h E/\E 0=0/\L0c (C09 h) h E:=by
 have q:=w7 hf
 obtain⟨A,C,D,F⟩:=j4 hf
 have d:=n04 40 hf
 have l:=R0e 40 q (by omega)
 obtain⟨x,y,z,p4⟩:=j4 d
 have a:=Q0b d
 have p:∀ w,0<=w->w<(t00 40 h).2.1->w∈q00 (t00 40 h):=λw h0 b=>W0n d l h0 b
 have s:∀ w,0<=w->w<(t00 40 h).2.1->Rch (t00 40 h).2.2 0 w:=λw h0 b=>by
  by_cases c:w=0
  ·rw[c];exact .base
  ·have:=f0i l w.toNat (by omega) (by omega)
   unfold M0a at this
   simp only[Bool.or_eq_false_iff,Bool.not_eq_false',decide_eq_true_eq]at this
   have j:=this.2
   rw[show((w.toNat:Nat):Int)=w by omega]at j
   exact(J0a _ _ _).1 j
 obtain⟨E,f,m,n⟩:=n0k 40 hf s
 have g:=m0k d a.1.1 a.1.2 a.2 (Nat.le_trans (Y03 _ _ a.1.1 a.1.2) (by omega))
 have u:getI (q00 (t00 40 h)) 0=0:=by
  obtain⟨t,o⟩:=U0e (t00 40 h)
  rw[o];rfl
 refine⟨_,g.comp f,by rw[u];exact m,L0c.comp g f (D09 λv h0 b=>?_) n⟩
 obtain⟨i,k⟩:=List.getElem?_of_mem (p v h0 b)
 refine⟨(i:Int),⟨by omega,?_⟩,u0d k⟩
 show(i:Int)<(((q00 (t00 40 h)).length:Nat):Int)
 have:=(List.getElem?_eq_some_iff.1 k).1
 omega
structure b0f (x t:j0) (g:Int->Int):Prop where
 rng:∀ v,0<=v->v<x.2.1->0<=g v/\g v<t.2.1
 edge:∀ e∈x.2.2,((g e.1,e.2.1,g e.2.2):J0)∈t.2.2
theorem b0f.hom{x t:j0}{g:Int->Int}(m:b0f x t g)(k:Z0 t=true):Hom x t g where
 rng:=m.rng
 step:=λv l h0 n h=>by
  obtain⟨_,e,i,_,j⟩:=j02 h
  have f:=j00 k (m.edge e i)
  simp only at f
  rcases j with⟨a,b,c,d⟩|⟨a,b,c,d⟩
  ·rw[←d,←c,←b];exact f.1
  ·rw[←d,←c,show l = -e.2.1 by omega];exact f.2
theorem b0f.comp{a b c:j0}{g k:Int->Int}(e:b0f a b g)(d:b0f b c k):b0f a c (λx=>k (g x)) where
 rng:=λv h0 f=>d.rng _ (e.rng v h0 f).1 (e.rng v h0 f).2
 edge:=λz h=>d.edge _ (e.edge z h)
theorem X0b{a b:J0}{f:K4}(h:f∈d04 a b):a.2.1=b.2.1/\((a.1=b.1/\((f.1=a.2.2/\f.2=b.2.2)∨(f.1=b.2.2/\f.2=a.2.2)))∨(a.2.2=b.2.2/\((f.1=a.1/\f.2=b.1)∨(f.1=b.1/\f.2=a.1)))):=by
 unfold d04 at h
 by_cases c:a.2.1=b.2.1
 ·refine⟨c,?_⟩
  simp only[c,decide_true,cond_true,List.mem_append]at h
  rcases h with h|h
  ·by_cases d:a.1=b.1
   ·simp only[d,decide_true,cond_true,List.mem_singleton]at h
    subst h
    refine .inl ⟨d,?_⟩
    simp only
    split<;>split<;>omega
   ·simp[d]at h
  ·by_cases d:a.2.2=b.2.2
   ·simp only[d,decide_true,cond_true,List.mem_singleton]at h
    subst h
    refine .inr ⟨d,?_⟩
    simp only
    split<;>split<;>omega
   ·simp[d]at h
 ·simp[c]at h
theorem Y0g{a:J0}{f:K4}:∀ {l:List J0},f∈i01 a l->∃ b∈l,f∈d04 a b
 | [],h=>by simp[i01]at h
 |b::r,h=>by
  rcases List.mem_append.1 (show f∈d04 a b++i01 a r from h)with h|h
  ·exact⟨b,mS,h⟩
  ·obtain⟨c,d,hf⟩:=Y0g h
   exact⟨c,mC _ d,hf⟩
theorem A08{f:K4}:∀ {l:List J0},f∈Y4 l->∃ a∈l,∃ b∈l,f∈d04 a b
 | [],h=>by simp[Y4]at h
 |a::r,h=>by
  rcases List.mem_append.1 (show f∈i01 a r++Y4 r from h)with h|h
  ·obtain⟨b,d,hf⟩:=Y0g h
   exact⟨a,mS,b,mC _ d,hf⟩
  ·obtain⟨c,g,b,d,hf⟩:=A08 h
   exact⟨c,mC _ g,b,mC _ d,hf⟩
theorem w0r{x t:j0}{g:Int->Int}(m:b0f x t g)(l:Z0 t=true){f:K4}(hf:f∈Y4 x.2.2):g f.1=g f.2:=by
 obtain⟨a,n,b,o,h⟩:=A08 hf
 obtain⟨k,c⟩:=X0b h
 have d:=j00 l (m.edge a n)
 have i:=j00 l (m.edge b o)
 simp only at d i
 rcases c with⟨c,j⟩|⟨c,j⟩
 ·have:g a.2.2=g b.2.2:=by rw[←d.1,←i.1,k,c]
  rcases j with⟨p,q⟩|⟨p,q⟩
  ·rw[p,q,this]
  ·rw[p,q,this]
 ·have:g a.1=g b.1:=by rw[←d.2,←i.2,k,c]
  rcases j with⟨p,q⟩|⟨p,q⟩
  ·rw[p,q,this]
  ·rw[p,q,this]
structure Fol (x y:j0) (q:Int->Int):Prop where
 hom:b0f x y q
 base:q 0=0
 onto:∀ u,0<=u->u<y.2.1->∃ v,(0<=v/\v<x.2.1)/\q v=u
 uni:∀(t:j0) (g:Int->Int),Z0 t=true->b0f x t g->∃ g',b0f y t g'/\∀ v,0<=v->v<x.2.1->g' (q v)=g v
theorem Fol.refl(x:j0):Fol x x id :=
 ⟨⟨λv h0 a=>⟨h0,a⟩,λe b=>b⟩,rfl,λu h0 a=>⟨u,⟨h0,a⟩,rfl⟩,λt g _ m=>⟨g,m,λ_ _ _=>rfl⟩⟩
theorem Fol.comp{x f z:j0}{q p:Int->Int}(a:Fol x f q)(b:Fol f z p):Fol x z (λv=>p (q v)) where
 hom:=a.hom.comp b.hom
 base:=by rw[a.base,b.base]
 onto:=λu h0 c=>by
  obtain⟨v,hv,e⟩:=b.onto u h0 c
  obtain⟨w,k,h⟩:=a.onto v hv.1 hv.2
  exact⟨w,k,by rw[h,e]⟩
 uni:=λt g d m=>by
  obtain⟨g1,l,i⟩:=a.uni t g d m
  obtain⟨g2,n,j⟩:=b.uni t g1 d l
  exact⟨g2,n,λv h0 c=>by rw[j _ (a.hom.rng v h0 c).1 (a.hom.rng v h0 c).2,i v h0 c]⟩
theorem f0o{x:j0}{f:K4}(l:O0 x=true)(hf:f∈Y4 x.2.2):Fol x (R4 x f) (mvV f):=by
 obtain⟨n,f2,f3⟩:=P8 l f hf
 refine⟨⟨λv h0 a=>?_,λe b=>(D4 Y3 _ _ _).2 (.inr (List.mem_map.2 ⟨e,b,rfl⟩))⟩,?_,λu h0 a=>?_,λt g k m=>?_⟩
 ·show 0<=mvV f v/\mvV f v<x.2.1-1
  unfold mvV
  split
  ·omega
  ·split<;>omega
 ·unfold mvV
  rw[if_neg (by omega),if_neg (by omega)]
 ·have a:u<x.2.1-1:=a
  by_cases c:u<f.2
  ·refine⟨u,⟨h0,by omega⟩,?_⟩
   unfold mvV
   rw[if_neg (by omega),if_neg (by omega)]
  ·refine⟨u+1,⟨by omega,by omega⟩,?_⟩
   unfold mvV
   rw[if_neg (by omega),if_pos (by omega)]
   omega
 ·have b:=w0r m k hf
  have i:∀ v,(if mvV f v<f.2 then g (mvV f v)else g (mvV f v+1))=g v:=λv=>by
   unfold mvV
   by_cases c1:v=f.2
   ·rw[if_pos c1,if_pos f2,c1,b]
   ·rw[if_neg c1]
    by_cases c2:v>f.2
    ·rw[if_pos c2,if_neg (by omega),show v-1+1=v by omega]
    ·rw[if_neg c2,if_pos (by omega)]
  refine⟨λu=>if u<f.2 then g u else g (u+1),⟨λu h0 a=>?_,λe b=>?_⟩,λv _ _=>i v⟩
  ·have a:u<x.2.1-1:=a
   show 0<=(if u<f.2 then g u else g (u+1))/\(if u<f.2 then g u else g (u+1))<t.2.1
   split
   ·exact m.rng u h0 (by omega)
   ·exact m.rng (u+1) (by omega) (by omega)
  ·rcases(D4 Y3 _ _ _).1 b with h|h
   ·cases h
   ·obtain⟨d,j,rfl⟩:=List.mem_map.1 h
    have:=m.edge d j
    show(((if mvV f d.1<f.2 then g (mvV f d.1)else g (mvV f d.1+1)),d.2.1,(if mvV f d.2.2<f.2 then g (mvV f d.2.2)else g (mvV f d.2.2+1))):J0)∈t.2.2
    rw[i,i];exact this
theorem Z0g:∀(n:Nat) {g:j0},O0 g=true->∃ q,Fol g (a5 n g).1 q
 |0,g,h=>⟨id,Fol.refl g⟩
 |n+1,g,h=>by
  unfold a5
  cases e:Y4 g.2.2 with
  |nil=>exact⟨id,Fol.refl g⟩
  |cons f r =>
   have a:f∈Y4 g.2.2:=by rw[e];exact mS
   obtain⟨q,b⟩:=Z0g n (s00 h (P8 h f a))
   exact⟨_,(f0o h a).comp b⟩
def Rd(x:j0):Int->List Int->Int->Prop
 |u,[],v=>u=v
 |u,l::w,v=>∃ z,stp u l z∈x.2.2/\Rd x z w v
theorem Q0m(g:Int->Int)(u l z:Int):((g (stp u l z).1,(stp u l z).2.1,g (stp u l z).2.2):J0)=stp (g u) l (g z):=by
 unfold stp;split<;>rfl
theorem Rd.map{x t:j0}{g:Int->Int}(m:b0f x t g):∀ {w:List Int} {u v:Int},Rd x u w v->Rd t (g u) w (g v)
 | [],u,v,h=>congrArg g h
 |l::w,u,v,⟨z,a,h⟩=>⟨g z,by rw[←Q0m];exact m.edge _ a,Rd.map m h⟩
theorem c0f{t:j0}(d:Z0 t=true){u l z:Int}(h:stp u l z∈t.2.2):C1 t u l=z/\0<=z:=by
 have a:=j00 d h
 have b:=(j4 d).1 _ h
 unfold stp at a b
 by_cases c:l<0
 ·rw[if_pos c]at a b
  simp only at a b
  rw[show -(-l)=l by omega]at a
  exact⟨a.2,b.1.1⟩
 ·rw[if_neg c]at a b
  exact⟨a.1,b.2.1.1⟩
theorem Rd.rdw{t:j0}(a:Z0 t=true):∀ {w:List Int} {u v:Int},Rd t u w v->rdw t u w=some v
 | [],u,v,h=>congrArg some h
 |l::w,u,v,⟨z,c,h⟩=>by
  have b:=c0f a c
  unfold Go.Proofs.YtohcdjhocpakkaaGreat.rdw
  rw[b.1,if_neg (by omega)]
  exact Rd.rdw a h
theorem Rd.of{t:j0}:∀ {w:List Int} {u v:Int},Go.Proofs.YtohcdjhocpakkaaGreat.rdw t u w=some v->Rd t u w v
 | [],u,v,h=>oJ h
 |l::w,u,v,h=>by
  unfold Go.Proofs.YtohcdjhocpakkaaGreat.rdw at h
  by_cases c:C1 t u l<0
  ·rw[if_pos c]at h;cases h
  ·rw[if_neg c]at h
   obtain⟨_,e,b,a,_⟩:=j02 (g:=t) (v:=u) (x:=l) (by omega)
   exact⟨_,by rw[←a];exact b,Rd.of h⟩
theorem Rd.mono{x a:j0}(h:∀ e∈x.2.2,e∈a.2.2):∀ {w:List Int} {u v:Int},Rd x u w v->Rd a u w v
 | [],u,v,k=>k
 |l::w,u,v,⟨z,b,k⟩=>⟨z,h _ b,Rd.mono h k⟩
theorem T0a{g:j0}{u v:Int}{w:List Int}(h:(O1 g u w v).2=true):w≠[]/\(O1 g u w v).1=(g.1,g.2.1+((w.length-1:Nat):Int),K6 P0 g.2.2 (p8 v w u g.2.1)):=by
 unfold O1 at h ⊢
 cases hc:(!w.isEmpty&&decide (g.2.1+(w.length:Int)-1<=40)&&decide (g.2.2.length+w.length<=120))with
 |false=>rw[hc]at h;cases h
 |true =>
  simp only[Bool.and_eq_true,decide_eq_true_eq,Bool.not_eq_true',List.isEmpty_eq_false_iff]at hc
  exact⟨hc.1.1,rfl⟩
theorem E0s{t:j0}{u l:Int}(h:0<=C1 t u l):stp u l (C1 t u l)∈t.2.2:=by
 obtain⟨_,e,b,a,_⟩:=j02 h
 rw[←a];exact b
theorem Y0b{r:Int}{a:List (List Int)}(h:N2 r a=true):tot a<40:=by
 simp only[N2,Bool.and_eq_true,decide_eq_true_eq]at h
 exact h.2
def Cmp(t:j0):Prop:=∀ v,0<=v->v<t.2.1->∀ l,l≠0 -> -t.1<=l->l<=t.1->0<=C1 t v l
theorem U0a(g:j0):(C09 g).1=g.1:=by
 have h:∀(d:Nat) (g:j0),(t00 d g).1=g.1:=by
  intro d
  induction d with
  |zero=>intro g;rfl
  |succ d a =>
   intro g
   unfold t00
   cases d00 g with
   |none=>rfl
   |some k=>exact a _
 exact h 40 g
class Gp (G:Type) where
 m:G->G->G
 e:G
 i:G->G
 ac:∀ a b c,m (m a b) c=m a (m b c)
 em:∀ a,m e a=a
 me:∀ a,m a e=a
 im:∀ a,m (i a) a=e
 mi:∀ a,m a (i a)=e
instance N0t {G:Type} [Gp G]:Mul G:=⟨Gp.m⟩
section
variable {G:Type} [Gp G]
theorem gas(a b c:G):a*b*c=a*(b*c):=Gp.ac a b c
theorem gem(a:G):Gp.e*a=a:=Gp.em a
theorem gme(a:G):a*Gp.e=a:=Gp.me a
theorem gim(a:G):Gp.i a*a=Gp.e:=Gp.im a
theorem gmi(a:G):a*Gp.i a=Gp.e:=Gp.mi a
theorem g1(a b:G):Gp.i a*(a*b)=b:=by rw[←gas,gim,gem]
theorem g2(a b:G):a*(Gp.i a*b)=b:=by rw[←gas,gmi,gem]
theorem g4(a:G):Gp.i (Gp.i a)=a:=by
 have:=g1 (Gp.i a) a
 rwa [gim,gme]at this
theorem g3(a b:G):Gp.i (a*b)=Gp.i b*Gp.i a:=by
 have h:=g1 (a*b) (Gp.i b*Gp.i a)
 rwa [gas,g2,gmi,gme]at h
theorem g5:Gp.i (Gp.e:G)=Gp.e:=by
 have:=gim (Gp.e:G)
 rwa [gme]at this
def gs(g:Int->G)(x:Int):G:=if x<0 then Gp.i (g (-x))else g x
def ev(g:Int->G):List Int->G
 | []=>Gp.e
 |x::w=>gs g x*ev g w
theorem Z0b(g:Int->G):∀ a b:List Int,ev g (a++b)=ev g a*ev g b
 | [],b=>(gem _).symm
 |x::a,b=>by rw[List.cons_append,ev,ev,Z0b g a b,gas]
theorem W0p(g:Int->G){x:Int}(h:x≠0):gs g (-x)=Gp.i (gs g x):=by
 unfold gs
 by_cases c:x<0
 ·rw[if_neg (by omega),if_pos c,g4]
 ·rw[if_pos (by omega),if_neg c,Int.neg_neg]
theorem E09(g:Int->G)(x:Int):ev g [x]=gs g x:=gme _
theorem j0i(g:Int->G):∀ {a:List Int},Lw a->ev g (inv a)=Gp.i (ev g a)
 | [],_=>g5.symm
 |x::a,h=>by
  have b:=h x mS
  rw[X0e,Z0b,E09,j0i g λd c=>h d (mC _ c),Z03 b.1,W0p g b.2,ev,g3]
theorem X0p(g:Int->G):∀(w s:List Int),Lw s->Lw w->ev g (y02 s w).reverse=ev g s.reverse*ev g w
 | [],s,_,_=>(gme _).symm
 |x::w,s,j,k=>by
  have o:=k x mS
  have n:Lw w:=λi f=>k i (mC _ f)
  have l:Lw (Q6 s x):=λi f=>(R0g f).elim (j i) (λe=>by rw[e];exact o)
  have p:=X0p g w (Q6 s x) l n
  rw[show y02 s (x::w)=y02 (Q6 s x) w from rfl,p,ev,←gas]
  refine congrArg (· * ev g w) ?_
  cases s with
  |nil=>exact(E09 g x).trans (gem _).symm
  |cons m t =>
   have a:=j m mS
   by_cases c:x = -m
   ·have b:e05 m x=true:=(e08 a.1 a.2).2 c
    have d:Q6 (m::t) x=t:=by
     unfold Q6
     simp only[b,cond_true,if_true]
    rw[d,List.reverse_cons,Z0b,E09,c,W0p g a.2,gas,gmi,gme]
   ·have b:e05 m x=false:=Bool.eq_false_iff.2 λh=>c ((e08 a.1 a.2).1 h)
    have d:Q6 (m::t) x=x::m::t:=by
     unfold Q6
     simp only[b,cond_false,Bool.false_eq_true,if_false]
    rw[d,List.reverse_cons,Z0b,E09]
end
theorem Eqv.inv{a b:List Int}(h:Eqv a b):Eqv (Go.Proofs.YtohcdjhocpakkaaGreat.inv a) (Go.Proofs.YtohcdjhocpakkaaGreat.inv b):=by
 have c:=(Eqv.refl h.l.inv).app (s0d h.r)
 have f:=(Eqv.refl h.l.inv).app (h.app (Eqv.refl h.r.inv))
 have d:=(g0k h.l).app (Eqv.refl h.r.inv)
 rw[List.append_nil]at c
 rw[List.append_assoc,List.nil_append]at d
 exact c.symm.trans (f.symm.trans d)
instance fgS:Setoid { a:List Int // Lw a }:=⟨λa b=>Eqv a.1 b.1,⟨λa=>Eqv.refl a.2,λh=>h.symm,λh k=>h.trans k⟩⟩
def FG:Type:=Quotient fgS
def FG.of(a:List Int)(h:Lw a):FG:=Quotient.mk fgS ⟨a,h⟩
theorem FG.eq{a b:List Int}{h:Lw a}{k:Lw b}(e:Eqv a b):FG.of a h=FG.of b k:=Quotient.sound (s:=fgS) e
instance fgG:Gp FG where
 m:=Quotient.lift₂ (λa b=>FG.of (a.1++b.1) (a.2.app b.2)) λ_ _ _ _ h k=>FG.eq (Eqv.app h k)
 e:=FG.of [] Lw.nil
 i:=Quotient.lift (λa=>FG.of (inv a.1) a.2.inv) λ_ _ h=>FG.eq (Eqv.inv h)
 ac:=λa b c=>Quotient.inductionOn₃ a b c λa b c=>FG.eq (by rw[List.append_assoc];exact Eqv.refl (a.2.app (b.2.app c.2)))
 em:=λa=>Quotient.inductionOn a λa=>rfl
 me:=λa=>Quotient.inductionOn a λa=>FG.eq (by rw[List.append_nil];exact Eqv.refl a.2)
 im:=λa=>Quotient.inductionOn a λa=>FG.eq (g0k a.2)
 mi:=λa=>Quotient.inductionOn a λa=>FG.eq (s0d a.2)
instance O0t (x:Int):Decidable (t6 x/\x≠0):=by unfold t6 K0;exact inferInstance
def gen(x:Int):FG:=if h:t6 x/\x≠0 then FG.of [x] (Lw.one h.1 h.2)else Gp.e
theorem F0s{x:Int}(h:t6 x)(h0:x≠0):gs gen x=FG.of [x] (Lw.one h h0):=by
 unfold gs gen
 by_cases c:x<0
 ·have a:t6 (-x):=y03 h
  rw[if_pos c,dif_pos ⟨a,by omega⟩]
  exact FG.eq (by
   have:Go.Proofs.YtohcdjhocpakkaaGreat.inv [-x] = [x]:=by
    rw[X0e,Z03 a,Int.neg_neg];rfl
   rw[this];exact Eqv.refl (Lw.one h h0))
 ·rw[if_neg c,dif_pos ⟨h,h0⟩]
theorem B0l:∀ {a:List Int} (h:Lw a),ev gen a=FG.of a h
 | [],_=>rfl
 |x::a,h=>by
  have b:=h x mS
  rw[ev,F0s b.1 b.2,B0l λd c=>h d (mC _ c)]
  rfl
theorem x0r{a b:List Int}(c:Lw a)(d:Lw b)(h:ev gen a=ev gen b):Eqv a b:=by
 rw[B0l c,B0l d]at h
 exact Quotient.exact (s:=fgS) h
theorem Y0p:∀(w s:List Int),(y02 s w).length<=s.length+w.length
 | [],s=>Nat.le_refl _
 |x::w,s=>by
  have a:=Y0p w (Q6 s x)
  have b:(Q6 s x).length<=s.length+1:=by
   cases s with
   |nil=>exact Nat.le_refl _
   |cons l t =>
    show(bif e05 l x then t else x::l::t).length<=t.length+1+1
    cases e05 l x<;>simp only[cond_true,cond_false,List.length_cons]<;>omega
  rw[show y02 s (x::w)=y02 (Q6 s x) w from rfl,List.length_cons]
  omega
theorem y0r{a b:List Int}(c:Lw a)(d:Lw b)(h:ev gen a=ev gen b):(y02 [] a).length<=b.length:=by
 rw[(x0r c d h).e [] rfl Lw.nil]
 have:=Y0p b []
 simpa using this
theorem pg1{i:Type}[DecidableEq i]:∀(b c:List i),b.Nodup->(∀ x∈b,x∈c)->b.length<=c.length
 | [],c,_,_=>Nat.zero_le _
 |a::b,c,j,h=>by
  have f:=List.nodup_cons.1 j
  have d:=h a mS
  have:=pg1 b (c.erase a) f.2 λx g=>(List.mem_erase_of_ne (λe=>f.1 (by rw[←e];exact g))).2 (h x (mC _ g))
  rw[List.length_erase_of_mem d]at this
  have:=List.length_pos_of_mem d
  rw[List.length_cons]
  omega
theorem pg2{j:Type}[DecidableEq j]:∀(d b:List j),b.Nodup->(∀ x∈b,x∈d)->d.length<=b.length->d.Nodup
 | [],b,_,_,_=>List.nodup_nil
 |a::d,b,f,h,k=>by
  rw[List.length_cons]at k
  by_cases c:a∈d
  ·have:=pg1 b d f λx g=>(List.mem_cons.1 (h x g)).elim (λe=>by rw[e];exact c) id
   omega
  ·refine List.nodup_cons.2 ⟨c,pg2 d (b.erase a) (f.erase a) (λx g=>?_) ?_⟩
   ·have i:=(List.Nodup.mem_erase_iff f).1 g
    exact(List.mem_cons.1 (h x i.2)).resolve_left i.1
   ·by_cases c2:a∈b
    ·rw[List.length_erase_of_mem c2];omega
    ·rw[List.erase_of_not_mem c2];omega
theorem Z0p{i l:Type}{f:i->l}:∀ {L:List i},(L.map f).Nodup->∀ {a b:i},a∈L->b∈L->f a=f b->a=b
 | [],_,a,b,c,_,_=>by cases c
 |x::L,h,a,b,c,k,e=>by
  have g:=List.nodup_cons.1 h
  rcases List.mem_cons.1 c with rfl|j
  ·rcases List.mem_cons.1 k with rfl|d
   ·rfl
   ·exact absurd (by rw[e];exact List.mem_map.2 ⟨b,d,rfl⟩) g.1
  ·rcases List.mem_cons.1 k with rfl|d
   ·exact absurd (by rw[←e];exact List.mem_map.2 ⟨a,j,rfl⟩) g.1
   ·exact Z0p g.2 j d e
section
variable {G:Type} [Gp G]
def sd(x:Int)(a:G):G:=if x<0 then Gp.i a else a
theorem o0t(x:Int):sd x (Gp.e:G)=Gp.e:=by
 unfold sd;split
 ·exact g5
 ·rfl
theorem Z0r(x:Int)(a:G):sd x (sd x a)=a:=by
 unfold sd
 by_cases c:x<0
 ·rw[if_pos c,if_pos c,g4]
 ·rw[if_neg c,if_neg c]
def Rl(es:List J0)(a:J0->G):Int->List Int->Int->G->Prop
 |u,[],v,z=>u=v/\z=Gp.e
 |u,x::w,v,z=>∃ m z',stp u x m∈es/\Rl es a m w v z'/\z=sd x (a (stp u x m))*z'
theorem Rl.map{es es':List J0}{b lam':J0->G}{q:Int->Int}{t:Int->G}(h:∀ e∈es,((q e.1,e.2.1,q e.2.2):J0)∈es'/\lam' (q e.1,e.2.1,q e.2.2)=t e.1*(b e*Gp.i (t e.2.2))):
  ∀ {w:List Int} {u v:Int} {z:G},Rl es b u w v z->Rl es' lam' (q u) w (q v) (t u*(z*Gp.i (t v)))
 | [],u,v,z,a=>by
  obtain⟨d,f⟩:=a
  rw[d,f]
  exact⟨rfl,by rw[gem,gmi]⟩
 |x::w,u,v,z,a=>by
  obtain⟨m,z',g,a,j⟩:=a
  have k:=h _ g
  rw[Q0m]at k
  refine⟨q m,_,k.1,Rl.map h a,?_⟩
  rw[k.2,j]
  unfold sd stp
  by_cases c:x<0
  ·simp only[if_pos c,g3,g4,gas,g1]
  ·simp only[if_neg c,gas,g1]
theorem Rl.mono{es es':List J0}{b lam':J0->G}(h:∀ e∈es,e∈es'/\lam' e=b e){w:List Int}{u v:Int}{z:G}(c:Rl es b u w v z):Rl es' lam' u w v z:=by
 have:=Rl.map (q:=id) (t:=λ_=>Gp.e) (es':=es') (lam':=lam') (λe a=>⟨(h e a).1,by rw[gem,g5,gme];exact(h e a).2⟩) c
 simpa only[gem,g5,gme,id] using this
theorem a0h{x:j0}{f:K4}(t:O0 x=true){a b:J0}(n:a∈x.2.2)(k:b∈x.2.2)(q:a≠b)(p:mvE f a=mvE f b):
  (R4 x f).2.2.length+1<=x.2.2.length/\(x.2.2.length<=(R4 x f).2.2.length+1->((x.2.2.erase b).map (mvE f)).Nodup):=by
 have m:Asc P0 (R4 x f).2.2:=N01 Y3 _ _ .nil
 have j:=o06 m
 have l:∀ d∈(R4 x f).2.2,d∈(x.2.2.erase b).map (mvE f):=λd o=>by
  rcases(D4 Y3 _ _ _).1 o with h|h
  ·cases h
  ·obtain⟨e,g,i⟩:=List.mem_map.1 h
   by_cases c:e=b
   ·exact List.mem_map.2 ⟨a,(List.mem_erase_of_ne q).2 n,by rw[p,←c,i]⟩
   ·exact List.mem_map.2 ⟨e,(List.mem_erase_of_ne c).2 g,i⟩
 have s:((x.2.2.erase b).map (mvE f)).length+1=x.2.2.length:=by
  rw[List.length_map,List.length_erase_of_mem k]
  have:=List.length_pos_of_mem k
  omega
 have g:=pg1 _ _ j l
 exact⟨by omega,λh=>pg2 _ _ j l (by omega)⟩
theorem d0f{x:j0}{f:K4}(A:O0 x=true)(hf:f∈Y4 x.2.2)(d:J0->G):
  ∃ a∈x.2.2,∃ b∈x.2.2,∃ c:G,a≠b/\mvE f a=mvE f b /\
   (if a.1=f.2 then c else Gp.e)*(d a*Gp.i (if a.2.2=f.2 then c else Gp.e))=(if b.1=f.2 then c else Gp.e)*(d b*Gp.i (if b.2.2=f.2 then c else Gp.e)):=by
 have z:=P8 A f hf
 obtain⟨C,D,E⟩:=z
 have u:mvV f f.1=f.1:=by unfold mvV;rw[if_neg (by omega),if_neg (by omega)]
 have v:mvV f f.2=f.1:=by unfold mvV;rw[if_pos rfl]
 have w:∀ a∈x.2.2,∀ b∈x.2.2,a.2.1=b.2.1->a.1=b.1->f.1=a.2.2->f.2=b.2.2->∃ a∈x.2.2,∃ b∈x.2.2,∃ c:G,a≠b/\mvE f a=mvE f b /\
   (if a.1=f.2 then c else Gp.e)*(d a*Gp.i (if a.2.2=f.2 then c else Gp.e))=(if b.1=f.2 then c else Gp.e)*(d b*Gp.i (if b.2.2=f.2 then c else Gp.e)):=λa g b j s m k n=>by
  refine⟨a,g,b,j,Gp.i (d a)*d b,λe=>?_,?_,?_⟩
  ·rw[e]at k;omega
  ·unfold mvE;rw[s,m,←k,←n,u,v]
  ·rw[m,←k,←n,if_neg (show ¬ f.1=f.2 by omega),if_pos (rfl:f.2=f.2),g5,gme,g3,g4]
   simp only[g2]
 have y:∀ a∈x.2.2,∀ b∈x.2.2,a.2.1=b.2.1->a.2.2=b.2.2->f.1=a.1->f.2=b.1->∃ a∈x.2.2,∃ b∈x.2.2,∃ c:G,a≠b/\mvE f a=mvE f b /\
   (if a.1=f.2 then c else Gp.e)*(d a*Gp.i (if a.2.2=f.2 then c else Gp.e))=(if b.1=f.2 then c else Gp.e)*(d b*Gp.i (if b.2.2=f.2 then c else Gp.e)):=λa g b j s m k n=>by
  refine⟨a,g,b,j,d a*Gp.i (d b),λe=>?_,?_,?_⟩
  ·rw[e]at k;omega
  ·unfold mvE;rw[s,m,←k,←n,u,v]
  ·rw[m,←k,←n,if_neg (show ¬ f.1=f.2 by omega),if_pos (rfl:f.2=f.2),gem]
   simp only[gas,g1]
 obtain⟨a,g,b,j,h⟩:=A08 hf
 obtain⟨o,l⟩:=X0b h
 rcases l with⟨l,t⟩|⟨l,t⟩
 ·rcases t with⟨p,q⟩|⟨p,q⟩
  ·exact w a g b j o l p q
  ·exact w b j a g o.symm l.symm p q
 ·rcases t with⟨p,q⟩|⟨p,q⟩
  ·exact y a g b j o l p q
  ·exact y b j a g o.symm l.symm p q
theorem a0q{x:j0}{f:K4}(m:O0 x=true)(hf:f∈Y4 x.2.2)(K:x.2.2.length<=(R4 x f).2.2.length+1)(n:J0->G):
  ∃(lam':J0->G) (t:Int->G),t 0=Gp.e/\∀ e∈x.2.2,((mvV f e.1,e.2.1,mvV f e.2.2):J0)∈(R4 x f).2.2/\lam' (mvV f e.1,e.2.1,mvV f e.2.2)=t e.1*(n e*Gp.i (t e.2.2)):=by
 have N:=P8 m f hf
 obtain⟨Q,R,S⟩:=N
 obtain⟨a,p,b,J,P,s,q,L⟩:=d0f m hf n
 have M:=(a0h m p J s q).2 K
 let t:Int->G:=λv=>if v=f.2 then P else Gp.e
 let j:J0->G:=λe=>t e.1*(n e*Gp.i (t e.2.2))
 have I:j a=j b:=L
 have u:∀ e∈x.2.2,∃ d∈x.2.2.erase b,mvE f d=mvE f e/\j d=j e:=λe g=>by
  by_cases c:e=b
  ·exact⟨a,(List.mem_erase_of_ne s).2 p,by rw[c];exact q,by rw[c];exact I⟩
  ·exact⟨e,(List.mem_erase_of_ne c).2 g,rfl,rfl⟩
 have O:∀ e∈x.2.2,∀ k∈x.2.2,mvE f e=mvE f k->j e=j k:=λe g k l h=>by
  obtain⟨d,y,C,E⟩:=u e g
  obtain⟨w,A,D,F⟩:=u k l
  have:d=w:=Z0p M y A (by rw[C,D,h])
  rw[←E,←F,this]
 have o:∀ d:J0,∃ z:G,∀ e∈x.2.2,mvE f e=d->z=j e:=λd=>by
  by_cases c:∃ e∈x.2.2,mvE f e=d
  ·obtain⟨e,g,h⟩:=c
   exact⟨j e,λk l H=>O e g k l (by rw[h,H])⟩
  ·exact⟨Gp.e,λe g h=>absurd ⟨e,g,h⟩ c⟩
 refine⟨λd=>Classical.choose (o d),t,if_neg (by omega),λe g=>⟨(D4 Y3 _ _ _).2 (.inr (List.mem_map.2 ⟨e,g,rfl⟩)),?_⟩⟩
 exact Classical.choose_spec (o (mvE f e)) e g rfl
theorem o0k{x:j0}{f:K4}(c:O0 x=true)(hf:f∈Y4 x.2.2):(R4 x f).2.2.length+1<=x.2.2.length:=by
 obtain⟨a,d,b,g,_,i,h,_⟩:=d0f (G:=FG) c hf λ_=>Gp.e
 exact(a0h c d g i h).1
def chi(x:j0):Int:=(x.2.2.length:Int)-x.2.1
theorem a0c:∀(n:Nat) {x:j0},O0 x=true->chi (a5 n x).1<=chi x
 |0,x,_=>iR _
 |n+1,x,h=>by
  unfold a5
  cases e:Y4 x.2.2 with
  |nil=>exact iR _
  |cons f r =>
   have a:f∈Y4 x.2.2:=by rw[e];exact mS
   have b:=a0c n (s00 h (P8 h f a))
   have c:=o0k h a
   have d:chi (R4 x f)=((R4 x f).2.2.length:Int)-(x.2.1-1):=rfl
   have g:chi x=(x.2.2.length:Int)-x.2.1:=rfl
   show chi (a5 n (R4 x f)).1<=chi x
   omega
theorem p0k{ps:List (List Int×G)}{c:Int}:∀(n:Nat) {x:j0},O0 x=true->chi x<=c->c<=chi (a5 n x).1->(∃ d:J0->G,∀ p∈ps,Rl x.2.2 d 0 p.1 0 p.2)->∃ d:J0->G,∀ p∈ps,Rl (a5 n x).1.2.2 d 0 p.1 0 p.2
 |0,x,_,_,_,h=>h
 |n+1,x,b,q,a,h=>by
  unfold a5 at a ⊢
  cases e:Y4 x.2.2 with
  |nil=>exact h
  |cons f r =>
   rw[e]at a
   have a:c<=chi (a5 n (R4 x f)).1:=a
   have g:f∈Y4 x.2.2:=by rw[e];exact mS
   have i:=s00 b (P8 b f g)
   have s:=a0c n i
   have u:chi (R4 x f)=((R4 x f).2.2.length:Int)-(x.2.1-1):=rfl
   have v:chi x=(x.2.2.length:Int)-x.2.1:=rfl
   have w:=o0k b g
   obtain⟨y,z,A⟩:=P8 b f g
   obtain⟨d,j⟩:=h
   obtain⟨lam',t,o,k⟩:=a0q b g (by omega) d
   refine p0k n i (by omega) a ⟨lam',λp l=>?_⟩
   have:=Rl.map k (j p l)
   have m:mvV f 0=0:=by unfold mvV;rw[if_neg (by omega),if_neg (by omega)]
   simpa only[o,gem,g5,gme,m] using this
theorem R0m{es:List J0}{a:J0->G}(v:Int):∀(w:List Int) (u n:Int),w≠[]->(∀ e∈p8 v w u n,e∈es/\a e=Gp.e)->Rl es a u w v Gp.e
 | [],u,n,h,_=>absurd rfl h
 | [l],u,n,_,h=>by
  have k:=h _ mS
  exact⟨v,Gp.e,k.1,⟨rfl,rfl⟩,by rw[k.2,o0t,gem]⟩
 |l::c::r,u,n,_,h=>by
  have k:=h _ mS
  exact⟨n,Gp.e,k.1,R0m v (c::r) n (n+1) (λe=>by cases e) λe b=>h e (mC _ b),by rw[k.2,o0t,gem]⟩
theorem z0r{x:j0}(t:O0 x=true){w:List Int}(h:(O1 x 0 w 0).2=true)(f:x.2.2.length+w.length<=(O1 x 0 w 0).1.2.2.length)(i:J0->G)(γ:G):
  ∃ lam':J0->G,(∀ e∈x.2.2,e∈(O1 x 0 w 0).1.2.2/\lam' e=i e)/\Rl (O1 x 0 w 0).1.2.2 lam' 0 w 0 γ:=by
 obtain⟨n,o⟩:=T0a h
 rw[o]at f ⊢
 simp only at f ⊢
 have p:=m06 t
 have s:(x.2.2++p8 0 w 0 x.2.1).Nodup:=pg2 _ _ (o06 (N01 Y3 (p8 0 w 0 x.2.1) x.2.2 p)) (λd q=>List.mem_append.2 ((D4 Y3 _ _ _).1 q)) (by rw[List.length_append,x04];exact f)
 obtain⟨v,m,c⟩:=List.nodup_append.1 s
 have b:∀ e,e∈K6 P0 x.2.2 (p8 0 w 0 x.2.1)↔e∈x.2.2∨e∈p8 0 w 0 x.2.1:=λe=>D4 Y3 _ _ _
 cases w with
 |nil=>exact absurd rfl n
 |cons l r =>
  cases r with
  |nil =>
   refine⟨λe=>if e∈x.2.2 then i e else sd l γ,λe a=>⟨(b e).2 (.inl a),if_pos a⟩,0,Gp.e,(b _).2 (.inr mS),⟨rfl,rfl⟩,?_⟩
   dsimp only
   rw[if_neg λk=>c _ k _ mS rfl,Z0r,gme]
  |cons j r =>
   have g:p8 0 (l::j::r) 0 x.2.1=stp 0 l x.2.1::p8 0 (j::r) x.2.1 (x.2.1+1):=rfl
   rw[g]at m c
   have u:=List.nodup_cons.1 m
   refine⟨λe=>if e∈x.2.2 then i e else if e=stp 0 l x.2.1 then sd l γ else Gp.e,λe a=>⟨(b e).2 (.inl a),if_pos a⟩,x.2.1,Gp.e,(b _).2 (.inr (by rw[g];exact mS)),R0m 0 (j::r) x.2.1 (x.2.1+1) (λe=>by cases e) (λe a=>⟨(b e).2 (.inr (by rw[g];exact mC _ a)),?_⟩),?_⟩
   ·rw[if_neg λk=>c _ k _ (mC _ a) rfl,if_neg λk=>u.1 (by rw[←k];exact a)]
   ·dsimp only
    rw[if_neg λk=>c _ k _ mS rfl,if_pos rfl,Z0r,gme]
theorem V0a{x:j0}(w:List Int):chi (O1 x 0 w 0).1<=chi x+1/\((O1 x 0 w 0).2=false->(O1 x 0 w 0).1=x)/\((O1 x 0 w 0).2=true->chi (O1 x 0 w 0).1=((O1 x 0 w 0).1.2.2.length:Int)-x.2.1-w.length+1):=by
 cases h:(O1 x 0 w 0).2 with
 |true =>
  obtain⟨a,b⟩:=T0a h
  rw[b]
  have:=O02 (p8 0 w 0 x.2.1) x.2.2
  have:=x04 0 w 0 x.2.1
  have:=List.length_pos_iff.2 a
  unfold chi
  simp only
  refine⟨by omega,(λe=>by cases e),λ_=>by omega⟩
 |false =>
  have e:(O1 x 0 w 0).1=x:=by
   unfold O1 at h ⊢
   cases hc:(!w.isEmpty&&decide (x.2.1+(w.length:Int)-1<=40)&&decide (x.2.2.length+w.length<=120))with
   |false=>rfl
   |true=>rw[hc]at h;cases h
  exact⟨by rw[e];omega,(λ_=>e),(λe=>by cases e)⟩
theorem e0f:∀(a:List (List Int)) (x:j0),chi (L5 a x)<=chi x+a.length
 | [],x=>by show chi x<=chi x+_;simp
 |w::r,x=>by
  have b:=e0f r (O1 x 0 w 0).1
  have c:=(V0a (x:=x) w).1
  show chi (L5 r (O1 x 0 w 0).1)<=_
  rw[List.length_cons]
  omega
theorem S0m{c:Int}:∀(ps:List (List Int×G)) {done:List (List Int×G)} {x:j0},O0 x=true->(∀ p∈ps,I3 x.1 p.1=true)->chi x+ps.length<=c->c<=chi (L5 (ps.map (·.1)) x)->(∃ b:J0->G,∀ p∈done,Rl x.2.2 b 0 p.1 0 p.2) ->
  ∃ b:J0->G,∀ p,p∈done∨p∈ps->Rl (L5 (ps.map (·.1)) x).2.2 b 0 p.1 0 p.2
 | [],done,x,_,_,_,_,⟨b,h⟩=>⟨b,λp a=>a.elim (h p) (λe=>by cases e)⟩
 |p::ps,done,x,g,l,o,f,⟨b,h⟩=>by
  have f:c<=chi (L5 (ps.map (·.1)) (O1 x 0 p.1 0).1):=f
  have i:=e0f (ps.map (·.1)) (O1 x 0 p.1 0).1
  rw[List.length_map]at i
  rw[List.length_cons]at o
  obtain⟨y,m,n⟩:=V0a (x:=x) p.1
  have j:(O1 x 0 p.1 0).2=true:=by
   cases e:(O1 x 0 p.1 0).2 with
   |true=>rfl
   |false=>rw[m e]at i f;omega
  have z:=n j
  have A:chi x=(x.2.2.length:Int)-x.2.1:=rfl
  obtain⟨C,D,E,F⟩:=B3 g
  obtain⟨lam',s,t⟩:=z0r g j (by omega) b p.2
  have q:=y01 g (u:=0) (v:=0) ⟨iR _,by omega⟩ ⟨iR _,by omega⟩ (l p mS)
  obtain⟨w,k⟩:=S0m (c:=c) ps (done:=p::done) q (λd a=>by rw[c01];exact l d (mC _ a)) (by omega) f ⟨lam',λd a=>by
   rcases List.mem_cons.1 a with rfl|a
   ·exact t
   ·exact(h d a).mono s⟩
  refine⟨w,λd a=>k d ?_⟩
  rcases a with a|a
  ·exact .inl (mC _ a)
  ·rcases List.mem_cons.1 a with rfl|a
   ·exact .inl mS
   ·exact .inr a
end
def d9(g:j0):Bool:=(r00 g&&decide (g.2.1=1))&&decide (((g.2.2.length:Nat):Int)=g.1)
def g0o(n:Nat):List J0:=(List.range n).map λi=>((0,((i+1:Nat):Int),0):J0)
theorem q0k{n:Nat}{l:Int}(a:1<=l)(b:l<=n):((0,l,0):J0)∈g0o n :=
 List.mem_map.2 ⟨l.toNat-1,List.mem_range.2 (by omega),by rw[show((l.toNat-1+1:Nat):Int)=l by omega]⟩
theorem M0c{g:j0}(h:d9 g=true){l:Int}(m:1<=l)(s:l<=g.1):((0,l,0):J0)∈g.2.2:=by
 simp only[d9,Bool.and_eq_true,decide_eq_true_eq]at h
 have f:=w7 (w05 h.1.1)
 obtain⟨p,t,u,v⟩:=B3 f
 refine Classical.byContradiction λn=>?_
 have o:∀ e∈g.2.2,e∈(g0o g.1.toNat).erase (0,l,0):=λe d=>by
  obtain⟨a,b,c⟩:=p e d
  obtain⟨i,q,j⟩:=e
  simp only at a b c
  obtain rfl:i=0:=by omega
  obtain rfl:j=0:=by omega
  refine(List.mem_erase_of_ne λk=>n (by rw[←k];exact d)).2 (q0k c.1 (by omega))
 have:=pg1 _ _ (o06 (m06 f)) o
 rw[List.length_erase_of_mem (q0k m (by omega)),g0o,List.length_map,List.length_range]at this
 omega
theorem C0l(n:Nat):(g0o n).Nodup:=by
 unfold g0o
 refine List.Pairwise.map _ ?_ List.nodup_range
 intro a b h e
 have:=congrArg (λd:J0=>d.2.1) e
 simp only at this
 omega
theorem p04:∀(n:Nat) (g:j0),(a5 n g).1.1=g.1
 |0,g=>rfl
 |n+1,g=>by
  unfold a5
  cases Y4 g.2.2 with
  |nil=>rfl
  |cons f l=>exact p04 n (R4 g f)
theorem q04:∀(a:List (List Int)) (g:j0),(L5 a g).1=g.1
 | [],g=>rfl
 |w::a,g=>(q04 a _).trans (c01 g 0 w 0)
theorem Rch.map{es es':List J0}{q:Int->Int}(h:∀ e∈es,((q e.1,e.2.1,q e.2.2):J0)∈es'){u v:Int}(c:Rch es u v):Rch es' (q u) (q v):=by
 induction c with
 |base=>exact .base
 |fwd a _ b=>exact Rch.fwd (h _ a) b
 |bwd a _ b=>exact Rch.bwd (h _ a) b
theorem A0r{es:List J0}{s u x v:Int}(a:stp u x v∈es)(h:Rch es s u):Rch es s v:=by
 unfold stp at a
 by_cases c:x<0
 ·rw[if_pos c]at a;exact Rch.bwd a h
 ·rw[if_neg c]at a;exact Rch.fwd a h
theorem r0k{es:List J0}{s:Int}(v:Int):∀(w:List Int) (u n:Int),(∀ e∈p8 v w u n,e∈es)->Rch es s u->∀ z,n<=z->z<n+((w.length-1:Nat):Int)->Rch es s z
 | [],u,n,_,_,z,h0,a=>by simp at a;omega
 | [l],u,n,_,_,z,h0,a=>by simp at a;omega
 |l::g::r,u,n,h,f,z,h0,a=>by
  have b:=A0r (h _ mS) f
  by_cases c:z=n
  ·rw[c];exact b
  ·refine r0k v (g::r) n (n+1) (λe d=>h e (mC _ d)) b z (by omega) ?_
   simp only[List.length_cons]at a ⊢
   omega
theorem s0k:∀(d:List (List Int)) (x:j0),(∀ z,0<=z->z<x.2.1->Rch x.2.2 0 z)->∀ z,0<=z->z<(L5 d x).2.1->Rch (L5 d x).2.2 0 z
 | [],x,h,z,h0,a=>h z h0 a
 |w::r,x,h,z,h0,a=>by
  refine s0k r (O1 x 0 w 0).1 (λz h0 a=>?_) z h0 a
  cases hc:(O1 x 0 w 0).2 with
  |false=>rw[(V0a (x:=x) w).2.1 hc]at a ⊢;exact h z h0 a
  |true =>
   obtain⟨i,g⟩:=T0a hc
   rw[g]at a ⊢
   have f:∀ e∈x.2.2,((id e.1,e.2.1,id e.2.2):J0)∈K6 P0 x.2.2 (p8 0 w 0 x.2.1):=λe b=>(D4 Y3 _ _ _).2 (.inl b)
   by_cases c:z<x.2.1
   ·exact Rch.map f (h z h0 c)
   ·exact r0k 0 w 0 x.2.1 (λe b=>(D4 Y3 _ _ _).2 (.inr b)) .base z (by omega) a
theorem b0q{t:j0}{r:Int}(a:∀ l,1<=l->l<=r->((0,l,0):J0)∈t.2.2){x:Int}(h0:x≠0)(b : -r<=x)(c:x<=r):stp 0 x 0∈t.2.2:=by
 unfold stp
 split
 ·exact a _ (by omega) (by omega)
 ·exact a _ (by omega) (by omega)
theorem f0f{r:Int}{b:List (List Int)}(w:N2 r b=true)(y:d9 (u00 r b).1=true):
  Z0 (a5 40 (L5 b (r,1,[]))).1=true/\(∀ l,1<=l->l<=r->((0,l,0):J0)∈(a5 40 (L5 b (r,1,[]))).1.2.2)/\(a5 40 (L5 b (r,1,[]))).1.2.1=1/\r<=((a5 40 (L5 b (r,1,[]))).1.2.2.length:Int):=by
 have n:=X01 w
 have hf:=P01 n
 have m:(E5 (L5 b (r,1,[]))).1=(a5 40 (L5 b (r,1,[]))).1:=by unfold E5;rw[n];rfl
 have D:(u00 r b).1=o04 (L5 b (r,1,[])):=by unfold u00;rw[w];rfl
 rw[D]at y
 obtain⟨E,j,A,_⟩:=a0f hf
 obtain⟨q,g⟩:=Z0g 40 n
 rw[m]at hf j
 have x:o04 (L5 b (r,1,[]))=C09 (E5 (L5 b (r,1,[]))).1:=rfl
 have G:(o04 (L5 b (r,1,[]))).1=r:=by
  rw[x,U0a,m,p04,q04]
 have p:∀ l,1<=l->l<=r->((0,l,0):J0)∈(a5 40 (L5 b (r,1,[]))).1.2.2:=λl d k=>by
  have c:=M0c y d (by rw[G];exact k)
  rw[x,m]at c
  have f:=j00 j.fc c
  have g:=(j4 j.fc).1 _ c
  simp only at f g
  have s:=j.hom.step 0 l (iR _) g.1.2 (by rw[f.1];exact iR _)
  rw[f.1,A]at s
  have:=E0s (t:=(a5 40 (L5 b (r,1,[]))).1) (u:=0) (l:=l) (by rw[s];exact iR _)
  rw[s]at this
  unfold stp at this
  rwa [if_neg (by omega)]at this
 have F:=j4 hf
 have C:∀ u,0<=u->u<(a5 40 (L5 b (r,1,[]))).1.2.1->u=0:=λu h0 d=>by
  obtain⟨v,hv,rfl⟩:=g.onto u h0 d
  have d:=s0k b (r,1,[]) (λz h0 d=>by
   obtain rfl:z=0:=by simp only at d;omega
   exact .base) v hv.1 hv.2
  have k:=Rch.map g.hom.edge d
  rw[g.base]at k
  refine Rch.sub (P:=λz=>z=0) rfl (λe c=>?_) k
  have h:=F.1 e c
  rw[p04,q04]at h
  have f:=j00 hf c
  have o:=j00 hf (p e.2.1 h.2.2.1 h.2.2.2)
  simp only at o
  exact⟨λa=>by rw[←f.1,a];exact o.1,λa=>by rw[←f.2,a];exact o.2⟩
 refine⟨hf,p,?_,?_⟩
 ·have:=C ((a5 40 (L5 b (r,1,[]))).1.2.1-1) (by omega) (by omega)
  omega
 ·have H:=Q00 w
  have:=pg1 _ (a5 40 (L5 b (r,1,[]))).1.2.2 (C0l r.toNat) λe c=>by
   obtain⟨i,h,rfl⟩:=List.mem_map.1 c
   have:=List.mem_range.1 h
   exact p _ (by omega) (by omega)
  rw[g0o,List.length_map,List.length_range]at this
  omega
section
variable {G:Type} [Gp G]
theorem T0m{t:j0}{r:Int}(a:Z0 t=true)(d:∀ l,1<=l->l<=r->((0,l,0):J0)∈t.2.2){g:J0->G}:∀ {w:List Int} {v:Int} {z:G},(∀ x∈w,x≠0 /\ -r<=x/\x<=r)->Rl t.2.2 g 0 w v z->z=ev (λl=>g (0,l,0)) w
 | [],v,z,_,h=>h.2
 |x::w,v,z,f,h=>by
  obtain⟨m,z',k,n,p⟩:=h
  have b:=f x mS
  have i:=(c0f a k).1
  have j:=(c0f a (b0q d b.1 b.2.1 b.2.2)).1
  obtain rfl:m=0:=by rw[←i,j]
  rw[p,ev,T0m a d (λq o=>f q (mC _ o)) n]
  refine congrArg (· * ev _ w) ?_
  unfold sd gs stp
  by_cases c:x<0
  ·simp only[if_pos c]
  ·simp only[if_neg c]
theorem c0q{r:Int}{a:List (List Int)}(f:N2 r a=true)(j:d9 (u00 r a).1=true)(y:(a.length:Int)=r)(ps:List (List Int×G))(d:ps.map (·.1)=a):
  r-1<=chi (L5 a (r,1,[]))/\∃ L:Int->G,∀ p∈ps,ev L p.1=p.2:=by
 obtain⟨i,f2,f3,v⟩:=f0f f j
 have h:=X01 f
 have g:=Q00 f
 have q:=a0c 40 h
 have s:chi (a5 40 (L5 a (r,1,[]))).1=((a5 40 (L5 a (r,1,[]))).1.2.2.length:Int)-(a5 40 (L5 a (r,1,[]))).1.2.1:=rfl
 have t:=e0f a (r,1,[])
 have u:chi ((r,1,[]):j0) = -1:=rfl
 refine⟨by omega,?_⟩
 have w:ps.length=a.length:=by rw[←d,List.length_map]
 obtain⟨o,k⟩:=S0m (G:=G) (c:=r-1) ps (done:=[]) (y04 g.1) (λp b=>g.2.2 _ (by rw[←d];exact List.mem_map.2 ⟨p,b,rfl⟩)) (by omega) (by rw[d];omega) ⟨λ_=>Gp.e,λp b=>by cases b⟩
 rw[d]at k
 obtain⟨lam',n⟩:=p0k (ps:=ps) (c:=r-1) 40 h (by omega) (by omega) ⟨o,λp b=>k p (.inr b)⟩
 refine⟨λl=>lam' (0,l,0),λp b=>(T0m i f2 (λx m=>?_) (n p b)).symm⟩
 have:=(i02 (g.2.2 p.1 (by rw[←d];exact List.mem_map.2 ⟨p,b,rfl⟩))).2 x m
 exact⟨this.2.1,this.2.2⟩
theorem d0q{r:Int}{a:List (List Int)}(k:N2 r a=true)(d:d9 (u00 r a).1=true)(g:(a.length:Int)=r)(f:Nat->G):
  r-1<=chi (L5 a (r,1,[]))/\∃ L:Int->G,∀(i:Nat) (w:List Int),a[i]?=some w->ev L w=f i:=by
 have j:(a.zipIdx.map λp=>(p.1,f p.2)).map (·.1)=a:=by
  rw[List.map_map]
  exact List.zipIdx_map_fst 0 a
 obtain⟨c,L,b⟩:=c0q k d g _ j
 exact⟨c,L,λi w h=>b (w,f i) (List.mem_map.2 ⟨(w,i),List.mem_zipIdx_iff_getElem?.2 h,rfl⟩)⟩
end
def Sm(D:Int->Nat):Nat->Nat
 |0=>0
 |n+1=>Sm D n+D (n:Int)
theorem g0f{D E:Int->Nat}:∀ {n:Nat},(∀ v:Nat,v<n->D (v:Int)=E (v:Int))->Sm D n=Sm E n
 |0,_=>rfl
 |n+1,h=>by rw[Sm,Sm,g0f (λv hv=>h v (by omega)),h n (by omega)]
theorem a0s{D:Int->Nat}:∀ {n:Nat} {v:Int},0<=v->v<n->D v<=Sm D n
 |0,v,h0,a=>by omega
 |n+1,v,h0,a=>by
  rw[Sm]
  by_cases c:v=n
  ·rw[c];omega
  ·have:=a0s (D:=D) (n:=n) h0 (by omega)
   omega
theorem U0m{D:Int->Nat}:∀ {n:Nat} {k:Int},0<=k->k<=n->Sm (λv=>if v<k then D v else D (v+1)) n+D k=Sm D (n+1)
 |0,k,h0,a=>by
  obtain rfl:k=0:=by omega
  rfl
 |n+1,k,h0,a=>by
  by_cases c:k=((n+1:Nat):Int)
  ·have:Sm (λv=>if v<k then D v else D (v+1)) (n+1)=Sm D (n+1):=g0f λv hv=>if_pos (by omega)
   rw[this,c];rfl
  ·have g:=U0m (D:=D) (n:=n) h0 (by omega)
   have b:(λv=>if v<k then D v else D (v+1)) ((n:Nat):Int)=D ((n+1:Nat):Int):=by
    show(if((n:Nat):Int)<k then D n else D ((n:Int)+1))=_
    rw[if_neg (by omega)]
    rfl
   have d:Sm (λv=>if v<k then D v else D (v+1)) (n+1)=Sm (λv=>if v<k then D v else D (v+1)) n+D ((n+1:Nat):Int):=congrArg (Sm _ n + ·) b
   have f:Sm D (n+1+1)=Sm D (n+1)+D ((n+1:Nat):Int):=rfl
   omega
theorem e0q{D:Int->Nat}{a:Int}{c:Nat}:∀ {n:Nat},0<=a->a<n->Sm (λv=>if v=a then D a+c else D v) n=Sm D n+c
 |0,h0,b=>by omega
 |n+1,h0,b=>by
  rw[Sm,Sm]
  by_cases k:a=n
  ·have:Sm (λv=>if v=a then D a+c else D v) n=Sm D n:=g0f λv hv=>if_neg (by omega)
   rw[this,←k,if_pos rfl];omega
  ·rw[e0q h0 (by omega),if_neg (by omega)];omega
section
variable {G:Type} [Gp G]
def Sh(γ:Int->G)(k:Nat)(z:G):Prop:=∃ u:List Int,Lw u/\u.length<=k/\ev γ u=z
variable {γ L:Int->G}
theorem Sh.le{k n:Nat}{z:G}(h:Sh γ k z)(d:k<=n):Sh γ n z:=by
 obtain⟨u,a,b,c⟩:=h
 exact⟨u,a,by omega,c⟩
theorem Sh.e{k:Nat}:Sh γ k Gp.e:=⟨[],Lw.nil,Nat.zero_le _,rfl⟩
theorem Sh.mul{k n:Nat}{x c:G}(h:Sh γ k x)(f:Sh γ n c):Sh γ (k+n) (x*c):=by
 obtain⟨u,a,b,rfl⟩:=h
 obtain⟨v,d,g,rfl⟩:=f
 exact⟨u++v,a.app d,by rw[List.length_append];omega,Z0b γ u v⟩
theorem D0l(u:List Int):(inv u).length=u.length:=by
 unfold Go.Proofs.YtohcdjhocpakkaaGreat.inv
 rw[List.length_reverse,List.length_map]
theorem Sh.inv{k:Nat}{x:G}(h:Sh γ k x):Sh γ k (Gp.i x):=by
 obtain⟨u,a,b,rfl⟩:=h
 exact⟨Go.Proofs.YtohcdjhocpakkaaGreat.inv u,a.inv,by rw[D0l];exact b,j0i γ a⟩
structure Anc (x:j0) (γ L:Int->G) (R:Int->G->Prop) (D:Int->Nat):Prop where
 base:R 0 Gp.e
 con:∀ v a b,R v a->R v b->Sh γ (D v) (a*Gp.i b)
 edge:∀ e∈x.2.2,∃ a b,R e.1 a/\R e.2.2 b/\Sh γ 1 (a*(L e.2.1*Gp.i b))
theorem f0q{x:j0}{f:K4}{R:Int->G->Prop}{D:Int->Nat}(I:O0 x=true)(hf:f∈Y4 x.2.2)(h:Anc x γ L R D):
  ∃ X,(0<=X/\X<x.2.1)/\∃ c d,R f.1 c/\R f.2 d/\Sh γ (D X+2) (c*Gp.i d):=by
 obtain⟨C,J,K,M⟩:=B3 I
 have E:∀ a∈x.2.2,∀ b∈x.2.2,a.2.1=b.2.1->a.1=b.1->f.1=a.2.2->f.2=b.2.2->∃ X,(0<=X/\X<x.2.1)/\∃ c d,R f.1 c/\R f.2 d/\Sh γ (D X+2) (c*Gp.i d):=λa g b j o s t u=>by
  obtain⟨z,c,w,y,s1⟩:=h.edge a g
  obtain⟨A,d,m,n,s2⟩:=h.edge b j
  rw[←s]at m
  rw[←o]at s2
  refine⟨a.1,(C a g).1,c,d,by rw[t];exact y,by rw[u];exact n,?_⟩
  have:=(s1.inv.mul (h.con _ _ _ w m)).mul s2
  simp only[g3,g4,gas,g1,g2]at this
  exact this.le (by omega)
 have F:∀ a∈x.2.2,∀ b∈x.2.2,a.2.1=b.2.1->a.2.2=b.2.2->f.1=a.1->f.2=b.1->∃ X,(0<=X/\X<x.2.1)/\∃ c d,R f.1 c/\R f.2 d/\Sh γ (D X+2) (c*Gp.i d):=λa g b j o s t u=>by
  obtain⟨z,c,w,y,s1⟩:=h.edge a g
  obtain⟨A,d,m,n,s2⟩:=h.edge b j
  rw[←s]at n
  rw[←o]at s2
  refine⟨a.2.2,(C a g).2.1,z,A,by rw[t];exact w,by rw[u];exact m,?_⟩
  have:=(s1.mul (h.con _ _ _ y n)).mul s2.inv
  simp only[g3,g4,gas,g1,g2]at this
  exact this.le (by omega)
 obtain⟨a,g,b,j,H⟩:=A08 hf
 obtain⟨l,k⟩:=X0b H
 have N:∀ {P:Prop},P->P:=λp=>p
 rcases k with⟨k,v⟩|⟨k,v⟩
 ·rcases v with⟨p,q⟩|⟨p,q⟩
  ·exact E a g b j l k p q
  ·exact E b j a g l.symm k.symm p q
 ·rcases v with⟨p,q⟩|⟨p,q⟩
  ·exact F a g b j l k p q
  ·exact F b j a g l.symm k.symm p q
theorem h0o{x:j0}{f:K4}{R:Int->G->Prop}{D:Int->Nat}(z:O0 x=true)(hf:f∈Y4 x.2.2)(h:Anc x γ L R D):
  ∃ E u,Anc (R4 x f) γ L E u/\Sm u (R4 x f).2.1.toNat+2<=2*(Sm D x.2.1.toNat+2):=by
 obtain⟨Q,S,W⟩:=P8 z f hf
 obtain⟨X,I,T,U,A,C,s⟩:=f0q z hf h
 let K:Int->Nat:=λv=>if v<f.2 then D v else D (v+1)
 have H:K f.1=D f.1:=if_pos S
 refine⟨λv a=>∃ w,mvV f w=v/\R w a,λv=>if v=f.1 then K f.1+(D f.2+D X+2)else K v,⟨⟨0,by unfold mvV;rw[if_neg (by omega),if_neg (by omega)],h.base⟩,λv a b J M=>?_,λe O=>?_⟩,?_⟩
 ·obtain⟨w,i,j⟩:=J
  obtain⟨o,m,g⟩:=M
  by_cases c:v=f.1
  ·have l:∀ w,mvV f w=v->w=f.1∨w=f.2:=λw i=>by
    unfold mvV at i
    by_cases d1:w=f.2
    ·exact .inr d1
    ·rw[if_neg d1]at i
     by_cases d2:w>f.2
     ·rw[if_pos d2]at i;omega
     ·rw[if_neg d2]at i;omega
   rw[if_pos c,H]
   rcases l w i with rfl|rfl
   ·rcases l o m with e|e
    ·rw[e]at g
     exact(h.con _ _ _ j g).le (by omega)
    ·rw[e]at g
     have:=((h.con _ _ _ j A).mul s).mul (h.con _ _ _ C g)
     simp only[gas,g1]at this
     exact this.le (by omega)
   ·rcases l o m with e|e
    ·rw[e]at g
     have:=((h.con _ _ _ j C).mul s.inv).mul (h.con _ _ _ A g)
     simp only[g3,g4,gas,g1]at this
     exact this.le (by omega)
    ·rw[e]at g
     exact(h.con _ _ _ j g).le (by omega)
  ·have l:∀ w,mvV f w=v->(v<f.2/\w=v)∨(¬ v<f.2/\w=v+1):=λw i=>by
    unfold mvV at i
    by_cases d1:w=f.2
    ·rw[if_pos d1]at i;omega
    ·rw[if_neg d1]at i
     by_cases d2:w>f.2
     ·rw[if_pos d2]at i;omega
     ·rw[if_neg d2]at i;omega
   rw[if_neg c]
   show Sh γ (if v<f.2 then D v else D (v+1)) _
   rcases l w i with⟨d,e⟩|⟨d,e⟩
   ·rcases l o m with⟨_,q⟩|⟨p,_⟩
    ·rw[if_pos d];rw[e]at j;rw[q]at g
     exact h.con _ _ _ j g
    ·exact absurd d p
   ·rcases l o m with⟨p,_⟩|⟨_,q⟩
    ·exact absurd p d
    ·rw[if_neg d];rw[e]at j;rw[q]at g
     exact h.con _ _ _ j g
 ·rcases(D4 Y3 _ _ _).1 O with k|k
  ·cases k
  ·obtain⟨d,N,rfl⟩:=List.mem_map.1 k
   obtain⟨a,b,j,g,s⟩:=h.edge d N
   exact⟨a,b,⟨_,rfl,j⟩,⟨_,rfl,g⟩,s⟩
 ·have t:∃ n:Nat,x.2.1.toNat=n+1:=⟨x.2.1.toNat-1,by omega⟩
  obtain⟨n,t⟩:=t
  have P:(R4 x f).2.1.toNat=n:=by
   show(x.2.1-1).toNat=n
   omega
  have y:=U0m (D:=D) (n:=n) (k:=f.2) (by omega) (by omega)
  have F:=e0q (D:=K) (a:=f.1) (c:=D f.2+D X+2) (n:=n) Q (by omega)
  have V:=a0s (D:=D) (n:=n+1) I.1 (by omega)
  have y:Sm K n+D f.2=Sm D (n+1):=y
  rw[P,t,F]
  omega
theorem b0h:∀(n:Nat) {x:j0} {R:Int->G->Prop} {D:Int->Nat},O0 x=true->Anc x γ L R D ->
  ∃ i b,Anc (a5 n x).1 γ L i b/\∃ j:Nat,(j:Int)+(a5 n x).1.2.1=x.2.1/\Sm b (a5 n x).1.2.1.toNat+2<=2 ^ j*(Sm D x.2.1.toNat+2)
 |0,x,R,D,a,h=>⟨R,D,h,0,by show(0:Int)+x.2.1=_;omega,by show Sm D x.2.1.toNat+2<=2 ^ 0*(Sm D x.2.1.toNat+2);omega⟩
 |n+1,x,R,D,a,h=>by
  unfold a5
  cases e:Y4 x.2.2 with
  |nil=>exact⟨R,D,h,0,by show(0:Int)+x.2.1=_;omega,by show Sm D x.2.1.toNat+2<=2 ^ 0*(Sm D x.2.1.toNat+2);omega⟩
  |cons f r =>
   have d:f∈Y4 x.2.2:=by rw[e];exact mS
   obtain⟨p,o,l,s1⟩:=h0o a d h
   obtain⟨k,g,m,j,c,s2⟩:=b0h n (s00 a (P8 a f d)) l
   have c:(j:Int)+(a5 n (R4 x f)).1.2.1=x.2.1-1:=c
   refine⟨k,g,m,j+1,by show((j+1:Nat):Int)+(a5 n (R4 x f)).1.2.1=x.2.1;omega,Nat.le_trans s2 ?_⟩
   have:=Nat.mul_le_mul_left (2 ^ j) s1
   rw[Nat.pow_succ,Nat.mul_assoc]
   exact this
def Ed(γ L ρ:Int->G)(e:J0):Prop:=Sh γ 1 (ρ e.1*(L e.2.1*Gp.i (ρ e.2.2)))
theorem g0q{ρ:Int->G}{u x v:Int}(h:Sh γ 1 (ρ u*(gs L x*Gp.i (ρ v)))):Ed γ L ρ (stp u x v):=by
 unfold Ed stp
 unfold gs at h
 by_cases c:x<0
 ·rw[if_pos c]at h ⊢
  have:=h.inv
  simpa only[g3,g4,gas] using this
 ·rw[if_neg c]at h ⊢;exact h
theorem V0m(v:Int):∀(w:List Int) (u n:Int) (ρ:Int->G),0<=n->u<n->v<n->(w≠[]->Sh γ 1 (ρ u*(ev L w*Gp.i (ρ v))))->∃ b:Int->G,(∀ z,z<n->b z=ρ z)/\∀ e∈p8 v w u n,Ed γ L b e
 | [],u,n,ρ,h0,f,hv,h=>⟨ρ,λ_ _=>rfl,λe a=>by cases a⟩
 | [x],u,n,ρ,h0,f,hv,h=>⟨ρ,λ_ _=>rfl,λe a=>by
  rw[p8,List.mem_singleton]at a
  subst a
  have:=h (by simp)
  rw[E09]at this
  exact g0q this⟩
 |x::g::r,u,n,ρ,h0,f,hv,h=>by
  have d:=h (by simp)
  rw[ev]at d
  obtain⟨b,c,f2⟩:=V0m v (g::r) n (n+1) (λz=>if z=n then ρ u*gs L x else ρ z) (by omega) (by omega) (by omega) λ_=>by
   simp only[if_neg (show ¬ v=n by omega),if_true]
   rw[gas]at d ⊢
   exact d
  refine⟨b,λz j=>by rw[c z (by omega),if_neg (by omega)],λe a=>?_⟩
  rw[p8]at a
  rcases List.mem_cons.1 a with rfl|a
  ·refine g0q ?_
   rw[c n (by omega),c u (by omega),if_pos rfl,if_neg (by omega),g3,g2,gmi]
   exact Sh.e
  ·exact f2 e a
theorem W0m:∀(l:List (List Int)) {g:j0} {ρ:Int->G},O0 g=true->(∀ w∈l,I3 g.1 w=true)->ρ 0=Gp.e->(∀ e∈g.2.2,Ed γ L ρ e)->(∀ w∈l,Sh γ 1 (ev L w))->∃ a:Int->G,a 0=Gp.e/\∀ e∈(L5 l g).2.2,Ed γ L a e
 | [],g,ρ,d,i,h0,h,f=>⟨ρ,h0,h⟩
 |w::r,g,ρ,d,i,h0,h,f=>by
  obtain⟨q,s,t,y⟩:=B3 d
  have p:=y01 d (u:=0) (v:=0) ⟨iR _,by omega⟩ ⟨iR _,by omega⟩ (i w mS)
  have:∃ a:Int->G,a 0=Gp.e/\∀ e∈(O1 g 0 w 0).1.2.2,Ed γ L a e:=by
   cases hc:(O1 g 0 w 0).2 with
   |false=>rw[(V0a (x:=g) w).2.1 hc];exact⟨ρ,h0,h⟩
   |true =>
    rw[(T0a hc).2]
    obtain⟨a,c,f2⟩:=V0m (γ:=γ) (L:=L) 0 w 0 g.2.1 ρ (by omega) (by omega) (by omega) λ_=>by
     rw[h0,g5,gme,gem]
     exact f w mS
    refine⟨a,by rw[c 0 (by omega),h0],λe b=>?_⟩
    rcases(D4 Y3 _ _ _).1 b with b|b
    ·have m:=q e b
     unfold Ed
     rw[c _ m.1.2,c _ m.2.1.2]
     exact h e b
    ·exact f2 e b
  obtain⟨a,o,n⟩:=this
  exact W0m r p (λk j=>by rw[c01];exact i k (mC _ j)) o n λk j=>f k (mC _ j)
theorem t0k{t:j0}{r:Int}{R:Int->G->Prop}{D:Int->Nat}(h:Anc t γ L R D)(g:∀ l,1<=l->l<=r->((0,l,0):J0)∈t.2.2):∀(w:List Int),(∀ x∈w,x≠0 /\ -r<=x/\x<=r)->∀ a,R 0 a->Sh γ (w.length*(D 0+1)+D 0) (a*ev L w)
 | [],_,a,f=>by
  have:=h.con 0 a Gp.e f h.base
  rw[g5]at this
  rw[List.length_nil,Nat.zero_mul,Nat.zero_add]
  exact this
 |x::w,j,a,f=>by
  have u:=j x mS
  have n:∃ p q,R 0 p/\R 0 q/\Sh γ 1 (p*(gs L x*Gp.i q)):=by
   unfold gs
   by_cases c:x<0
   ·obtain⟨p,q,b,d,s⟩:=h.edge _ (g (-x) (by omega) (by omega))
    refine⟨q,p,d,b,?_⟩
    rw[if_pos c]
    have:=s.inv
    simpa only[g3,g4,gas] using this
   ·obtain⟨p,q,b,d,s⟩:=h.edge _ (g x (by omega) (by omega))
    refine⟨p,q,b,d,?_⟩
    rw[if_neg c];exact s
  obtain⟨p,q,b,d,s⟩:=n
  have m:=t0k h g w (λo k=>j o (mC _ k)) q d
  have:=((h.con 0 a p f b).mul s).mul m
  simp only[gas,g1]at this
  rw[ev]
  refine this.le ?_
  rw[List.length_cons,Nat.succ_mul]
  omega
end
theorem h0f:∀(a:List (List Int)) (g:j0),(L5 a g).2.2.length<=g.2.2.length+tot a
 | [],g=>Nat.le_refl _
 |w::r,g=>by
  have h:=h0f r (O1 g 0 w 0).1
  have b:tot (w::r)=w.length+tot r:=rfl
  have c:(O1 g 0 w 0).1.2.2.length<=g.2.2.length+w.length:=by
   cases hc:(O1 g 0 w 0).2 with
   |false=>rw[(V0a (x:=g) w).2.1 hc];omega
   |true =>
    rw[(T0a hc).2]
    have:=O02 (p8 0 w 0 g.2.1) g.2.2
    have:=x04 0 w 0 g.2.1
    simp only
    omega
  show(L5 r (O1 g 0 w 0).1).2.2.length<=_
  rw[b];omega
theorem E0l{r:Int}{d:List (List Int)}(h:N2 r d=true)(q:d9 (u00 r d).1=true)(F:(d.length:Int)=r):
  ∃ L:Int->FG,(∀(i:Nat) (w:List Int),d[i]?=some w->ev L w=gs gen ((i:Int)+1))/\∀ w:List Int,(∀ x∈w,x≠0 /\ -r<=x/\x<=r)->Sh gen ((w.length+1)*274877906944) (ev L w):=by
 obtain⟨M,f2,f3,N⟩:=f0f h q
 have z:=X01 h
 have l:=Q00 h
 obtain⟨O,L,s⟩:=d0q h q F λi=>gs gen ((i:Int)+1)
 refine⟨L,s,?_⟩
 have g:∀ w∈d,Sh gen 1 (ev L w):=λw E=>by
  obtain⟨i,k⟩:=List.getElem?_of_mem E
  have Q:=(List.getElem?_eq_some_iff.1 k).1
  rw[s i w k]
  refine⟨[(i:Int)+1],Lw.one ⟨⟨by omega,by omega⟩,by omega⟩ (by omega),Nat.le_refl _,E09 gen _⟩
 obtain⟨ρ,J,K⟩:=W0m (γ:=gen) (L:=L) d (ρ:=λ_=>Gp.e) (y04 l.1) l.2.2 rfl (λe f=>by cases f) g
 have t:Anc (L5 d (r,1,[])) gen L (λv a=>a=ρ v) (λ_=>0) :=
  ⟨J.symm,λv a b u y=>by rw[u,y,gmi];exact Sh.e,λe f=>⟨_,_,rfl,rfl,K e f⟩⟩
 obtain⟨R,D,p,j,A,g⟩:=b0h 40 z t
 rw[f3]at A g
 have H:∀ n,Sm (λ_=>0) n=0:=λn=>by
  induction n with
  |zero=>rfl
  |succ n I=>rw[Sm,I]
 rw[H]at g
 have g:D 0+2<=2 ^ j*2:=by
  have:Sm D ((1:Int).toNat)=0+D 0:=rfl
  rw[this]at g
  omega
 have U:=Y0b h
 have f:=h0f d (r,1,[])
 have P:chi (L5 d (r,1,[]))=((L5 d (r,1,[])).2.2.length:Int)-(L5 d (r,1,[])).2.1:=rfl
 have G:r=1->tot d<=24:=λm=>by
  have:d.length=1:=by omega
  obtain⟨w,rfl⟩:=List.length_eq_one_iff.1 this
  have:=(i02 (l.2.2 w mS)).1
  show w.length+0<=24
  omega
 have f:(L5 d (r,1,[])).2.2.length<=0+tot d:=f
 have C:j<=37:=by
  by_cases c:r=1
  ·have:=G c
   omega
  ·omega
 have S:2 ^ j<=2 ^ 37:=Nat.pow_le_pow_right (by omega) C
 have T:(2:Nat) ^ 37=137438953472:=by decide
 intro w k
 have:=t0k p f2 w k Gp.e p.base
 rw[gem]at this
 refine this.le ?_
 have m:D 0+1<=274877906944:=by omega
 have o:=Nat.mul_le_mul_left (w.length+1) m
 have e:(w.length+1)*(D 0+1)=w.length*(D 0+1)+(D 0+1):=Nat.succ_mul _ _
 rw[e]at o
 exact Nat.le_trans (by omega) o
set_option maxRecDepth 10000
abbrev B(l:List UInt8):ByteArray:=⟨l.toArray⟩
theorem j0f(l:List UInt8):s0j (B l) ⟨#[]⟩=l.isEmpty:=by
 rw[g0p]
 cases l with
 |nil=>rfl
 |cons x r =>
  rw[decide_eq_false (λe=>by have:=congrArg ByteArray.size e;simp[B,ByteArray.size]at this)]
  rfl
def d05(x:Int):Bool := !(x == 0)&&inR (-3) 3 x
def chL(x:Int):UInt8:=if x<0 then UInt8.ofNat (64+x.natAbs)else UInt8.ofNat (96+x.natAbs)
theorem N0c{x:Int}(a:d05 x=true):x = -3∨x = -2∨x = -1∨x=1∨x=2∨x=3:=by
 simp only[d05,inR,Bool.and_eq_true,Bool.not_eq_true',beq_eq_false_iff_ne,decide_eq_true_eq]at a
 omega
theorem G0l(x:Int):r01 x=some (d05 x):=by
 unfold r01 d05
 rw[M00]
 by_cases h:x=0<;>simp[h,chk]
theorem k0f(x:Int)(a:d05 x=true):B01 x=some (B [chL x]):=by
 rcases N0c a with rfl|rfl|rfl|rfl|rfl|rfl<;>rfl
theorem X0a(x:Int):W7 x=some (bif d05 x then B [chL x]else B []):=by
 cases hx:d05 x with
 |true=>rcases N0c hx with rfl|rfl|rfl|rfl|rfl|rfl<;>rfl
 |false =>
  unfold W7
  rw[U7,U7]
  have a:inR 1 3 x=false:=by
   simp only[d05,inR,Bool.and_eq_false_iff,Bool.not_eq_false',beq_iff_eq,decide_eq_false_iff_not]at hx ⊢
   omega
  have b:inR (-3) (-1) x=false:=by
   simp only[d05,inR,Bool.and_eq_false_iff,Bool.not_eq_false',beq_iff_eq,decide_eq_false_iff_not]at hx ⊢
   omega
  rw[a,b]
  rfl
def A03:List Int->Bool
 | []=>true
 |x::r=>d05 x&&A03 r
def wl(w:List Int):List UInt8:=match w with
 | []=>[49]
 |x::r=>(x::r).map chL
def b0c(w:List Int):ByteArray:=bif A03 w then B (wl w)else B []
theorem n0i(w:List Int):(wl w).length<=w.length+1:=by cases w<;>simp[wl]
theorem S03(w:List Int)(g:w.length<=140737488355328):∀(d k fuel:Nat) (acc:List UInt8),k+d=w.length->d<fuel->acc.length+d<=140737488355328 ->
  Q5 w fuel (B acc) (k:Int)=some (bif A03 (w.drop k)then .inr (B (acc++(w.drop k).map chL))else .inl (B []))
 |d,k,0,acc,c,hf,b=>by omega
 |0,k,fuel+1,acc,c,hf,b=>by
  rw[Q5.eq_2,if_neg (by simp;omega),I1 (by omega)]
  simp[A03]
 |d+1,k,fuel+1,acc,c,hf,b=>by
  have f:k<w.length:=by omega
  have a:=d5 f
  generalize w[k]=x at a
  have next:=S03 w g d (k+1) fuel (acc ++ [chL x]) (by omega) (by omega) (by simp only[List.length_append,List.length_singleton];omega)
  rw[K1 a,Q5.eq_2,if_pos (by simp;omega),V1 a,oB,G0l,oB]
  simp only[A03]
  cases hlx:d05 x with
  |false=>rfl
  |true =>
   rw[if_neg (by simp),oB,k0f x hlx,oB,F0 (by rw[U5];simp),oB,F0 (by rw[U5,U5];simp only[List.length_singleton];omega),oB,
    F09,C2 f (by omega:w.length<=9223372036854775807),next]
   simp
theorem p06(w:List Int)(a:w.length<=140737488355):a9 w=some (b0c w):=by
 unfold a9
 have h:=S03 w (by omega) w.length 0 Q0 [] (by omega) (j1 (by omega)) (by simp only[List.length_nil];omega)
 rw[show((0:Nat):Int)=0 from rfl,List.drop_zero,List.nil_append]at h
 rw[show(⟨#[]⟩:ByteArray)=B [] from rfl,h,oB]
 unfold b0c
 cases A03 w with
 |false=>rfl
 |true =>
  rw[cond_true,S0,show(B []:ByteArray)=⟨#[]⟩ from rfl,j0f]
  cases w<;>rfl
theorem T03(w:List Int)(g:w.length<=140737488355328):∀(d k fuel:Nat) (acc:List UInt8),k+d=w.length->d<fuel->acc.length+d<=140737488355328 ->
  R5 w fuel (B acc) (k:Int)=some (bif A03 (w.drop k)then .inr (B (acc++(w.drop k).map chL))else .inl (B []))
 |d,k,0,acc,c,hf,b=>by omega
 |0,k,fuel+1,acc,c,hf,b=>by
  rw[R5.eq_2,if_neg (by simp;omega),I1 (by omega)]
  simp[A03]
 |d+1,k,fuel+1,acc,c,hf,b=>by
  have f:k<w.length:=by omega
  have a:=d5 f
  generalize w[k]=x at a
  have next:=T03 w g d (k+1) fuel (acc ++ [chL x]) (by omega) (by omega) (by simp only[List.length_append,List.length_singleton];omega)
  rw[K1 a,R5.eq_2,if_pos (by simp;omega),V1 a,oB,X0a,oB]
  simp only[A03]
  cases hlx:d05 x with
  |false=>rw[cond_false,F0 (by rw[U5];simp),oB,j0f];rfl
  |true =>
   rw[cond_true,F0 (by rw[U5];simp),oB,j0f,if_neg (by simp),F0 (by rw[U5,U5];simp only[List.length_singleton];omega),oB,
    F09,C2 f (by omega:w.length<=9223372036854775807),next]
   simp
theorem c0c(w:List Int)(a:w.length<=140737488355):v00 w=some (b0c w):=by
 unfold v00
 by_cases h0:w.length=0
 ·have:w = []:=List.length_eq_zero_iff.1 h0
  subst this
  rfl
 ·have h:=T03 w (by omega) w.length 0 Q0 [] (by omega) (j1 (by omega)) (by simp only[List.length_nil];omega)
  rw[show((0:Nat):Int)=0 from rfl,List.drop_zero,List.nil_append]at h
  rw[if_neg (by simp;exact λe=>h0 (by rw[e];rfl)),show(⟨#[]⟩:ByteArray)=B [] from rfl,h,oB]
  unfold b0c
  cases A03 w with
  |false=>rfl
  |true =>
   cases w with
   |nil=>simp at h0
   |cons x r=>rfl
def e07(a:UInt8):List (List UInt8)->List UInt8
 | []=>[]
 |x::r=>a::x++e07 a r
def q06(a:UInt8):List (List UInt8)->List UInt8
 | []=>[]
 |x::r=>x++e07 a r
def bsz:List (List UInt8)->Nat
 | []=>0
 |x::r=>x.length+1+bsz r
theorem o0i:∀ xs:List (List UInt8),xs.length<=bsz xs
 | []=>by simp
 |w::r=>by have:=o0i r;simp only[bsz,List.length_cons];omega
theorem f07(b:UInt8)(xs:List (List UInt8))(h:bsz xs<=140737488355328):∀(d k fuel:Nat) (acc:List UInt8),k+d=xs.length->d<fuel->acc.length+bsz (xs.drop k)<=140737488355328 ->
  S8 (xs.map B) (B [b]) fuel (B acc) (k:Int)=some (B (acc++e07 b (xs.drop k)))
 |d,k,0,acc,f,hf,a=>by omega
 |0,k,fuel+1,acc,f,hf,a=>by
  rw[S8.eq_2,if_neg (by simp;omega),I1 (by omega)]
  simp[e07]
 |d+1,k,fuel+1,acc,f,hf,a=>by
  have g:k<xs.length:=by omega
  have c:=d5 g
  have i:=o0i xs
  generalize xs[k]=x at c
  rw[K1 c]at a ⊢
  simp only[bsz]at a
  have next:=f07 b xs h d (k+1) fuel (acc ++ [b]++x) (by omega) (by omega) (by simp only[List.length_append,List.length_singleton];omega)
  rw[S8.eq_2,if_pos (by simp;omega),V1 (x:=B x) (by rw[List.getElem?_map,c];rfl),oB,F0 (by rw[U5,U5];simp only[List.length_singleton];omega),oB,F09,
   F0 (by rw[U5,U5];simp only[List.length_append,List.length_singleton];omega),oB,F09,C2 g (by omega:xs.length<=9223372036854775807),next]
  simp[e07]
def p0i(a:UInt8)(e:ByteArray):List (List UInt8)->ByteArray
 | []=>e
 |x::r=>B (q06 a (x::r))
theorem a0n(a:UInt8)(e:ByteArray)(xs:List (List UInt8))(c:bsz xs<=140737488355328):k02 (xs.map B) (B [a]) e=some (p0i a e xs):=by
 unfold k02
 cases xs with
 |nil=>rfl
 |cons x r =>
  simp only[bsz]at c
  have d:=o0i r
  have h:=f07 a r (by omega) r.length 0 Q0 x (by omega) (j1 (by omega)) (by rw[List.drop_zero];omega)
  rw[show((0:Nat):Int)=0 from rfl,List.drop_zero]at h
  rw[if_neg (by simp;omega),J05 (x:=B x) rfl,oB,W03,if_pos (by simp;omega),oB]
  have b:(List.drop (1:Int).toNat (List.take ((((x::r).map B).length:Nat):Int).toNat ((x::r).map B)))=r.map B:=by
   rw[Int.toNat_natCast,List.take_length];rfl
  rw[b,h]
  rfl
theorem Y0a:∀ xs:List (List UInt8),(e07 32 xs).length=bsz xs
 | []=>rfl
 |x::r=>by
  have:=Y0a r
  simp only[e07,bsz,List.length_cons,List.length_append]
  omega
theorem n0q(xs:List (List UInt8))(b:xs≠[])(a:bsz xs<=1000000000):z9 (xs.map B)=some (B (q06 32 xs)):=by
 unfold z9
 rw[show(⟨#[32]⟩:ByteArray)=B [32] from rfl,a0n 32 _ xs (by omega),oB]
 cases xs with
 |nil=>exact absurd rfl b
 |cons x r =>
  have c:=Y0a r
  simp only[bsz]at a
  rw[show ∀ e,p0i 32 e (x::r)=B (q06 32 (x::r)) from λe=>rfl,F0 (by rw[U5];simp only[q06,List.length_append];omega)]
  rfl
end Go.Proofs.YtohcdjhocpakkaaGreat
