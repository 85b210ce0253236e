/- Texts of the claim, joined: Plain laws: trimming and the core of a folded graph and others. -/
import Derived.Test.YtmgikbbmpnbbjaaGreatPart26
import Derived.Test.YtmgikbbmpnbbjaaGreatPart21
import Derived.Test.YtmgikbbmpnbbjaaGreatPart20
import Derived.Test.YtmgikbbmpnbbjaaGreatH36
namespace Go.Proofs.YtmgikbbmpnbbjaaGreat
open Go.H
set_option linter.unusedVariables false
set_option linter.unusedSimpArgs false
theorem I0m(g:Nat):∀(d k:Nat) (x:Int),x∈wo g d k->∃ j:Nat,x=(j:Int)/\k<=j/\j<k+d
 |0,k,x,h=>nomatch h
 |d+1,k,x,h=>by
  unfold wo at h
  split at h
  ·obtain⟨j,a,b,c⟩:=I0m g d (k+1) x h
   exact⟨j,a,by omega,by omega⟩
  ·rcases List.mem_cons.1 h with rfl|h
   ·exact⟨k,rfl,Nat.le_refl _,by omega⟩
   ·obtain⟨j,a,b,c⟩:=I0m g d (k+1) x h
    exact⟨j,a,by omega,by omega⟩
theorem I03(g:Nat):∀(d k:Nat),(wo g d k).Nodup
 |0,k=>List.nodup_nil
 |d+1,k=>by
  unfold wo
  split
  ·exact I03 g d (k+1)
  ·refine List.nodup_cons.2 ⟨λh=>?_,I03 g d (k+1)⟩
   obtain⟨j,a,b,c⟩:=I0m g d (k+1) _ h
   omega
theorem E0f(P:List Int):∀(es:List K0),∀ e∈pE P es,∃ a∈es,e=(getI P a.1,a.2.1,getI P a.2.2)/\0<=getI P a.1/\0<=getI P a.2.2
 | [],e,h=>nomatch h
 |b::r,e,h=>by
  unfold pE at h
  cases hb:decide (0<=getI P b.1)&&decide (0<=getI P b.2.2)
  ·rw[hb]at h
   obtain⟨a,c,d⟩:=E0f P r e h
   exact⟨a,mC _ c,d⟩
  ·rw[hb]at h
   simp only[Bool.and_eq_true,decide_eq_true_eq]at hb
   rcases List.mem_cons.1 h with rfl|h
   ·exact⟨b,mS,rfl,hb.1,hb.2⟩
   ·obtain⟨a,c,d⟩:=E0f P r e h
    exact⟨a,mC _ c,d⟩
theorem y0a{g:l0}{o:List Int}(f:U0 g=true)(b:inV g.2.1.toNat o)(p:1<=o.length)(q:o.length<=40):U0 (N5 g o)=true:=by
 obtain⟨k,l,t,u⟩:=O2 f
 have s:=f0j (plc g.2.1.toNat o) g.2.2
 refine C0b l ⟨by omega,by omega⟩ (by omega) λe d=>?_
 obtain⟨a,c,rfl,i,j⟩:=E0f _ _ e d
 have h:=k a c
 have m:=(f05 b (x:=a.1) (by omega)).2
 have n:=(f05 b (x:=a.2.2) (by omega)).2
 exact⟨⟨i,m⟩,⟨j,n⟩,h.2.2⟩
theorem F0f{n:Nat}:∀(o:List Int) (k:Nat) (A:List Int),A.length=n->inV n o->o.Nodup->(∀ x,0<=x->getI A x<(k:Int))->(∀ x y,0<=x->0<=y->0<=getI A x->getI A x=getI A y->x=y) ->
  ∀ x y,0<=x->0<=y->0<=getI (y01 A k o) x->getI (y01 A k o) x=getI (y01 A k o) y->x=y
 | [],k,A,h,e,i,c,d=>d
 |v::r,k,A,h,e,i,c,d=>by
  have f:=e v mS
  refine F0f r (k+1) (A.set v.toNat (k:Int)) (by simp[h]) (λw j=>e w (mC _ j)) (List.nodup_cons.1 i).2 (λx b=>?_) (λx y b g h0 a=>?_)
  ·rw[E04 f.1 (by omega) b]
   have:=c x b
   split<;>omega
  ·rw[E04 f.1 (by omega) b]at h0 a
   rw[E04 f.1 (by omega) g]at a
   have l:=c x b
   have m:=c y g
   by_cases c1:x=v
   ·by_cases c2:y=v
    ·rw[c1,c2]
    ·rw[if_pos c1,if_neg c2]at a;omega
   ·by_cases c2:y=v
    ·rw[if_neg c1,if_pos c2]at a;omega
    ·rw[if_neg c1]at h0;rw[if_neg c1,if_neg c2]at a
     exact d x y b g h0 a
theorem D0b{n:Nat}{o:List Int}(d:inV n o)(b:o.Nodup){x y:Int}(a:0<=x)(e:0<=y)(h0:0<=getI (plc n o) x)(c:getI (plc n o) x=getI (plc n o) y):x=y:=by
 refine F0f o 0 (List.replicate n (-1)) (by simp) d b (λx a=>by rw[J08];omega) (λx y _ _ h _=>by rw[J08]at h;omega) x y a e h0 c
theorem W0q{es:List K0}(h:es.Pairwise λa b=>z03 a b=false){a b:K0}(f:a∈es)(i:b∈es)(k:a≠b):z03 a b=false:=by
 induction es with
 |nil=>cases f
 |cons c r l =>
  obtain⟨e,j⟩:=List.pairwise_cons.1 h
  rcases List.mem_cons.1 f with rfl|g
  ·rcases List.mem_cons.1 i with rfl|d
   ·exact absurd rfl k
   ·exact e b d
  ·rcases List.mem_cons.1 i with rfl|d
   ·rw[r09];exact e a g
   ·exact l j g d
theorem k0s{es:List K0}(i:Asc T0 es)(h:∀ a∈es,∀ b∈es,a≠b->z03 a b=false):es.Pairwise λa b=>z03 a b=false:=by
 induction es with
 |nil=>exact .nil
 |cons c r k =>
  obtain⟨f,g⟩:=List.pairwise_cons.1 i
  refine List.pairwise_cons.2 ⟨λb d=>h c mS b (mC _ d) λe=>?_,k g λa j b d=>h a (mC _ j) b (mC _ d)⟩
  have:=f b d
  rw[e,L3.refl]at this;omega
theorem h04{g:l0}(c:U0 g=true):F0 g=true↔∀ a∈g.2.2,∀ b∈g.2.2,a≠b->z03 a b=false:=by
 rw[J05,F0c]
 exact⟨λh a d b e f=>W0q h.2 d e f,λh=>⟨c,k0s (graph_asc' c) h⟩⟩
where graph_asc' {g:l0} (h:U0 g=true):Asc T0 g.2.2:=((W00 g).1 h).2.2.2.2
theorem t03{g:l0}{o:List Int}(hf:F0 g=true)(j:inV g.2.1.toNat o)(m:o.Nodup)(s:1<=o.length)(t:o.length<=40):F0 (N5 g o)=true:=by
 have i:=T1 hf
 obtain⟨n,F,G,H⟩:=O2 i
 refine(h04 (y0a i j s t)).2 λa u b v z=>?_
 have mem:∀ e∈(N5 g o).2.2,∃ a∈g.2.2,e=(getI (plc g.2.1.toNat o) a.1,a.2.1,getI (plc g.2.1.toNat o) a.2.2)/\0<=getI (plc g.2.1.toNat o) a.1/\0<=getI (plc g.2.1.toNat o) a.2.2:=λe y=>by
  rcases(C4 L3 e _ _).1 y with h|h
  ·cases h
  ·exact E0f _ _ e h
 obtain⟨d,k,rfl,B,C⟩:=mem a u
 obtain⟨f,l,rfl,D,E⟩:=mem b v
 have A:d≠f:=λe=>z (by rw[e])
 have c:=(h04 i).1 hf d k f l A
 have p:=n d k
 have q:=n f l
 unfold z03 at c ⊢
 simp only[Bool.and_eq_false_iff,Bool.or_eq_false_iff,decide_eq_false_iff_not]at c ⊢
 rcases c with c|⟨w,x⟩
 ·exact .inl c
 ·exact .inr ⟨λe=>w (D0b j m p.1.1 q.1.1 B e),λe=>x (D0b j m p.2.1.1 q.2.1.1 C e)⟩
def R6:Nat->l0->l0
 |0,g=>g
 |d+1,g=>match F7 g with
  |none=>g
  |some k=>R6 d (N5 g (wo k g.2.1.toNat 0))
theorem v09{g:l0}{k:Nat}(h:F7 g=some k):1<=k/\k<g.2.1.toNat:=by
 have:=L08 _ _ _ h
 omega
theorem g05{g:l0}(b:U0 g=true){k:Nat}(h:F7 g=some k):inV g.2.1.toNat (wo k g.2.1.toNat 0)/\(wo k g.2.1.toNat 0).length=g.2.1.toNat-1/\1<=(wo k g.2.1.toNat 0).length/\(wo k g.2.1.toNat 0).length<=40:=by
 obtain⟨d,e,f,i⟩:=O2 b
 have c:=v09 h
 have a:=A0f k g.2.1.toNat 0
 rw[if_pos (by omega)]at a
 exact⟨Q0k k _ _ 0 (by omega),a,by omega,by omega⟩
theorem C00:∀(d:Nat) {g:l0},F0 g=true->F0 (R6 d g)=true
 |0,g,h=>h
 |d+1,g,h=>by
  unfold R6
  cases e:F7 g with
  |none=>exact h
  |some k =>
   obtain⟨a,f,b,c⟩:=g05 (T1 h) e
   exact C00 d (t03 h a (I03 _ _ _) b c)
theorem G0f(n g:Nat)(i:n<=1000)(u:List Int)(j:u.length=n):∀(d k fuel:Nat) (acc a:List Int),k+d=n->d<fuel->acc.length<=k->a.length<=k ->
  ∃ v,O5 (n:Int) (g:Int) u fuel (k:Int) acc a=some (acc++wo g d k,v)/\v.length+acc.length=a.length+(acc++wo g d k).length
 |d,k,0,acc,a,h,hf,b,f=>by omega
 |0,k,fuel+1,acc,a,h,hf,b,f=>by
  rw[O5.eq_2,if_neg (by simp;omega)];exact⟨a,by simp[wo],by simp[wo]⟩
 |d+1,k,fuel+1,acc,a,h,hf,b,f=>by
  have l:=c5 (show k<u.length by omega)
  generalize u[k]=x at l
  rw[O5.eq_2,if_pos (by simp;omega),V2 (show k<10000 by omega) (by omega)]
  unfold wo
  by_cases c:k=g
  ·have e:decide ((k:Int)=(g:Int))=true:=decide_eq_true (by omega)
   rw[e,if_neg (by simp),if_pos c]
   exact G0f n g i u j d (k+1) fuel acc a (by omega) (by omega) (by omega) (by omega)
  ·have e:decide ((k:Int)=(g:Int))=false:=decide_eq_false (by omega)
   rw[e,if_pos (show(!false)=true from rfl),if_neg c,I0 (by simp;omega),oB,B3 l,oB,I0 (by simp;omega),oB]
   obtain⟨v,m,o⟩:=G0f n g i u j d (k+1) fuel (acc ++ [(k:Int)]) (a ++ [x]) (by omega) (by omega) (by simp;omega) (by simp;omega)
   refine⟨v,by rw[m];simp,?_⟩
   simp only[List.length_append,List.length_cons,List.length_nil]at o ⊢
   omega
theorem b0l(g:l0)(a:U0 g=true):∀(d k fuel:Nat) (acc:List Int),k+d=g.2.1.toNat->d<fuel->acc.length=k ->
  ∃ u,E6 g.2.1 g.1 g.2.2 fuel (k:Int) acc=some u/\u.length=g.2.1.toNat
 |d,k,0,acc,c,hf,b=>by omega
 |0,k,fuel+1,acc,c,hf,b=>by
  obtain⟨h,i,j,l⟩:=O2 a
  rw[E6.eq_2,show decide (((k:Nat):Int)<g.2.1)=false by simp;omega]
  exact⟨acc,by simp[chk],by omega⟩
 |d+1,k,fuel+1,acc,c,hf,b=>by
  obtain⟨h,i,j,l⟩:=O2 a
  obtain⟨u,e,f⟩:=b0l g a d (k+1) fuel (acc ++ [(k:Int)]) (by omega) (by omega) (by simp;omega)
  rw[E6.eq_2,show decide (((k:Nat):Int)<g.2.1)=true by simp;omega,O1,show(g.1,g.2.1,g.2.2)=g from rfl,g9 g (by omega),oB,a]
  rw[if_pos (show(bif true then true else false)=true from rfl),I0 (by simp;omega),oB,V2 (show k<1000 by omega) (by omega),e]
  exact⟨u,rfl,f⟩
theorem c0l(f:l0)(n:U0 f=true):∀(d k fuel:Nat) (g:l0) (u:List Int),k+d=40->d<fuel->U0 g=true->u.length=g.2.1.toNat->g.2.1.toNat<=d+1 ->
  ∃ v,(D6 f.1 f.2.1 f.2.2 fuel u (k:Int) g.1 g.2.1 g.2.2).bind (λX=>Q8 X (λx=>match x with|(a,b,c,e)=>some ((b,c,e),a)))=some (R6 d g,v)
 |d,k,0,g,u,q,hf,h,w,s=>by omega
 |0,k,fuel+1,g,u,q,hf,h,w,s=>by
  rw[D6.eq_2,show decide (((k:Nat):Int)<40)=false by simp;omega]
  exact⟨u,by simp[chk,Q8,R6]⟩
 |d+1,k,fuel+1,g,u,q,hf,h,w,s=>by
  obtain⟨G,H,I,J⟩:=O2 n
  obtain⟨K,L,M,O⟩:=O2 h
  have B:=R0q g h
  rw[D6.eq_2,show decide (((k:Nat):Int)<40)=true by simp;omega,O1,show(f.1,f.2.1,f.2.2)=f from rfl,g9 f (by omega),oB,n]
  rw[if_pos (show(bif true then true else false)=true from rfl),show(g.1,g.2.1,g.2.2)=g from rfl,B]
  unfold R6
  cases e:F7 g with
  |none =>
   simp only[oB]
   rw[I0 (show J0 (-1) from⟨by omega,by omega⟩),oB,if_pos (by simp)]
   exact⟨u,rfl⟩
  |some j =>
   obtain⟨o,y,m,A⟩:=g05 h e
   have F:=v09 e
   obtain⟨N,l⟩:∃ N:Nat,g.2.1=(N:Int):=⟨g.2.1.toNat,by omega⟩
   have i:g.2.1.toNat=N:=by omega
   obtain⟨v,D,E⟩:=G0f N j (by omega) u (by omega) N 0 W0 [] [] (by omega) (F1 (by omega)) (Nat.le_refl _) (Nat.le_refl _)
   have t:=v0f g.1 N g.2.2 (wo j N 0) (by rw[←l];exact h) (by rw[←i];exact o) (I03 _ _ _) (by rw[←i];exact m) (by rw[←i];omega)
   rw[←l,show(g.1,g.2.1,g.2.2)=g from rfl]at t
   have p:=y0a h o m A
   rw[i]at p y m
   obtain⟨C,z⟩:=c0l f n d (k+1) fuel (N5 g (wo j N 0)) v (by omega) (by omega) p (by simp only[List.nil_append,List.length_nil]at E;show v.length=((wo j N 0).length:Int).toNat;omega) (by show((wo j N 0).length:Int).toNat<=d+1;omega)
   simp only[oB]
   rw[I0 (show J0 ((j:Nat):Int) from⟨by omega,by omega⟩),oB,if_neg (by simp),l,show(0:Int)=((0:Nat):Int) from rfl,D]
   simp only[oB,List.nil_append]
   rw[←l,t]
   simp only[oB]
   rw[V2 (show k<1000 by omega) (by omega),i]
   exact⟨C,z⟩
def L07(g:l0):l0:=R6 40 g
theorem J0m{g:l0}(a:U0 g=true):∃ v,a01 g=some (L07 g,v):=by
 obtain⟨f,h,i,j⟩:=O2 a
 have e:=I07 g (by omega)
 obtain⟨u,b,d⟩:=b0l g a g.2.1.toNat 0 W0 [] (by omega) (F1 (by omega)) rfl
 obtain⟨v,c⟩:=c0l g a 40 0 W0 g u rfl (F1 (by omega)) a d (by omega)
 refine⟨v,?_⟩
 obtain⟨r,n,es⟩:=g
 unfold a01
 simp only[e,oB]
 simp only at b c
 rw[show(0:Int)=((0:Nat):Int) from rfl,b,oB]
 exact c
theorem d0l:∀(n fuel d:Nat) (left:List Int) (r:Int) (es:List K0),1<=n->n<=40->inN n es->es.length<=120->left.length=n->n<fuel->n<=d+1 ->
  ∃ i,M5 fuel left r (n:Int) es=some (.inl (R6 d (r,(n:Int),es),i))
 |n,0,d,left,r,es,j,l,b,B,C,hf,A=>by omega
 |n,fuel+1,d,left,r,es,j,l,b,B,C,hf,A=>by
  obtain⟨c,x,G,y⟩:=K0k r n es b (by omega) j (by omega)
  have t:=i0j r n es (by omega) c G l (n-1) 1 W0 (Nat.le_refl _) (by omega) (by omega) (F1 (by omega))
  have z:lf (λv=>decide (B00 (v:Int) es<2) || !e00 c (v:Int)) (n-1) 1=lf (K07 es) (n-1) 1:=z0f _ _ λk I J=>by
   unfold K07
   have:=y (k:Int) (by omega) (by omega)
   have m:=H03 es 0 (k:Int)
   congr 2
   cases hb:e00 c (k:Int)
   ·symm;exact decide_eq_false λh=>by rw[this.2 (m.1 h)]at hb;cases hb
   ·symm;exact decide_eq_true (m.2 (this.1 hb))
  rw[z]at t
  have o:F7 (r,(n:Int),es)=lf (K07 es) (n-1) 1:=by simp only[F7,Int.toNat_natCast]
  rw[M5.eq_2,x,oB,show(1:Int)=((1:Nat):Int) from rfl,t,oB]
  cases hlf:lf (K07 es) (n-1) 1 with
  |none =>
   have e:R6 d (r,(n:Int),es)=(r,(n:Int),es):=by
    cases d with
    |zero=>rfl
    |succ d=>unfold R6;rw[o,hlf]
   rw[e]
   exact⟨left,by rw[if_pos (by rfl)]⟩
  |some k =>
   have H:=L08 _ _ _ hlf
   have w:decide ((k:Int)=0)=false:=decide_eq_false (by omega)
   have p:=Q0k k n n 0 (by omega)
   have g:=A0f k n 0
   rw[if_pos (by omega)]at g
   have s:=j0j n k (by omega) n 0 W0 [] (by omega) (F1 (by omega)) (Nat.le_refl _)
   rw[show((0:Nat):Int)=0 from rfl,List.nil_append]at s
   have D:=g0j r n es (wo k n 0) b p (by omega) (by omega) (by omega)
   have E:=w0a (r,(n:Int),es) (wo k n 0)
   have q:=B0h (r:=r) p b
   have F:IntKind.i64.wrap ((k:Int)+((1:Nat):Int))=((k+1:Nat):Int):=by rw[w64 (by omega) (by omega)];rfl
   obtain⟨a,rfl⟩:∃ a,d=a+1:=⟨d-1,by omega⟩
   have f:N5 (r,(n:Int),es) (wo k n 0)=(r,((n-1:Nat):Int),(N5 (r,(n:Int),es) (wo k n 0)).2.2):=by rw[←g];rfl
   obtain⟨i,u⟩:=d0l (n-1) fuel a (left.take k++left.drop (k+1)) r (N5 (r,(n:Int),es) (wo k n 0)).2.2 (by omega) (by omega) (by rw[g]at q;exact q) (by simp only at E;omega) (by simp only[List.length_append,List.length_take,List.length_drop];omega) (by omega) (by omega)
   refine⟨i,?_⟩
   rw[←f]at u
   have e:R6 (a+1) (r,(n:Int),es)=R6 a (N5 (r,(n:Int),es) (wo k n 0)):=by
    show(match F7 (r,(n:Int),es)with|none=>(r,(n:Int),es)|some k=>R6 a (N5 (r,(n:Int),es) (wo k ((n:Int)).toNat 0)))=_
    rw[o,hlf,Int.toNat_natCast]
   rw[e]
   simp only[w,Bool.false_eq_true,if_false,s,oB,D]
   generalize N5 (r,(n:Int),es) (wo k n 0)=gp at *
   rw[f]
   simp only[F]
   rw[B0b (by omega),oB,g03 (by omega),oB,I0 (by simp only[List.length_take,List.length_drop];omega),oB,u,←f]
theorem y0d{g:l0}(f:U0 g=true):∃ v,U7 g=some (L07 g,v):=by
 obtain⟨b,i,j,c⟩:=O2 f
 have m:=b00 g (by omega)
 have k:=L9 g (by omega)
 obtain⟨r,n,es⟩:=g
 simp only at i j c
 obtain⟨N,rfl⟩:∃ N:Nat,n=(N:Int):=⟨n.toNat,by omega⟩
 have l:inN N es:=λe d=>⟨(b e d).1,(b e d).2.1⟩
 obtain⟨u,a,h⟩:=k0j N (by omega) N 0 W0 [] (by omega) (F1 (by omega)) rfl
 obtain⟨o,p⟩:=d0l N W0 40 u r es (by omega) (by omega) l c h (F1 (by omega)) (by omega)
 refine⟨o,?_⟩
 unfold U7
 rw[show((0:Nat):Int)=0 from rfl]at a
 simp only[k,oB,m,f,Bool.not_true,Bool.false_eq_true,if_false,a,p,Q8]
 rfl
def Y9(g:l0):l0:=J3 (L07 g)
theorem M07{g:l0}(hf:F0 g=true):J5 g=(g,[]):=by
 obtain⟨a,b⟩:=(J05 g).1 hf
 unfold J5
 rw[a]
 show u00 40 g=_
 unfold u00
 rw[b]
theorem K0m{g:l0}(hf:F0 g=true):A5 g=some (Y9 g):=by
 have b:=T1 hf
 obtain⟨e,f,h,i⟩:=O2 b
 have a:=a0a g (by omega)
 rw[M07 hf]at a
 obtain⟨v,c⟩:=y0d b
 have d:=K08 (L07 g) (C00 40 hf)
 obtain⟨r,n,es⟩:=g
 unfold A5 Y9
 simp only[a,oB,c]
 simp only[d,oB]
theorem X0q{N r u x v:Int}(a:0<=u/\u<N)(b:0<=v/\v<N)(c:x≠0 /\ -r<=x/\x<=r):(0<=(stp u x v).1/\(stp u x v).1<N)/\(0<=(stp u x v).2.2/\(stp u x v).2.2<N)/\1<=(stp u x v).2.1/\(stp u x v).2.1<=r:=by
 unfold stp
 split<;>(simp only;omega)
theorem e0l{N r v:Int}(f:0<=v/\v<N):∀(w:List Int) (u n:Int),(0<=u/\u<N)->0<=n->n+((w.length-1:Nat):Int)<=N->(∀ x∈w,x≠0 /\ -r<=x/\x<=r) ->
  ∀ e∈Z00 v w u n,(0<=e.1/\e.1<N)/\(0<=e.2.2/\e.2.2<N)/\1<=e.2.1/\e.2.1<=r
 | [],u,n,c,h0,d,b,e,a=>nomatch a
 | [x],u,n,c,h0,d,b,e,a=>by
  simp only[Z00,List.mem_singleton]at a
  subst a
  exact X0q c f (b x mS)
 |x::y::l,u,n,c,h0,d,b,e,a=>by
  simp only[List.length_cons]at d
  simp only[Z00]at a
  rcases List.mem_cons.1 a with rfl|a
  ·exact X0q c ⟨h0,by omega⟩ (b x mS)
  ·exact e0l f (y::l) n (n+1) ⟨h0,by omega⟩ (by omega) (by simp only[List.length_cons];omega) (λz g=>b z (mC _ g)) e a
theorem X01{g:l0}{u v:Int}{w:List Int}(b:U0 g=true)(o:0<=u/\u<g.2.1)(p:0<=v/\v<g.2.1)(c:V1 g.1 w=true):U0 (N1 g u w v).1=true:=by
 obtain⟨f,i,q,s,j⟩:=(W00 g).1 b
 obtain⟨t,k⟩:=z01 c
 unfold N1
 cases hc:(!w.isEmpty&&decide (g.2.1+(w.length:Int)-1<=40)&&decide (g.2.2.length+w.length<=120))with
 |false=>exact b
 |true =>
  simp only[Bool.and_eq_true,decide_eq_true_eq,Bool.not_eq_true',List.isEmpty_eq_false_iff]at hc
  have n:1<=w.length:=by
   have:=List.length_pos_iff.2 hc.1.1;omega
  have l:=g02 (Z00 v w u g.2.1) g.2.2
  have m:=d07 v w u g.2.1
  simp only[cond_true]
  refine(W00 _).2 ⟨λe a=>?_,i,⟨by simp only;omega,by simp only;omega⟩,by simp only;omega,I00 L3 _ _ j⟩
  simp only at a ⊢
  rcases(C4 L3 e _ _).1 a with h|h
  ·have:=f e h
   omega
  ·exact e0l ⟨by omega,by omega⟩ w u g.2.1 ⟨by omega,by omega⟩ (by omega) (iR _) (λx d=>(k x d).2) e h
theorem K03(g:l0)(u:Int)(w:List Int)(v:Int):(N1 g u w v).1.1=g.1:=by
 unfold N1
 cases (!w.isEmpty&&decide (g.2.1+(w.length:Int)-1<=40)&&decide (g.2.2.length+w.length<=120))<;>rfl
def Z03:List (List Int)->l0->l0
 | [],g=>g
 |w::r,g=>Z03 r (N1 g 0 w 0).1
theorem z0d:∀(ws:List (List Int)) {g:l0},U0 g=true->(∀ w∈ws,V1 g.1 w=true)->U0 (Z03 ws g)=true
 | [],g,a,b=>a
 |w::r,g,a,b=>by
  obtain⟨e,f,h,i⟩:=O2 a
  exact z0d r (X01 a ⟨iR _,by omega⟩ ⟨iR _,by omega⟩ (b w mS)) λd c=>by
   rw[K03];exact b d (mC _ c)
theorem f0l{g:l0}{w:List Int}(a:U0 g=true)(b:V1 g.1 w=true):I01 g w=some (N1 g 0 w 0):=by
 obtain⟨c,d,e,f⟩:=O2 a
 have h:=J0g a (u:=0) (v:=0) ⟨iR _,by omega⟩ ⟨iR _,by omega⟩ b
 obtain⟨r,n,es⟩:=g
 unfold I01
 simp only[h,oB]
theorem A0d{g:l0}{w:List Int}(a:U0 g=true)(b:V1 g.1 w=true):y00 g w=some (N1 g 0 w 0):=by
 obtain⟨c,d,e,f⟩:=O2 a
 have h:=B06 a (u:=0) (v:=0) ⟨iR _,by omega⟩ ⟨iR _,by omega⟩ b
 obtain⟨r,n,es⟩:=g
 unfold y00
 simp only[h,oB]
theorem I0h(ws:List (List Int))(i:ws.length<=1000):∀(d k fuel:Nat) (g:l0),k+d=ws.length->d<fuel->U0 g=true->(∀ w∈ws,V1 g.1 w=true) ->
  p7 ws fuel (k:Int) g.1 g.2.1 g.2.2=some (Z03 (ws.drop k) g)
 |d,k,0,g,h,hf,a,b=>by omega
 |0,k,fuel+1,g,h,hf,a,b=>by
  rw[p7.eq_2,if_neg (by simp;omega),M1 (by omega)];rfl
 |d+1,k,fuel+1,g,h,hf,a,b=>by
  have c:k<ws.length:=by omega
  have f:=c5 c
  have e:=b _ (List.getElem_mem c)
  generalize ws[k]=w at f e
  obtain⟨l,m,n,o⟩:=O2 a
  have j:=I0h ws i d (k+1) fuel (N1 g 0 w 0).1 (by omega) (by omega) (X01 a ⟨iR _,by omega⟩ ⟨iR _,by omega⟩ e) (by rw[K03];exact b)
  rw[p7.eq_2,if_pos (by simp;omega),B3 f,oB,show(g.1,g.2.1,g.2.2)=g from rfl,f0l a e,oB,V2 c (by omega),Q1 f]
  exact j
theorem J0h(ws:List (List Int))(m:ws.length<=1000):∀(d k fuel:Nat) (g:l0),k+d=ws.length->d<fuel->U0 g=true->(∀ w∈ws,V1 g.1 w=true) ->
  l6 ws fuel (k:Int) g.1 g.2.1 g.2.2=some (Z03 (ws.drop k) g)
 |d,k,0,g,l,hf,a,b=>by omega
 |0,k,fuel+1,g,l,hf,a,b=>by
  rw[l6.eq_2,if_neg (by simp;omega),M1 (by omega)];rfl
 |d+1,k,fuel+1,g,l,hf,a,b=>by
  have f:k<ws.length:=by omega
  have i:=c5 f
  have h:=b _ (List.getElem_mem f)
  generalize ws[k]=w at i h
  obtain⟨n,o,p,q⟩:=O2 a
  have j:=J0h ws m d (k+1) fuel (N1 g 0 w 0).1 (by omega) (by omega) (X01 a ⟨iR _,by omega⟩ ⟨iR _,by omega⟩ h) (by rw[K03];exact b)
  rw[l6.eq_2,if_pos (by simp;omega),B3 i,oB,V2 f (by omega),Q1 i]
  by_cases c:w = []
  ·subst c
   rw[if_neg (by simp)]
   have e:(N1 g 0 [] 0).1=g:=rfl
   rw[e]at j
   rw[j]
   show _=some (Z03 (ws.drop (k+1)) (N1 g 0 [] 0).1)
   rw[e]
  ·have:0<w.length:=List.length_pos_iff.2 c
   rw[if_pos (by simp;omega),show(g.1,g.2.1,g.2.2)=g from rfl,A0d a h,oB]
   exact j
def K05(r:Int)(ws:List (List Int)):l0×Bool:=bif O3 r ws then(Z03 ws (r,1,[]),true)else((0,0,[]),false)
theorem h05{r:Int}{ws:List (List Int)}(h:O3 r ws=true):(1<=r/\r<=3)/\ws.length<=6/\∀ w∈ws,V1 r w=true:=by
 simp only[O3,inR,Bool.and_eq_true,decide_eq_true_eq]at h
 refine⟨h.1.1.1,h.1.1.2,?_⟩
 have a:∀ {ws:List (List Int)},I0d r ws=true->∀ w∈ws,V1 r w=true:=by
  intro ws
  induction ws with
  |nil=>intro _ w a;cases a
  |cons v l b =>
   intro h w a
   simp only[I0d,Bool.and_eq_true]at h
   rcases List.mem_cons.1 a with rfl|a
   ·exact h.1
   ·exact b h.2 w a
 exact a h.1.2
theorem H0c{r:Int}(b:1<=r/\r<=3):U0 (r,1,[])=true:=(W00 _).2 ⟨(λe a=>by cases a),b,⟨by simp,by simp⟩,by simp,List.Pairwise.nil⟩
theorem E0b(r:Int)(ws:List (List Int))(c:ws.length<=140737488355328)(e:V8 ws):M9 r ws=some (K05 r ws):=by
 have a:=c0f r ws c e
 unfold M9 K05
 rw[a,oB]
 cases hA:O3 r ws with
 |false=>rfl
 |true =>
  obtain⟨d,g,f⟩:=h05 hA
  have h:=I0h ws (by omega) ws.length 0 W0 (r,1,[]) (by omega) (F1 (by omega)) (H0c d) f
  have b:H01 r=some ((r,1,[]),true):=by
   unfold H01
   rw[M04,oB,if_neg (by simp[inR];omega)]
  rw[if_neg (by simp),b,oB]
  simp only[]at h ⊢
  rw[show(0:Int)=((0:Nat):Int) from rfl,h]
  rfl
theorem q0j(r:Int)(ws:List (List Int))(c:ws.length<=140737488355328)(e:V8 ws):L01 r ws=some (K05 r ws):=by
 have a:=G08 r ws c e
 unfold L01 K05
 rw[a,oB]
 cases hA:O3 r ws with
 |false=>rfl
 |true =>
  obtain⟨d,g,f⟩:=h05 hA
  have h:=J0h ws (by omega) ws.length 0 W0 (r,1,[]) (by omega) (F1 (by omega)) (H0c d) f
  have b:K01 r=some ((r,1,[]),true):=by
   unfold K01
   rw[Q02,oB,if_neg (by simp[inR];omega)]
  rw[if_neg (by simp),b,oB]
  simp only[]at h ⊢
  rw[show(0:Int)=((0:Nat):Int) from rfl,h]
  rfl
theorem L05:∀(d:Nat) {g:l0},U0 g=true->g.2.1.toNat<=d+1->F7 (R6 d g)=none
 |0,g,a,h=>by
  cases e:F7 g with
  |none=>exact e
  |some k=>have:=v09 e;omega
 |d+1,g,a,h=>by
  unfold R6
  cases e:F7 g with
  |none=>exact e
  |some k =>
   obtain⟨b,i,c,f⟩:=g05 a e
   exact L05 d (y0a a b c f) (by show(((wo k g.2.1.toNat 0).length:Nat):Int).toNat<=d+1;omega)
theorem t0p{g:l0}(hf:F0 g=true){v x y z:Int}(q:y∈z9 v x g.2.2)(s:z∈z9 v x g.2.2):y=z:=by
 obtain⟨e,o,l⟩:=N2.1 q
 obtain⟨k,p,m⟩:=N2.1 s
 by_cases hne:e=k
 ·subst hne
  rcases l with⟨a,b,c,rfl⟩|⟨a,b,c,rfl⟩<;>rcases m with⟨h,i,j,rfl⟩|⟨h,i,j,rfl⟩<;>first|rfl|omega
 ·have f:=(h04 (T1 hf)).1 hf e o k p hne
  unfold z03 at f
  simp only[Bool.and_eq_false_iff,Bool.or_eq_false_iff,decide_eq_false_iff_not]at f
  rcases l with⟨a,b,c,d⟩|⟨a,b,c,d⟩<;>rcases m with⟨h,i,j,n⟩|⟨h,i,j,n⟩<;>first|omega|(exfalso;rcases f with f|⟨t,u⟩<;>omega)
theorem A01(g:l0)(v x:Int):(Q0 g v x = -1/\z9 v x g.2.2 = [])∨Q0 g v x∈z9 v x g.2.2:=by
 unfold Q0
 cases e:Y02 g v x with
 |nil =>
  left
  refine⟨rfl,List.eq_nil_iff_forall_not_mem.2 λy b=>?_⟩
  have:y∈Y02 g v x:=(C4 O02 y _ _).2 (.inr b)
  rw[e]at this;cases this
 |cons a l=>exact .inr (s0h (by rw[e];exact mS))
theorem r04{g:l0}(hf:F0 g=true){v x y:Int}(a:y∈z9 v x g.2.2):Q0 g v x=y:=by
 rcases A01 g v x with⟨_,h⟩|h
 ·rw[h]at a;cases a
 ·exact t0p hf h a
theorem M05:∀(d i j:Nat),i<=j->j<i+d->(j:Int)∈T6 d i /\ -(j:Int)∈T6 d i
 |0,i,j,e,f=>by omega
 |d+1,i,j,e,f=>by
  simp only[T6,List.mem_cons]
  by_cases c:j=i
  ·subst c;simp
  ·obtain⟨a,b⟩:=M05 d (i+1) j (by omega) (by omega)
   exact⟨.inr (.inr a),.inr (.inr b)⟩
theorem K0h(g:l0)(v:Int):∀(b u:List Int) (x:Int),x∈b->0<=Q0 g v x->Q0 g v x∈p01 g v b u
 |y::r,u,x,a,h0=>by
  rw[p01]
  rcases List.mem_cons.1 a with rfl|a
  ·obtain⟨t,e⟩:=q03 g v r (A06 u (Q0 g v x))
   rw[e]
   refine List.mem_append_left _ ?_
   unfold A06
   split
   ·exact List.mem_append_right _ (List.mem_singleton.2 rfl)
   ·rename_i h
    by_cases hm:Q0 g v x∈u
    ·exact hm
    ·exact absurd ⟨h0,hm⟩ h
  ·exact K0h g v r _ x a h0
theorem z0a(g:l0)(a:List Int):∀(f i:Nat) (u:List Int),∃ t,L7 g a f i u=u++t
 |0,i,u=>⟨[],by simp[L7]⟩
 |f+1,i,u=>by
  unfold L7
  split
  ·rename_i v _
   obtain⟨d,b⟩:=q03 g v a u
   obtain⟨e,c⟩:=z0a g a f (i+1) (p01 g v a u)
   exact⟨d++e,by rw[c,b,List.append_assoc]⟩
  ·exact⟨[],by simp⟩
theorem H0f{r:Int}{n:Nat}{es:List K0}(m:inG (r,(n:Int),es))(a:List Int):∀(f i:Nat) (u:List Int),gud n u->n+1<=f+i->i<=u.length ->
  (∀ j,j<i->∀ v,u[j]?=some v->∀ x∈a,0<=Q0 (r,(n:Int),es) v x->Q0 (r,(n:Int),es) v x∈u) ->
  ∀ v∈L7 (r,(n:Int),es) a f i u,∀ x∈a,0<=Q0 (r,(n:Int),es) v x->Q0 (r,(n:Int),es) v x∈L7 (r,(n:Int),es) a f i u
 |0,i,u,g,q,o,k=>by have:=n00 n u g.1 g.2;omega
 |f+1,i,u,g,q,o,k=>by
  unfold L7
  cases e:u[i]? with
  |none =>
   have:i=u.length:=by have:=List.getElem?_eq_none_iff.1 e;omega
   show ∀ v∈u,∀ x∈a,0<=Q0 (r,(n:Int),es) v x->Q0 (r,(n:Int),es) v x∈u
   intro v b x h h0
   obtain⟨j,l⟩:=List.getElem?_of_mem b
   exact k j (by have:=(List.getElem?_eq_some_iff.1 l).1;omega) v l x h h0
  |some w =>
   have p:=(List.getElem?_eq_some_iff.1 e).1
   obtain⟨t,d⟩:=q03 (r,(n:Int),es) w a u
   refine H0f m a f (i+1) _ (g04 m w a u g) (by omega) (by rw[d,List.length_append];omega) λj l v b x h h0=>?_
   by_cases c:j=i
   ·subst c
    rw[d,List.getElem?_append_left p,e]at b
    cases b
    exact K0h _ _ a u x h h0
   ·rw[d,List.getElem?_append_left (by omega)]at b
    rw[d]
    exact List.mem_append_left _ (k j (by omega) v b x h h0)
theorem N05(g:l0):∃ t,U2 g=0::t:=by
 obtain⟨t,e⟩:=z0a g (T6 g.1.toNat 1) (g.2.1.toNat+1) 0 [0]
 exact⟨t,e⟩
theorem B0d{g:l0}(hf:F0 g=true){x:Int}(h:Rch g.2.2 0 x):x∈U2 g:=by
 obtain⟨l,q,s,w⟩:=S0 hf
 have m:=N05 g
 have c:∀ v∈U2 g,∀ x∈T6 g.1.toNat 1,0<=Q0 g v x->Q0 g v x∈U2 g:=by
  obtain⟨r,n,es⟩:=g
  simp only at q s
  obtain⟨N,rfl⟩:∃ N:Nat,n=(N:Int):=⟨n.toNat,by omega⟩
  exact H0f l _ (((N:Int)).toNat+1) 0 [0] ⟨by simp,λx f=>by simp at f;subst f;omega⟩ (by simp only[Int.toNat_natCast];omega) (Nat.zero_le _) (λj d=>by omega)
 refine Rch.sub (P:=λx=>x∈U2 g) ?_ (λe b=>?_) h
 ·obtain⟨t,e⟩:=m
  rw[e];exact mS
 ·have u:=l e b
  obtain⟨j,d⟩:∃ j:Nat,e.2.1=(j:Int):=⟨e.2.1.toNat,by omega⟩
  obtain⟨o,p⟩:=M05 g.1.toNat 1 j (by omega) (by omega)
  have i:Q0 g e.1 (j:Int)=e.2.2:=r04 hf (N2.2 ⟨e,b,.inl ⟨by omega,d,rfl,rfl⟩⟩)
  have k:Q0 g e.2.2 (-(j:Int))=e.1:=r04 hf (N2.2 ⟨e,b,.inr ⟨by omega,by omega,rfl,rfl⟩⟩)
  constructor
  ·intro a
   have:=c e.1 a (j:Int) o (by rw[i];omega)
   rwa [i]at this
  ·intro a
   have:=c e.2.2 a (-(j:Int)) p (by rw[k];omega)
   rwa [k]at this
theorem w09{a:Nat->Bool}:∀ {d v:Nat},lf a d v=none->∀ k,v<=k->k<v+d->a k=false
 |0,v,h,k,b,e=>by omega
 |d+1,v,h,k,b,e=>by
  unfold lf at h
  cases hb:a v with
  |true=>rw[hb]at h;cases h
  |false =>
   rw[hb]at h
   by_cases c:k=v
   ·rw[c];exact hb
   ·exact w09 (d:=d) (v:=v+1) h k (by omega) (by omega)
theorem I0f{a:Nat->Bool}:∀ {d v:Nat},(∀ k,v<=k->k<v+d->a k=false)->lf a d v=none
 |0,v,h=>rfl
 |d+1,v,h=>by
  unfold lf
  rw[h v (Nat.le_refl _) (by omega)]
  exact I0f λk b c=>h k (by omega) (by omega)
theorem e07{g:l0}(hf:F0 g=true)(b:F7 g=none){x:Int}(h0:0<=x)(d:x<g.2.1):x∈U2 g:=by
 refine B0d hf ?_
 by_cases c:x=0
 ·subst c;exact .base
 ·have:=w09 b x.toNat (by omega) (by omega)
  unfold K07 at this
  simp only[Bool.or_eq_false_iff,Bool.not_eq_false',decide_eq_true_eq]at this
  have a:=this.2
  rw[show((x.toNat:Nat):Int)=x by omega]at a
  exact(H03 _ _ _).1 a
theorem L0h{n:Nat}:∀(o:List Int) (k:Nat) (A:List Int),A.length=n->inV n o->o.Nodup->∀(i:Nat) (v:Int),o[i]?=some v->getI (y01 A k o) v=((k+i:Nat):Int)
 | [],k,A,c,b,f,i,v,a=>by simp at a
 |w::r,k,A,c,b,f,i,v,a=>by
  have e:=b w mS
  obtain⟨g,h⟩:=List.nodup_cons.1 f
  cases i with
  |zero =>
   simp at a;subst a
   rw[y01,u0f r _ _ w (by simp[c]) (λu d=>b u (mC _ d)) e.1 g,E04 e.1 (by omega) e.1,if_pos rfl];rfl
  |succ i =>
   rw[y01,L0h r (k+1) _ (by simp[c]) (λu d=>b u (mC _ d)) h i v (by simpa using a)]
   omega
theorem R08{n:Nat}{o:List Int}(c:inV n o)(a:o.Nodup){i:Nat}{v:Int}(b:o[i]?=some v):getI (plc n o) v=(i:Int):=by
 have:=L0h o 0 (List.replicate n (-1)) (by simp) c a i v b
 rw[Nat.zero_add]at this;exact this
theorem J0f(P:List Int):∀(es:List K0),(∀ e∈es,0<=getI P e.1/\0<=getI P e.2.2)->pE P es=es.map λe=>(getI P e.1,e.2.1,getI P e.2.2)
 | [],h=>rfl
 |e::r,h=>by
  have a:=h e mS
  unfold pE
  rw[show(decide (0<=getI P e.1)&&decide (0<=getI P e.2.2))=true by simp[a.1,a.2],J0f P r λb c=>h b (mC _ c)]
  rfl
theorem M0h(e:K0):∀ {l:List K0},e ∉ l->(w01 T0 e l).Perm (e::l)
 | [],_=>List.Perm.refl _
 |y::l,h=>by
  have d:=M0h e (l:=l) λb=>h (mC _ b)
  unfold w01
  split
  ·exact List.Perm.refl _
  ·split
   ·rename_i c
    exact absurd (L3.eq _ _ c) λa=>h (by rw[a];exact mS)
   ·exact(List.Perm.cons y d).trans (List.Perm.swap e y l)
theorem C0d:∀(r acc:List K0),(acc++r).Nodup->(K5 T0 acc r).Perm (acc++r)
 | [],acc,h=>by simp[K5]
 |x::r,acc,h=>by
  have a:(acc++x::r).Perm (x::(acc++r)):=List.perm_middle
  have b:=a.nodup_iff.1 h
  have f:x ∉ acc:=λd=>(List.nodup_cons.1 b).1 (List.mem_append_left _ d)
  have e:=M0h x f
  have c:(w01 T0 x acc++r).Perm (x::(acc++r)):=e.append_right r
  rw[K5]
  exact((C0d r _ (c.nodup_iff.2 b)).trans c).trans a.symm
theorem u0p(v:Int){l a:List K0}(h:l.Perm a):B00 v l=B00 v a:=by
 induction h with
 |nil=>rfl
 |cons x _ d=>simp only[B00,d]
 |swap x y l=>simp only[B00];omega
 |trans _ _ b c=>rw[b,c]
theorem g0l{φ:Int->Int}{v:Int}:∀(es:List K0),(∀ e∈es,(φ e.1=φ v↔e.1=v)/\(φ e.2.2=φ v↔e.2.2=v))->B00 (φ v) (es.map λe=>(φ e.1,e.2.1,φ e.2.2))=B00 v es
 | [],h=>rfl
 |e::r,h=>by
  obtain⟨a,b⟩:=h e mS
  have g:=g0l r λd f=>h d (mC _ f)
  simp only[List.map_cons,B00,g,D04]
  congr 2
  ·by_cases c:e.1=v
   ·rw[if_pos (a.2 c),if_pos c]
   ·rw[if_neg λq=>c (a.1 q),if_neg c]
  ·by_cases c:e.2.2=v
   ·rw[if_pos (b.2 c),if_pos c]
   ·rw[if_neg λq=>c (b.1 q),if_neg c]
theorem L0m:∀(m:Nat) (o:List Int),(∀ i:Nat,i<m->(i:Int)∈o)->m<=o.length
 |0,o,h=>Nat.zero_le _
 |m+1,o,h=>by
  have a:=h m (by omega)
  have b:=L0m m (o.erase (m:Int)) λi c=>(List.mem_erase_of_ne (by omega)).2 (h i (by omega))
  rw[List.length_erase_of_mem a]at b
  have:=List.length_pos_of_mem a
  omega
theorem i05{es:List K0}(c:Asc T0 es):es.Nodup:=by
 refine List.Pairwise.imp (λ{a b} h e=>?_) c
 rw[e,L3.refl]at h;omega
theorem h0l{es:List K0}(a:Asc T0 es):K5 T0 [] es=es :=
 G07 L3 (I00 L3 _ _ .nil) a λx=>by rw[C4 L3];simp
theorem M0m{t:l0}(hf:F0 t=true)(ab:F7 t=none):J1 (J3 t)=true:=by
 have av:=T1 hf
 obtain⟨A,aU,aV,aW⟩:=S0 hf
 have ak:=C02 av
 obtain⟨⟨M,G⟩,aE⟩:=z02 hf
 have aB:=n00 _ _ M G
 have Y:∀ x:Int,0<=x->x<t.2.1->x∈U2 t:=λx h0 d=>e07 hf ab h0 d
 obtain⟨aX,aK⟩:=N05 t
 obtain⟨n,ad⟩:∃ n:Nat,t.2.1=(n:Int):=⟨t.2.1.toNat,by omega⟩
 have Q:t.2.1.toNat=n:=by omega
 rw[Q]at G aB
 have ag:(U2 t).length=n:=by
  have:=L0m n (U2 t) λi F=>Y _ (by omega) (by omega)
  omega
 let P:Int->Int:=getI (plc n (U2 t))
 have K:∀(i:Nat) (v:Int),(U2 t)[i]?=some v->P v=(i:Int):=λi v F=>R08 G M F
 have L:∀ x:Int,0<=x->x<t.2.1->0<=P x/\P x<(n:Int):=λx h0 d=>by
  obtain⟨i,F⟩:=List.getElem?_of_mem (Y x h0 d)
  have:=(List.getElem?_eq_some_iff.1 F).1
  rw[K i x F];omega
 have B:∀ x y:Int,0<=x->x<t.2.1->0<=y->y<t.2.1->P x=P y->x=y:=λx y h0 d p aQ h=>D0b G M h0 p (L x h0 d).1 h
 have S:P 0=0:=K 0 0 (by rw[aK];rfl)
 have aF:pE (plc n (U2 t)) t.2.2=t.2.2.map λe=>(P e.1,e.2.1,P e.2.2):=J0f _ _ λe g=>by
  have:=A e g
  exact⟨(L e.1 this.1.1 this.1.2).1,(L e.2.2 this.2.1.1 this.2.1.2).1⟩
 have J:J3 t=(t.1,(n:Int),K5 T0 [] (t.2.2.map λe=>(P e.1,e.2.1,P e.2.2))):=by
  unfold J3 N5
  rw[Q,aF,ag]
 have ay:∀ e∈t.2.2,∀ j∈t.2.2,((P e.1,e.2.1,P e.2.2):K0)=(P j.1,j.2.1,P j.2.2)->e=j:=λe g j U h=>by
  have a:=A e g
  have b:=A j U
  simp only[Prod.mk.injEq]at h
  have d:=B _ _ a.1.1 a.1.2 b.1.1 b.1.2 h.1
  have p:=B _ _ a.2.1.1 a.2.1.2 b.2.1.1 b.2.1.2 h.2.2
  obtain⟨aN,H,X⟩:=e
  obtain⟨aO,aP,f2⟩:=j
  simp only at d p h
  rw[d,p,h.2.1]
 have aD:(t.2.2.map λe=>((P e.1,e.2.1,P e.2.2):K0)).Nodup:=by
  have:=i05 ak
  rw[List.Nodup,List.pairwise_map]
  exact List.Pairwise.imp_of_mem (λ{a b} ao C h e=>h (ay a ao b C e)) this
 have O:∀ j,j∈(J3 t).2.2↔∃ e∈t.2.2,j=(P e.1,e.2.1,P e.2.2):=λj=>by
  rw[J]
  simp only
  rw[C4 L3]
  simp only[List.not_mem_nil,false_or,List.mem_map]
  exact⟨λ⟨e,d,p⟩=>⟨e,d,p.symm⟩,λ⟨e,d,p⟩=>⟨e,d,p.symm⟩⟩
 have I:F0 (J3 t)=true:=t03 hf (by rw[Q];exact G) M aE (by omega)
 have Z:=T1 I
 have D:(J3 t).2.1=(n:Int):=by rw[J]
 have ar:∀ v:Int,0<=v->v<t.2.1->B00 (P v) (J3 t).2.2=B00 v t.2.2:=λv h0 d=>by
  rw[J]
  simp only
  rw[u0p _ (C0d _ [] (by simpa using aD)),List.nil_append]
  refine g0l _ λe g=>?_
  have:=A e g
  exact⟨⟨λh=>B _ _ this.1.1 this.1.2 h0 d h,λh=>by rw[h]⟩,⟨λh=>B _ _ this.2.1.1 this.2.1.2 h0 d h,λh=>by rw[h]⟩⟩
 have aH:∀ x,Rch t.2.2 0 x->Rch (J3 t).2.2 0 (P x):=λx s =>
  Rch.sub (P:=λx=>Rch (J3 t).2.2 0 (P x)) (by show Rch _ 0 (P 0);rw[S];exact .base) (λe g=>Rch.closed (P e.1,e.2.1,P e.2.2) ((O _).2 ⟨e,g,rfl⟩)) s
 have aA:F7 (J3 t)=none:=by
  unfold F7
  refine I0f λk aS aL=>?_
  rw[D,Int.toNat_natCast]at aL
  obtain⟨v,w⟩:∃ v,(U2 t)[k]?=some v:=⟨_,List.getElem?_eq_getElem (by omega)⟩
  have aJ:=G v (List.mem_of_getElem? w)
  have T:=K k v w
  have aR:v≠0:=λh=>by rw[h,S]at T;omega
  have C:=w09 ab v.toNat (by omega) (by omega)
  unfold K07 at C ⊢
  rw[show((v.toNat:Nat):Int)=v by omega]at C
  simp only[Bool.or_eq_false_iff,Bool.not_eq_false',decide_eq_true_eq,decide_eq_false_iff_not]at C ⊢
  refine⟨?_,?_⟩
  ·rw[←T,ar v aJ.1 (by omega)];exact C.1
  ·rw[←T]
   exact(H03 _ _ _).2 (aH v ((H03 _ _ _).1 C.2))
 have ae:∀ v x:Int,0<=v->v<t.2.1->(Q0 t v x = -1/\Q0 (J3 t) (P v) x = -1)∨((0<=Q0 t v x/\Q0 t v x<t.2.1)/\Q0 (J3 t) (P v) x=P (Q0 t v x)):=λv x h0 d=>by
  rcases A01 t v x with⟨H,X⟩|H
  ·left
   refine⟨H,?_⟩
   rcases A01 (J3 t) (P v) x with⟨R,aM⟩|R
   ·exact R
   ·exfalso
    obtain⟨j,U,V⟩:=N2.1 R
    obtain⟨e,g,rfl⟩:=(O j).1 U
    have E:=A e g
    have:∃ y,y∈z9 v x t.2.2:=by
     rcases V with⟨a,b,c,_⟩|⟨a,b,c,_⟩
     ·exact⟨_,N2.2 ⟨e,g,.inl ⟨a,b,B _ _ E.1.1 E.1.2 h0 d c,rfl⟩⟩⟩
     ·exact⟨_,N2.2 ⟨e,g,.inr ⟨a,b,B _ _ E.2.1.1 E.2.1.2 h0 d c,rfl⟩⟩⟩
    obtain⟨y,ai⟩:=this
    rw[X]at ai;cases ai
  ·right
   generalize Q0 t v x=y at H
   obtain⟨e,g,V⟩:=N2.1 H
   have E:=A e g
   rcases V with⟨a,b,c,rfl⟩|⟨a,b,c,rfl⟩
   ·exact⟨E.2.1,r04 I (N2.2 ⟨_,(O _).2 ⟨e,g,rfl⟩,.inl ⟨a,b,by show P e.1=P v;rw[c],rfl⟩⟩)⟩
   ·exact⟨E.1,r04 I (N2.2 ⟨_,(O _).2 ⟨e,g,rfl⟩,.inr ⟨a,b,by show P e.2.2=P v;rw[c],rfl⟩⟩)⟩
 have aj:∀ u:List Int,gud n u->∀ x∈u,0<=x/\x<t.2.1:=λu o x s=>by have:=o.2 x s;omega
 have ax:inG (t.1,(n:Int),t.2.2):=by
  have:=A
  intro e g
  have:=A e g
  rw[ad]at this;exact this
 have au:(t.1,(n:Int),t.2.2)=t:=by
  rw[←ad]
 have an:∀(u:List Int) (y z:Int),gud n u->(y = -1/\z = -1)∨((0<=y/\y<t.2.1)/\z=P y)->A06 (u.map P) z=(A06 u y).map P:=λu y z o h=>by
  unfold A06
  rcases h with⟨rfl,rfl⟩|⟨⟨h0,d⟩,rfl⟩
  ·rw[if_neg (by omega),if_neg (by omega)]
  ·have ac:P y∈u.map P↔y∈u:=by
    constructor
    ·intro h
     obtain⟨x,s,e⟩:=List.mem_map.1 h
     have:=aj u o x s
     rw[←B x y this.1 this.2 h0 d e];exact s
    ·exact λh=>List.mem_map.2 ⟨y,h,rfl⟩
   by_cases c:y∈u
   ·rw[if_neg λq=>q.2 (ac.2 c),if_neg λq=>q.2 c]
   ·rw[if_pos ⟨(L y h0 d).1,λq=>c (ac.1 q)⟩,if_pos ⟨h0,c⟩];simp
 have al:∀(v:Int),0<=v->v<t.2.1->∀(m u:List Int),gud n u->p01 (J3 t) (P v) m (u.map P)=(p01 t v m u).map P:=λv h0 d m=>by
  induction m with
  |nil=>intro u o;rfl
  |cons x l W =>
   intro u o
   have s:Q0 t v x = -1∨(0<=Q0 t v x/\Q0 t v x<(n:Int)):=by
    rcases ae v x h0 d with⟨a,_⟩|⟨a,_⟩
    ·exact .inl a
    ·exact .inr (by omega)
   rw[p01,p01,an u _ _ o (ae v x h0 d),W _ (N0k o s)]
 have am:∀(f i:Nat) (u:List Int) (m:List Int),gud n u->L7 (J3 t) m f i (u.map P)=(L7 t m f i u).map P:=λf=>by
  induction f with
  |zero=>intro i u m o;rfl
  |succ f W =>
   intro i u m o
   unfold L7
   rw[List.getElem?_map]
   cases e:u[i]? with
   |none=>rfl
   |some v =>
    have w:=aj u o v (List.mem_of_getElem? e)
    have aw:gud n (p01 t v m u):=by
     have:=g04 ax v m u o
     rw[au]at this;exact this
    simp only[Option.map_some]
    rw[al v w.1 w.2 m u o]
    exact W (i+1) _ m aw
 have ah:U2 (J3 t)=(U2 t).map P:=by
  have d:(J3 t).1=t.1:=by rw[J]
  have p:=am (n+1) 0 [0] (T6 t.1.toNat 1) ⟨by simp,λx s=>by simp at s;subst s;omega⟩
  rw[List.map_cons,List.map_nil,S]at p
  show L7 (J3 t) (T6 (J3 t).1.toNat 1) ((J3 t).2.1.toNat+1) 0 [0]=(L7 t (T6 t.1.toNat 1) (t.2.1.toNat+1) 0 [0]).map P
  rw[d,D,Q,Int.toNat_natCast]
  exact p
 have az:∀ i:Nat,i<n->(U2 (J3 t))[i]?=some (i:Int):=λi F=>by
  rw[ah,List.getElem?_map]
  obtain⟨v,w⟩:∃ v,(U2 t)[i]?=some v:=⟨_,List.getElem?_eq_getElem (by omega)⟩
  rw[w,Option.map_some,K i v w]
 obtain⟨⟨aq,af⟩,_⟩:=z02 I
 rw[D,Int.toNat_natCast]at af
 have N:∀ x:Int,0<=x->x<(n:Int)->getI (plc n (U2 (J3 t))) x=x:=λx h0 d=>by
  have:=R08 af aq (az x.toNat (by omega))
  rw[show((x.toNat:Nat):Int)=x by omega]at this;exact this
 have aC:(U2 (J3 t)).length=n:=by rw[ah,List.length_map,ag]
 have aa:=(O2 Z).1
 have ap:J3 (J3 t)=J3 t:=by
  have aG:pE (plc n (U2 (J3 t))) (J3 t).2.2=(J3 t).2.2:=by
   rw[J0f _ _ λe g=>by
    have:=aa e g
    rw[D]at this
    exact⟨by rw[N _ this.1.1 this.1.2];exact this.1.1,by rw[N _ this.2.1.1 this.2.1.2];exact this.2.1.1⟩]
   refine(List.map_congr_left λe g=>?_).trans (List.map_id _)
   have:=aa e g
   rw[D]at this
   rw[N _ this.1.1 this.1.2,N _ this.2.1.1 this.2.1.2];rfl
  show N5 (J3 t) (U2 (J3 t))=J3 t
  unfold N5
  rw[D,Int.toNat_natCast,aG,h0l (C02 Z),aC]
  rw[←D]
 unfold J1
 rw[I,aA,ap]
 simp[l06]
theorem i04{g:l0}(hf:F0 g=true):J1 (Y9 g)=true:=by
 have a:=T1 hf
 have:=(O2 a).2.2.1
 exact M0m (C00 40 hf) (L05 40 a (by omega))
def ng(x:Int):Int:=IntKind.i64.wrap (0-x)
def inv(w:List Int):List Int:=(w.map ng).reverse
theorem F0b(w:List Int):(inv w).length=w.length:=by simp[inv]
def G0b(w:List Int):Prop:=∀ x∈w,J0 x
theorem Y0q{w:List Int}{k:Nat}{x:Int}(a:w[k]?=some x):inv (w.drop k)=inv (w.drop (k+1)) ++ [ng x]:=by
 rw[Q1 a]
 simp[inv]
theorem G04(w:List Int)(c:w.length<=1099511627776):∀(k fuel:Nat),k<=w.length->k<fuel ->
  U6 w fuel ((k:Int)-1) (inv (w.drop k))=some (inv w)
 |k,0,b,hf=>by omega
 |0,fuel+1,b,hf=>by
  rw[U6.eq_2,if_neg (by simp)]
  rfl
 |k+1,fuel+1,b,hf=>by
  have a:=c5 (show k<w.length by omega)
  have next:=G04 w c k fuel (by omega) (by omega)
  generalize w[k]=x at a
  rw[Y0q a]at next
  have d:=F0b (w.drop (k+1))
  rw[List.length_drop]at d
  rw[show(((k+1:Nat):Int)-1)=(k:Int) by omega,U6.eq_2,if_pos (by simp),B3 a,oB,I0 (by simp only[List.length_singleton];omega),oB,
   w64 (by omega) (by omega)]
  exact next
theorem I0c(w:List Int)(a:w.length<=1099511627776):J03 w=some (inv w):=by
 unfold J03
 have h:=G04 w a w.length W0 (Nat.le_refl _) (F1 (by omega))
 rw[List.drop_length]at h
 rw[w64 (by omega) (by omega),show([]:M0)=inv [] from rfl,h]
 rfl
theorem L03(w:List Int):∀(fuel:Nat) (k:Int) (u:List Int),V6 w fuel k u=U6 w fuel k u
 |0,k,u=>rfl
 |fuel+1,k,u=>by
  rw[V6.eq_2,U6.eq_2]
  simp only[L03 w fuel]
theorem j04(w:List Int)(a:w.length<=1099511627776):B8 w=some (inv w):=by
 rw[←I0c w a]
 unfold B8 J03
 rw[I0 (by omega),oB,L03]
 rfl
def k04(l x:Int):Bool := !(l == 0) && !(l == -9223372036854775808)&&(x == ng l)
def Q6(s:List Int)(x:Int):List Int:=match s with
 | []=>[x]
 |l::t=>bif k04 l x then t else x::l::t
def o00(s w:List Int):List Int:=w.foldl Q6 s
def Red:List Int->Bool
 | []=>true
 | [_]=>true
 |x::l::t => !k04 l x&&Red (l::t)
theorem Z0q{x:Int}{t:List Int}(h:Red (x::t)=true):Red t=true:=by
 cases t with
 |nil=>rfl
 |cons l t=>simp only[Red,Bool.and_eq_true]at h;exact h.2
theorem v0p{s:List Int}(x:Int)(h:Red s=true):Red (Q6 s x)=true:=by
 cases s with
 |nil=>rfl
 |cons l t =>
  simp only[Q6]
  cases hc:k04 l x with
  |true=>exact Z0q h
  |false=>simp only[cond_false,Red,hc,h];rfl
theorem H0b:∀(w s:List Int),Red s=true->Red (o00 s w)=true
 | [],s,h=>h
 |x::w,s,h=>H0b w (Q6 s x) (v0p x h)
theorem S08(s a b:List Int):o00 s (a++b)=o00 (o00 s a) b:=List.foldl_append
theorem J0c(s:List Int)(x:Int):(Q6 s x).length<=s.length+1:=by
 cases s with
 |nil=>simp[Q6]
 |cons l t =>
  simp only[Q6]
  cases k04 l x<;>simp<;>omega
theorem M03:∀(w s:List Int),(o00 s w).length<=s.length+w.length
 | [],s=>by simp[o00]
 |x::w,s=>by
  have:=M03 w (Q6 s x)
  have:=J0c s x
  simp only[o00,List.foldl_cons,List.length_cons]at *
  omega
theorem a0r{b:List Int}{x:Int}(h:G0b b)(c:J0 x):G0b (Q6 b x):=by
 cases b with
 |nil=>intro y a;simp[Q6]at a;subst a;exact c
 |cons l t =>
  simp only[Q6]
  cases k04 l x with
  |true=>exact λy a=>h y (mC _ a)
  |false =>
   intro y a
   rcases List.mem_cons.1 a with rfl|a
   ·exact c
   ·exact h y a
theorem w0p{l x:Int}(b:J0 l)(c:J0 x):(!(x == 0)&&(l == ng x) && !(l == x))=k04 l x:=by
 unfold k04 ng
 have e:∀ {z:Int},J0 z->IntKind.i64.wrap (0-z)=if z = -9223372036854775808 then -9223372036854775808 else -z:=λ{z} a=>by
  split
  ·rename_i h;subst h;decide
  ·rw[w64 (by have:=a.1;have:=a.2;omega) (by have:=a.1;have:=a.2;omega)];omega
 rw[e b,e c]
 have d:=b.1
 have f:=b.2
 have g:=c.1
 have i:=c.2
 rw[Bool.eq_iff_iff]
 simp only[Bool.and_eq_true,Bool.not_eq_true',beq_iff_eq,beq_eq_false_iff_ne,ne_eq]
 split<;>split<;>omega
theorem K0f{l:Int}{t:List Int}:(l::t).reverse[t.length]?=some l:=by
 rw[List.reverse_cons,List.getElem?_append_right (by simp)]
 simp
theorem N0h(l:Int)(t:List Int):(l::t).reverse.take t.length=t.reverse:=by
 rw[List.reverse_cons,List.take_append_of_le_length (by simp),List.take_of_length_le (by simp)]
theorem u03(w:List Int)(hw:G0b w)(hl:w.length<=1099511627776):∀(d k fuel:Nat) (s:List Int),k+d=w.length->d<fuel->G0b s->s.length<=k ->
  l3 w fuel (k:Int) s.reverse=some (o00 s (w.drop k)).reverse
 |d,k,0,s,hk,hf,hs,hsl=>by omega
 |0,k,fuel+1,s,hk,hf,hs,hsl=>by
  rw[l3.eq_2,if_neg (by simp;omega),M1 (by omega)]
  rfl
 |d+1,k,fuel+1,s,hk,hf,hs,hsl=>by
  have hkl:k<w.length:=by omega
  have hx:=c5 hkl
  have hx64:=hw _ (List.mem_of_getElem? hx)
  generalize w[k]=x at hx hx64
  have next:=u03 w hw hl d (k+1) fuel (Q6 s x) (by omega) (by omega) (a0r hs hx64) (by have:=J0c s x;omega)
  rw[Q1 hx]
  show _=some (o00 (Q6 s x) (w.drop (k+1))).reverse
  rw[←next,l3.eq_2,if_pos (by simp;omega),oB,I0 (by rw[List.length_reverse];omega),oB]
  rw[V2 hkl (by omega:w.length<=9223372036854775807)]
  have e0:decide (x=0)=(x == 0):=by rw[Bool.eq_iff_iff];simp
  cases s with
  |nil =>
   have hz:decide ((((([]:List Int).reverse).length:Nat):Int)>0)=false:=rfl
   simp only[hz,G2,oB,cond_false,Bool.false_eq_true,if_false,B3 hx]
   rw[I0 (by simp)]
   rfl
  |cons l t =>
   have hl64:=hs l mS
   have hp:decide ((((l::t).reverse.length:Nat):Int)>0)=true:=by simp
   have hpr:IntKind.i64.wrap ((((l::t).reverse.length:Nat):Int)-1)=((t.length:Nat):Int):=by
    rw[a0f (by simp) (by simp only[List.length_reverse,List.length_cons]at *;omega)];simp
   have hc:=w0p hl64 hx64
   have e1:decide (l=IntKind.i64.wrap (0-x))=(l == ng x):=by rw[Bool.eq_iff_iff];simp[ng]
   have e2:decide (l=x)=(l == x):=by rw[Bool.eq_iff_iff];simp
   have hpush:(grd (((l::t).reverse.length + [x].length)*8<=140737488355328))=some ():=I0 (by simp only[List.length_cons]at hsl;simp only[List.length_reverse,List.length_cons,List.length_nil];omega)
   simp only[hp,hpr,O1,oB,cond_true,B3 hx,B3 K0f,e0,Q6]
   cases h0:(x == 0)with
   |true =>
    rw[h0]at hc
    simp only[Bool.not_true,Bool.false_and]at hc
    simp only[←hc,Bool.not_true,G2,cond_false,oB,Bool.false_eq_true,if_false,hpush]
    exact congrArg _ (List.reverse_cons ..).symm
   |false =>
    rw[h0]at hc
    simp only[Bool.not_false,Bool.true_and]at hc
    simp only[Bool.not_false,O1,cond_true,oB,e1]
    cases h1:(l == ng x)with
    |false =>
     rw[h1]at hc
     simp only[Bool.false_and]at hc
     simp only[←hc,G2,cond_false,oB,Bool.false_eq_true,if_false,hpush]
     exact congrArg _ (List.reverse_cons ..).symm
    |true =>
     rw[h1]at hc
     simp only[Bool.true_and]at hc
     simp only[O1,cond_true,oB,e2]
     cases h2:(l == x)with
     |true =>
      rw[h2]at hc
      simp only[Bool.not_true]at hc
      simp only[←hc,Bool.not_true,Bool.false_eq_true,if_false,cond_false,oB,hpush]
      exact congrArg _ (List.reverse_cons ..).symm
     |false =>
      rw[h2]at hc
      simp only[Bool.not_false]at hc
      simp only[←hc,Bool.not_false,if_true,cond_true]
      rw[I0 (by simp only[List.length_reverse,List.length_cons]at *;omega),oB,Int.toNat_natCast,N0h]
theorem L02(w:List Int)(b:G0b w)(a:w.length<=1099511627776):j4 w=some (o00 [] w).reverse:=by
 unfold j4
 have h:=u03 w b a w.length 0 W0 [] (by omega) (F1 (by omega)) (λx c=>by cases c) (by simp)
 rw[show((0:Nat):Int)=0 from rfl,List.drop_zero,List.reverse_nil]at h
 rw[h,oB,I0 (by have:=M03 w [];simp only[List.length_reverse,List.length_nil]at *;omega),oB,List.nil_append]
theorem i0l{r:Int}{w:List Int}(h:V1 r w=true):∀ k,k<=w.length->o00 [] (w.take k)=(w.take k).reverse
 |0,_=>rfl
 |k+1,i=>by
  have g:=i0l h k (by omega)
  have b:=c5 (show k<w.length by omega)
  generalize w[k]=x at b
  have f:w.take (k+1)=w.take k ++ [x]:=N0n b
  rw[f,S08,g,List.reverse_append]
  show Q6 (w.take k).reverse x=x::(w.take k).reverse
  cases k with
  |zero=>rfl
  |succ j =>
   have c:=c5 (show j<w.length by omega)
   generalize w[j]=y at c
   rw[N0n c,List.reverse_append]
   show Q6 (y::(w.take j).reverse) x=_
   have d:=h
   simp only[V1,Bool.and_eq_true,decide_eq_true_eq]at d
   have a:=q09 d.2 (j+1) (Nat.zero_le _) (by omega)
   unfold C04 at a
   rw[b]at a
   simp only[Nat.add_sub_cancel,c,Bool.or_eq_false_iff,show decide (0<j+1)=true by simp,Bool.true_and]at a
   have e:k04 y x=false:=by unfold k04 ng;rw[a.2,Bool.and_false]
   simp only[Q6,e,cond_false]
   rfl
theorem f07{r:Int}{w:List Int}(h:V1 r w=true):(o00 [] w).reverse=w:=by
 have:=i0l h w.length (Nat.le_refl _)
 rw[List.take_length]at this
 rw[this,List.reverse_reverse]
def S5(g:l0)(w:List Int):Bool:=decide ((A2 g 0 w).2=w.length)&&decide ((A2 g 0 w).1=0)
theorem Q2{g:l0}(h:J1 g=true):F0 g=true:=by
 unfold J1 at h
 simp only[Bool.and_eq_true]at h
 exact h.1
theorem L0f{r:Int}{g:l0}{w:List Int}(i:J1 g=true)(j:V1 r w=true):O01 g w=some (S5 g w):=by
 have hf:=Q2 i
 obtain⟨o,s,p,t⟩:=S0 hf
 obtain⟨u,k⟩:=z01 j
 have f:=L02 w (λx e=>(k x e).1.1) (by omega)
 rw[f07 j]at f
 have l:=D0t g hf 0 ⟨iR _,by omega⟩ w (λx e=>(k x e).1) (by omega)
 have m:=l0j g (by omega)
 have h:A00 g=some true:=by
  obtain⟨a,b,c⟩:=g
  unfold A00
  simp only[m,i,oB]
 have n:=b07 o p.2 w 0 ⟨by omega,by omega⟩
 have q:=R02 g w 0
 unfold S5
 obtain⟨a,b,c⟩:=g
 unfold O01
 simp only[f,oB,l]
 by_cases d:(A2 (a,b,c) 0 w).2<w.length
 ·simp only[decide_eq_true d,cond_true]
  rw[I0 (show J0 (-1) from⟨by omega,by omega⟩),oB,h]
  have:decide ((A2 (a,b,c) 0 w).2=w.length)=false:=decide_eq_false (by omega)
  rw[this];rfl
 ·simp only[decide_eq_false d,cond_false]
  rw[I0 n,oB,h]
  have:decide ((A2 (a,b,c) 0 w).2=w.length)=true:=decide_eq_true (by omega)
  rw[this]
  simp only[oB,cond_true,Bool.true_and]
theorem j0l{r:Int}{g:l0}{w:List Int}(j:J1 g=true)(k:V1 r w=true):P5 g w=some (S5 g w):=by
 have hf:=Q2 j
 obtain⟨e,o,f,p⟩:=S0 hf
 obtain⟨q,m⟩:=z01 k
 have h:=c0j g e f.2 (by omega) 0 w (λx l=>(m x l).1) (by omega)
 have i:=b07 e f.2 w 0 ⟨by omega,by omega⟩
 have n:=R02 g w 0
 unfold S5
 obtain⟨a,b,c⟩:=g
 unfold P5
 simp only[h,oB]
 rw[I0 i,oB,I0 (show J0 (((A2 (a,b,c) 0 w).2:Nat):Int) from⟨by omega,by omega⟩),oB]
 by_cases d:(A2 (a,b,c) 0 w).2=w.length
 ·rw[decide_eq_true d,show decide ((((A2 (a,b,c) 0 w).2:Nat):Int)=((w.length:Nat):Int))=true from decide_eq_true (by omega)]
  simp
 ·rw[decide_eq_false d,show decide ((((A2 (a,b,c) 0 w).2:Nat):Int)=((w.length:Nat):Int))=false from decide_eq_false (by omega)]
  simp
def rdw(g:l0):Int->List Int->Option Int
 |v,[]=>some v
 |v,x::w=>if Q0 g v x<0 then none else rdw g (Q0 g v x) w
theorem K0c(g:l0):∀(w:List Int) (v u:Int),rdw g v w=some u↔((A2 g v w).2=w.length/\(A2 g v w).1=u)
 | [],v,u=>by simp[rdw,A2]
 |x::w,v,u=>by
  have a:=K0c g w (Q0 g v x) u
  unfold rdw A2
  by_cases c:Q0 g v x<0
  ·rw[if_pos c,if_pos c];simp
  ·rw[if_neg c,if_neg c,a];simp
theorem j05(g:l0)(w:List Int):S5 g w=true↔rdw g 0 w=some 0:=by
 unfold S5
 rw[K0c];simp
theorem e0o(g:l0):∀(a b:List Int) (v:Int),rdw g v (a++b)=(rdw g v a).bind λu=>rdw g u b
 | [],b,v=>rfl
 |x::a,b,v=>by
  have d:=e0o g a b (Q0 g v x)
  show(if Q0 g v x<0 then none else rdw g (Q0 g v x) (a++b))=(if Q0 g v x<0 then none else rdw g (Q0 g v x) a).bind λu=>rdw g u b
  by_cases c:Q0 g v x<0
  ·rw[if_pos c,if_pos c];rfl
  ·rw[if_neg c,if_neg c];exact d
theorem l04{g:l0}(hf:F0 g=true){v x u:Int}(h:Q0 g v x=u)(h0:0<=u):Q0 g u (-x)=v:=by
 rcases A01 g v x with⟨e,_⟩|e
 ·omega
 ·rw[h]at e
  obtain⟨d,i,f⟩:=N2.1 e
  refine r04 hf (N2.2 ⟨d,i,?_⟩)
  rcases f with⟨a,b,c,rfl⟩|⟨a,b,c,rfl⟩
  ·exact .inr ⟨by omega,by omega,rfl,c.symm⟩
  ·exact .inl ⟨by omega,b,rfl,c.symm⟩
structure Mor (a b:l0) (f:Int->Int):Prop where
 base:f 0=0
 rng:∀ v,0<=v->v<a.2.1->0<=f v/\f v<b.2.1
 step:∀ v x,0<=v->v<a.2.1->0<=Q0 a v x->Q0 b (f v) x=f (Q0 a v x)
theorem Mor.rdw{a b:l0}{f:Int->Int}(m:Mor a b f)(i:inG a):∀(w:List Int) (v u:Int),0<=v->v<a.2.1->rdw a v w=some u->rdw b (f v) w=some (f u)
 | [],v,u,h0,g,h=>by
  simp only[Go.Proofs.YtmgikbbmpnbbjaaGreat.rdw,Option.some.injEq]at h ⊢
  rw[h]
 |x::w,v,u,h0,g,h=>by
  unfold Go.Proofs.YtmgikbbmpnbbjaaGreat.rdw at h ⊢
  by_cases c:Q0 a v x<0
  ·rw[if_pos c]at h;cases h
  ·rw[if_neg c]at h
   have j:=m.step v x h0 g (by omega)
   have d:0<=Q0 a v x/\Q0 a v x<a.2.1:=by
    rcases Z02 i v x with e|e
    ·omega
    ·exact e
   have k:=m.rng _ d.1 d.2
   rw[j,if_neg (by omega)]
   exact Mor.rdw m i w _ u d.1 d.2 h
theorem Mor.loop{a b:l0}{f:Int->Int}(m:Mor a b f)(c:F0 a=true){w:List Int}(h:S5 a w=true):S5 b w=true:=by
 obtain⟨d,e,g,i⟩:=S0 c
 rw[j05]at h ⊢
 have:=m.rdw d w 0 0 (iR _) (by omega) h
 rwa [m.base]at this
abbrev Im:=List Int×List Int
def N0m(a b:Im):Prop:=(∃ t,b.2=a.2++t)/\∀ v∈a.2,getI b.1 v=getI a.1 v
theorem N0m.refl(s:Im):N0m s s:=⟨⟨[],by simp⟩,λ_ _=>rfl⟩
theorem N0m.trans{b c d:Im}(h:N0m b c)(h':N0m c d):N0m b d:=by
 obtain⟨⟨t,e⟩,f⟩:=h
 obtain⟨⟨j,g⟩,i⟩:=h'
 exact⟨⟨t++j,by rw[g,e,List.append_assoc]⟩,λv a=>(i v (by rw[e];exact List.mem_append_left _ a)).trans (f v a)⟩
def I0t(a b:l0)(v x:Int)(s:Im):Prop:=0<=Q0 a v x->Q0 a v x∈s.2/\Q0 b (getI s.1 v) x=getI s.1 (Q0 a v x)
theorem I0t.le{a b:l0}{v x:Int}{c g:Im}(j:v∈c.2)(h:I0t a b v x c)(l:N0m c g):I0t a b v x g:=λh0=>by
 obtain⟨d,i⟩:=h h0
 obtain⟨⟨t,e⟩,f⟩:=l
 exact⟨by rw[e];exact List.mem_append_left _ d,by rw[f v j,f _ d];exact i⟩
theorem k0l{g:l0}(i:inG g)(m:1<=g.1){v x:Int}(h:0<=Q0 g v x):x∈T6 g.1.toNat 1:=by
 rcases A01 g v x with⟨e,_⟩|e
 ·omega
 ·obtain⟨d,f,c⟩:=N2.1 e
  have l:=i d f
  rcases c with⟨a,b,_⟩|⟨a,b,_⟩
  ·obtain⟨j,_⟩:=M05 g.1.toNat 1 x.toNat (by omega) (by omega)
   rwa [show((x.toNat:Nat):Int)=x by omega]at j
  ·obtain⟨_,k⟩:=M05 g.1.toNat 1 (-x).toNat (by omega) (by omega)
   rwa [show -(((-x).toNat:Nat):Int)=x by omega]at k
theorem x0p{g:l0}(h:J1 g=true):F7 g=none:=by
 unfold J1 at h
 simp only[Bool.and_eq_true,Option.isNone_iff_eq_none]at h
 exact h.2.1
theorem S04(w:List Int)(hl:w.length<=1099511627776)(n0:Nat)(hn:n0<=1099511627776):∀(d k fuel:Nat) (s:List Int),k+d=w.length->d<fuel->s.length<=n0+k ->
  M6 w fuel (k:Int) s.reverse=some (o00 s (w.drop k)).reverse
 |d,k,0,s,hk,hf,hsl=>by omega
 |0,k,fuel+1,s,hk,hf,hsl=>by
  rw[M6.eq_2,if_neg (by simp;omega),M1 (by omega)]
  rfl
 |d+1,k,fuel+1,s,hk,hf,hsl=>by
  have hkl:k<w.length:=by omega
  have hx:=c5 hkl
  generalize w[k]=x at hx
  have next:=S04 w hl n0 hn d (k+1) fuel (Q6 s x) (by omega) (by omega) (by have:=J0c s x;omega)
  rw[Q1 hx]
  show _=some (o00 (Q6 s x) (w.drop (k+1))).reverse
  rw[←next,M6.eq_2,if_pos (by simp;omega),B3 hx,oB,oB,I0 (by rw[List.length_reverse];omega),oB,oB,oB]
  rw[V2 hkl (by omega:w.length<=9223372036854775807)]
  cases s with
  |nil =>
   have hz:decide ((((([]:List Int).reverse).length:Nat):Int)>0)=false:=rfl
   simp only[hz,G2,oB,cond_false,Bool.false_eq_true,if_false]
   rw[I0 (by simp)]
   rfl
  |cons l t =>
   have hp:decide ((((l::t).reverse.length:Nat):Int)>0)=true:=by simp
   have hpr:IntKind.i64.wrap ((((l::t).reverse.length:Nat):Int)-1)=((t.length:Nat):Int):=by
    rw[a0f (by simp) (by simp only[List.length_cons]at hsl;simp only[List.length_reverse,List.length_cons];omega)];simp
   have hpush:(grd (((l::t).reverse.length + [x].length)*8<=140737488355328))=some ():=I0 (by simp only[List.length_cons]at hsl;simp only[List.length_reverse,List.length_cons,List.length_nil];omega)
   have hlen:(grd ((l::t).reverse.length<=9223372036854775807))=some ():=I0 (by rw[List.length_reverse];omega)
   simp only[hp,hpr,O1,oB,cond_true,B3 K0f,p0b,Q6]
   have hcc:(!(l == 0) && !(l == -9223372036854775808)&&(x == IntKind.i64.wrap (0-l)))=k04 l x:=rfl
   rw[hcc]
   cases hc:k04 l x with
   |true =>
    simp only[if_true,cond_true,hlen,oB]
    rw[I0 (by simp only[List.length_reverse,List.length_cons];omega),oB,Int.toNat_natCast,N0h]
   |false =>
    simp only[Bool.false_eq_true,if_false,cond_false,hpush,hlen,oB]
    exact congrArg _ (List.reverse_cons ..).symm
def r0j:List (List Int)->Nat
 | []=>0
 |w::r=>w.length+r0j r
def O0m(s:List Int):List (List Int)->List Int
 | []=>s
 |w::r=>O0m (o00 s w) r
theorem T04(ws:List (List Int))(g:ws.length<=1099511627776):∀(d k fuel:Nat) (a:List Int),k+d=ws.length->d<fuel->a.length+r0j (ws.drop k)<=1099511627776 ->
  Z7 ws fuel (k:Int) a.reverse=some (O0m a (ws.drop k)).reverse
 |d,k,0,a,e,hf,b=>by omega
 |0,k,fuel+1,a,e,hf,b=>by
  rw[Z7.eq_2,if_neg (by simp;omega),M1 (by omega)]
  rfl
 |d+1,k,fuel+1,a,e,hf,b=>by
  have f:k<ws.length:=by omega
  have c:=c5 f
  generalize ws[k]=w at c
  rw[Q1 c]at b ⊢
  simp only[r0j]at b
  have h:=M03 w a
  have h0:=S04 w (by omega) a.length (by omega) w.length 0 W0 a (by omega) (F1 (by omega)) (by omega)
  rw[show((0:Nat):Int)=0 from rfl,List.drop_zero]at h0
  rw[Z7.eq_2,if_pos (by simp;omega),B3 c,oB,h0,oB,V2 f (by omega:ws.length<=9223372036854775807)]
  exact T04 ws g d (k+1) fuel (o00 a w) (by omega) (by omega) (by omega)
theorem s04(ws:List (List Int))(b:ws.length<=1099511627776)(a:r0j ws<=1099511627776):C8 ws=some (O0m [] ws).reverse:=by
 unfold C8
 have h:=T04 ws b ws.length 0 W0 [] (by omega) (F1 (by omega)) (by simpa using a)
 rw[show((0:Nat):Int)=0 from rfl,List.drop_zero,List.reverse_nil]at h
 rw[h]
 rfl
abbrev Tr8:=List (Option (List Int))×List Int
def trS(g:l0)(v x:Int)(s:Tr8):Tr8:=if 0<=Q0 g v x/\Q0 g v x ∉ s.2 then(s.1.set (Q0 g v x).toNat (some ((V9 s.1 v).getD [] ++ [x])),s.2 ++ [Q0 g v x])else s
def l0l(g:l0)(v:Int):List Int->Tr8->Tr8
 | [],s=>s
 |x::r,s=>l0l g v r (trS g v x s)
def I0b(g:l0)(b:List Int):Nat->Nat->Tr8->Tr8
 |0,i,a=>a
 |f+1,i,a=>match a.2[i]? with
  |some v=>I0b g b f (i+1) (l0l g v b a)
  |none=>a
def D3(g:l0)(p:Int):List Int:=L7 g (T6 g.1.toNat 1) (g.2.1.toNat+1) 0 [p]
def L0c(g:l0)(p:Int):Tr8:=I0b g (T6 g.1.toNat 1) (g.2.1.toNat+1) 0 ((List.replicate g.2.1.toNat none).set p.toNat (some []),[p])
theorem f0o(g:l0)(v x:Int)(s:Tr8):(trS g v x s).2=A06 s.2 (Q0 g v x):=by
 unfold trS A06
 split<;>rfl
theorem M0f(g:l0)(v:Int):∀(b:List Int) (a:Tr8),(l0l g v b a).2=p01 g v b a.2
 | [],a=>rfl
 |x::r,a=>by rw[l0l,M0f g v r,f0o];rfl
theorem O0h(g:l0)(b:List Int):∀(f i:Nat) (a:Tr8),(I0b g b f i a).2=L7 g b f i a.2
 |0,i,a=>rfl
 |f+1,i,a=>by
  unfold I0b L7
  cases a.2[i]? with
  |none=>rfl
  |some v=>simp only[O0h g b f,M0f]
theorem N0f(g:l0)(p:Int):(L0c g p).2=D3 g p:=O0h _ _ _ _ _
structure TOk (g:l0) (p:Int) (n:Nat) (s:Tr8):Prop where
 ok:WOk n s.1 s.2
 gd:gud n s.2
 base:p∈s.2
 word:V9 s.1 p=some []
 par:∀ y∈s.2,y≠p->∃ v∈s.2,∃ x,x∈T6 g.1.toNat 1/\Q0 g v x=y/\∃ a,V9 s.1 v=some a/\V9 s.1 y=some (a ++ [x])
 red:∀ y∈s.2,∀ a,V9 s.1 y=some a->Red a.reverse=true
theorem WOk.add{n:Nat}{b:List (Option (List Int))}{u:List Int}(a:WOk n b u){y:Int}(d:0<=y)(h:y<(n:Int))(v x:Int):WOk n (b.set y.toNat (some ((V9 b v).getD [] ++ [x]))) (u ++ [y]):=by
 have e:=a.short v
 refine⟨by simp[a.len],λz h0 f=>?_,λz=>?_⟩
 ·rw[G01 d (by have:=a.len;omega) h0]
  by_cases c:z=y
  ·rw[if_pos c];simp[c]
  ·rw[if_neg c,a.iff z h0 f];simp[c]
 ·by_cases hz:0<=z
  ·rw[G01 d (by have:=a.len;omega) hz]
   by_cases c:z=y
   ·rw[if_pos c];simp;exact e
   ·rw[if_neg c];have:=a.short z;simp only[List.length_append];omega
  ·have g:V9 (b.set y.toNat (some ((V9 b v).getD [] ++ [x]))) z=V9 (b.set y.toNat (some ((V9 b v).getD [] ++ [x]))) 0:=by
    unfold V9;rw[show z.toNat=(0:Int).toNat by omega]
   rw[g,G01 d (by have:=a.len;omega) (iR 0)]
   by_cases c:(0:Int)=y
   ·rw[if_pos c];simp;exact e
   ·rw[if_neg c];have:=a.short 0;simp only[List.length_append];omega
theorem WOk.get{n:Nat}{b:List (Option (List Int))}{u:List Int}(f:WOk n b u){v:Int}(h0:0<=v)(c:v<(n:Int))(d:v∈u):∃ a,V9 b v=some a:=by
 cases e:V9 b v with
 |none=>exact absurd d ((f.iff v h0 c).1 (by rw[e];rfl))
 |some a=>exact⟨a,rfl⟩
theorem x09{R:Nat}(b:R<=900){x:Int}(a:x∈T6 R 1):Y3 x/\x≠0 /\ -(R:Int)<=x/\x<=(R:Int):=by
 obtain⟨j,c,d,e⟩:=P08 _ _ _ a
 exact⟨⟨⟨by omega,by omega⟩,by omega⟩,by omega,by omega,by omega⟩
theorem b0r{l x:Int}(a:Y3 l)(h:k04 l x=true):x = -l:=by
 unfold k04 at h
 simp only[Bool.and_eq_true,beq_iff_eq]at h
 rw[h.2];exact q0d a.1 a.2
theorem TOk.add{g:l0}(hf:F0 g=true){p:Int}{n:Nat}(R:g.2.1=(n:Int)){B:Tr8}(h:TOk g p n B){v x:Int}(j:v∈B.2)(M:x∈T6 g.1.toNat 1):TOk g p n (trS g v x B):=by
 obtain⟨P,S,T,U⟩:=S0 hf
 unfold trS
 split
 ·rename_i c
  obtain⟨o,s⟩:=c
  have O:Q0 g v x<(n:Int):=by
   rcases Z02 P v x with e|e<;>omega
  obtain⟨m,u⟩:=B
  obtain⟨ok,q,base,H,F,red⟩:=h
  simp only at j o s ok q base H F red ⊢
  have D:=q.2 v j
  obtain⟨a,i⟩:=ok.get D.1 D.2 j
  have Q:=ok.len
  have keep:∀ z∈u,V9 (m.set (Q0 g v x).toNat (some ((V9 m v).getD [] ++ [x]))) z=V9 m z:=λz J=>by
   have:=q.2 z J
   rw[G01 o (by omega) this.1,if_neg λ(e:z=Q0 g v x)=>s (by rw[←e];exact J)]
  have new:V9 (m.set (Q0 g v x).toNat (some ((V9 m v).getD [] ++ [x]))) (Q0 g v x)=some (a ++ [x]):=by
   rw[G01 o (by omega) o,if_pos rfl,i];rfl
  refine⟨ok.add o O v x,⟨List.nodup_append.2 ⟨q.1,by simp,λa i b f=>?_⟩,λy d=>?_⟩,List.mem_append_left _ base,?_,λy d N=>?_,λy d b f=>?_⟩
  ·simp at f;subst f;exact λe=>s (e▸i)
  ·rcases List.mem_append.1 d with d|d
   ·exact q.2 y d
   ·simp at d;subst d;omega
  ·rw[keep p base];exact H
  ·rcases List.mem_append.1 d with d|d
   ·obtain⟨G,A,K,E,C,b,w,k⟩:=F y d N
    exact⟨G,List.mem_append_left _ A,K,E,C,b,by rw[keep G A];exact w,by rw[keep y d];exact k⟩
   ·simp at d;subst d
    exact⟨v,List.mem_append_left _ j,x,M,rfl,a,by rw[keep v j];exact i,new⟩
  ·rcases List.mem_append.1 d with d|d
   ·rw[keep y d]at f;exact red y d b f
   ·simp at d;subst d
    rw[new]at f;cases f
    have I:=red v j a i
    rw[List.reverse_append]
    show Red (x::a.reverse)=true
    cases e:a.reverse with
    |nil=>rfl
    |cons l t =>
     rw[e]at I
     unfold Red
     rw[I,Bool.and_true]
     cases hc:k04 l x with
     |false=>rfl
     |true =>
      exfalso
      have L:v≠p:=λw=>by
       subst w
       rw[H]at i;cases i;simp at e
      obtain⟨G,A,K,E,C,b,w,k⟩:=F v j L
      rw[i]at k
      injection k with k
      rw[k,List.reverse_append]at e
      simp only[List.reverse_cons,List.reverse_nil,List.nil_append,List.cons_append,List.cons.injEq]at e
      rw[←e.1]at hc
      have:=b0r (x09 (by omega) E).1 hc
      have f:=l04 hf C D.1
      rw[←this]at f
      exact s (f▸A)
 ·exact h
theorem g0o(g:l0)(v x:Int)(s:Tr8):∃ t,(trS g v x s).2=s.2++t:=by rw[f0o];exact w0f _ _
theorem c0r(g:l0)(v:Int)(b:List Int)(a:Tr8):∃ t,(l0l g v b a).2=a.2++t:=by rw[M0f];exact q03 _ _ _ _
theorem TOk.inn{g:l0}(hf:F0 g=true){p:Int}{n:Nat}(d:g.2.1=(n:Int)){v:Int}:∀(f:List Int) {a:Tr8},TOk g p n a->v∈a.2->(∀ x∈f,x∈T6 g.1.toNat 1)->TOk g p n (l0l g v f a)
 | [],a,h,c,b=>h
 |x::r,a,h,c,b=>by
  obtain⟨t,e⟩:=g0o g v x a
  exact TOk.inn hf d r (h.add hf d c (b x mS)) (by rw[e];exact List.mem_append_left _ c) λy i=>b y (mC _ i)
theorem TOk.out{g:l0}(hf:F0 g=true){p:Int}{n:Nat}(b:g.2.1=(n:Int)):∀(f i:Nat) {a:Tr8},TOk g p n a->TOk g p n (I0b g (T6 g.1.toNat 1) f i a)
 |0,i,a,h=>h
 |f+1,i,a,h=>by
  unfold I0b
  cases e:a.2[i]? with
  |none=>exact h
  |some v=>exact TOk.out hf b f (i+1) (h.inn hf b _ (List.mem_of_getElem? e) λx c=>c)
theorem d0r(N:Nat)(x:Int):V9 (List.replicate N (none:Option (List Int))) x=none:=by
 unfold V9
 rw[List.getD_eq_getElem?_getD,List.getElem?_replicate];split<;>rfl
theorem P0h(g:l0){p:Int}{N:Nat}(d:0<=p/\p<(N:Int)):TOk g p N ((List.replicate N none).set p.toNat (some []),[p]):=by
 have f:∀ x,0<=x->V9 ((List.replicate N (none:Option (List Int))).set p.toNat (some [])) x=if x=p then some []else none:=λx h0=>by
  rw[G01 d.1 (by simp;omega) h0,d0r]
 refine⟨⟨by simp,λx h0 k=>?_,λx=>?_⟩,⟨by simp,λx j=>by simp at j;subst j;exact d⟩,by simp,?_,λy b h=>?_,λy b a i=>?_⟩
 ·simp only
  rw[f x h0]
  by_cases c:x=p
  ·rw[if_pos c];simp[c]
  ·rw[if_neg c];simp[c]
 ·have:∀ x,0<=x->((V9 ((List.replicate N (none:Option (List Int))).set p.toNat (some [])) x).getD []).length<=1:=λx h0=>by
   rw[f x h0];split<;>simp
  by_cases hz:0<=x
  ·exact this x hz
  ·have e:V9 ((List.replicate N (none:Option (List Int))).set p.toNat (some [])) x=V9 ((List.replicate N (none:Option (List Int))).set p.toNat (some [])) 0:=by
    unfold V9;rw[show x.toNat=(0:Int).toNat by omega]
   simp only
   rw[e];exact this 0 (iR 0)
 ·simp only
  rw[f p d.1,if_pos rfl]
 ·simp at b;exact absurd b h
 ·simp at b;subst b
  simp only at i
  rw[f y d.1,if_pos rfl]at i
  cases i;rfl
theorem s0j{g:l0}(hf:F0 g=true){p:Int}(a:0<=p/\p<g.2.1):TOk g p g.2.1.toNat (L0c g p):=by
 obtain⟨b,c,d,e⟩:=S0 hf
 exact TOk.out hf (by omega) _ _ (P0h g ⟨a.1,by omega⟩)
theorem S0s{g:l0}(hf:F0 g=true)(p:Int){n:Nat}(u:g.2.1=(n:Int))(b:List Int)(s:∀ x∈b,x∈T6 g.1.toNat 1)(B:b.length<=1000000)(v:Int):∀(d k fuel:Nat) (a:Tr8),TOk g p n a->v∈a.2->k+d=b.length->d<fuel ->
  R3 b g.1 g.2.1 g.2.2 v fuel (k:Int) a.1 a.2=some (l0l g v (b.drop k) a)
 |d,k,0,a,c,e,m,hf=>by omega
 |0,k,fuel+1,a,c,e,m,hf=>by
  rw[R3.eq_2,if_neg (by simp;omega),M1 (by omega)];rfl
 |d+1,k,fuel+1,a,c,e,m,G=>by
  obtain⟨z,K,F,L⟩:=S0 hf
  have q:k<b.length:=by omega
  have i:=c5 q
  have j:=s _ (List.mem_of_getElem? i)
  have o:=Q1 i
  generalize b[k]=x at i j o
  have D:=(x09 (by omega) j).1
  have H:=n00 n a.2 c.gd.1 c.gd.2
  have I:=Z02 z v x
  have C:=c.add hf u e j
  obtain⟨t,A⟩:=g0o g v x a
  have E:=S0s hf p u b s B v d (k+1) fuel (trS g v x a) C (by rw[A];exact List.mem_append_left _ e) (by omega) (by omega)
  have f:=c.ok
  have w:=c.gd.2 v e
  rw[R3.eq_2,if_pos (by simp;omega),o,l0l,←E]
  simp only[B3 i,oB,show(g.1,g.2.1,g.2.2)=g from rfl,f02 g v x D (by omega),I0 (G03 z F.2 v x),V2 q (show b.length<=9223372036854775807 by omega)]
  unfold trS
  generalize Q0 g v x=y at *
  by_cases c1:0<=y
  ·have l:y<(n:Int):=by omega
   simp only[show decide (y ≥ 0)=true by simpa using c1,O1,giO f.len c1 l,oB,cond_true]
   by_cases c2:y∈a.2
   ·have : ¬ ((V9 a.1 y).isNone=true):=λh=>(f.iff y c1 l).1 h c2
    rw[if_neg this,if_neg λh=>h.2 c2]
   ·have:(V9 a.1 y).isNone=true:=(f.iff y c1 l).2 c2
    have J:=f.short v
    rw[if_pos this,if_pos ⟨c1,c2⟩,giO f.len w.1 w.2,oB,Y0n (by omega),oB,I0 (by simp;omega),oB,I0 (by simp;omega),oB]
  ·simp only[show decide (y ≥ 0)=false by simpa using c1,G2,oB,cond_false]
   rw[if_neg (by simp),if_neg λh=>c1 h.1]
theorem T0s{g:l0}(hf:F0 g=true)(p:Int){n:Nat}(d:g.2.1=(n:Int)):∀(f i fuel:Nat) (a:Tr8),TOk g p n a->i<=a.2.length->n+1<=i+f->f<fuel ->
  d5 g.1 g.2.1 g.2.2 fuel (i:Int) a.1 a.2=some (I0b g (T6 g.1.toNat 1) f i a)
 |f,i,0,a,c,j,h,hf=>by omega
 |0,i,fuel+1,a,c,j,h,hf=>by have:=n00 n a.2 c.gd.1 c.gd.2;omega
 |f+1,i,fuel+1,a,c,j,h,o=>by
  obtain⟨s,u,w,y⟩:=S0 hf
  have q:=n00 n a.2 c.gd.1 c.gd.2
  rw[d5.eq_2,oB,I0 (by omega),oB]
  by_cases hk:i<a.2.length
  ·have b:=c5 hk
   generalize a.2[i]=v at b
   have k:=List.mem_of_getElem? b
   have h0:=S0s hf p d (T6 g.1.toNat 1) (λx b=>b) (by rw[F04];omega) v (T6 g.1.toNat 1).length 0 W0 a c k (by omega) (F1 (by rw[F04];omega))
   rw[show((0:Nat):Int)=0 from rfl,List.drop_zero]at h0
   obtain⟨t,e⟩:=c0r g v (T6 g.1.toNat 1) a
   have m:=T0s hf p d f (i+1) fuel _ (c.inn hf d _ k λx b=>b) (by rw[e,List.length_append];omega) (by omega) (by omega)
   have l:w9 g.1=some (T6 g.1.toNat 1):=by
    have:=D0m g.1.toNat (by omega)
    rwa [show((g.1.toNat:Nat):Int)=g.1 by omega]at this
   rw[if_pos (by simpa using hk),B3 b,oB,l,oB,h0,oB]
   simp only[V2 hk (show a.2.length<=9223372036854775807 by omega),I0b,b]
   exact m
  ·have b:a.2[i]?=none:=List.getElem?_eq_none (by omega)
   rw[if_neg (by simpa using hk)]
   simp only[I0b,b]
def N07(g:l0)(p:Int):List (List Int):=(L0c g p).1.map λo=>o.getD []
theorem O0f{g:l0}(hf:F0 g=true){p:Int}(f:0<=p/\p<g.2.1):o7 g p=some (D3 g p,N07 g p):=by
 obtain⟨h,i,j,l⟩:=S0 hf
 have d:g.2.1=((g.2.1.toNat:Nat):Int):=by omega
 have h0:=T0s hf p d (g.2.1.toNat+1) 0 W0 _ (P0h g (N:=g.2.1.toNat) ⟨f.1,by omega⟩) (by simp) (by omega) (F1 (by omega))
 have e:gi (List.replicate g.2.1.toNat (none:Option (List Int))) p=some none:=by
  have:=B3 (xs:=List.replicate g.2.1.toNat (none:Option (List Int))) (k:=p.toNat) (x:=none) (by rw[List.getElem?_replicate,if_pos (by omega)])
  rwa [show((p.toNat:Nat):Int)=p by omega]at this
 rw[←N0f]
 unfold N07 L0c
 obtain⟨a,b,c⟩:=g
 simp only at *
 unfold o7
 simp only
 rw[I0 (by omega),oB,e,oB]
 rw[show((0:Nat):Int)=0 from rfl]at h0
 rw[h0]
 rfl
def tw(g:l0)(p v:Int):List Int:=(V9 (L0c g p).1 v).getD []
structure L0g (g:l0) (p:Int) (t:Int->List Int):Prop where
 z:t p = []
 par:∀ y∈D3 g p,y≠p->∃ v∈D3 g p,∃ x,x∈T6 g.1.toNat 1/\Q0 g v x=y/\t y=t v ++ [x]
 red:∀ y∈D3 g p,Red (t y).reverse=true
 len:∀ y,(t y).length<=40
theorem k05{g:l0}(hf:F0 g=true){p:Int}(k:0<=p/\p<g.2.1):L0g g p (tw g p):=by
 obtain⟨o,q,s,t⟩:=S0 hf
 have h:=s0j hf k
 have e:=N0f g p
 refine⟨by unfold tw;rw[h.word];rfl,λy b n=>?_,λy b=>?_,λy=>?_⟩
 ·rw[←e]at b ⊢
  obtain⟨v,l,x,m,f,a,i,j⟩:=h.par y b n
  exact⟨v,l,x,m,f,by unfold tw;rw[i,j];rfl⟩
 ·rw[←e]at b
  have d:=h.gd.2 y b
  obtain⟨a,c⟩:=h.ok.get d.1 d.2 b
  unfold tw
  rw[c]
  exact h.red y b a c
 ·have:=h.ok.short y
  have:=n00 _ _ h.gd.1 h.gd.2
  unfold tw
  omega
theorem v03{g:l0}(hf:F0 g=true){p:Int}(a:0<=p/\p<g.2.1):gud g.2.1.toNat (D3 g p):=by
 rw[←N0f];exact(s0j hf a).gd
theorem J0b(g:l0)(p:Int):∃ t,D3 g p=p::t:=by
 obtain⟨t,e⟩:=z0a g (T6 g.1.toNat 1) (g.2.1.toNat+1) 0 [p]
 exact⟨t,e⟩
theorem L0g.ind{g:l0}{p:Int}{t:Int->List Int}(h:L0g g p t)(P:Int->Prop)(h0:P p)(d:∀ v∈D3 g p,∀ y∈D3 g p,∀ x,x∈T6 g.1.toNat 1->Q0 g v x=y->t y=t v ++ [x]->P v->P y):∀(k:Nat) (y:Int),(t y).length<=k->y∈D3 g p->P y
 |k,y,a,f=>by
  by_cases c:y=p
  ·rw[c];exact h0
  ·obtain⟨v,e,x,j,i,b⟩:=h.par y f c
   cases k with
   |zero=>rw[b]at a;simp at a
   |succ k=>exact d v e y f x j i b (L0g.ind h P h0 d k v (by rw[b]at a;simp at a;omega) e)
theorem L0g.induct{g:l0}{p:Int}{t:Int->List Int}(h:L0g g p t){P:Int->Prop}(h0:P p)(a:∀ v∈D3 g p,∀ y∈D3 g p,∀ x,x∈T6 g.1.toNat 1->Q0 g v x=y->t y=t v ++ [x]->P v->P y){y:Int}(b:y∈D3 g p):P y:=h.ind P h0 a _ y (Nat.le_refl _) b
theorem l0s{g:l0}{v x y:Int}(h:Q0 g v x=y)(h0:0<=y):rdw g v [x]=some y:=by
 unfold rdw
 rw[if_neg (by omega),h];rfl
theorem L0g.rd{g:l0}(hf:F0 g=true){p:Int}(d:0<=p/\p<g.2.1){t:Int->List Int}(h:L0g g p t){y:Int}(a:y∈D3 g p):rdw g p (t y)=some y:=by
 refine h.induct (P:=λy=>rdw g p (t y)=some y) ?_ (λv f y a x i b c e=>?_) a
 ·rw[h.z];rfl
 ·rw[c,e0o,e,oB]
  exact l0s b ((v03 hf d).2 y a).1
theorem L0g.let{g:l0}{p:Int}{t:Int->List Int}(h:L0g g p t){y:Int}(c:y∈D3 g p):∀ x∈t y,x∈T6 g.1.toNat 1:=by
 refine h.induct (P:=λy=>∀ x∈t y,x∈T6 g.1.toNat 1) ?_ (λv i y c x b f d e=>?_) c
 ·rw[h.z];exact λx b=>by cases b
 ·rw[d]
  intro z a
  rcases List.mem_append.1 a with a|a
  ·exact e z a
  ·simp at a;rw[a];exact b
def h0o(w:List Int):Int:=w.getLastD 0
theorem M0c(a:List Int)(x:Int):h0o (a ++ [x])=x:=by unfold h0o;simp
def tE(g:l0)(v:Int):K0:=stp (Q0 g v (-(h0o (tw g 0 v)))) (h0o (tw g 0 v)) v
def a03(g:l0):List K0:=K5 T0 [] ((D3 g 0).tail.map (tE g))
theorem P0f{g:l0}(hf:F0 g=true){p:Int}(b:0<=p/\p<g.2.1){v:Int}(d:0<=v/\v<g.2.1):gi (N07 g p) v=some (tw g p v):=by
 have h:=s0j hf b
 have c:=h.ok.len
 have a:v.toNat<(L0c g p).1.length:=by omega
 have:=B3 (xs:=N07 g p) (k:=v.toNat) (x:=tw g p v) (by
  unfold N07 tw V9
  rw[List.getElem?_map,List.getElem?_eq_getElem a,List.getD_eq_getElem?_getD,List.getElem?_eq_getElem a];rfl)
 rwa [show((v.toNat:Nat):Int)=v by omega]at this
theorem Q0f{g:l0}(hf:F0 g=true){v:Int}:v∈(D3 g 0).tail↔v∈D3 g 0/\v≠0:=by
 obtain⟨f,i,j,k⟩:=S0 hf
 obtain⟨t,e⟩:=J0b g 0
 have b:=(v03 hf (p:=0) ⟨by omega,by omega⟩).1
 rw[e]at b ⊢
 have:=(List.nodup_cons.1 b).1
 constructor
 ·intro h
  exact⟨mC _ h,λc=>this (c▸h)⟩
 ·rintro⟨a,d⟩
  rcases List.mem_cons.1 a with a|a
  ·exact absurd a d
  ·exact a
theorem i0o{g:l0}(hf:F0 g=true):∀(d k fuel:Nat) (acc:List K0),k+d=(D3 g 0).tail.length->d<fuel->acc.length<=k ->
  G6 (D3 g 0).tail (N07 g 0) g.1 g.2.1 g.2.2 fuel (k:Int) acc=some (acc++((D3 g 0).tail.drop k).map (tE g))
 |d,k,0,acc,j,s,i=>by omega
 |0,k,fuel+1,acc,j,s,i=>by
  rw[G6.eq_2,if_neg (by simp only[decide_eq_true_eq];omega),M1 (by omega)];simp
 |d+1,k,fuel+1,acc,j,F,i=>by
  obtain⟨C,L,D,M⟩:=S0 hf
  have f:(0:Int)<=0/\(0:Int)<g.2.1:=⟨by omega,by omega⟩
  have h:=k05 hf f
  have e:=v03 hf f
  have G:=n00 _ _ e.1 e.2
  have m:k<(D3 g 0).tail.length:=by omega
  have J:(D3 g 0).tail.length<=40:=by rw[List.length_tail];omega
  have b:=c5 m
  have n:=List.mem_of_getElem? b
  have l:=Q1 b
  generalize (D3 g 0).tail[k]=v at b n l
  obtain⟨o,z⟩:=(Q0f hf).1 n
  have A:=e.2 v o
  obtain⟨u,K,x,B,E,c⟩:=h.par v o z
  have a:=x09 (by omega) B
  have H:(tw g 0 v).length=(tw g 0 u).length+1:=by rw[c];simp
  have I:=h.len u
  have q:gi (tw g 0 v) (IntKind.i64.wrap (((tw g 0 v).length:Nat)-1))=some x:=by
   rw[w64 (by omega) (by omega),show(((tw g 0 v).length:Nat):Int)-1=(((tw g 0 u).length:Nat):Int) by omega]
   refine B3 ?_
   rw[c,List.getElem?_append_right (Nat.le_refl _)];simp
  have y:tE g v=stp (Q0 g v (-x)) x v:=by unfold tE;rw[c,M0c]
  have w:Y3 (-x):=⟨⟨by have:=a.2.2;omega,by have:=a.2.2;omega⟩,by have:=a.2.2;omega⟩
  have p:=i0o hf d (k+1) fuel (acc ++ [tE g v]) (by omega) (by omega) (by simp;omega)
  rw[G6.eq_2,if_pos (by simp only[decide_eq_true_eq];omega),B3 b,oB,P0f hf f ⟨A.1,by omega⟩,oB,q,oB,q0d a.1.1 a.1.2,show(g.1,g.2.1,g.2.2)=g from rfl,f02 g v (-x) w (by omega),oB,I0 (G03 C D.2 v _),oB,n0j _ x v a.1,oB,←y,V2 m (by omega),l,List.map_cons]
  generalize tE g v=t at p ⊢
  obtain⟨N,O,P⟩:=t
  simp only
  rw[I0 (by simp;omega),oB]
  rw[p]
  simp
theorem m0l{g:l0}(hf:F0 g=true):c01 g=some (a03 g):=by
 obtain⟨n,o,p,q⟩:=S0 hf
 have f:(0:Int)<=0/\(0:Int)<g.2.1:=⟨by omega,by omega⟩
 have d:=v03 hf f
 have m:=n00 _ _ d.1 d.2
 have i:=O0f hf f
 obtain⟨t,h⟩:=J0b g 0
 have j:V06 (D3 g 0) 1 (((D3 g 0).length:Nat):Int)=some (D3 g 0).tail:=by
  have:=g03 (xs:=D3 g 0) (k:=1) (by rw[h];simp)
  rw[show((1:Nat):Int)=1 from rfl]at this
  rw[this,List.drop_one]
 have e:=i0o hf (D3 g 0).tail.length 0 W0 [] (by omega) (F1 (by rw[List.length_tail];omega)) (by simp)
 rw[show((0:Nat):Int)=0 from rfl,List.drop_zero,List.nil_append]at e
 have l:=H08 ((D3 g 0).tail.map (tE g)) (by rw[List.length_map,List.length_tail];omega)
 unfold a03
 obtain⟨a,b,c⟩:=g
 simp only at *
 unfold c01
 simp only[i,oB,j,e,l]
theorem y0p{g:l0}(hf:F0 g=true){e:K0}:e∈a03 g↔∃ z∈D3 g 0,∃ q∈D3 g 0,∃ l,l∈T6 g.1.toNat 1/\Q0 g q l=z/\tw g 0 z=tw g 0 q ++ [l]/\e=stp q l z:=by
 obtain⟨p,s,t,u⟩:=S0 hf
 have m:(0:Int)<=0/\(0:Int)<g.2.1:=⟨by omega,by omega⟩
 have j:=k05 hf m
 have i:=v03 hf m
 unfold a03
 rw[C4 L3,List.mem_map]
 constructor
 ·rintro(h|⟨z,d,rfl⟩)
  ·cases h
  ·obtain⟨f,o⟩:=(Q0f hf).1 d
   obtain⟨q,n,l,k,b,a⟩:=j.par z f o
   refine⟨z,f,q,n,l,k,b,a,?_⟩
   unfold tE
   rw[a,M0c,l04 hf b (i.2 z f).1]
 ·rintro⟨z,d,q,n,l,k,b,a,rfl⟩
  refine .inr ⟨z,(Q0f hf).2 ⟨d,λc=>?_⟩,?_⟩
  ·rw[c,j.z]at a;simp at a
  ·unfold tE
   rw[a,M0c,l04 hf b (i.2 z d).1]
def N6(g:l0):List K0:=g.2.2.filter λe => !decide (e∈a03 g)
theorem z0p{g:l0}(hf:F0 g=true):(a03 g).length<=40:=by
 obtain⟨c,d,e,f⟩:=S0 hf
 have a:=v03 hf (p:=0) ⟨by omega,by omega⟩
 have b:=n00 _ _ a.1 a.2
 unfold a03
 have:=g02 ((D3 g 0).tail.map (tE g)) []
 rw[List.length_map,List.length_tail,List.length_nil]at this
 omega
theorem j0o(a:List K0)(q:a.length<=1000)(es:List K0)(t:es.length<=1000):∀(d k fuel:Nat) (acc:List K0),k+d=es.length->d<fuel->acc.length<=k ->
  j5 es a fuel (k:Int) acc=some (acc++(es.drop k).filter λe => !decide (e∈a))
 |d,k,0,acc,l,s,j=>by omega
 |0,k,fuel+1,acc,l,s,j=>by
  rw[j5.eq_2,if_neg (by simp only[decide_eq_true_eq];omega),M1 (by omega)];simp
 |d+1,k,fuel+1,acc,l,u,j=>by
  have n:k<es.length:=by omega
  have b:=c5 n
  have m:=Q1 b
  generalize es[k]=e at b m
  have o:=λp h=>j0o a q es t d (k+1) fuel p (by omega) (by omega) h
  obtain⟨f,g,i⟩:=e
  rw[j5.eq_2,if_pos (by simp only[decide_eq_true_eq];omega),B3 b,oB]
  simp only[H0m a (f,g,i) (by omega),oB,V2 n (show es.length<=9223372036854775807 by omega),m,List.filter_cons]
  by_cases c:(f,g,i)∈a
  ·simp only[decide_eq_true c,Bool.not_true,Bool.false_eq_true,if_false]
   exact o acc (by omega)
  ·simp only[decide_eq_false c,Bool.not_false,if_true]
   rw[I0 (by simp;omega),oB,o _ (by simp;omega)]
   simp
theorem k0o{g:l0}(hf:F0 g=true):H9 g=some (N6 g):=by
 obtain⟨i,j,k,l⟩:=S0 hf
 have e:=A8 g (by omega)
 have f:=m0l hf
 have h:=z0p hf
 have d:=j0o (a03 g) (by omega) g.2.2 (by omega) g.2.2.length 0 W0 [] (by omega) (F1 (by omega)) (by simp)
 rw[show((0:Nat):Int)=0 from rfl,List.drop_zero,List.nil_append]at d
 unfold N6
 obtain⟨a,b,c⟩:=g
 simp only at *
 unfold H9
 simp only[e,hf,oB,f,Bool.not_true,Bool.false_eq_true,if_false,d]
theorem y09{g:l0}{e:K0}:e∈N6 g↔e∈g.2.2/\e ∉ a03 g:=by
 unfold N6
 rw[List.mem_filter]
 simp
def bw(g:l0)(e:K0):List Int:=tw g 0 e.1 ++ [e.2.1]++inv (tw g 0 e.2.2)
def j9(g:l0):List (List Int):=(N6 g).map λe=>(o00 [] (bw g e)).reverse
theorem J0t{g:l0}(hf:F0 g=true)(e:K0):(bw g e).length<=81:=by
 obtain⟨d,f,h,i⟩:=S0 hf
 have a:=k05 hf (p:=0) ⟨by omega,by omega⟩
 have b:=a.len e.1
 have c:=a.len e.2.2
 unfold bw
 simp only[List.length_append,F0b,List.length_singleton]
 omega
theorem l0o{g:l0}(hf:F0 g=true)(es:List K0)(m:∀ e∈es,e∈g.2.2)(v:es.length<=1000):∀(d k fuel:Nat) (acc:List (List Int)),k+d=es.length->d<fuel->acc.length<=k ->
  c8 es (N07 g 0) fuel (k:Int) acc=some (acc++(es.drop k).map λe=>(o00 [] (bw g e)).reverse)
 |d,k,0,acc,j,u,i=>by omega
 |0,k,fuel+1,acc,j,u,i=>by
  rw[c8.eq_2,if_neg (by simp only[decide_eq_true_eq];omega),M1 (by omega)];simp
 |d+1,k,fuel+1,acc,j,B,i=>by
  obtain⟨x,C,D,E⟩:=S0 hf
  have b:(0:Int)<=0/\(0:Int)<g.2.1:=⟨by omega,by omega⟩
  have f:=k05 hf b
  have o:k<es.length:=by omega
  have a:=c5 o
  have n:=m _ (List.mem_of_getElem? a)
  have l:=Q1 a
  generalize es[k]=e at a l n
  have c:=x e n
  have s:=f.len e.1
  have t:=f.len e.2.2
  have w:=λq h=>l0o hf es m v d (k+1) fuel q (by omega) (by omega) h
  have p:C8 [tw g 0 e.1,[e.2.1],inv (tw g 0 e.2.2)]=some (o00 [] (bw g e)).reverse:=by
   rw[s04 _ (by simp) (by simp only[r0j,F0b,List.length_singleton];omega)]
   unfold bw O0m
   simp only[O0m,S08]
  obtain⟨y,z,A⟩:=e
  rw[c8.eq_2,if_pos (by simp only[decide_eq_true_eq];omega),B3 a,oB]
  simp only at c p s t ⊢
  rw[P0f hf b c.1,oB,oB,P0f hf b c.2.1,oB,j04 _ (by omega),oB,oB,p,oB,oB,I0 (by simp;omega),oB,V2 o (show es.length<=9223372036854775807 by omega),w _ (by simp;omega),l]
  simp
theorem m0s{g:l0}(f:J1 g=true):o02 g=some (j9 g):=by
 have hf:=Q2 f
 obtain⟨m,n,o,q⟩:=S0 hf
 have h:=i9 g (by omega)
 have i:=k0o hf
 have j:=O0f hf (p:=0) ⟨by omega,by omega⟩
 have l:(N6 g).length<=g.2.2.length:=List.length_filter_le _ _
 have d:=l0o hf (N6 g) (λe k=>(y09.1 k).1) (by omega) (N6 g).length 0 W0 [] (by omega) (F1 (by omega)) (by simp)
 rw[show((0:Nat):Int)=0 from rfl,List.drop_zero,List.nil_append]at d
 unfold j9
 obtain⟨a,b,c⟩:=g
 simp only at *
 unfold o02
 simp only[h,f,oB,i,j,Bool.not_true,Bool.false_eq_true,if_false,d]
theorem m0o:∀(d t:List Int),Red (d++t)=true↔Red d=true/\Red t=true/\∀ a b,d.getLast?=some a->t.head?=some b->k04 b a=false
 | [],t=>by simp[Red]
 | [a],[]=>by simp[Red]
 | [a],b::t=>by
  show(!k04 b a&&Red (b::t))=true↔_
  simp only[Bool.and_eq_true,Bool.not_eq_true']
  constructor
  ·rintro⟨e,c⟩
   refine⟨rfl,c,λk l h i=>?_⟩
   simp at h i;subst h;subst i;exact e
  ·rintro⟨_,c,f⟩
   exact⟨f a b rfl rfl,c⟩
 |x::y::d,t=>by
  have j:=m0o (y::d) t
  show(!k04 y x&&Red (y::d++t))=true↔(!k04 y x&&Red (y::d))=true/\_
  rw[Bool.and_eq_true,j,Bool.and_eq_true,List.getLast?_cons_cons]
  constructor
  ·rintro⟨e,c,f,g⟩;exact⟨⟨e,c⟩,f,g⟩
  ·rintro⟨⟨e,c⟩,f,g⟩;exact⟨e,c,f,g⟩
theorem N04{x:Int}(h:Y3 x):ng x = -x:=q0d h.1 h.2
theorem p02{x:Int}(h:Y3 x):Y3 (-x):=⟨⟨by have:=h.1.2;have:=h.2;omega,by have:=h.1.1;have:=h.2;omega⟩,by have:=h.1.2;omega⟩
theorem g07{l x:Int}(a:Y3 l)(h0:l≠0):k04 l x=true↔x = -l:=by
 unfold k04
 rw[N04 a]
 simp only[Bool.and_eq_true,Bool.not_eq_true',beq_eq_false_iff_ne,beq_iff_eq,ne_eq]
 constructor
 ·exact λh=>h.2
 ·exact λh=>⟨⟨h0,a.2⟩,h⟩
theorem n0o{w:List Int}(a:∀ x∈w,Y3 x):inv (inv w)=w:=by
 unfold inv
 rw[List.map_reverse,List.reverse_reverse,List.map_map]
 refine(List.map_congr_left λx b=>?_).trans (List.map_id w)
 have h:=a x b
 show ng (ng x)=x
 rw[N04 h,N04 (p02 h)];omega
theorem e0r(x:Int)(w:List Int):inv (x::w)=inv w ++ [ng x]:=by simp[inv]
theorem o0o{w:List Int}(a:∀ x∈w,Y3 x):∀ x∈inv w,Y3 x:=λx b=>by
 simp only[inv,List.mem_reverse,List.mem_map]at b
 obtain⟨y,c,rfl⟩:=b
 rw[N04 (a y c)];exact p02 (a y c)
theorem Q0h{s:List Int}{x y:Int}(h:y∈Q6 s x):y∈s∨y=x:=by
 cases s with
 |nil=>simp[Q6]at h;exact .inr h
 |cons l t =>
  simp only[Q6]at h
  cases c:k04 l x with
  |true=>rw[c]at h;exact .inl (mC _ h)
  |false =>
   rw[c]at h
   rcases List.mem_cons.1 h with h|h
   ·exact .inr h
   ·exact .inl h
theorem K0b:∀(w s:List Int) {y:Int},y∈o00 s w->y∈s∨y∈w
 | [],s,y,h => .inl h
 |x::w,s,y,h=>by
  rcases K0b w (Q6 s x) h with h|h
  ·rcases Q0h h with h|rfl
   ·exact .inl h
   ·exact .inr mS
  ·exact .inr (mC _ h)
theorem R0f{v:Int}{e:K0}(h:D04 v e≠0):e.1=v∨e.2.2=v:=by
 unfold D04 at h
 by_cases c1:e.1=v
 ·exact .inl c1
 ·by_cases c2:e.2.2=v
  ·exact .inr c2
  ·rw[if_neg c1,if_neg c2]at h;omega
theorem R0h{v:Int}:∀ {es:List K0},(∀ e∈es,D04 v e=0)->B00 v es=0
 | [],h=>rfl
 |e::l,h=>by
  show D04 v e+B00 v l=0
  rw[h e mS,R0h λd a=>h d (mC _ a)]
theorem n0l{v:Int}:∀ {es:List K0},(∀ e∈es,D04 v e<=1)->es.Pairwise (λa b=>D04 v a=0∨D04 v b=0)->B00 v es<=1
 | [],h,i=>Nat.zero_le _
 |e::l,h,i=>by
  show D04 v e+B00 v l<=1
  have m:=h e mS
  obtain⟨j,k⟩:=List.pairwise_cons.1 i
  have n:=n0l (λd g=>h d (mC _ g)) k
  by_cases c:D04 v e=0
  ·omega
  ·have:=R0h (v:=v) (es:=l) λd g=>by
    rcases j d g with f|f
    ·exact absurd f c
    ·exact f
   omega
theorem L8{g:l0}(hf:F0 g=true){e:K0}(a:e∈g.2.2):Q0 g e.1 e.2.1=e.2.2/\Q0 g e.2.2 (-e.2.1)=e.1:=by
 have b:=(S0 hf).1 e a
 exact⟨r04 hf (N2.2 ⟨e,a,.inl ⟨by omega,rfl,rfl,rfl⟩⟩),r04 hf (N2.2 ⟨e,a,.inr ⟨by omega,by omega,rfl,rfl⟩⟩)⟩
theorem P0m{g:l0}(hf:F0 g=true){v:Int}(y:2<=B00 v g.2.2)(z:Int):∃ x,x≠z/\0<=Q0 g v x:=by
 refine Classical.byContradiction λu=>?_
 have t:∀ x,0<=Q0 g v x->x=z:=λx h0=>Classical.byContradiction λh=>u ⟨x,h,h0⟩
 obtain⟨i,B,C,D⟩:=S0 hf
 have j:∀ e∈g.2.2,e.1=v->e.2.1=z:=λe c h=>by
  have:=(L8 hf c).1
  rw[h]at this
  exact t _ (by rw[this];exact(i e c).2.1.1)
 have k:∀ e∈g.2.2,e.2.2=v -> -e.2.1=z:=λe c h=>by
  have:=(L8 hf c).2
  rw[h]at this
  exact t _ (by rw[this];exact(i e c).1.1)
 have w:g.2.2.Pairwise λa b=>z03 a b=false:=by
  unfold F0 at hf
  simp only[Bool.and_eq_true]at hf
  exact(s09 _).1 hf.2
 have:=n0l (v:=v) (es:=g.2.2) (λe c=>by
  have A:=i e c
  unfold D04
  by_cases c1:e.1=v<;>by_cases c2:e.2.2=v
  ·have:=j e c c1;have:=k e c c2;omega
  ·rw[if_pos c1,if_neg c2];omega
  ·rw[if_neg c1,if_pos c2];omega
  ·rw[if_neg c1,if_neg c2];omega) (List.Pairwise.imp_of_mem (λ{a b} l m s=>by
  have E:=i a l
  have F:=i b m
  unfold z03 at s
  simp only[Bool.and_eq_false_iff,Bool.or_eq_false_iff,decide_eq_false_iff_not]at s
  have n:=j a l
  have o:=k a l
  have p:=j b m
  have q:=k b m
  by_cases ha0:D04 v a=0
  ·exact .inl ha0
  ·by_cases hb0:D04 v b=0
   ·exact .inr hb0
   ·exfalso
    have d:=R0f ha0
    have f:=R0f hb0
    rcases d with d|d<;>rcases f with f|f
    ·have:=n d;have:=p f;omega
    ·have:=n d;have:=q f;omega
    ·have:=o d;have:=p f;omega
    ·have:=o d;have:=q f;omega) w)
 omega
theorem f0r{g:l0}(h:J1 g=true){v:Int}(h0:0<=v)(a:v<g.2.1):v∈D3 g 0:=e07 (Q2 h) (x0p h) h0 a
theorem S0h{u x v a c b:Int}(h:stp u x v=stp a c b):(u=a/\x=c/\v=b)∨(x = -c/\u=b/\v=a):=by
 unfold stp at h
 split at h<;>split at h<;>simp only[Prod.mk.injEq]at h<;>omega
theorem D02{g:l0}{v x:Int}(h0:0<=Q0 g v x):x≠0/\∃ e∈g.2.2,e=stp v x (Q0 g v x)/\((0<x/\e.2.1=x/\e.1=v/\e.2.2=Q0 g v x)∨(x<0/\e.2.1 = -x/\e.2.2=v/\e.1=Q0 g v x)):=by
 rcases A01 g v x with⟨e,_⟩|e
 ·omega
 ·obtain⟨d,i,h⟩:=N2.1 e
  obtain⟨d0,j,k⟩:=d
  simp only at h
  rcases h with⟨a,b,c,f⟩|⟨a,b,c,f⟩
  ·refine⟨by omega,_,i,?_,.inl ⟨a,b,c,f.symm⟩⟩
   unfold stp
   rw[if_neg (by omega),←b,←c,b,c,←f]
  ·refine⟨by omega,_,i,?_,.inr ⟨a,b,c,f.symm⟩⟩
   unfold stp
   rw[if_pos a,←f,b,c]
theorem A0a{g:l0}(a:J1 g=true){v:Int}(h0:0<=v)(b:v<g.2.1):∀ x∈tw g 0 v,Y3 x/\x≠0:=λx d=>by
 have hf:=Q2 a
 obtain⟨e,f,h,i⟩:=S0 hf
 have c:=k05 hf (p:=0) ⟨by omega,by omega⟩
 have:=x09 (by omega) (c.let (f0r a h0 b) x d)
 exact⟨this.1,this.2.1⟩
theorem A0p{g:l0}(c:J1 g=true){e:K0}(d:e∈g.2.2):∀ x∈bw g e,Y3 x:=λx a=>by
 obtain⟨h,i,j,k⟩:=S0 (Q2 c)
 have b:=h e d
 unfold bw at a
 rcases List.mem_append.1 a with a|a
 ·rcases List.mem_append.1 a with a|a
  ·exact(A0a c b.1.1 b.1.2 x a).1
  ·simp at a;subst a
   exact⟨⟨by omega,by omega⟩,by omega⟩
 ·exact o0o (λy f=>(A0a c b.2.1.1 b.2.1.2 y f).1) x a
def C06(b:l0)(ws:List (List Int)):Bool:=J1 b&&ws.all λw=>S5 b (o00 [] w).reverse
theorem T0h(g:l0):∀ d k,(O08 g d k).length<=d*(T6 g.1.toNat 1).length
 |0,k=>Nat.zero_le _
 |d+1,k=>by
  have a:=G0c g (k:Int) (T6 g.1.toNat 1)
  have b:=T0h g d (k+1)
  rw[O08,List.length_append,Nat.succ_mul]
  omega
theorem o0l{g:l0}(hf:F0 g=true):(W01 g).length<=1000:=by
 obtain⟨b,c,d,e⟩:=S0 hf
 have h:=T0h g g.2.1.toNat 0
 rw[F04]at h
 unfold W01
 have a:g.2.1.toNat*(2*g.1.toNat)<=40*(2*3):=Nat.mul_le_mul (by omega) (by omega)
 omega
def b03(g:l0):Bool:=J1 g&&decide ((W01 g).length=0)
theorem K0u(n:Nat):decide (((n:Nat):Int)=0)=decide (n=0):=by
 by_cases c:n=0
 ·rw[decide_eq_true c,decide_eq_true (by omega)]
 ·rw[decide_eq_false c,decide_eq_false (by omega)]
theorem E02{g:l0}(h:J1 g=true):F0 g=true:=by
 unfold J1 at h
 simp only[Bool.and_eq_true]at h
 exact h.1
theorem p0l(g:l0)(i:g.2.2.length<=140737488355328):B9 g=some (b03 g):=by
 have d:=i9 g i
 have f:J1 g=true->K8 g=some (W01 g):=λc=>K0g (E02 c)
 have h:J1 g=true->(W01 g).length<=1000:=λc=>o0l (E02 c)
 unfold b03
 obtain⟨a,b,c⟩:=g
 unfold B9
 simp only[d,oB]
 cases e:J1 (a,b,c)with
 |false=>rfl
 |true =>
  have:=h e
  simp only[O1,f e,oB,cond_true,Bool.true_and]
  rw[I0 (by omega),oB,K0u]
theorem g0r{g:l0}(h:b03 g=true):J1 g=true:=by
 unfold b03 at h
 simp only[Bool.and_eq_true]at h
 exact h.1
def L0b(g:l0)(v:Int):List Int:=v::wo v.toNat g.2.1.toNat 0
def t0j(g:l0)(v:Int):l0:=Y9 (N5 g (L0b g v))
theorem h0r(g:Nat):∀(d k:Nat),(g:Int) ∉ wo g d k
 |0,k,h=>nomatch h
 |d+1,k,h=>by
  unfold wo at h
  split at h
  ·exact h0r g d (k+1) h
  ·rcases List.mem_cons.1 h with h|h
   ·omega
   ·exact h0r g d (k+1) h
theorem S0f(g:Nat):∀(d k j:Nat),k<=j->j<k+d->j≠g->(j:Int)∈wo g d k
 |0,k,j,b,e,a=>by omega
 |d+1,k,j,b,e,a=>by
  unfold wo
  split
  ·exact S0f g d (k+1) j (by omega) (by omega) a
  ·by_cases c:j=k
   ·rw[c];exact mS
   ·exact mC _ (S0f g d (k+1) j (by omega) (by omega) a)
theorem q0l{g:l0}(hf:F0 g=true){v:Int}(b:0<=v/\v<g.2.1):inV g.2.1.toNat (L0b g v)/\(L0b g v).Nodup/\(L0b g v).length=g.2.1.toNat:=by
 obtain⟨c,d,e,f⟩:=S0 hf
 refine⟨λx a=>?_,?_,?_⟩
 ·rcases List.mem_cons.1 a with rfl|a
  ·omega
  ·exact Q0k _ _ _ _ (by omega) x a
 ·refine List.nodup_cons.2 ⟨λh=>?_,I03 _ _ _⟩
  have:=h0r v.toNat g.2.1.toNat 0
  rw[show((v.toNat:Nat):Int)=v by omega]at this
  exact this h
 ·unfold L0b
  rw[List.length_cons,A0f,if_pos (by omega)]
  omega
theorem U0h{g:l0}(hf:F0 g=true){v:Int}(c:0<=v/\v<g.2.1):F0 (N5 g (L0b g v))=true:=by
 obtain⟨e,f,h,i⟩:=S0 hf
 obtain⟨a,b,d⟩:=q0l hf c
 exact t03 hf a b (by omega) (by omega)
theorem B0p{g:l0}(hf:F0 g=true){v:Int}(a:0<=v/\v<g.2.1):J1 (t0j g v)=true:=i04 (U0h hf a)
theorem U0s(n:Nat)(v:Int)(h0:0<=v)(i:n<=1000):∀(d k fuel:Nat) (acc:List Int),k+d=n->d<fuel->acc.length<=k+1 ->
  D8 (n:Int) v fuel (k:Int) acc=some (acc++wo v.toNat d k)
 |d,k,0,acc,b,hf,a=>by omega
 |0,k,fuel+1,acc,b,hf,a=>by
  rw[D8.eq_2,if_neg (by simp only[decide_eq_true_eq];omega)];simp[wo]
 |d+1,k,fuel+1,acc,b,hf,a=>by
  have f:=λg h=>U0s n v h0 i d (k+1) fuel g (by omega) (by omega) h
  rw[D8.eq_2,if_pos (by simp only[decide_eq_true_eq];omega),V2 (show k<10000 by omega) (by omega)]
  unfold wo
  by_cases c:k=v.toNat
  ·have e:decide ((k:Int)=v)=true:=decide_eq_true (by omega)
   rw[e,if_neg (by simp),if_pos c,f _ (by omega)]
  ·have e:decide ((k:Int)=v)=false:=decide_eq_false (by omega)
   rw[e,if_pos (show(!false)=true from rfl),if_neg c,I0 (by simp;omega),oB,f _ (by simp;omega)]
   simp
theorem V0s(n:Nat)(v:Int):∀(fuel:Nat) (k:Int) (acc:List Int),r7 (n:Int) v fuel k acc=D8 (n:Int) v fuel k acc
 |0,k,acc=>rfl
 |fuel+1,k,acc=>by
  rw[r7.eq_2,D8.eq_2]
  simp only[V0s n v fuel]
theorem Q0m{g:l0}(hf:F0 g=true){v:Int}(f:0<=v/\v<g.2.1):P8 g v=some (t0j g v,true):=by
 obtain⟨n,w,p,x⟩:=S0 hf
 obtain⟨j,s,t⟩:=q0l hf f
 have i:=A8 g (by omega)
 rw[hf]at i
 have m:=V0q (T1 hf) f
 have d:=U0s g.2.1.toNat v f.1 (by omega) g.2.1.toNat 0 W0 [v] (by omega) (F1 (by omega)) (by simp)
 rw[←V0s]at d
 have k:=K0m (U0h hf f)
 have h:=g0j g.1 g.2.1.toNat g.2.2 (L0b g v) (λe l=>by have:=n e l;omega) j (by omega) (by omega) (by omega)
 rw[show((0:Nat):Int)=0 from rfl]at d
 rw[show((g.2.1.toNat:Nat):Int)=g.2.1 by omega]at d h
 rw[show [v]++wo v.toNat g.2.1.toNat 0=L0b g v from rfl]at d
 rw[show(g.1,g.2.1,g.2.2)=g from rfl]at h
 unfold t0j
 generalize L0b g v=o at *
 generalize u:N5 g o=q at *
 obtain⟨a,b,c⟩:=g
 obtain⟨y,z,A⟩:=q
 simp only at d f p ⊢
 unfold P8
 simp only[i,oB,Bool.not_true,Bool.not_false,O1,m,cond_false]
 simp only[Bool.false_eq_true,if_false,d,oB,h,k]
theorem T08{g:l0}(h:J1 g=true):g.2.2.length<=120/\(1<=g.2.1/\g.2.1<=40)/\(1<=g.1/\g.1<=3):=by
 obtain⟨d,a,b,c⟩:=S0 (E02 h)
 exact⟨c,b,a⟩
def isS(o:Option (List Int)):Bool:=o.isSome
theorem K0t(g:l0)(a:U0 g=true)(u:Int):G4 g u=some (inR 0 (g.2.1-1) u):=by
 obtain⟨c,d,b,e⟩:=O2 a
 obtain⟨r,n,es⟩:=g
 simp only at b
 unfold G4
 simp only[Q02]
 rw[w64 (by omega) (by omega)]
 rfl
theorem p0o{g:l0}(hf:F0 g=true){w:List Int}(k:∀ x∈w,Y3 x)(j:w.length<=140737488355328):P5 g w=some (S5 g w):=by
 obtain⟨e,m,f,n⟩:=S0 hf
 have h:=c0j g e f.2 (by omega) 0 w k j
 have i:=b07 e f.2 w 0 ⟨by omega,by omega⟩
 have l:=R02 g w 0
 unfold S5
 obtain⟨a,b,c⟩:=g
 unfold P5
 simp only[h,oB]
 rw[I0 i,oB,I0 (show J0 (((A2 (a,b,c) 0 w).2:Nat):Int) from⟨by omega,by omega⟩),oB]
 by_cases d:(A2 (a,b,c) 0 w).2=w.length
 ·rw[decide_eq_true d,show decide ((((A2 (a,b,c) 0 w).2:Nat):Int)=((w.length:Nat):Int))=true from decide_eq_true (by omega)]
  simp
 ·rw[decide_eq_false d,show decide ((((A2 (a,b,c) 0 w).2:Nat):Int)=((w.length:Nat):Int))=false from decide_eq_false (by omega)]
  simp
theorem O07(w:List Int)(a:w.length<=1099511627776):F6 w=some (o00 [] w).reverse:=by
 unfold F6
 rw[s04 [w] (by simp) (by simp only[r0j];omega)]
 rfl
theorem T0f{w:List Int}(a:∀ x∈w,Y3 x):∀ x∈(o00 [] w).reverse,Y3 x:=λx b=>by
 rcases K0b w [] (List.mem_reverse.1 b)with h|h
 ·cases h
 ·exact a x h
theorem i0r{g:l0}(hf:F0 g=true)(ws:List (List Int))(i:∀ w∈ws,(∀ x∈w,Y3 x)/\w.length<=1099511627776)(j:ws.length<=1099511627776):∀(d k fuel:Nat),k+d=ws.length->d<fuel ->
  I5 ws g.1 g.2.1 g.2.2 fuel (k:Int)=some (bif(ws.drop k).all λw=>S5 g (o00 [] w).reverse then .inr ()else .inl false)
 |d,k,0,c,f=>by omega
 |0,k,fuel+1,c,f=>by
  rw[I5.eq_2,if_neg (by simp only[decide_eq_true_eq];omega),M1 (by omega)];rfl
 |d+1,k,fuel+1,c,f=>by
  have h:k<ws.length:=by omega
  have a:=c5 h
  have b:=i _ (List.mem_of_getElem? a)
  have e:=Q1 a
  generalize ws[k]=w at a b e
  have l:=M03 w []
  have m:=i0r hf ws i j d (k+1) fuel (by omega) (by omega)
  rw[I5.eq_2,if_pos (by simp only[decide_eq_true_eq];omega),B3 a,oB,O07 w b.2,oB,show(g.1,g.2.1,g.2.2)=g from rfl,p0o hf (T0f b.1) (by rw[List.length_reverse];simp only[List.length_nil]at l;omega),oB,V2 h (by omega),m,e,List.all_cons]
  cases S5 g (o00 [] w).reverse<;>rfl
theorem M0g(b:l0)(g:b.2.2.length<=140737488355328)(ws:List (List Int))(h:∀ w∈ws,(∀ x∈w,Y3 x)/\w.length<=1099511627776)(f:ws.length<=1099511627776):M7 b ws=some (C06 b ws):=by
 have e:=i9 b g
 have d:J1 b=true->_:=λc=>i0r (Q2 c) ws h f ws.length 0 W0 (by omega) (F1 (by omega))
 rw[show((0:Nat):Int)=0 from rfl,List.drop_zero]at d
 unfold C06
 obtain⟨a,b,c⟩:=b
 unfold M7
 simp only[e,oB]
 cases cb:J1 (a,b,c)with
 |false=>rfl
 |true =>
  have:=d cb
  simp only at this
  simp only[Bool.not_true,Bool.false_eq_true,if_false,this,oB,Bool.true_and]
  cases ws.all λw=>S5 (a,b,c) (o00 [] w).reverse<;>rfl
theorem j0r{g:l0}(a:J1 g=true):(∀ w∈j9 g,(∀ x∈w,Y3 x)/\w.length<=81)/\(j9 g).length<=120:=by
 obtain⟨h,i,j,k⟩:=S0 (Q2 a)
 refine⟨λw b=>?_,?_⟩
 ·unfold j9 at b
  obtain⟨e,d,rfl⟩:=List.mem_map.1 b
  refine⟨T0f (A0p a (y09.1 d).1),?_⟩
  have c:=M03 (bw g e) []
  have f:=J0t (Q2 a) e
  rw[List.length_reverse]
  simp only[List.length_nil]at c
  omega
 ·unfold j9
  rw[List.length_map]
  have:(N6 g).length<=g.2.2.length:=List.length_filter_le _ _
  omega
def t00(g:l0):l0:=J3 (L07 (J5 g).1)
theorem r0l{g:l0}(f:U0 g=true):b01 g=some (t00 g):=by
 obtain⟨m,o,p,s⟩:=O2 f
 have h:=I0g g (by omega)
 have hf:=i02 f
 obtain⟨v,d⟩:=J0m (T1 hf)
 have e:=u0d (L07 (J5 g).1) (C00 40 hf)
 unfold t00
 obtain⟨r,n,es⟩:=g
 unfold b01
 generalize J5 (r,n,es)=q at *
 obtain⟨⟨a,b,c⟩,l⟩:=q
 simp only[h,oB]
 simp only at d e
 generalize L07 (a,b,c)=q2 at *
 obtain⟨i,j,k⟩:=q2
 simp only[d,oB,e]
theorem n06{g:l0}(f:U0 g=true):A5 g=some (t00 g):=by
 obtain⟨m,o,p,s⟩:=O2 f
 have h:=a0a g (by omega)
 have hf:=i02 f
 obtain⟨v,d⟩:=y0d (T1 hf)
 have e:=K08 (L07 (J5 g).1) (C00 40 hf)
 unfold t00
 obtain⟨r,n,es⟩:=g
 unfold A5
 generalize J5 (r,n,es)=q at *
 obtain⟨⟨a,b,c⟩,l⟩:=q
 simp only[h,oB]
 simp only at d e
 generalize L07 (a,b,c)=q2 at *
 obtain⟨i,j,k⟩:=q2
 simp only[d,oB,e]
def Y2(r:Int)(ws:List (List Int)):l0×Bool:=bif O3 r ws then(t00 (Z03 ws (r,1,[])),true)else((0,0,[]),false)
theorem O05{r:Int}{ws:List (List Int)}(h:O3 r ws=true):U0 (Z03 ws (r,1,[]))=true:=by
 obtain⟨a,c,b⟩:=h05 h
 exact z0d ws (H0c a) b
theorem C0p(r:Int)(ws:List (List Int))(i:ws.length<=140737488355328)(j:V8 ws):E00 r ws=some (Y2 r ws):=by
 have d:=E0b r ws i j
 have e:O3 r ws=true->_:=λh=>r0l (O05 h)
 unfold E00 Y2
 unfold K05 at d
 cases hA:O3 r ws with
 |false=>rw[hA]at d;simp only[cond_false]at d;simp[d]
 |true =>
  rw[hA]at d
  simp only[cond_true]at d
  have f:=e hA
  generalize Z03 ws (r,1,[])=g at *
  obtain⟨a,b,c⟩:=g
  simp only[d,oB,f,Bool.not_true,Bool.false_eq_true,if_false,cond_true]
theorem N0c(r:Int)(ws:List (List Int))(i:ws.length<=140737488355328)(j:V8 ws):E8 r ws=some (Y2 r ws):=by
 have d:=q0j r ws i j
 have e:O3 r ws=true->_:=λh=>n06 (O05 h)
 unfold E8 Y2
 unfold K05 at d
 cases hA:O3 r ws with
 |false=>rw[hA]at d;simp only[cond_false]at d;simp[d]
 |true =>
  rw[hA]at d
  simp only[cond_true]at d
  have f:=e hA
  generalize Z03 ws (r,1,[])=g at *
  obtain⟨a,b,c⟩:=g
  simp only[d,oB,f,Bool.not_true,Bool.false_eq_true,if_false,cond_true]
def X07(g:l0)(ws:List (List Int)):Bool:=J1 g&&((Y2 g.1 ws).2&&l06 g (Y2 g.1 ws).1)
theorem V0h(g:l0)(h:g.2.2.length<=140737488355328)(ws:List (List Int))(i:ws.length<=140737488355328)(j:V8 ws):l5 g ws=some (X07 g ws):=by
 have e:=N0c g.1 ws i j
 have d:=i9 g h
 have f:=A0c g (Y2 g.1 ws).1 (by omega)
 unfold X07
 obtain⟨a,b,c⟩:=g
 simp only at *
 unfold l5
 generalize Y2 a ws=q at *
 obtain⟨⟨x,y,z⟩,ok⟩:=q
 cases ok<;>cases hc:J1 (a,b,c)<;>rw[hc]at d<;>simp[e,d,f,O1,G2]
theorem U08{r:Int}{g:l0}{w:List Int}(e:J1 g=true)(f:V1 r w=true):N9 g w=some (S5 g w):=by
 have hf:=Q2 e
 obtain⟨l,m,n,o⟩:=S0 hf
 obtain⟨p,k⟩:=z01 f
 have d:=O07 w (by omega)
 rw[f07 f]at d
 have h:=p0o hf (λx j=>(k x j).1) (by omega)
 have i:=i9 g (by omega)
 obtain⟨a,b,c⟩:=g
 unfold N9
 simp only[i,e,oB,O1,d,h,cond_true]
theorem U0f{r:Int}{g:l0}(a:J1 g=true)(ws:List (List Int))(b:∀ w∈ws,V1 r w=true)(c:ws.length<=1099511627776):M7 g ws=some (ws.all λw=>S5 g w):=by
 obtain⟨j,k,m,n⟩:=S0 (Q2 a)
 rw[M0g g (by omega) ws (λw h=>by
  obtain⟨o,i⟩:=z01 (b w h)
  exact⟨λx e=>(i x e).1,by omega⟩) c]
 unfold C06
 rw[a,Bool.true_and]
 have:∀ l:List (List Int),(∀ w∈l,V1 r w=true)->(l.all λw=>S5 g (o00 [] w).reverse)=l.all λw=>S5 g w:=by
  intro l
  induction l with
  |nil=>intro _;rfl
  |cons w t f =>
   intro h
   simp only[List.all_cons,f07 (h w mS),f λv d=>h v (mC _ d)]
 rw[this ws b]
def z09(g:l0)(v:Int):l0×Bool:=bif F0 g&&inR 0 (g.2.1-1) v then(t0j g v,true)else(g,false)
theorem D0d(g:l0)(i:g.2.2.length<=1099511627776)(v:Int):P8 g v=some (z09 g v):=by
 unfold z09
 cases hf:F0 g with
 |false =>
  have d:=A8 g (by omega)
  have e:=L9 g (by omega)
  rw[hf]at d
  obtain⟨a,b,c⟩:=g
  unfold P8
  simp only[d,oB,Bool.not_false,Bool.not_true,G2,cond_true,if_true,e,Bool.false_and,cond_false]
 |true =>
  cases hv:inR 0 (g.2.1-1) v with
  |true=>exact Q0m hf (by simp only[inR,Bool.and_eq_true,decide_eq_true_eq]at hv;omega)
  |false =>
   obtain⟨j,k,h,l⟩:=S0 hf
   have d:=A8 g (by omega)
   have e:=L9 g (by omega)
   have f:=K0t g (T1 hf) v
   rw[hf]at d
   rw[hv]at f
   obtain⟨a,b,c⟩:=g
   simp only at hv h
   unfold P8
   simp only[d,oB,Bool.not_false,Bool.not_true,O1,f,cond_false,if_true,e,Bool.true_and]
theorem V0f(g:l0):∀(w:List Int) (v:Int),A2 g v (w.take (A2 g v w).2)=A2 g v w
 | [],v=>rfl
 |x::w,v=>by
  have a:=V0f g w (Q0 g v x)
  by_cases c:Q0 g v x<0
  ·have e:A2 g v (x::w)=(v,0):=by rw[A2,if_pos c]
   rw[e];rfl
  ·have e:A2 g v (x::w)=((A2 g (Q0 g v x) w).1,(A2 g (Q0 g v x) w).2+1):=by rw[A2,if_neg c]
   rw[e,List.take_succ_cons,A2,if_neg c,a]
theorem M0b{g:l0}(a:inG g):∀(w:List Int) (v:Int),(0<=v/\v<g.2.1)->0<=(A2 g v w).1/\(A2 g v w).1<g.2.1
 | [],v,h=>h
 |x::w,v,h=>by
  unfold A2
  split
  ·exact h
  ·rename_i c
   have b:=Z02 a v x
   refine M0b a w _ ?_
   rcases b with e|e<;>omega
theorem O0c{b a:Int}{w:List Int}:∀ {d k:Nat},(∀ i,k<=i->i<k+d->C04 b a w i=false)->e03 b a w d k=true
 |0,k,h=>rfl
 |d+1,k,h=>by
  unfold e03
  rw[h k (Nat.le_refl _) (by omega),O0c λi c e=>h i (by omega) (by omega)]
  rfl
theorem P0c{r:Int}{w:List Int}(h:V1 r w=true)(n:Nat):V1 r (w.drop n)=true:=by
 simp only[V1,Bool.and_eq_true,decide_eq_true_eq]at h ⊢
 refine⟨⟨h.1.1,by rw[List.length_drop];omega⟩,O0c λi d c=>?_⟩
 have a:=q09 h.2 (n+i) (Nat.zero_le _) (by rw[List.length_drop]at c;omega)
 unfold C04 at a ⊢
 rw[List.getElem?_drop,List.getElem?_drop]
 cases hw:w[n+i]? with
 |none=>rw[hw]at a;exact a
 |some x =>
  rw[hw]at a
  simp only[Bool.or_eq_false_iff]at a ⊢
  refine⟨a.1,?_⟩
  cases i with
  |zero=>rfl
  |succ j =>
   have b:=a.2
   rw[show n+(j+1)-1=n+j by omega]at b
   rw[show n+(j+1-1)=n+j by omega]
   rw[show decide (0<n+(j+1))=true from decide_eq_true (by omega)]at b
   rw[show decide (0<j+1)=true from decide_eq_true (by omega)]
   exact b
def e01(g:l0)(w:List Int):l0×Bool :=
 bif J1 g&&V1 g.1 w then
  (bif decide ((A2 g 0 w).2<w.length)then
   (bif(P2 g).2 then
    (bif(N1 (P2 g).1 (A2 g 0 w).1 (w.drop (A2 g 0 w).2) g.2.1).2 then z09 (N1 (P2 g).1 (A2 g 0 w).1 (w.drop (A2 g 0 w).2) g.2.1).1 g.2.1 else((0,0,[]),false))
   else((0,0,[]),false))
  else z09 g (A2 g 0 w).1)
 else((0,0,[]),false)
theorem b05{g:l0}(h:(P2 g).2=true):P2 g=((g.1,g.2.1+1,g.2.2),true)/\g.2.1<40:=by
 unfold P2 at h ⊢
 by_cases c:g.2.1<40
 ·simp[c]
 ·simp[c]at h
theorem W0f(g:l0)(G:g.2.2.length<=140737488355328)(w:List Int)(H:w.length<=140737488355328):l4 g w=some (e01 g w):=by
 have d:=i9 g G
 have e:=x01 g.1 w H
 unfold e01
 cases hc:J1 g with
 |false =>
  rw[hc]at d
  obtain⟨a,b,c⟩:=g
  unfold l4
  simp only[d,oB,Bool.not_false,Bool.not_true,G2,cond_true,if_true,Bool.false_and,cond_false]
 |true =>
  cases hwd:V1 g.1 w with
  |false =>
   rw[hc]at d
   rw[hwd]at e
   obtain⟨a,b,c⟩:=g
   simp only at e
   unfold l4
   simp only[d,oB,Bool.not_false,Bool.not_true,O1,e,cond_false,if_true,Bool.true_and]
  |true =>
   have hf:=Q2 hc
   have t:=T1 hf
   obtain⟨j,D,l,N⟩:=S0 hf
   obtain⟨O,L⟩:=z01 hwd
   have I:∀ x∈w,Y3 x:=λx J=>(L x J).1
   have z:(0:Int)<=0/\(0:Int)<g.2.1:=⟨iR _,by omega⟩
   have p:=c0j g j l.2 (by omega) 0 w I (by omega)
   have B:=R02 g w 0
   have i:=b07 j l.2 w 0 ⟨by omega,by omega⟩
   have s:=g03 (xs:=w) (k:=(A2 g 0 w).2) B
   have E:=V07 t
   have F:=M0b j w 0 z
   have C:=D0d g (by omega) (A2 g 0 w).1
   have A:=N01 t
   have m:(P2 g).2=true->_:=λh=>B06 (g:=(P2 g).1) (u:=(A2 g 0 w).1) (v:=g.2.1) (w:=w.drop (A2 g 0 w).2) A (by rw[(b05 h).1];simp only;omega) (by rw[(b05 h).1];simp only;omega) (by rw[(b05 h).1];exact P0c hwd _)
   have M:=Q08 A (A2 g 0 w).1 (w.drop (A2 g 0 w).2) g.2.1
   have f:=D0d (N1 (P2 g).1 (A2 g 0 w).1 (w.drop (A2 g 0 w).2) g.2.1).1 (by omega) g.2.1
   rw[hc]at d
   rw[hwd]at e
   generalize A2 g 0 w=R at *
   obtain⟨v,n⟩:=R
   obtain⟨a,b,c⟩:=g
   simp only at e p i s B F C f m ⊢
   unfold l4 J00
   simp only[d,oB,Bool.not_true,Bool.not_false,O1,e,cond_false,Bool.false_eq_true,if_false,p,Bool.true_and,cond_true]
   rw[I0 i,oB,I0 (show J0 ((n:Nat):Int) from⟨by omega,by omega⟩),oB]
   by_cases c1:n<w.length
   ·rw[if_neg (by simp only[decide_eq_true_eq];omega),decide_eq_true c1,E]
    simp only[oB,cond_true]
    cases hok:(P2 (a,b,c)).2 with
    |false =>
     generalize P2 (a,b,c)=q at *
     obtain⟨⟨x,y,z⟩,ok⟩:=q
     simp only at hok
     subst hok
     simp only[Bool.not_false,if_true,oB]
     rw[I0 (show J0 0 from⟨by omega,by omega⟩)]
     rfl
    |true =>
     have o:=m hok
     generalize P2 (a,b,c)=q at *
     obtain⟨⟨x,y,z⟩,ok⟩:=q
     simp only at hok o f
     subst hok
     simp only[Bool.not_true,Bool.false_eq_true,if_false,s,oB,o,cond_true]
     generalize N1 (x,y,z) v (w.drop n) b=D at *
     obtain⟨⟨P,Q,S⟩,K⟩:=D
     cases K with
     |false =>
      simp only[Bool.not_false,if_true,oB]
      rw[I0 (show J0 0 from⟨by omega,by omega⟩)]
      rfl
     |true =>
      simp only at l
      simp only[Bool.not_true,Bool.false_eq_true,if_false,cond_true,oB]at f ⊢
      rw[I0 (show J0 b from⟨by omega,by omega⟩),oB,f];rfl
   ·rw[if_pos (by simp only[decide_eq_true_eq];omega),decide_eq_false c1]
    simp only[oB,Bool.not_true,Bool.false_eq_true,if_false,cond_false]
    rw[I0 i,oB,C];rfl
def N03(g:l0):Int:=bif J1 g then(g.2.2.length:Int)-g.2.1+1 else -1
theorem q0o(g:l0):J0 (N03 g):=by
 unfold N03
 cases hc:J1 g with
 |false=>exact⟨by rw[cond_false];omega,by rw[cond_false];omega⟩
 |true =>
  obtain⟨a,b,c,d⟩:=S0 (Q2 hc)
  exact⟨by rw[cond_true];omega,by rw[cond_true];omega⟩
theorem X0f(g:l0)(e:g.2.2.length<=140737488355328):K00 g=some (N03 g):=by
 have d:=i9 g e
 unfold N03
 cases hc:J1 g with
 |false =>
  rw[hc]at d
  obtain⟨a,b,c⟩:=g
  unfold K00
  simp only[d,oB,Bool.not_false,if_true,cond_false]
 |true =>
  obtain⟨i,j,f,h⟩:=S0 (Q2 hc)
  rw[hc]at d
  obtain⟨a,b,c⟩:=g
  simp only at f h
  unfold K00
  simp only[d,oB,Bool.not_true,Bool.false_eq_true,if_false,cond_true]
  rw[w64 (x:=((c.length:Nat):Int)-b) (by omega) (by omega),w64 (by omega) (by omega)]
def w03(g:l0):Int:=bif b03 g then g.2.1 else -1
theorem s0l(g:l0):J0 (w03 g):=by
 unfold w03
 cases hc:b03 g with
 |false=>exact⟨by rw[cond_false];omega,by rw[cond_false];omega⟩
 |true =>
  obtain⟨a,b,c,d⟩:=S0 (Q2 (g0r hc))
  exact⟨by rw[cond_true];omega,by rw[cond_true];omega⟩
theorem b0a(g:l0)(e:g.2.2.length<=140737488355328):d01 g=some (w03 g):=by
 have d:=p0l g e
 unfold w03
 obtain⟨a,b,c⟩:=g
 unfold d01
 cases hc:b03 (a,b,c)with
 |false =>
  rw[hc]at d
  simp only[d,oB,Bool.not_false,if_true,cond_false]
 |true =>
  rw[hc]at d
  simp only[d,oB,Bool.not_true,Bool.false_eq_true,if_false,cond_true]
def H04(e:K0):List K0->Nat->Option Nat
 | [],_=>none
 |x::l,k=>if e=x then some k else H04 e l (k+1)
theorem Y0f{e:K0}:∀ {l:List K0} {k i:Nat},H04 e l k=some i->i<k+l.length
 | [],k,i,h=>by cases h
 |x::l,k,i,h=>by
  unfold H04 at h
  split at h
  ·cases h;simp
  ·have:=Y0f h
   simp only[List.length_cons];omega
def sgK(x:Int)(k:Nat):Int:=if 0<x then(k:Int)+1 else -(k:Int)-1
def g0m(x v n:Int):List K0->Nat->List Int
 | [],_=>[]
 |e::l,k=>if stp v x n=e then sgK x k::g0m x v n l (k+1)else g0m x v n l (k+1)
def rwL(g:l0)(E:List K0):Int->List Int->List Int
 |_,[]=>[]
 |v,x::w=>(H04 (stp v x (Q0 g v x)) E 0).toList.map (sgK x)++rwL g E (Q0 g v x) w
theorem n0s{a:Type}(o:Option a):o.toList.length<=1:=by cases o<;>simp
theorem u0j(g:l0)(E:List K0):∀(w:List Int) (v:Int),(rwL g E v w).length<=w.length
 | [],v=>Nat.le_refl _
 |x::w,v=>by
  have a:=u0j g E w (Q0 g v x)
  have b:=n0s (H04 (stp v x (Q0 g v x)) E 0)
  unfold rwL
  simp only[List.length_append,List.length_map,List.length_cons]
  omega
theorem R0m(g:l0)(E:List K0)(b:E.length<=1000):∀(w:List Int) (v:Int),∀ y∈rwL g E v w,-1000<=y/\y<=1000
 | [],v,y,h=>by cases h
 |x::w,v,y,h=>by
  unfold rwL at h
  rcases List.mem_append.1 h with h|h
  ·obtain⟨k,a,rfl⟩:=List.mem_map.1 h
   have a:=Y0f (Option.mem_toList.1 a)
   unfold sgK
   split<;>omega
  ·exact R0m g E b w _ y h
theorem t0l(es:List K0)(e:K0)(o:es.length<=1000):∀(d k fuel:Nat),k+d=es.length->d<fuel ->
  I1 es e.1 e.2.1 e.2.2 fuel (k:Int)=some (match H04 e (es.drop k) k with|some i => .inl (i:Int)|none => .inr ())
 |d,k,0,f,hf=>by omega
 |0,k,fuel+1,f,hf=>by
  rw[I1.eq_2,if_neg (by simp only[decide_eq_true_eq];omega),M1 (by omega)];rfl
 |d+1,k,fuel+1,f,hf=>by
  have j:k<es.length:=by omega
  have a:=c5 j
  have g:=Q1 a
  generalize es[k]=b at a g
  obtain⟨l,m,n⟩:=b
  rw[I1.eq_2,if_pos (by simp only[decide_eq_true_eq];omega),B3 a,oB,g,H04]
  simp only[show(e.1,e.2.1,e.2.2)=e from rfl]
  by_cases c:e=(l,m,n)
  ·rw[if_pos ((t09 _ _).2 c),if_pos c]
  ·rw[if_neg λh=>c ((t09 _ _).1 h),if_neg c,V2 j (by omega)]
   exact t0l es e o d (k+1) fuel (by omega) (by omega)
theorem o0s(es:List K0)(e:K0)(d:es.length<=1000):M2 es e=some (match H04 e es 0 with|some i=>(i:Int)|none => -1):=by
 have h:=t0l es e d es.length 0 W0 (by omega) (F1 (by omega))
 rw[show((0:Nat):Int)=0 from rfl,List.drop_zero]at h
 obtain⟨a,b,c⟩:=e
 unfold M2
 simp only at h ⊢
 rw[h,oB]
 cases H04 (a,b,c) es 0<;>rfl
theorem W0s{g:l0}(q:F0 g=true)(w:List Int)(t:∀ x∈w,Y3 x/\x≠0)(B:w.length<=1000)(E:List K0)(m:E.length<=1000):∀(d k fuel:Nat) (v:Int) (acc:List Int),k+d=w.length->d<fuel->acc.length<=k ->
  V4 w g.1 g.2.1 g.2.2 E fuel v (k:Int) acc=some (acc++rwL g E v (w.drop k))
 |d,k,0,v,acc,o,hf,n=>by omega
 |0,k,fuel+1,v,acc,o,hf,n=>by
  rw[V4.eq_2,if_neg (by simp only[decide_eq_true_eq];omega),M1 (by omega)];simp[rwL]
 |d+1,k,fuel+1,v,acc,o,hf,n=>by
  obtain⟨D,H,F,I⟩:=S0 q
  have s:k<w.length:=by omega
  have f:=c5 s
  obtain⟨j,h0⟩:=t _ (List.mem_of_getElem? f)
  have p:=Q1 f
  generalize w[k]=x at f j h0 p
  have A:=o0s E (stp v x (Q0 g v x)) m
  have C:=n0j v x (Q0 g v x) j
  have l:=λu h=>W0s q w t B E m d (k+1) fuel (Q0 g v x) u (by omega) (by omega) h
  rw[V4.eq_2,if_pos (by simp only[decide_eq_true_eq];omega),B3 f,oB,show(g.1,g.2.1,g.2.2)=g from rfl,f02 g v x j (by omega),oB,I0 (G03 D F.2 v x),oB,C,oB,V2 s (by omega),p,rwL]
  generalize stp v x (Q0 g v x)=e at *
  obtain⟨a,b,c⟩:=e
  simp only[A]
  cases hfe:H04 (a,b,c) E 0 with
  |none =>
   simp only[oB]
   rw[I0 (show J0 (-1) from⟨by omega,by omega⟩),oB,if_neg (by simp),l acc (by omega)]
   simp
  |some i =>
   have G:=Y0f hfe
   have y:=w64 (show -9223372036854775808<=(i:Int)+1 by omega) (by omega)
   have z:IntKind.i64.wrap (IntKind.i64.wrap (0-(i:Int))-1) = -(i:Int)-1:=by
    rw[w64 (show -9223372036854775808<=0-(i:Int) by omega) (by omega),w64 (by omega) (by omega)];omega
   simp only[oB,y,z]
   rw[I0 (show J0 (i:Int) from⟨by omega,by omega⟩),oB,if_pos (by simp only[decide_eq_true_eq];omega)]
   simp only[Option.toList_some,List.map_cons,List.map_nil]
   unfold sgK
   by_cases hp:0<x
   ·rw[if_pos (by simp only[decide_eq_true_eq];omega),if_pos hp,I0 (by simp only[List.length_singleton];omega),oB,l _ (by simp only[List.length_append,List.length_singleton];omega),List.append_assoc]
   ·rw[if_neg (by simp only[decide_eq_true_eq];omega),if_neg hp,I0 (by simp only[List.length_singleton];omega),oB,l _ (by simp only[List.length_append,List.length_singleton];omega),List.append_assoc]
def P07(g:l0)(w:List Int):List Int×Bool:=bif S5 g w then((o00 [] (rwL g (N6 g) 0 w)).reverse,true)else([],false)
theorem Q0c{g:l0}(hf:F0 g=true):(N6 g).length<=120/\(N6 g).Nodup:=by
 obtain⟨b,c,d,f⟩:=S0 hf
 have a:=List.length_filter_le (λe => !decide (e∈a03 g)) g.2.2
 exact⟨by unfold N6;omega,(i05 (C02 (T1 hf))).filter _⟩
theorem k0r{g:l0}(hf:F0 g=true)(w:List Int):(P07 g w).1.length<=w.length/\∀ y∈(P07 g w).1,J0 y:=by
 have c:=u0j g (N6 g) w 0
 have a:=M03 (rwL g (N6 g) 0 w) []
 have b:=R0m g (N6 g) (by have:=(Q0c hf).1;omega) w 0
 unfold P07
 cases S5 g w with
 |false=>exact⟨Nat.zero_le _,λy h=>by cases h⟩
 |true =>
  refine⟨by simp only[cond_true,List.length_reverse,List.length_nil]at a ⊢;omega,λy h=>?_⟩
  rcases K0b _ _ (List.mem_reverse.1 h)with h|h
  ·cases h
  ·have:=b y h
   exact⟨by omega,by omega⟩
theorem l0r{g:l0}(i:J1 g=true){w:List Int}(e:V1 g.1 w=true):f01 g w=some (P07 g w):=by
 have hf:=Q2 i
 obtain⟨q,s,t,u⟩:=S0 hf
 obtain⟨v,k⟩:=z01 e
 have f:=O07 w (by omega)
 rw[f07 e]at f
 have l:=U08 (r:=g.1) i e
 have m:=k0o hf
 obtain⟨n,o⟩:=Q0c hf
 have d:=W0s hf w (λx j=>⟨(k x j).1,(k x j).2.1⟩) (by omega) (N6 g) (by omega) w.length 0 W0 0 [] (by omega) (F1 (by omega)) (by simp)
 rw[show((0:Nat):Int)=0 from rfl,List.drop_zero,List.nil_append]at d
 have p:=u0j g (N6 g) w 0
 have h:=s04 [rwL g (N6 g) 0 w] (by simp) (by simp only[r0j];omega)
 unfold P07
 obtain⟨a,b,c⟩:=g
 unfold f01
 simp only[f,l,m,d,oB]at d h ⊢
 cases S5 (a,b,c) w with
 |false=>rfl
 |true=>simp only[Bool.not_true,Bool.false_eq_true,if_false,cond_true,d,h,oB];rfl
def exO(bs:List (List Int))(k:Int):Option (List Int):=if 0<k/\k<=(bs.length:Int)then some (bs.getD (k.toNat-1) [])else if k<0 /\ -(bs.length:Int)<=k then some (inv (bs.getD ((-k).toNat-1) []))else none
def exP(bs:List (List Int))(k:Int):List Int:=(exO bs k).getD []
def E0d(bs:List (List Int))(l:List Int):List Int:=(o00 [] ((l.take 200).flatMap (exP bs))).reverse
def BOk(bs:List (List Int)):Prop:=(∀ w∈bs,(∀ x∈w,Y3 x)/\w.length<=1000)/\bs.length<=1000
theorem P05{bs:List (List Int)}{k:Nat}(h:k<bs.length):bs.getD k []∈bs:=by
 rw[List.getD_eq_getElem?_getD,List.getElem?_eq_getElem h];exact List.getElem_mem h
theorem p0s{bs:List (List Int)}(h:BOk bs){k:Int}{w:List Int}(e:exO bs k=some w):w.length<=1000/\∀ x∈w,J0 x:=by
 unfold exO at e
 split at e
 ·rename_i c
  have a:=P05 (bs:=bs) (k:=k.toNat-1) (by omega)
  simp only[Option.some.injEq]at e
  rw[←e]
  exact⟨(h.1 _ a).2,λx b=>((h.1 _ a).1 x b).1⟩
 ·split at e
  ·rename_i c
   have a:=P05 (bs:=bs) (k:=(-k).toNat-1) (by omega)
   simp only[Option.some.injEq]at e
   rw[←e]
   exact⟨by rw[F0b];exact(h.1 _ a).2,λx b=>(o0o (h.1 _ a).1 x b).1⟩
  ·cases e
theorem q0s{bs:List (List Int)}(h:BOk bs)(k:Int):(exP bs k).length<=1000/\∀ x∈exP bs k,J0 x:=by
 unfold exP
 cases e:exO bs k with
 |none=>exact⟨by simp,λx a=>by cases a⟩
 |some w=>exact p0s h e
theorem r0o{bs:List (List Int)}{k:Nat}(h:k<bs.length):gi bs (k:Int)=some (bs.getD k []):=by
 refine B3 ?_
 rw[List.getD_eq_getElem?_getD,List.getElem?_eq_getElem h];rfl
theorem P00{bs:List (List Int)}(h:BOk bs):∀ l:List Int,(l.flatMap (exP bs)).length<=1000*l.length/\∀ x∈l.flatMap (exP bs),J0 x
 | []=>⟨by simp,λx a=>by cases a⟩
 |k::r=>by
  have b:=q0s h k
  have c:=P00 h r
  rw[List.flatMap_cons]
  refine⟨by rw[List.length_append,List.length_cons];omega,λx a=>?_⟩
  rcases List.mem_append.1 a with a|a
  ·exact b.2 x a
  ·exact c.2 x a
theorem W0h:∀(ws:List (List Int)) (s:List Int),O0m s ws=o00 s ws.flatten
 | [],s=>rfl
 |w::r,s=>by rw[O0m,W0h r,List.flatten_cons,S08]
theorem Q05(bs:List (List Int)):∀ l:List Int,(l.filterMap (exO bs)).flatten=l.flatMap (exP bs)
 | []=>rfl
 |k::r=>by
  rw[List.flatMap_cons,←Q05 bs r,List.filterMap_cons]
  unfold exP
  cases exO bs k with
  |none=>rfl
  |some w=>rfl
theorem X0h:∀ ws:List (List Int),r0j ws=ws.flatten.length
 | []=>rfl
 |w::r=>by rw[r0j,X0h r,List.flatten_cons,List.length_append]
theorem m0r{bs:List (List Int)}(h:BOk bs)(l:List Int)(n:l.length<=200):∀(d k fuel:Nat) (acc:List (List Int)),k+d=l.length->d<fuel->acc.length<=k ->
  E5 l bs fuel (k:Int) acc=some (acc++(l.drop k).filterMap (exO bs))
 |d,k,0,acc,f,hf,e=>by omega
 |0,k,fuel+1,acc,f,hf,e=>by
  rw[E5.eq_2,if_neg (by simp only[decide_eq_true_eq];omega),M1 (by omega)];simp
 |d+1,k,fuel+1,acc,f,hf,e=>by
  have m:k<l.length:=by omega
  have o:=h.2
  have b:=c5 m
  have g:=Q1 b
  generalize l[k]=x at b g
  have c:=λj q=>m0r h l n d (k+1) fuel j (by omega) (by omega) q
  rw[E5.eq_2,if_pos (by simp only[decide_eq_true_eq];omega),g,List.filterMap_cons]
  simp only[B3 b,oB,V2 (show k<1000 by omega) (show(1000:Nat)<=9223372036854775807 by omega),Q02,w64 (x:=0-((bs.length:Nat):Int)) (by omega) (by omega)]
  unfold exO
  by_cases c1:0<x/\x<=(bs.length:Int)
  ·have i:=P05 (bs:=bs) (k:=x.toNat-1) (by omega)
   have a:gi bs (IntKind.i64.wrap (x-1))=some (bs.getD (x.toNat-1) []):=by
    rw[w64 (by omega) (by omega),show x-1=((x.toNat-1:Nat):Int) by omega];exact r0o (by omega)
   rw[if_pos (show inR 1 ((bs.length:Nat):Int) x=true by simp only[inR,Bool.and_eq_true,decide_eq_true_eq];omega),if_pos c1,a,oB,I0 (by simp;omega),oB,c _ (by simp;omega)]
   simp only[List.append_assoc]
   rfl
  ·rw[if_neg (show ¬ inR 1 ((bs.length:Nat):Int) x=true by simp only[inR,Bool.and_eq_true,decide_eq_true_eq];omega),if_neg c1]
   by_cases c2:x<0 /\ -(bs.length:Int)<=x
   ·have i:=P05 (bs:=bs) (k:=(-x).toNat-1) (by omega)
    have p:=(h.1 _ i).2
    have a:gi bs (IntKind.i64.wrap ((IntKind.i64.wrap (0-x))-1))=some (bs.getD ((-x).toNat-1) []):=by
     rw[w64 (x:=0-x) (by omega) (by omega),w64 (by omega) (by omega),show 0-x-1=(((-x).toNat-1:Nat):Int) by omega];exact r0o (by omega)
    rw[if_pos (show inR (0-((bs.length:Nat):Int)) (-1) x=true by simp only[inR,Bool.and_eq_true,decide_eq_true_eq];omega),if_pos c2,a,oB,j04 _ (by omega),oB,I0 (by simp;omega),oB,c _ (by simp;omega)]
    simp only[List.append_assoc]
    rfl
   ·rw[if_neg (show ¬ inR (0-((bs.length:Nat):Int)) (-1) x=true by simp only[inR,Bool.and_eq_true,decide_eq_true_eq];omega),if_neg c2,c _ (by omega)]
    rfl
theorem D0p{bs:List (List Int)}(h:BOk bs)(l:List Int):P01 bs l=some (E0d bs l):=by
 have b:(l.take 200).length<=200:=by rw[List.length_take];omega
 have a:=m0r h (l.take 200) b (l.take 200).length 0 W0 [] (by omega) (F1 (by omega)) (by simp)
 rw[show((0:Nat):Int)=0 from rfl,List.drop_zero,List.nil_append]at a
 have e:=P00 h (l.take 200)
 have d:V06 l 0 (if 200<((l.length:Nat):Int)then 200 else((l.length:Nat):Int))=some (l.take 200):=by
  by_cases c:200<((l.length:Nat):Int)
  ·rw[if_pos c];exact B0b (k:=200) (by omega)
  ·rw[if_neg c,B0b (Nat.le_refl _),List.take_of_length_le (Nat.le_refl _),List.take_of_length_le (by omega)]
 have f:((l.take 200).filterMap (exO bs)).length<=200:=Nat.le_trans (List.length_filterMap_le _ _) b
 unfold P01 E0d
 rw[d,oB,a,oB,s04 _ (by omega) (by rw[X0h,Q05];omega),W0h,Q05]
 rfl
theorem s0o(a b:List Int)(i:a.length=b.length)(g:a.length<=9223372036854775807):∀(d k fuel:Nat),k+d=a.length->d<fuel ->
  d6 a b fuel (k:Int)=some (bif eqW (a.drop k) (b.drop k)then .inr ()else .inl false)
 |d,k,0,f,hf=>by omega
 |0,k,fuel+1,f,hf=>by
  rw[d6.eq_2,if_neg (by simp;omega),M1 (by omega),M1 (by omega)]
  rfl
 |d+1,k,fuel+1,f,hf=>by
  have c:=c5 (show k<a.length by omega)
  have e:=c5 (show k<b.length by omega)
  have next:=s0o a b i g d (k+1) fuel (by omega) (by omega)
  generalize a[k]=x at c
  generalize b[k]=y at e
  rw[d6.eq_2,if_pos (by simp;omega),B3 c,oB,B3 e,oB,Q1 c,Q1 e]
  unfold eqW at next ⊢
  by_cases h:x=y
  ·rw[if_neg (by simpa using h),V2 (show k<a.length by omega) g,next]
   simp[h]
  ·rw[if_pos (by simpa using h)]
   simp[h]
theorem R0c{a b:List Int}(c:a.length<=9223372036854775807):D00 a b=some (eqW a b):=by
 unfold D00
 by_cases h:a.length=b.length
 ·rw[if_neg (by simp[h])]
  have:=s0o a b h (by omega) a.length 0 W0 (by omega) (f0f c)
  rw[show((0:Nat):Int)=0 from rfl]at this
  rw[this]
  simp only[List.drop_zero,oB]
  unfold eqW
  by_cases h2:a=b
  ·simp[h2,Q8]
  ·simp[h2,Q8]
 ·rw[if_pos (by simp;omega)]
  unfold eqW
  have : ¬ a=b:=λe=>h (by rw[e])
  simp[this]
theorem Y0h{g:l0}(h:g.2.2.length<=120)(v:Int):(z09 g v).1.2.2.length<=120:=by
 unfold z09
 cases hf:F0 g with
 |false=>simpa using h
 |true =>
  cases hv:inR 0 (g.2.1-1) v with
  |false=>simpa using h
  |true =>
   simp only[Bool.and_self,cond_true]
   exact(T08 (B0p hf (by simp only[inR,Bool.and_eq_true,decide_eq_true_eq]at hv;omega))).1
theorem u0l(g:l0)(w:List Int):(e01 g w).1.2.2.length<=120:=by
 unfold e01
 cases hc:J1 g with
 |false=>simp
 |true =>
  have a:=T1 (Q2 hc)
  have b:=(T08 hc).1
  cases V1 g.1 w with
  |false=>simp
  |true =>
   simp only[Bool.and_self,cond_true]
   cases decide ((A2 g 0 w).2<w.length)with
   |false=>simp only[cond_false];exact Y0h b _
   |true =>
    simp only[cond_true]
    cases (P2 g).2 with
    |false=>simp
    |true =>
     simp only[cond_true]
     have c:=Q08 (N01 a) (A2 g 0 w).1 (w.drop (A2 g 0 w).2) g.2.1
     cases (N1 (P2 g).1 (A2 g 0 w).1 (w.drop (A2 g 0 w).2) g.2.1).2 with
     |false=>simp
     |true=>simp only[cond_true];exact Y0h c _
def R05(k r:Int)(ws:List (List Int))(w a:List Int)(g:l0)(n:Int):Bool :=
 bif O3 r ws&&(V1 r w&&(decide (g.1=r)&&J1 g))then
  (if k=1 then X07 g ws&&eqW (E0d (j9 g) a) w
  else if k=2 then(ws.all λv=>S5 g v) && !(S5 g w)
  else if k=3 then X07 g ws&&S5 g w
  else if k=4 then(e01 g (inv w)).2&&X07 (e01 g (inv w)).1 ws
  else if k=5 then X07 g ws&&(decide (N03 g=((ws.length:Nat):Int))&&decide (n=((ws.length:Nat):Int)))
  else if k=6 then X07 g ws&&(decide (w03 g=n)&&decide (n>0))
  else false)
 else false
def Q07(c:L04):Bool:=R05 c.1 c.2.1 c.2.2.1 c.2.2.2.1 c.2.2.2.2.1 c.2.2.2.2.2.1 c.2.2.2.2.2.2
theorem r0s{bs:List (List Int)}(h:BOk bs)(l:List Int):(E0d bs l).length<=200000:=by
 have a:=P00 h (l.take 200)
 have b:=M03 ((l.take 200).flatMap (exP bs)) []
 unfold E0d
 rw[List.length_reverse]
 rw[List.length_take]at a
 simp only[List.length_nil]at b
 omega
theorem E0p{g:l0}(b:J1 g=true):BOk (j9 g):=by
 have h:=j0r b
 exact⟨λw a=>⟨(h.1 w a).1,by have:=(h.1 w a).2;omega⟩,by have:=h.2;omega⟩
theorem v0j(k r:Int)(ws:List (List Int))(w e:List Int)(g:l0)(n:Int)(h:ws.length<=140737488355328)(i:V8 ws)(m:w.length<=140737488355328)(d:g.2.2.length<=140737488355328):
  o6 (k,r,ws,w,e,g,n)=some (R05 k r ws w e g n):=by
 have u:=G08 r ws h i
 have A:=x01 r w m
 have B:=i9 g d
 have f:=V0h g d ws h i
 have D:=W0f g d (inv w) (by rw[F0b];exact m)
 have E:=V0h (e01 g (inv w)).1 (by have:=u0l g (inv w);omega) ws h i
 have F:=X0f g d
 have G:=q0o g
 have H:=b0a g d
 have I:=s0l g
 unfold R05
 obtain⟨a,b,c⟩:=g
 unfold o6
 simp only[u,oB]
 cases hA:O3 r ws with
 |false=>simp only[Bool.not_false,Bool.not_true,G2,oB,cond_true,if_true,Bool.false_and,cond_false]
 |true =>
  simp only[Bool.not_true,Bool.not_false,O1,A,oB,cond_false]
  cases hW:V1 r w with
  |false=>simp only[Bool.not_false,Bool.not_true,G2,oB,cond_true,if_true,Bool.false_and,Bool.and_false,cond_false]
  |true =>
   simp only[Bool.not_true,Bool.not_false,O1,B,oB,cond_false]
   cases hc:J1 (a,b,c)with
   |false=>simp only[Bool.not_false,cond_true,if_true,Bool.and_false,cond_false]
   |true =>
    simp only[Bool.not_true,cond_false]
    by_cases hr:a=r
    ·subst hr
     obtain⟨L,K,J⟩:=h05 hA
     have l:=E0p hc
     have o:=m0s hc
     have p:=D0p l e
     have s:=R0c (a:=E0d (j9 (a,b,c)) e) (b:=w) (by have:=r0s l e;omega)
     have t:=U0f hc ws J (by omega)
     have j:=U08 hc hW
     have C:=j04 w (by have:=(z01 hW).1;omega)
     simp only[decide_true,Bool.not_true,Bool.false_eq_true,if_false,Bool.and_self,cond_true]
     by_cases k1:k=1
     ·rw[if_pos (decide_eq_true k1),if_pos k1,f,oB]
      cases X07 (a,b,c) ws<;>simp[O1,G2,o,p,s]
     rw[if_neg (by simpa using k1),if_neg k1]
     by_cases k2:k=2
     ·rw[if_pos (decide_eq_true k2),if_pos k2,t,oB]
      cases (ws.all λv=>S5 (a,b,c) v)<;>simp[O1,G2,j]
     rw[if_neg (by simpa using k2),if_neg k2]
     by_cases k3:k=3
     ·rw[if_pos (decide_eq_true k3),if_pos k3,f,oB]
      cases X07 (a,b,c) ws<;>simp[O1,G2,j]
     rw[if_neg (by simpa using k3),if_neg k3]
     by_cases k4:k=4
     ·rw[if_pos (decide_eq_true k4),if_pos k4,C,oB,D,oB]
      generalize e01 (a,b,c) (inv w)=q at *
      obtain⟨⟨x,y,z⟩,ok⟩:=q
      cases ok<;>simp[O1,G2,E]
     rw[if_neg (by simpa using k4),if_neg k4]
     by_cases k5:k=5
     ·rw[if_pos (decide_eq_true k5),if_pos k5,f,oB]
      cases X07 (a,b,c) ws with
      |false =>
       simp only[G2,oB,cond_false,Bool.false_and]
       rw[I0 (show J0 0 from⟨by omega,by omega⟩)];rfl
      |true =>
       simp only[O1,F,oB,cond_true,Bool.true_and]
       rw[I0 G,oB]
       cases decide (N03 (a,b,c)=((ws.length:Nat):Int))<;>rfl
     rw[if_neg (by simpa using k5),if_neg k5]
     by_cases k6:k=6
     ·rw[if_pos (decide_eq_true k6),if_pos k6,f,oB]
      cases X07 (a,b,c) ws with
      |false =>
       simp only[G2,oB,cond_false,Bool.false_and]
       rw[I0 (show J0 0 from⟨by omega,by omega⟩)];rfl
      |true =>
       simp only[cond_true,Bool.true_and]
       by_cases c6:n>0
       ·simp only[decide_eq_true c6,O1,H,oB,cond_true,Bool.and_true]
        rw[I0 I,oB]
       ·simp only[decide_eq_false c6,G2,oB,cond_false,Bool.and_false]
        rw[I0 (show J0 0 from⟨by omega,by omega⟩)];rfl
     rw[if_neg (by simpa using k6),if_neg k6]
    ·simp only[decide_eq_false hr,Bool.not_false,cond_true,if_true,Bool.false_and,Bool.and_false,cond_false]
def n0r(c:L04):Prop:=c.2.2.1.length<=140737488355328/\V8 c.2.2.1/\c.2.2.2.1.length<=140737488355328/\c.2.2.2.2.2.1.2.2.length<=140737488355328
theorem h07(c:L04)(h:n0r c):o6 c=some (Q07 c):=v0j c.1 c.2.1 c.2.2.1 c.2.2.2.1 c.2.2.2.2.1 c.2.2.2.2.2.1 c.2.2.2.2.2.2 h.1 h.2.1 h.2.2.1 h.2.2.2
def Lw(w:List Int):Prop:=∀ x∈w,Y3 x/\x≠0
theorem Lw.app{a b:List Int}(h:Lw a)(k:Lw b):Lw (a++b):=λx c=>(List.mem_append.1 c).elim (h x) (k x)
theorem Lw.nil:Lw []:=λx a=>by cases a
theorem Lw.one{x:Int}(h:Y3 x)(h0:x≠0):Lw [x]:=λy a=>by rw[List.mem_singleton.1 a];exact⟨h,h0⟩
theorem Lw.nm{a:List Int}(h:Lw a):∀ x∈a,Y3 x:=λx b=>(h x b).1
theorem Lw.inv{a:List Int}(h:Lw a):Lw (inv a):=λx b=>by
 unfold Go.Proofs.YtmgikbbmpnbbjaaGreat.inv at b
 obtain⟨y,c,rfl⟩:=List.mem_map.1 (List.mem_reverse.1 b)
 have:=h y c
 rw[N04 this.1]
 exact⟨p02 this.1,by omega⟩
theorem Lw.red{a w:List Int}(b:Lw a)(c:Lw w):Lw (o00 a w):=λx d=>(K0b w a d).elim (b x) (c x)
structure Eqv (a b:List Int):Prop where
 l:Lw a
 r:Lw b
 e:∀ s,Red s=true->Lw s->o00 s a=o00 s b
theorem Eqv.refl{a:List Int}(h:Lw a):Eqv a a:=⟨h,h,λ_ _ _=>rfl⟩
theorem Eqv.symm{a b:List Int}(h:Eqv a b):Eqv b a:=⟨h.r,h.l,λd c k=>(h.e d c k).symm⟩
theorem Eqv.trans{a b c:List Int}(h:Eqv a b)(k:Eqv b c):Eqv a c:=⟨h.l,k.r,λf d n=>(h.e f d n).trans (k.e f d n)⟩
theorem Eqv.app{a b c d:List Int}(h:Eqv a b)(k:Eqv c d):Eqv (a++c) (b++d) :=
 ⟨h.l.app k.l,h.r.app k.r,λg f n=>by rw[S08,S08,h.e g f n,k.e _ (H0b _ _ f) (n.red h.r)]⟩
theorem F0p{a:List Int}(i:Red a=true)(l:Lw a){x:Int}(j:Y3 x)(h0:x≠0):Q6 (Q6 a x) (ng x)=a:=by
 have e:=N04 j
 have g:k04 x (ng x)=true:=(g07 j h0).2 e
 cases a with
 |nil =>
  show Q6 [x] (ng x) = []
  unfold Q6
  simp only[g,cond_true,if_true]
 |cons m t =>
  have b:=l m mS
  by_cases c:x = -m
  ·have d:k04 m x=true:=(g07 b.1 b.2).2 c
   have f:Q6 (m::t) x=t:=by
    unfold Q6
    simp only[d,cond_true,if_true]
   rw[f,e,c,show -(-m)=m by omega]
   cases t with
   |nil=>rfl
   |cons k r =>
    simp only[Red,Bool.and_eq_true,Bool.not_eq_true']at i
    unfold Q6
    simp only[i.1,cond_false,Bool.false_eq_true,if_false]
  ·have d:k04 m x=false:=Bool.eq_false_iff.2 λh=>c ((g07 b.1 b.2).1 h)
   have f:Q6 (m::t) x=x::m::t:=by
    unfold Q6
    simp only[d,cond_false,Bool.false_eq_true,if_false]
   rw[f]
   unfold Q6
   simp only[g,cond_true,if_true]
theorem t0o{x:Int}(a:Y3 x)(h0:x≠0):Eqv ([x] ++ [ng x]) [] :=
 ⟨(Lw.one a h0).app (by rw[N04 a];exact Lw.one (p02 a) (by omega)),Lw.nil,λd c b=>F0p c b a h0⟩
theorem w0j:∀ {a:List Int},Lw a->Eqv (a++inv a) []
 | [],h=>Eqv.refl Lw.nil
 |x::a,h=>by
  have b:=h x mS
  have d:Lw a:=λy f=>h y (mC _ f)
  have g:=w0j d
  have c:=((Eqv.refl (Lw.one b.1 b.2)).app (g.app (Eqv.refl (Lw.one (x:=ng x) (by rw[N04 b.1];exact p02 b.1) (by rw[N04 b.1];omega)))))
  rw[e0r]
  have e:x::a++(inv a ++ [ng x]) = [x]++(a++inv a ++ [ng x]):=by simp
  rw[e]
  exact c.trans (t0o b.1 b.2)
theorem Z0f{a:List Int}(h:Lw a):Eqv (inv a++a) []:=by
 have:=w0j h.inv
 rwa [n0o h.nm]at this
theorem Lw.flat{φ:Int->List Int}:∀ {l:List Int},(∀ x∈l,Lw (φ x))->Lw (l.flatMap φ)
 |l,h=>λy a=>by
  obtain⟨x,b,a⟩:=List.mem_flatMap.1 a
  exact h x b y a
theorem a0g{φ:Int->List Int}(i:∀ x,Y3 x->x≠0->Lw (φ x)/\φ (ng x)=inv (φ x)):∀(l a:List Int),Lw a->Lw l->Eqv ((o00 a l).reverse.flatMap φ) (a.reverse.flatMap φ++l.flatMap φ)
 | [],a,g,_=>by
  show Eqv (a.reverse.flatMap φ) (a.reverse.flatMap φ ++ [])
  rw[List.append_nil]
  exact Eqv.refl (Lw.flat λx f=>(i x (g x (List.mem_reverse.1 f)).1 (g x (List.mem_reverse.1 f)).2).1)
 |x::l,a,g,p=>by
  have f:=p x mS
  have q:Lw l:=λy b=>p y (mC _ b)
  have u:Lw (Q6 a x):=λy b=>(Q0h b).elim (g y) (λe=>by rw[e];exact f)
  have z:=a0g i l (Q6 a x) u q
  have hf:∀ {w:List Int},Lw w->Lw (w.flatMap φ):=λ{w} h=>Lw.flat λy b=>(i y (h y b).1 (h y b).2).1
  have s:∀ {w:List Int},Lw w->Lw w.reverse:=λ{w} h y b=>h y (List.mem_reverse.1 b)
  have A:Eqv ((Q6 a x).reverse.flatMap φ) (a.reverse.flatMap φ++φ x):=by
   cases a with
   |nil =>
    show Eqv ([x].flatMap φ) (φ x)
    simp only[List.flatMap_cons,List.flatMap_nil,List.append_nil]
    exact Eqv.refl (i x f.1 f.2).1
   |cons m t =>
    have d:=g m mS
    have v:Lw t:=λy b=>g y (mC _ b)
    by_cases c:x = -m
    ·have j:k04 m x=true:=(g07 d.1 d.2).2 c
     have k:Q6 (m::t) x=t:=by
      unfold Q6
      simp only[j,cond_true,if_true]
     rw[k,c,←N04 d.1,(i m d.1 d.2).2,List.reverse_cons,List.flatMap_append,List.append_assoc]
     simp only[List.flatMap_cons,List.flatMap_nil,List.append_nil]
     have n:=(Eqv.refl (hf (s v))).app (w0j (i m d.1 d.2).1)
     rw[List.append_nil]at n
     exact n.symm
    ·have j:k04 m x=false:=Bool.eq_false_iff.2 λh=>c ((g07 d.1 d.2).1 h)
     have k:Q6 (m::t) x=x::m::t:=by
      unfold Q6
      simp only[j,cond_false,Bool.false_eq_true,if_false]
     rw[k,List.reverse_cons,List.flatMap_append]
     simp only[List.flatMap_cons,List.flatMap_nil,List.append_nil]
     exact Eqv.refl ((hf (s g)).app (i x f.1 f.2).1)
  have o:=A.app (Eqv.refl (hf q))
  rw[List.append_assoc]at o
  rw[List.flatMap_cons]
  exact z.trans o
theorem s0s{a:List Int}(h:Lw a):Eqv (o00 [] a).reverse a:=by
 have:=a0g (φ:=λx=>[x]) (λx b h0=>⟨Lw.one b h0,rfl⟩) a [] Lw.nil h
 simpa using this
theorem t0s{bs:List (List Int)}(a:∀ w∈bs,Lw w){k:Int}(b:Y3 k):exP bs (ng k)=inv (exP bs k):=by
 rw[N04 b]
 have c:∀ n:Nat,n<bs.length->inv (inv (bs.getD n []))=bs.getD n []:=λn h=>n0o (a _ (P05 h)).nm
 unfold exP exO
 by_cases c1:0<k/\k<=(bs.length:Int)
 ·rw[if_neg (by omega),if_pos (by omega),if_pos c1,show -(-k)=k by omega];rfl
 ·by_cases c2:k<0 /\ -(bs.length:Int)<=k
  ·rw[if_pos (by omega),if_neg c1,if_pos c2]
   exact(c _ (by omega)).symm
  ·rw[if_neg (by omega),if_neg (by omega),if_neg c1,if_neg c2];rfl
theorem o0r{bs:List (List Int)}(a:∀ w∈bs,Lw w)(k:Int):Lw (exP bs k):=by
 unfold exP exO
 by_cases c1:0<k/\k<=(bs.length:Int)
 ·rw[if_pos c1];exact a _ (P05 (by omega))
 ·by_cases c2:k<0 /\ -(bs.length:Int)<=k
  ·rw[if_neg c1,if_pos c2];exact(a _ (P05 (by omega))).inv
  ·rw[if_neg c1,if_neg c2];exact Lw.nil
theorem v0l{g:l0}(b:J1 g=true){v:Int}(h0:0<=v)(a:v<g.2.1):Lw (tw g 0 v):=A0a b h0 a
theorem u0s{g:l0}(hf:F0 g=true){e:K0}(a:e∈g.2.2):Lw [e.2.1]:=by
 have b:=(S0 hf).1 e a
 have c:=(S0 hf).2.1
 exact Lw.one ⟨⟨by omega,by omega⟩,by omega⟩ (by omega)
theorem X0s{g:l0}(a:J1 g=true){e:K0}(c:e∈g.2.2):Lw (bw g e):=by
 have b:=(S0 (Q2 a)).1 e c
 exact((v0l a b.1.1 b.1.2).app (u0s (Q2 a) c)).app (v0l a b.2.1.1 b.2.1.2).inv
theorem b0g{g:l0}(a:J1 g=true):∀ w∈j9 g,Lw w:=λw c=>by
 obtain⟨e,b,rfl⟩:=List.mem_map.1 c
 exact λx d=>(Lw.nil.red (X0s a (y09.1 b).1)) x (List.mem_reverse.1 d)
theorem w0l{e:K0}:∀ {l:List K0} {k i:Nat},H04 e l k=some i->k<=i/\l[i-k]?=some e
 | [],k,i,h=>by cases h
 |x::l,k,i,h=>by
  unfold H04 at h
  split at h
  ·rename_i c
   cases h
   exact⟨Nat.le_refl _,by rw[Nat.sub_self,c];rfl⟩
  ·obtain⟨b,a⟩:=w0l h
   refine⟨by omega,?_⟩
   rw[show i-k=(i-(k+1))+1 by omega]
   exact a
theorem Z0h{e:K0}:∀ {l:List K0} {k:Nat},H04 e l k=none->e ∉ l
 | [],k,h=>by simp
 |x::l,k,h=>by
  unfold H04 at h
  split at h
  ·cases h
  ·rename_i c
   intro b
   rcases List.mem_cons.1 b with a|a
   ·exact c a
   ·exact Z0h h a
theorem v0s{g:l0}(p:J1 g=true){v x n:Int}(I:0<=v/\v<g.2.1)(t:Y3 x)(h0:x≠0)(s:Q0 g v x=n)(B:0<=n):
  Eqv (tw g 0 v ++ [x]) (((H04 (stp v x n) (N6 g) 0).toList.map (sgK x)).flatMap (exP (j9 g))++tw g 0 n):=by
 have hf:=Q2 p
 have R:n<g.2.1:=by rw[←s];rw[←s]at B;rcases Z02 (S0 hf).1 v x with e|e<;>omega
 obtain⟨_,e,P,D,_⟩:=D02 (g:=g) (v:=v) (x:=x) (by rw[s];exact B)
 rw[s]at D
 have H:stp v x n∈g.2.2:=by rw[←D];exact P
 have h:=v0l p I.1 I.2
 have f:=v0l p B R
 have d:=Lw.one t h0
 have S:Lw [-x]:=Lw.one (p02 t) (by omega)
 have back:Eqv ([-x] ++ [x]) []:=by
  have:=t0o (p02 t) (show -x≠0 by omega)
  rwa [N04 (p02 t),show -(-x)=x by omega]at this
 cases hk:H04 (stp v x n) (N6 g) 0 with
 |none =>
  have O:stp v x n∈a03 g:=by
   have:=Z0h hk
   by_cases c:stp v x n∈a03 g
   ·exact c
   ·exact absurd (y09.2 ⟨H,c⟩) this
  obtain⟨z,Y,q,X,l,W,T,C,K⟩:=(y0p hf).1 O
  show Eqv (tw g 0 v ++ [x]) ([]++tw g 0 n)
  rw[List.nil_append]
  rcases S0h K with⟨u,j,m⟩|⟨u,j,m⟩
  ·rw[u,j,m,C]
   rw[u]at h
   rw[j]at d
   exact Eqv.refl (h.app d)
  ·rw[j,m,C,show l = -x by omega,List.append_assoc]
   rw[m]at f
   have i:=(Eqv.refl f).app back
   rwa [List.append_nil]at i
 |some k =>
  obtain⟨_,A⟩:=w0l hk
  rw[Nat.sub_zero]at A
  have V:k<(N6 g).length:=(List.getElem?_eq_some_iff.1 A).1
  have G:(j9 g).getD k []=(o00 [] (bw g (stp v x n))).reverse:=by
   unfold j9
   rw[List.getD_eq_getElem?_getD,List.getElem?_map,A];rfl
  have U:(j9 g).length=(N6 g).length:=List.length_map ..
  have Q:=X0s p H
  have a:=s0s Q
  show Eqv (tw g 0 v ++ [x]) (([sgK x k]:List Int).flatMap (exP (j9 g))++tw g 0 n)
  simp only[List.flatMap_cons,List.flatMap_nil,List.append_nil]
  by_cases c:0<x
  ·have w:exP (j9 g) (sgK x k)=(o00 [] (bw g (stp v x n))).reverse:=by
    unfold sgK exP exO
    rw[if_pos c,if_pos (by omega),←G,show((k:Int)+1).toNat-1=k by omega];rfl
   rw[w]
   have y:bw g (stp v x n)=tw g 0 v ++ [x]++inv (tw g 0 n):=by
    unfold bw stp
    rw[if_neg (by omega)]
   rw[y]at a ⊢
   have i:=a.app (Eqv.refl f)
   have o:=(Eqv.refl (h.app d)).app (Z0f f)
   rw[List.append_nil,←List.append_assoc]at o
   exact(i.trans o).symm
  ·have w:exP (j9 g) (sgK x k)=inv (o00 [] (bw g (stp v x n))).reverse:=by
    unfold sgK exP exO
    rw[if_neg c,if_neg (by omega),if_pos (by omega),←G,show(-(-(k:Int)-1)).toNat-1=k by omega];rfl
   rw[w]
   have y:bw g (stp v x n)=tw g 0 n ++ [-x]++inv (tw g 0 v):=by
    unfold bw stp
    rw[if_pos (by omega)]
   rw[y]at a ⊢
   generalize (o00 [] (tw g 0 n ++ [-x]++inv (tw g 0 v))).reverse=b at a
   have J:=a.l
   have i:=a.app (Eqv.refl (h.app d))
   have o:=(Eqv.refl f).app ((Eqv.refl S).app ((Z0f h).app (Eqv.refl d)))
   have E:=(Eqv.refl f).app back
   rw[List.append_nil]at E
   have M:Eqv (b++(tw g 0 v ++ [x])) (tw g 0 n):=by
    refine i.trans ?_
    have L:tw g 0 n ++ [-x]++inv (tw g 0 v)++(tw g 0 v ++ [x])=tw g 0 n++([-x]++(inv (tw g 0 v)++tw g 0 v ++ [x])):=by simp
    rw[L]
    exact o.trans E
   have N:=(Eqv.refl J.inv).app M
   have F:=(Z0f J).app (Eqv.refl (h.app d))
   rw[List.append_assoc,List.nil_append]at F
   exact F.symm.trans N
theorem u0o{g:l0}(a:J1 g=true):∀(w:List Int) (v u:Int),0<=v->v<g.2.1->Lw w->rdw g v w=some u ->
  Eqv (tw g 0 v++w) ((rwL g (N6 g) v w).flatMap (exP (j9 g))++tw g 0 u)
 | [],v,u,h0,b,_,h=>by
  obtain rfl:=oJ h
  show Eqv (tw g 0 v ++ []) ([]++tw g 0 v)
  rw[List.append_nil,List.nil_append]
  exact Eqv.refl (v0l a h0 b)
 |x::w,v,u,h0,b,f,h=>by
  unfold rdw at h
  by_cases c:Q0 g v x<0
  ·rw[if_pos c]at h;cases h
  ·rw[if_neg c]at h
   have j:=f x mS
   have i:Lw w:=λy o=>f y (mC _ o)
   have l:Q0 g v x<g.2.1:=by rcases Z02 (S0 (Q2 a)).1 v x with e|e<;>omega
   have p:=u0o a w _ u (by omega) l i h
   have m:=v0s a ⟨h0,b⟩ j.1 j.2 (n:=Q0 g v x) rfl (by omega)
   unfold rwL
   rw[List.flatMap_append,List.append_assoc]
   have d:=m.app (Eqv.refl i)
   rw[List.append_assoc,List.append_assoc]at d
   have k:Lw (((H04 (stp v x (Q0 g v x)) (N6 g) 0).toList.map (sgK x)).flatMap (exP (j9 g))):=Lw.flat λy _=>o0r (b0g a) y
   exact d.trans ((Eqv.refl k).app p)
theorem L0t(g:l0)(E:List K0)(c:E.length<=1000):∀(w:List Int) (v:Int),Lw (rwL g E v w):=λw v x a=>by
 have b:=R0m g E c w v x a
 refine⟨⟨⟨by omega,by omega⟩,by omega⟩,?_⟩
 clear b
 induction w generalizing v with
 |nil=>cases a
 |cons y w d =>
  unfold rwL at a
  rcases List.mem_append.1 a with a|a
  ·obtain⟨k,_,rfl⟩:=List.mem_map.1 a
   unfold sgK
   split<;>omega
  ·exact d _ a
theorem M0t{g:l0}(a:J1 g=true){w:List Int}(f:V1 g.1 w=true)(h:S5 g w=true):E0d (j9 g) (P07 g w).1=w:=by
 have hf:=Q2 a
 obtain⟨o,q,s,t⟩:=S0 hf
 obtain⟨u,i⟩:=z01 f
 have k:Lw w:=λx b=>⟨(i x b).1,(i x b).2.1⟩
 have n:=(Q0c hf).1
 have l:tw g 0 0 = []:=(k05 hf (p:=0) ⟨by omega,by omega⟩).z
 have c:=u0o a w 0 0 (iR _) (by omega) k ((j05 _ _).1 h)
 rw[l,List.nil_append,List.append_nil]at c
 have d:=a0g (φ:=exP (j9 g)) (λx b h0=>⟨o0r (b0g a) x,t0s (b0g a) b⟩) (rwL g (N6 g) 0 w) [] Lw.nil (L0t g _ (by omega) w 0)
 rw[List.reverse_nil,List.flatMap_nil,List.nil_append]at d
 have j:=(d.trans c.symm).e [] rfl Lw.nil
 have m:=(k0r hf w).1
 have e:(P07 g w).1=(o00 [] (rwL g (N6 g) 0 w)).reverse:=by
  unfold P07
  rw[h];rfl
 unfold E0d
 rw[List.take_of_length_le (by omega),e,j,f07 f]
structure Iso (t c:l0) (P:Int->Int) (n:Nat):Prop where
 rank:c.1=t.1
 nt:t.2.1=(n:Int)
 nc:c.2.1=(n:Int)
 ft:F0 t=true
 fc:F0 c=true
 rng:∀ x:Int,0<=x->x<(n:Int)->0<=P x/\P x<(n:Int)
 inj:∀ x y:Int,0<=x->x<(n:Int)->0<=y->y<(n:Int)->P x=P y->x=y
 mem:∀ e',e'∈c.2.2↔∃ e∈t.2.2,e'=(P e.1,e.2.1,P e.2.2)
theorem Iso.inE{t c:l0}{P:Int->Int}{n:Nat}(a:Iso t c P n){e:K0}(b:e∈t.2.2):(0<=e.1/\e.1<(n:Int))/\(0<=e.2.2/\e.2.2<(n:Int)):=by
 have:=(S0 a.ft).1 e b
 rw[a.nt]at this
 exact⟨this.1,this.2.1⟩
theorem Iso.comp{a b c:l0}{P Q:Int->Int}{n:Nat}(d:Iso a b P n)(u:Iso b c Q n):Iso a c (λx=>Q (P x)) n where
 rank:=by rw[u.rank,d.rank]
 nt:=d.nt
 nc:=u.nc
 ft:=d.ft
 fc:=u.fc
 rng:=λx h0 g=>u.rng _ (d.rng x h0 g).1 (d.rng x h0 g).2
 inj:=λx y h0 g i j h=>d.inj x y h0 g i j (u.inj _ _ (d.rng x h0 g).1 (d.rng x h0 g).2 (d.rng y i j).1 (d.rng y i j).2 h)
 mem:=λl=>by
  rw[u.mem]
  constructor
  ·rintro⟨e,k,rfl⟩
   obtain⟨f,hf,rfl⟩:=(d.mem e).1 k
   exact⟨f,hf,rfl⟩
  ·rintro⟨f,hf,rfl⟩
   exact⟨_,(d.mem _).2 ⟨f,hf,rfl⟩,rfl⟩
theorem Iso.next{t c:l0}{P:Int->Int}{n:Nat}(d:Iso t c P n)(v x:Int)(h0:0<=v)(k:v<(n:Int)):
  (Q0 t v x = -1/\Q0 c (P v) x = -1)∨((0<=Q0 t v x/\Q0 t v x<(n:Int))/\Q0 c (P v) x=P (Q0 t v x)):=by
 rcases A01 t v x with⟨h,o⟩|h
 ·left
  refine⟨h,?_⟩
  rcases A01 c (P v) x with⟨i,q⟩|i
  ·exact i
  ·exfalso
   obtain⟨m,p,j⟩:=N2.1 i
   obtain⟨e,f,rfl⟩:=(d.mem m).1 p
   have g:=d.inE f
   have:∃ y,y∈z9 v x t.2.2:=by
    rcases j with⟨a,b,c,_⟩|⟨a,b,c,_⟩
    ·exact⟨_,N2.2 ⟨e,f,.inl ⟨a,b,d.inj _ _ g.1.1 g.1.2 h0 k c,rfl⟩⟩⟩
    ·exact⟨_,N2.2 ⟨e,f,.inr ⟨a,b,d.inj _ _ g.2.1 g.2.2 h0 k c,rfl⟩⟩⟩
   obtain⟨y,l⟩:=this
   rw[o]at l;cases l
 ·right
  generalize Q0 t v x=y at h
  obtain⟨e,f,j⟩:=N2.1 h
  have g:=d.inE f
  rcases j with⟨a,b,c,rfl⟩|⟨a,b,c,rfl⟩
  ·exact⟨g.2,r04 d.fc (N2.2 ⟨_,(d.mem _).2 ⟨e,f,rfl⟩,.inl ⟨a,b,by show P e.1=P v;rw[c],rfl⟩⟩)⟩
  ·exact⟨g.1,r04 d.fc (N2.2 ⟨_,(d.mem _).2 ⟨e,f,rfl⟩,.inr ⟨a,b,by show P e.2.2=P v;rw[c],rfl⟩⟩)⟩
theorem Iso.order{t c:l0}{P:Int->Int}{n:Nat}(g:Iso t c P n)(C:P 0=0):U2 c=(U2 t).map P:=by
 have w:∀ u:List Int,gud n u->∀ x∈u,0<=x/\x<(n:Int):=λu d x j=>by have:=d.2 x j;omega
 have H:inG (t.1,(n:Int),t.2.2):=by
  intro e E
  have:=(S0 g.ft).1 e E
  rw[g.nt]at this;exact this
 have F:(t.1,(n:Int),t.2.2)=t:=by rw[←g.nt]
 have D:∀(u:List Int) (y z:Int),gud n u->(y = -1/\z = -1)∨((0<=y/\y<(n:Int))/\z=P y)->A06 (u.map P) z=(A06 u y).map P:=λu y z d h=>by
  unfold A06
  rcases h with⟨rfl,rfl⟩|⟨⟨h0,k⟩,rfl⟩
  ·rw[if_neg (by omega),if_neg (by omega)]
  ·have p:P y∈u.map P↔y∈u:=by
    constructor
    ·intro h
     obtain⟨x,j,e⟩:=List.mem_map.1 h
     have:=w u d x j
     rw[←g.inj x y this.1 this.2 h0 k e];exact j
    ·exact λh=>List.mem_map.2 ⟨y,h,rfl⟩
   by_cases c:y∈u
   ·rw[if_neg λq=>q.2 (p.2 c),if_neg λq=>q.2 c]
   ·rw[if_pos ⟨(g.rng y h0 k).1,λq=>c (p.1 q)⟩,if_pos ⟨h0,c⟩];simp
 have A:∀(v:Int),0<=v->v<(n:Int)->∀(b u:List Int),gud n u->p01 c (P v) b (u.map P)=(p01 t v b u).map P:=λv h0 k b=>by
  induction b with
  |nil=>intro u d;rfl
  |cons x l m =>
   intro u d
   have j:Q0 t v x = -1∨(0<=Q0 t v x/\Q0 t v x<(n:Int)):=by
    rcases g.next v x h0 k with⟨a,_⟩|⟨a,_⟩
    ·exact .inl a
    ·exact .inr (by omega)
   rw[p01,p01,D u _ _ d (g.next v x h0 k),m _ (N0k d j)]
 have B:∀(f i:Nat) (u:List Int) (b:List Int),gud n u->L7 c b f i (u.map P)=(L7 t b f i u).map P:=λf=>by
  induction f with
  |zero=>intro i u b d;rfl
  |succ f m =>
   intro i u b d
   unfold L7
   rw[List.getElem?_map]
   cases e:u[i]? with
   |none=>rfl
   |some v =>
    have s:=w u d v (List.mem_of_getElem? e)
    have G:gud n (p01 t v b u):=by
     have:=g04 H v b u d
     rw[F]at this;exact this
    simp only[Option.map_some]
    rw[A v s.1 s.2 b u d]
    exact m (i+1) _ b G
 obtain⟨_,_,I,_⟩:=S0 g.ft
 have o:=B (n+1) 0 [0] (T6 t.1.toNat 1) ⟨by simp,λx j=>by simp at j;subst j;have:=g.nt;omega⟩
 rw[List.map_cons,List.map_nil,C]at o
 show L7 c (T6 c.1.toNat 1) (c.2.1.toNat+1) 0 [0]=(L7 t (T6 t.1.toNat 1) (t.2.1.toNat+1) 0 [0]).map P
 rw[g.rank,g.nc,g.nt,Int.toNat_natCast]
 exact o
theorem Iso.canon{t c:l0}{P:Int->Int}{n:Nat}(a:Iso t c P n)(m:P 0=0)(o:∀ x:Int,0<=x->x<(n:Int)->x∈U2 t):J3 c=J3 t:=by
 have k:=a.order m
 obtain⟨⟨p,h⟩,g⟩:=z02 a.ft
 obtain⟨⟨q,j⟩,_⟩:=z02 a.fc
 rw[a.nt,Int.toNat_natCast]at h
 rw[a.nc,Int.toNat_natCast]at j
 have b:∀ x:Int,0<=x->x<(n:Int)->getI (plc n (U2 c)) (P x)=getI (plc n (U2 t)) x/\0<=getI (plc n (U2 t)) x:=λx h0 g=>by
  obtain⟨i,l⟩:=List.getElem?_of_mem (o x h0 g)
  have s:(U2 c)[i]?=some (P x):=by rw[k,List.getElem?_map,l];rfl
  rw[R08 j q s,R08 h p l];omega
 unfold J3 N5
 rw[a.nt,a.nc,Int.toNat_natCast,a.rank,show(U2 c).length=(U2 t).length by rw[k,List.length_map]]
 refine congrArg (λz=>(t.1,_,z)) (G07 L3 (I00 L3 _ _ .nil) (I00 L3 _ _ .nil) λw=>?_)
 have u:pE (plc n (U2 t)) t.2.2=t.2.2.map λe=>(getI (plc n (U2 t)) e.1,e.2.1,getI (plc n (U2 t)) e.2.2):=J0f _ _ λe d=>by
  have:=a.inE d
  exact⟨(b e.1 this.1.1 this.1.2).2,(b e.2.2 this.2.1 this.2.2).2⟩
 have v:pE (plc n (U2 c)) c.2.2=c.2.2.map λe=>(getI (plc n (U2 c)) e.1,e.2.1,getI (plc n (U2 c)) e.2.2):=J0f _ _ λe d=>by
  obtain⟨f,hf,rfl⟩:=(a.mem e).1 d
  have:=a.inE hf
  rw[(b f.1 this.1.1 this.1.2).1,(b f.2.2 this.2.1 this.2.2).1]
  exact⟨(b f.1 this.1.1 this.1.2).2,(b f.2.2 this.2.1 this.2.2).2⟩
 rw[C4 L3,C4 L3,u,v]
 simp only[List.not_mem_nil,false_or,List.mem_map]
 constructor
 ·rintro⟨e,d,rfl⟩
  obtain⟨f,hf,rfl⟩:=(a.mem e).1 d
  have:=a.inE hf
  exact⟨f,hf,by rw[(b f.1 this.1.1 this.1.2).1,(b f.2.2 this.2.1 this.2.2).1]⟩
 ·rintro⟨f,hf,rfl⟩
  have:=a.inE hf
  exact⟨_,(a.mem _).2 ⟨f,hf,rfl⟩,by rw[(b f.1 this.1.1 this.1.2).1,(b f.2.2 this.2.1 this.2.2).1]⟩
theorem Iso.perm{t c:l0}{P:Int->Int}{n:Nat}(d:Iso t c P n):c.2.2.Perm (t.2.2.map λe=>(P e.1,e.2.1,P e.2.2)):=by
 have k:=i05 (C02 (T1 d.ft))
 have l:=i05 (C02 (T1 d.fc))
 have p:(t.2.2.map λe=>((P e.1,e.2.1,P e.2.2):K0)).Nodup:=by
  rw[List.Nodup,List.pairwise_map]
  refine List.Pairwise.imp_of_mem (λ{a b} m o h e=>h ?_) k
  have i:=d.inE m
  have j:=d.inE o
  simp only[Prod.mk.injEq]at e
  have f:=d.inj _ _ i.1.1 i.1.2 j.1.1 j.1.2 e.1
  have g:=d.inj _ _ i.2.1 i.2.2 j.2.1 j.2.2 e.2.2
  obtain⟨s,u,v⟩:=a
  obtain⟨w,x,f2⟩:=b
  simp only at f g e
  rw[f,g,e.2.1]
 refine(List.perm_ext_iff_of_nodup l p).2 λq=>?_
 rw[d.mem,List.mem_map]
 exact⟨λ⟨e,f,g⟩=>⟨e,f,g.symm⟩,λ⟨e,f,g⟩=>⟨e,f,g.symm⟩⟩
theorem Iso.len{t c:l0}{P:Int->Int}{n:Nat}(s:Iso t c P n):c.2.2.length=t.2.2.length:=by
 rw[s.perm.length_eq,List.length_map]
theorem Iso.rch{t c:l0}{P:Int->Int}{n:Nat}(d:Iso t c P n){a x:Int}(h:Rch t.2.2 a x):Rch c.2.2 (P a) (P x) :=
 Rch.sub (P:=λx=>Rch c.2.2 (P a) (P x)) .base (λe b=>Rch.closed (P e.1,e.2.1,P e.2.2) ((d.mem _).2 ⟨e,b,rfl⟩)) h
theorem Iso.onto{t c:l0}{P:Int->Int}{n:Nat}(g:Iso t c P n){y:Int}(h0:0<=y)(j:y<(n:Int)):∃ x:Int,(0<=x/\x<(n:Int))/\P x=y:=by
 let L:List Int:=(List.range n).map λi:Nat=>P (i:Int)
 have p:L.Nodup:=by
  rw[List.Nodup,List.pairwise_map]
  refine List.Pairwise.imp_of_mem (λ{a b} l m h e=>h ?_) List.nodup_range
  have:=g.inj _ _ (by omega) (by have:=List.mem_range.1 l;omega) (by omega) (by have:=List.mem_range.1 m;omega) e
  omega
 have q:inV n L:=λz d=>by
  obtain⟨i,f,rfl⟩:=List.mem_map.1 d
  have:=List.mem_range.1 f
  exact g.rng _ (by omega) (by omega)
 have s:y∈L:=by
  refine Classical.byContradiction λo=>?_
  have k:=n00 n (y::L) (List.nodup_cons.2 ⟨o,p⟩) λz d=>by
   rcases List.mem_cons.1 d with rfl|d
   ·exact⟨h0,j⟩
   ·exact q z d
  simp[L]at k
  omega
 obtain⟨i,f,e⟩:=List.mem_map.1 s
 have:=List.mem_range.1 f
 exact⟨_,⟨by omega,by omega⟩,e⟩
theorem Rch.tr{es:List K0}{a b c:Int}(h:Rch es a b)(k:Rch es b c):Rch es a c:=Rch.sub (P:=λx=>Rch es a x) h Rch.closed k
theorem B0a{g:l0}(h:J1 g=true):J3 g=g/\F7 g=none:=by
 unfold J1 l06 at h
 simp only[Bool.and_eq_true,decide_eq_true_eq,Option.isNone_iff_eq_none]at h
 exact⟨h.2.2,h.2.1⟩
theorem x0l{g:l0}(h:J1 g=true){v:Int}(h0:1<=v)(b:v<g.2.1):2<=B00 v g.2.2/\Rch g.2.2 0 v:=by
 have a:=w09 (B0a h).2 v.toNat (by omega) (by omega)
 unfold K07 at a
 rw[show((v.toNat:Nat):Int)=v by omega]at a
 simp only[Bool.or_eq_false_iff,Bool.not_eq_false',decide_eq_true_eq,decide_eq_false_iff_not]at a
 exact⟨by omega,(H03 _ _ _).1 a.2⟩
theorem c0g{g:l0}(h:J1 g=true){v:Int}(h0:0<=v)(a:v<g.2.1):Rch g.2.2 0 v:=by
 by_cases c:v=0
 ·rw[c];exact .base
 ·exact(x0l h (by omega) a).2
theorem d0t{a:List Int}(b:a.length<=1099511627776):I7 a=some a:=by
 unfold I7
 rw[I0 (by simp;omega)]
 rfl
theorem p0u(l:List (List Int))(i:l.length<=1099511627776)(g:∀ w∈l,w.length<=1099511627776):∀(d k fuel:Nat) (acc:List (List Int)),k+d=l.length->d<fuel->acc.length<=k ->
  H6 l fuel (k:Int) acc=some (acc++l.drop k)
 |d,k,0,acc,c,hf,b=>by omega
 |0,k,fuel+1,acc,c,hf,b=>by
  rw[H6.eq_2,if_neg (by simp only[decide_eq_true_eq];omega),M1 (by omega),List.append_nil]
 |d+1,k,fuel+1,acc,c,hf,b=>by
  have f:k<l.length:=by omega
  have a:=c5 f
  have h:=g _ (List.mem_of_getElem? a)
  have e:=Q1 a
  generalize l[k]=w at a h e
  rw[H6.eq_2,if_pos (by simp only[decide_eq_true_eq];omega),B3 a,oB,d0t h,oB,I0 (by simp only[List.length_singleton];omega),oB,V2 f (by omega),
   p0u l i g d (k+1) fuel _ (by omega) (by omega) (by simp only[List.length_append,List.length_singleton];omega),e,List.append_assoc];rfl
theorem L0u(l:List (List Int))(a:l.length<=1099511627776)(b:∀ w∈l,w.length<=1099511627776):h01 l=some l:=by
 have h:=p0u l a b l.length 0 W0 [] (by omega) (F1 (by omega)) (by simp)
 rw[show((0:Nat):Int)=0 from rfl,List.drop_zero,List.nil_append]at h
 unfold h01
 rw[I0 (by omega),oB]
 exact(congrArg (λo=>Option.bind o λy=>some y) h)
end Go.Proofs.YtmgikbbmpnbbjaaGreat
