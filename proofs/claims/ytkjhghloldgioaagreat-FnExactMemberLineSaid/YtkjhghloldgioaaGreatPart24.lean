/- Texts of the claim, joined: Plain laws: trimming and the core of a folded graph and others. -/
import Derived.Test.YtkjhghloldgioaaGreatPart23
import Derived.Test.YtkjhghloldgioaaGreatPart18
import Derived.Test.YtkjhghloldgioaaGreatPart17
import Derived.Test.YtkjhghloldgioaaGreatH36
namespace Go.Proofs.YtkjhghloldgioaaGreat
open Go.H
set_option linter.unusedVariables false
set_option linter.unusedSimpArgs false
theorem A0j(g:Nat):∀(d k:Nat) (x:Int),x∈wo g d k->∃ j:Nat,x=(j:Int)/\k<=j/\j<k+d
 |0,k,x,h=>nomatch h
 |d+1,k,x,h=>by
  unfold wo at h
  split at h
  ·obtain⟨j,a,b,c⟩:=A0j g d (k+1) x h
   exact⟨j,a,by omega,by omega⟩
  ·rcases List.mem_cons.1 h with rfl|h
   ·exact⟨k,rfl,Nat.le_refl _,by omega⟩
   ·obtain⟨j,a,b,c⟩:=A0j g d (k+1) x h
    exact⟨j,a,by omega,by omega⟩
theorem e05(g:Nat):∀(d k:Nat),(wo g d k).Nodup
 |0,k=>List.nodup_nil
 |d+1,k=>by
  unfold wo
  split
  ·exact e05 g d (k+1)
  ·refine List.nodup_cons.2 ⟨λh=>?_,e05 g d (k+1)⟩
   obtain⟨j,a,b,c⟩:=A0j g d (k+1) _ h
   omega
theorem r0g(P:List Int):∀(es:List D0),∀ e∈pE P es,∃ a∈es,e=(getI P a.1,a.2.1,getI P a.2.2)/\0<=getI P a.1/\0<=getI P a.2.2
 | [],e,h=>nomatch h
 |b::r,e,h=>by
  unfold pE at h
  cases hb:decide (0<=getI P b.1)&&decide (0<=getI P b.2.2)
  ·rw[hb]at h
   obtain⟨a,c,d⟩:=r0g P r e h
   exact⟨a,mC _ c,d⟩
  ·rw[hb]at h
   simp only[Bool.and_eq_true,decide_eq_true_eq]at hb
   rcases List.mem_cons.1 h with rfl|h
   ·exact⟨b,mS,rfl,hb.1,hb.2⟩
   ·obtain⟨a,c,d⟩:=r0g P r e h
    exact⟨a,mC _ c,d⟩
theorem r08{g:j0}{o:List Int}(f:V0 g=true)(b:inV g.2.1.toNat o)(p:1<=o.length)(q:o.length<=40):V0 (K7 g o)=true:=by
 obtain⟨k,l,t,u⟩:=Y2 f
 have s:=g0g (plc g.2.1.toNat o) g.2.2
 refine v09 l ⟨by omega,by omega⟩ (by omega) λe d=>?_
 obtain⟨a,c,rfl,i,j⟩:=r0g _ _ e d
 have h:=k a c
 have m:=(c05 b (x:=a.1) (by omega)).2
 have n:=(c05 b (x:=a.2.2) (by omega)).2
 exact⟨⟨i,m⟩,⟨j,n⟩,h.2.2⟩
theorem n0d{n:Nat}:∀(o:List Int) (k:Nat) (A:List Int),A.length=n->inV n o->o.Nodup->(∀ x,0<=x->getI A x<(k:Int))->(∀ x y,0<=x->0<=y->0<=getI A x->getI A x=getI A y->x=y) ->
  ∀ x y,0<=x->0<=y->0<=getI (s00 A k o) x->getI (s00 A k o) x=getI (s00 A k o) y->x=y
 | [],k,A,h,e,i,c,d=>d
 |v::r,k,A,h,e,i,c,d=>by
  have f:=e v mS
  refine n0d r (k+1) (A.set v.toNat (k:Int)) (by simp[h]) (λw j=>e w (mC _ j)) (List.nodup_cons.1 i).2 (λx b=>?_) (λx y b g h0 a=>?_)
  ·rw[W02 f.1 (by omega) b]
   have:=c x b
   split<;>omega
  ·rw[W02 f.1 (by omega) b]at h0 a
   rw[W02 f.1 (by omega) g]at a
   have l:=c x b
   have m:=c y g
   by_cases c1:x=v
   ·by_cases c2:y=v
    ·rw[c1,c2]
    ·rw[if_pos c1,if_neg c2]at a;omega
   ·by_cases c2:y=v
    ·rw[if_neg c1,if_pos c2]at a;omega
    ·rw[if_neg c1]at h0;rw[if_neg c1,if_neg c2]at a
     exact d x y b g h0 a
theorem P0b{n:Nat}{o:List Int}(d:inV n o)(b:o.Nodup){x y:Int}(a:0<=x)(e:0<=y)(h0:0<=getI (plc n o) x)(c:getI (plc n o) x=getI (plc n o) y):x=y:=by
 refine n0d o 0 (List.replicate n (-1)) (by simp) d b (λx a=>by rw[B06];omega) (λx y _ _ h _=>by rw[B06]at h;omega) x y a e h0 c
theorem G0n{es:List D0}(h:es.Pairwise λa b=>t03 a b=false){a b:D0}(f:a∈es)(i:b∈es)(k:a≠b):t03 a b=false:=by
 induction es with
 |nil=>cases f
 |cons c r l =>
  obtain⟨e,j⟩:=List.pairwise_cons.1 h
  rcases List.mem_cons.1 f with rfl|g
  ·rcases List.mem_cons.1 i with rfl|d
   ·exact absurd rfl k
   ·exact e b d
  ·rcases List.mem_cons.1 i with rfl|d
   ·rw[q0a];exact e a g
   ·exact l j g d
theorem O0o{es:List D0}(i:Asc N0 es)(h:∀ a∈es,∀ b∈es,a≠b->t03 a b=false):es.Pairwise λa b=>t03 a b=false:=by
 induction es with
 |nil=>exact .nil
 |cons c r k =>
  obtain⟨f,g⟩:=List.pairwise_cons.1 i
  refine List.pairwise_cons.2 ⟨λb d=>h c mS b (mC _ d) λe=>?_,k g λa j b d=>h a (mC _ j) b (mC _ d)⟩
  have:=f b d
  rw[e,I5.refl]at this;omega
theorem p07{g:j0}(c:V0 g=true):H0 g=true↔∀ a∈g.2.2,∀ b∈g.2.2,a≠b->t03 a b=false:=by
 rw[J05,w0a]
 exact⟨λh a d b e f=>G0n h.2 d e f,λh=>⟨c,O0o (graph_asc' c) h⟩⟩
where graph_asc' {g:j0} (h:V0 g=true):Asc N0 g.2.2:=((a02 g).1 h).2.2.2.2
theorem G06{g:j0}{o:List Int}(hf:H0 g=true)(j:inV g.2.1.toNat o)(m:o.Nodup)(s:1<=o.length)(t:o.length<=40):H0 (K7 g o)=true:=by
 have i:=J3 hf
 obtain⟨n,G,H,I⟩:=Y2 i
 refine(p07 (r08 i j s t)).2 λa u b v z=>?_
 have mem:∀ e∈(K7 g o).2.2,∃ a∈g.2.2,e=(getI (plc g.2.1.toNat o) a.1,a.2.1,getI (plc g.2.1.toNat o) a.2.2)/\0<=getI (plc g.2.1.toNat o) a.1/\0<=getI (plc g.2.1.toNat o) a.2.2:=λe y=>by
  rcases(Q7 I5 e _ _).1 y with h|h
  ·cases h
  ·exact r0g _ _ e h
 obtain⟨d,k,rfl,C,D⟩:=mem a u
 obtain⟨f,l,rfl,E,F⟩:=mem b v
 have A:d≠f:=λe=>z (by rw[e])
 have c:=(p07 i).1 hf d k f l A
 have p:=n d k
 have q:=n f l
 unfold t03 at c ⊢
 simp only[Bool.and_eq_false_iff,Bool.or_eq_false_iff,decide_eq_false_iff_not]at c ⊢
 rcases c with c|⟨w,x⟩
 ·exact .inl c
 ·exact .inr ⟨λe=>w (P0b j m p.1.1 q.1.1 C e),λe=>x (P0b j m p.2.1.1 q.2.1.1 D e)⟩
def e02:Nat->j0->j0
 |0,g=>g
 |d+1,g=>match o8 g with
  |none=>g
  |some k=>e02 d (K7 g (wo k g.2.1.toNat 0))
theorem Q0b{g:j0}{k:Nat}(h:o8 g=some k):1<=k/\k<g.2.1.toNat:=by
 have:=C06 _ _ _ h
 omega
theorem q07{g:j0}(b:V0 g=true){k:Nat}(h:o8 g=some k):inV g.2.1.toNat (wo k g.2.1.toNat 0)/\(wo k g.2.1.toNat 0).length=g.2.1.toNat-1/\1<=(wo k g.2.1.toNat 0).length/\(wo k g.2.1.toNat 0).length<=40:=by
 obtain⟨d,e,f,i⟩:=Y2 b
 have c:=Q0b h
 have a:=k0g k g.2.1.toNat 0
 rw[if_pos (by omega)]at a
 exact⟨O0k k _ _ 0 (by omega),a,by omega,by omega⟩
theorem t02:∀(d:Nat) {g:j0},H0 g=true->H0 (e02 d g)=true
 |0,g,h=>h
 |d+1,g,h=>by
  unfold e02
  cases e:o8 g with
  |none=>exact h
  |some k =>
   obtain⟨a,f,b,c⟩:=q07 (J3 h) e
   exact t02 d (G06 h a (e05 _ _ _) b c)
theorem o0d(n g:Nat)(i:n<=1000)(u:List Int)(j:u.length=n):∀(d k fuel:Nat) (acc a:List Int),k+d=n->d<fuel->acc.length<=k->a.length<=k ->
  ∃ v,i5 (n:Int) (g:Int) u fuel (k:Int) acc a=some (acc++wo g d k,v)/\v.length+acc.length=a.length+(acc++wo g d k).length
 |d,k,0,acc,a,h,hf,b,f=>by omega
 |0,k,fuel+1,acc,a,h,hf,b,f=>by
  rw[i5.eq_2,if_neg (by simp;omega)];exact⟨a,by simp[wo],by simp[wo]⟩
 |d+1,k,fuel+1,acc,a,h,hf,b,f=>by
  have l:=a5 (show k<u.length by omega)
  generalize u[k]=x at l
  rw[i5.eq_2,if_pos (by simp;omega),V1 (show k<10000 by omega) (by omega)]
  unfold wo
  by_cases c:k=g
  ·have e:decide ((k:Int)=(g:Int))=true:=decide_eq_true (by omega)
   rw[e,if_neg (by simp),if_pos c]
   exact o0d n g i u j d (k+1) fuel acc a (by omega) (by omega) (by omega) (by omega)
  ·have e:decide ((k:Int)=(g:Int))=false:=decide_eq_false (by omega)
   rw[e,if_pos (show(!false)=true from rfl),if_neg c,B0 (by simp;omega),oB,U1 l,oB,B0 (by simp;omega),oB]
   obtain⟨v,m,o⟩:=o0d n g i u j d (k+1) fuel (acc ++ [(k:Int)]) (a ++ [x]) (by omega) (by omega) (by simp;omega) (by simp;omega)
   refine⟨v,by rw[m];simp,?_⟩
   simp only[List.length_append,List.length_cons,List.length_nil]at o ⊢
   omega
theorem b0i(g:j0)(a:V0 g=true):∀(d k fuel:Nat) (acc:List Int),k+d=g.2.1.toNat->d<fuel->acc.length=k ->
  ∃ u,O5 g.2.1 g.1 g.2.2 fuel (k:Int) acc=some u/\u.length=g.2.1.toNat
 |d,k,0,acc,c,hf,b=>by omega
 |0,k,fuel+1,acc,c,hf,b=>by
  obtain⟨h,i,j,l⟩:=Y2 a
  rw[O5.eq_2,show decide (((k:Nat):Int)<g.2.1)=false by simp;omega]
  exact⟨acc,by simp[chk],by omega⟩
 |d+1,k,fuel+1,acc,c,hf,b=>by
  obtain⟨h,i,j,l⟩:=Y2 a
  obtain⟨u,e,f⟩:=b0i g a d (k+1) fuel (acc ++ [(k:Int)]) (by omega) (by omega) (by simp;omega)
  rw[O5.eq_2,show decide (((k:Nat):Int)<g.2.1)=true by simp;omega,L1,show(g.1,g.2.1,g.2.2)=g from rfl,p7 g (by omega),oB,a]
  rw[if_pos (show(bif true then true else false)=true from rfl),B0 (by simp;omega),oB,V1 (show k<1000 by omega) (by omega),e]
  exact⟨u,rfl,f⟩
theorem c0i(f:j0)(n:V0 f=true):∀(d k fuel:Nat) (g:j0) (u:List Int),k+d=40->d<fuel->V0 g=true->u.length=g.2.1.toNat->g.2.1.toNat<=d+1 ->
  ∃ v,(N5 f.1 f.2.1 f.2.2 fuel u (k:Int) g.1 g.2.1 g.2.2).bind (λX=>V7 X (λx=>match x with|(a,b,c,e)=>some ((b,c,e),a)))=some (e02 d g,v)
 |d,k,0,g,u,q,hf,h,w,s=>by omega
 |0,k,fuel+1,g,u,q,hf,h,w,s=>by
  rw[N5.eq_2,show decide (((k:Nat):Int)<40)=false by simp;omega]
  exact⟨u,by simp[chk,V7,e02]⟩
 |d+1,k,fuel+1,g,u,q,hf,h,w,s=>by
  obtain⟨H,I,J,K⟩:=Y2 n
  obtain⟨L,M,O,P⟩:=Y2 h
  have C:=C0n g h
  rw[N5.eq_2,show decide (((k:Nat):Int)<40)=true by simp;omega,L1,show(f.1,f.2.1,f.2.2)=f from rfl,p7 f (by omega),oB,n]
  rw[if_pos (show(bif true then true else false)=true from rfl),show(g.1,g.2.1,g.2.2)=g from rfl,C]
  unfold e02
  cases e:o8 g with
  |none =>
   simp only[oB]
   rw[B0 (show J0 (-1) from⟨by omega,by omega⟩),oB,if_pos (by simp)]
   exact⟨u,rfl⟩
  |some j =>
   obtain⟨o,y,m,A⟩:=q07 h e
   have G:=Q0b e
   obtain⟨N,l⟩:∃ N:Nat,g.2.1=(N:Int):=⟨g.2.1.toNat,by omega⟩
   have i:g.2.1.toNat=N:=by omega
   obtain⟨v,E,F⟩:=o0d N j (by omega) u (by omega) N 0 P0 [] [] (by omega) (j1 (by omega)) (Nat.le_refl _) (Nat.le_refl _)
   have t:=e0d g.1 N g.2.2 (wo j N 0) (by rw[←l];exact h) (by rw[←i];exact o) (e05 _ _ _) (by rw[←i];exact m) (by rw[←i];omega)
   rw[←l,show(g.1,g.2.1,g.2.2)=g from rfl]at t
   have p:=r08 h o m A
   rw[i]at p y m
   obtain⟨D,z⟩:=c0i f n d (k+1) fuel (K7 g (wo j N 0)) v (by omega) (by omega) p (by simp only[List.nil_append,List.length_nil]at F;show v.length=((wo j N 0).length:Int).toNat;omega) (by show((wo j N 0).length:Int).toNat<=d+1;omega)
   simp only[oB]
   rw[B0 (show J0 ((j:Nat):Int) from⟨by omega,by omega⟩),oB,if_neg (by simp),l,show(0:Int)=((0:Nat):Int) from rfl,E]
   simp only[oB,List.nil_append]
   rw[←l,t]
   simp only[oB]
   rw[V1 (show k<1000 by omega) (by omega),i]
   exact⟨D,z⟩
def H06(g:j0):j0:=e02 40 g
theorem B0j{g:j0}(a:V0 g=true):∃ v,W9 g=some (H06 g,v):=by
 obtain⟨f,h,i,j⟩:=Y2 a
 have e:=W00 g (by omega)
 obtain⟨u,b,d⟩:=b0i g a g.2.1.toNat 0 P0 [] (by omega) (j1 (by omega)) rfl
 obtain⟨v,c⟩:=c0i g a 40 0 P0 g u rfl (j1 (by omega)) a d (by omega)
 refine⟨v,?_⟩
 obtain⟨r,n,es⟩:=g
 unfold W9
 simp only[e,oB]
 simp only at b c
 rw[show(0:Int)=((0:Nat):Int) from rfl,b,oB]
 exact c
theorem d0i:∀(n fuel d:Nat) (left:List Int) (r:Int) (es:List D0),1<=n->n<=40->inN n es->es.length<=120->left.length=n->n<fuel->n<=d+1 ->
  ∃ i,d5 fuel left r (n:Int) es=some (.inl (e02 d (r,(n:Int),es),i))
 |n,0,d,left,r,es,j,l,b,C,D,hf,A=>by omega
 |n,fuel+1,d,left,r,es,j,l,b,C,D,hf,A=>by
  obtain⟨c,x,H,y⟩:=J0h r n es b (by omega) j (by omega)
  have t:=j0g r n es (by omega) c H l (n-1) 1 P0 (Nat.le_refl _) (by omega) (by omega) (j1 (by omega))
  have z:lf (λv=>decide (B01 (v:Int) es<2) || !S8 c (v:Int)) (n-1) 1=lf (p08 es) (n-1) 1:=i0d _ _ λk J K=>by
   unfold p08
   have:=y (k:Int) (by omega) (by omega)
   have m:=I05 es 0 (k:Int)
   congr 2
   cases hb:S8 c (k:Int)
   ·symm;exact decide_eq_false λh=>by rw[this.2 (m.1 h)]at hb;cases hb
   ·symm;exact decide_eq_true (m.2 (this.1 hb))
  rw[z]at t
  have o:o8 (r,(n:Int),es)=lf (p08 es) (n-1) 1:=by simp only[o8,Int.toNat_natCast]
  rw[d5.eq_2,x,oB,show(1:Int)=((1:Nat):Int) from rfl,t,oB]
  cases hlf:lf (p08 es) (n-1) 1 with
  |none =>
   have e:e02 d (r,(n:Int),es)=(r,(n:Int),es):=by
    cases d with
    |zero=>rfl
    |succ d=>unfold e02;rw[o,hlf]
   rw[e]
   exact⟨left,by rw[if_pos (by rfl)]⟩
  |some k =>
   have I:=C06 _ _ _ hlf
   have w:decide ((k:Int)=0)=false:=decide_eq_false (by omega)
   have p:=O0k k n n 0 (by omega)
   have g:=k0g k n 0
   rw[if_pos (by omega)]at g
   have s:=l0g n k (by omega) n 0 P0 [] (by omega) (j1 (by omega)) (Nat.le_refl _)
   rw[show((0:Nat):Int)=0 from rfl,List.nil_append]at s
   have E:=u0j r n es (wo k n 0) b p (by omega) (by omega) (by omega)
   have F:=o08 (r,(n:Int),es) (wo k n 0)
   have q:=Y0e (r:=r) p b
   have G:IntKind.i64.wrap ((k:Int)+((1:Nat):Int))=((k+1:Nat):Int):=by rw[w64 (by omega) (by omega)];rfl
   obtain⟨a,rfl⟩:∃ a,d=a+1:=⟨d-1,by omega⟩
   have f:K7 (r,(n:Int),es) (wo k n 0)=(r,((n-1:Nat):Int),(K7 (r,(n:Int),es) (wo k n 0)).2.2):=by rw[←g];rfl
   obtain⟨i,u⟩:=d0i (n-1) fuel a (left.take k++left.drop (k+1)) r (K7 (r,(n:Int),es) (wo k n 0)).2.2 (by omega) (by omega) (by rw[g]at q;exact q) (by simp only at F;omega) (by simp only[List.length_append,List.length_take,List.length_drop];omega) (by omega) (by omega)
   refine⟨i,?_⟩
   rw[←f]at u
   have e:e02 (a+1) (r,(n:Int),es)=e02 a (K7 (r,(n:Int),es) (wo k n 0)):=by
    show(match o8 (r,(n:Int),es)with|none=>(r,(n:Int),es)|some k=>e02 a (K7 (r,(n:Int),es) (wo k ((n:Int)).toNat 0)))=_
    rw[o,hlf,Int.toNat_natCast]
   rw[e]
   simp only[w,Bool.false_eq_true,if_false,s,oB,E]
   generalize K7 (r,(n:Int),es) (wo k n 0)=gp at *
   rw[f]
   simp only[G]
   rw[j0d (by omega),oB,S01 (by omega),oB,B0 (by simp only[List.length_take,List.length_drop];omega),oB,u,←f]
theorem e0i{g:j0}(f:V0 g=true):∃ v,U6 g=some (H06 g,v):=by
 obtain⟨b,i,j,c⟩:=Y2 f
 have m:=K9 g (by omega)
 have k:=X00 g (by omega)
 obtain⟨r,n,es⟩:=g
 simp only at i j c
 obtain⟨N,rfl⟩:∃ N:Nat,n=(N:Int):=⟨n.toNat,by omega⟩
 have l:inN N es:=λe d=>⟨(b e d).1,(b e d).2.1⟩
 obtain⟨u,a,h⟩:=m0g N (by omega) N 0 P0 [] (by omega) (j1 (by omega)) rfl
 obtain⟨o,p⟩:=d0i N P0 40 u r es (by omega) (by omega) l c h (j1 (by omega)) (by omega)
 refine⟨o,?_⟩
 unfold U6
 rw[show((0:Nat):Int)=0 from rfl]at a
 simp only[k,oB,m,f,Bool.not_true,Bool.false_eq_true,if_false,a,p,V7]
 rfl
def I06(g:j0):j0:=U2 (H06 g)
theorem s0g{g:j0}(hf:H0 g=true):T8 g=(g,[]):=by
 obtain⟨a,b⟩:=(J05 g).1 hf
 unfold T8
 rw[a]
 show I00 40 g=_
 unfold I00
 rw[b]
theorem s08:∀(d:Nat) {g:j0},V0 g=true->g.2.1.toNat<=d+1->o8 (e02 d g)=none
 |0,g,a,h=>by
  cases e:o8 g with
  |none=>exact e
  |some k=>have:=Q0b e;omega
 |d+1,g,a,h=>by
  unfold e02
  cases e:o8 g with
  |none=>exact e
  |some k =>
   obtain⟨b,i,c,f⟩:=q07 a e
   exact s08 d (r08 a b c f) (by show(((wo k g.2.1.toNat 0).length:Nat):Int).toNat<=d+1;omega)
theorem X0l{g:j0}(hf:H0 g=true){v x y z:Int}(q:y∈F8 v x g.2.2)(s:z∈F8 v x g.2.2):y=z:=by
 obtain⟨e,o,l⟩:=n3.1 q
 obtain⟨k,p,m⟩:=n3.1 s
 by_cases hne:e=k
 ·subst hne
  rcases l with⟨a,b,c,rfl⟩|⟨a,b,c,rfl⟩<;>rcases m with⟨h,i,j,rfl⟩|⟨h,i,j,rfl⟩<;>first|rfl|omega
 ·have f:=(p07 (J3 hf)).1 hf e o k p hne
  unfold t03 at f
  simp only[Bool.and_eq_false_iff,Bool.or_eq_false_iff,decide_eq_false_iff_not]at f
  rcases l with⟨a,b,c,d⟩|⟨a,b,c,d⟩<;>rcases m with⟨h,i,j,n⟩|⟨h,i,j,n⟩<;>first|omega|(exfalso;rcases f with f|⟨t,u⟩<;>omega)
theorem X03(g:j0)(v x:Int):(O0 g v x = -1/\F8 v x g.2.2 = [])∨O0 g v x∈F8 v x g.2.2:=by
 unfold O0
 cases e:J01 g v x with
 |nil =>
  left
  refine⟨rfl,List.eq_nil_iff_forall_not_mem.2 λy b=>?_⟩
  have:y∈J01 g v x:=(Q7 x01 y _ _).2 (.inr b)
  rw[e]at this;cases this
 |cons a l=>exact .inr (P0e (by rw[e];exact mS))
theorem s04{g:j0}(hf:H0 g=true){v x y:Int}(a:y∈F8 v x g.2.2):O0 g v x=y:=by
 rcases X03 g v x with⟨_,h⟩|h
 ·rw[h]at a;cases a
 ·exact X0l hf h a
theorem p0d:∀(d i j:Nat),i<=j->j<i+d->(j:Int)∈j6 d i /\ -(j:Int)∈j6 d i
 |0,i,j,e,f=>by omega
 |d+1,i,j,e,f=>by
  simp only[j6,List.mem_cons]
  by_cases c:j=i
  ·subst c;simp
  ·obtain⟨a,b⟩:=p0d d (i+1) j (by omega) (by omega)
   exact⟨.inr (.inr a),.inr (.inr b)⟩
theorem f0f(g:j0)(v:Int):∀(b u:List Int) (x:Int),x∈b->0<=O0 g v x->O0 g v x∈D01 g v b u
 |y::r,u,x,a,h0=>by
  rw[D01]
  rcases List.mem_cons.1 a with rfl|a
  ·obtain⟨t,e⟩:=Z01 g v r (U05 u (O0 g v x))
   rw[e]
   refine List.mem_append_left _ ?_
   unfold U05
   split
   ·exact List.mem_append_right _ (List.mem_singleton.2 rfl)
   ·rename_i h
    by_cases hm:O0 g v x∈u
    ·exact hm
    ·exact absurd ⟨h0,hm⟩ h
  ·exact f0f g v r _ x a h0
theorem t08(g:j0)(a:List Int):∀(f i:Nat) (u:List Int),∃ t,n8 g a f i u=u++t
 |0,i,u=>⟨[],by simp[n8]⟩
 |f+1,i,u=>by
  unfold n8
  split
  ·rename_i v _
   obtain⟨d,b⟩:=Z01 g v a u
   obtain⟨e,c⟩:=t08 g a f (i+1) (D01 g v a u)
   exact⟨d++e,by rw[c,b,List.append_assoc]⟩
  ·exact⟨[],by simp⟩
theorem q0d{r:Int}{n:Nat}{es:List D0}(m:inG (r,(n:Int),es))(a:List Int):∀(f i:Nat) (u:List Int),gud n u->n+1<=f+i->i<=u.length ->
  (∀ j,j<i->∀ v,u[j]?=some v->∀ x∈a,0<=O0 (r,(n:Int),es) v x->O0 (r,(n:Int),es) v x∈u) ->
  ∀ v∈n8 (r,(n:Int),es) a f i u,∀ x∈a,0<=O0 (r,(n:Int),es) v x->O0 (r,(n:Int),es) v x∈n8 (r,(n:Int),es) a f i u
 |0,i,u,g,q,o,k=>by have:=o9 n u g.1 g.2;omega
 |f+1,i,u,g,q,o,k=>by
  unfold n8
  cases e:u[i]? with
  |none =>
   have:i=u.length:=by have:=List.getElem?_eq_none_iff.1 e;omega
   show ∀ v∈u,∀ x∈a,0<=O0 (r,(n:Int),es) v x->O0 (r,(n:Int),es) v x∈u
   intro v b x h h0
   obtain⟨j,l⟩:=List.getElem?_of_mem b
   exact k j (by have:=(List.getElem?_eq_some_iff.1 l).1;omega) v l x h h0
  |some w =>
   have p:=(List.getElem?_eq_some_iff.1 e).1
   obtain⟨t,d⟩:=Z01 (r,(n:Int),es) w a u
   refine q0d m a f (i+1) _ (y03 m w a u g) (by omega) (by rw[d,List.length_append];omega) λj l v b x h h0=>?_
   by_cases c:j=i
   ·subst c
    rw[d,List.getElem?_append_left p,e]at b
    cases b
    exact f0f _ _ a u x h h0
   ·rw[d,List.getElem?_append_left (by omega)]at b
    rw[d]
    exact List.mem_append_left _ (k j (by omega) v b x h h0)
theorem u08(g:j0):∃ t,o5 g=0::t:=by
 obtain⟨t,e⟩:=t08 g (j6 g.1.toNat 1) (g.2.1.toNat+1) 0 [0]
 exact⟨t,e⟩
theorem f0i{g:j0}(hf:H0 g=true){x:Int}(h:Rch g.2.2 0 x):x∈o5 g:=by
 obtain⟨l,q,s,w⟩:=W0 hf
 have m:=u08 g
 have c:∀ v∈o5 g,∀ x∈j6 g.1.toNat 1,0<=O0 g v x->O0 g v x∈o5 g:=by
  obtain⟨r,n,es⟩:=g
  simp only at q s
  obtain⟨N,rfl⟩:∃ N:Nat,n=(N:Int):=⟨n.toNat,by omega⟩
  exact q0d l _ (((N:Int)).toNat+1) 0 [0] ⟨by simp,λx f=>by simp at f;subst f;omega⟩ (by simp only[Int.toNat_natCast];omega) (Nat.zero_le _) (λj d=>by omega)
 refine Rch.sub (P:=λx=>x∈o5 g) ?_ (λe b=>?_) h
 ·obtain⟨t,e⟩:=m
  rw[e];exact mS
 ·have u:=l e b
  obtain⟨j,d⟩:∃ j:Nat,e.2.1=(j:Int):=⟨e.2.1.toNat,by omega⟩
  obtain⟨o,p⟩:=p0d g.1.toNat 1 j (by omega) (by omega)
  have i:O0 g e.1 (j:Int)=e.2.2:=s04 hf (n3.2 ⟨e,b,.inl ⟨by omega,d,rfl,rfl⟩⟩)
  have k:O0 g e.2.2 (-(j:Int))=e.1:=s04 hf (n3.2 ⟨e,b,.inr ⟨by omega,by omega,rfl,rfl⟩⟩)
  constructor
  ·intro a
   have:=c e.1 a (j:Int) o (by rw[i];omega)
   rwa [i]at this
  ·intro a
   have:=c e.2.2 a (-(j:Int)) p (by rw[k];omega)
   rwa [k]at this
theorem R0b{a:Nat->Bool}:∀ {d v:Nat},lf a d v=none->∀ k,v<=k->k<v+d->a k=false
 |0,v,h,k,b,e=>by omega
 |d+1,v,h,k,b,e=>by
  unfold lf at h
  cases hb:a v with
  |true=>rw[hb]at h;cases h
  |false =>
   rw[hb]at h
   by_cases c:k=v
   ·rw[c];exact hb
   ·exact R0b (d:=d) (v:=v+1) h k (by omega) (by omega)
theorem r0d{a:Nat->Bool}:∀ {d v:Nat},(∀ k,v<=k->k<v+d->a k=false)->lf a d v=none
 |0,v,h=>rfl
 |d+1,v,h=>by
  unfold lf
  rw[h v (Nat.le_refl _) (by omega)]
  exact r0d λk b c=>h k (by omega) (by omega)
theorem g0f{g:j0}(hf:H0 g=true)(b:o8 g=none){x:Int}(h0:0<=x)(d:x<g.2.1):x∈o5 g:=by
 refine f0i hf ?_
 by_cases c:x=0
 ·subst c;exact .base
 ·have:=R0b b x.toNat (by omega) (by omega)
  unfold p08 at this
  simp only[Bool.or_eq_false_iff,Bool.not_eq_false',decide_eq_true_eq]at this
  have a:=this.2
  rw[show((x.toNat:Nat):Int)=x by omega]at a
  exact(I05 _ _ _).1 a
theorem h0f{n:Nat}:∀(o:List Int) (k:Nat) (A:List Int),A.length=n->inV n o->o.Nodup->∀(i:Nat) (v:Int),o[i]?=some v->getI (s00 A k o) v=((k+i:Nat):Int)
 | [],k,A,c,b,f,i,v,a=>by simp at a
 |w::r,k,A,c,b,f,i,v,a=>by
  have e:=b w mS
  obtain⟨g,h⟩:=List.nodup_cons.1 f
  cases i with
  |zero =>
   simp at a;subst a
   rw[s00,d0d r _ _ w (by simp[c]) (λu d=>b u (mC _ d)) e.1 g,W02 e.1 (by omega) e.1,if_pos rfl];rfl
  |succ i =>
   rw[s00,h0f r (k+1) _ (by simp[c]) (λu d=>b u (mC _ d)) h i v (by simpa using a)]
   omega
theorem t0g{n:Nat}{o:List Int}(c:inV n o)(a:o.Nodup){i:Nat}{v:Int}(b:o[i]?=some v):getI (plc n o) v=(i:Int):=by
 have:=h0f o 0 (List.replicate n (-1)) (by simp) c a i v b
 rw[Nat.zero_add]at this;exact this
theorem C0j(P:List Int):∀(es:List D0),(∀ e∈es,0<=getI P e.1/\0<=getI P e.2.2)->pE P es=es.map λe=>(getI P e.1,e.2.1,getI P e.2.2)
 | [],h=>rfl
 |e::r,h=>by
  have a:=h e mS
  unfold pE
  rw[show(decide (0<=getI P e.1)&&decide (0<=getI P e.2.2))=true by simp[a.1,a.2],C0j P r λb c=>h b (mC _ c)]
  rfl
theorem i0f(e:D0):∀ {l:List D0},e ∉ l->(b9 N0 e l).Perm (e::l)
 | [],_=>List.Perm.refl _
 |y::l,h=>by
  have d:=i0f e (l:=l) λb=>h (mC _ b)
  unfold b9
  split
  ·exact List.Perm.refl _
  ·split
   ·rename_i c
    exact absurd (I5.eq _ _ c) λa=>h (by rw[a];exact mS)
   ·exact(List.Perm.cons y d).trans (List.Perm.swap e y l)
theorem r0b:∀(r acc:List D0),(acc++r).Nodup->(G3 N0 acc r).Perm (acc++r)
 | [],acc,h=>by simp[G3]
 |x::r,acc,h=>by
  have a:(acc++x::r).Perm (x::(acc++r)):=List.perm_middle
  have b:=a.nodup_iff.1 h
  have f:x ∉ acc:=λd=>(List.nodup_cons.1 b).1 (List.mem_append_left _ d)
  have e:=i0f x f
  have c:(b9 N0 x acc++r).Perm (x::(acc++r)):=e.append_right r
  rw[G3]
  exact((r0b r _ (c.nodup_iff.2 b)).trans c).trans a.symm
theorem Y0l(v:Int){l a:List D0}(h:l.Perm a):B01 v l=B01 v a:=by
 induction h with
 |nil=>rfl
 |cons x _ d=>simp only[B01,d]
 |swap x y l=>simp only[B01];omega
 |trans _ _ b c=>rw[b,c]
theorem g0i{a:Int->Int}{v:Int}:∀(es:List D0),(∀ e∈es,(a e.1=a v↔e.1=v)/\(a e.2.2=a v↔e.2.2=v))->B01 (a v) (es.map λe=>(a e.1,e.2.1,a e.2.2))=B01 v es
 | [],h=>rfl
 |e::r,h=>by
  obtain⟨b,d⟩:=h e mS
  have i:=g0i r λf g=>h f (mC _ g)
  simp only[List.map_cons,B01,i,R0l]
  congr 2
  ·by_cases c:e.1=v
   ·rw[if_pos (b.2 c),if_pos c]
   ·rw[if_neg λq=>c (b.1 q),if_neg c]
  ·by_cases c:e.2.2=v
   ·rw[if_pos (d.2 c),if_pos c]
   ·rw[if_neg λq=>c (d.1 q),if_neg c]
theorem H0n:∀(m:Nat) (o:List Int),(∀ i:Nat,i<m->(i:Int)∈o)->m<=o.length
 |0,o,h=>Nat.zero_le _
 |m+1,o,h=>by
  have a:=h m (by omega)
  have b:=H0n m (o.erase (m:Int)) λi c=>(List.mem_erase_of_ne (by omega)).2 (h i (by omega))
  rw[List.length_erase_of_mem a]at b
  have:=List.length_pos_of_mem a
  omega
theorem z0a{es:List D0}(c:Asc N0 es):es.Nodup:=by
 refine List.Pairwise.imp (λ{a b} h e=>?_) c
 rw[e,I5.refl]at h;omega
theorem h0i{es:List D0}(a:Asc N0 es):G3 N0 [] es=es :=
 m08 I5 (O01 I5 _ _ .nil) a λx=>by rw[Q7 I5];simp
theorem D0j{t:j0}(hf:H0 t=true)(ac:o8 t=none):L3 (U2 t)=true:=by
 have aw:=J3 hf
 obtain⟨A,aU,aV,aW⟩:=W0 hf
 have al:=z03 aw
 obtain⟨⟨N,H⟩,aF⟩:=d05 hf
 have aC:=o9 _ _ N H
 have Z:∀ x:Int,0<=x->x<t.2.1->x∈o5 t:=λx h0 d=>g0f hf ac h0 d
 obtain⟨aX,aL⟩:=u08 t
 obtain⟨n,ae⟩:∃ n:Nat,t.2.1=(n:Int):=⟨t.2.1.toNat,by omega⟩
 have R:t.2.1.toNat=n:=by omega
 rw[R]at H aC
 have ah:(o5 t).length=n:=by
  have:=H0n n (o5 t) λi G=>Z _ (by omega) (by omega)
  omega
 let P:Int->Int:=getI (plc n (o5 t))
 have L:∀(i:Nat) (v:Int),(o5 t)[i]?=some v->P v=(i:Int):=λi v G=>t0g H N G
 have M:∀ x:Int,0<=x->x<t.2.1->0<=P x/\P x<(n:Int):=λx h0 d=>by
  obtain⟨i,G⟩:=List.getElem?_of_mem (Z x h0 d)
  have:=(List.getElem?_eq_some_iff.1 G).1
  rw[L i x G];omega
 have C:∀ x y:Int,0<=x->x<t.2.1->0<=y->y<t.2.1->P x=P y->x=y:=λx y h0 d p aR h=>P0b H N h0 p (M x h0 d).1 h
 have T:P 0=0:=L 0 0 (by rw[aL];rfl)
 have aG:pE (plc n (o5 t)) t.2.2=t.2.2.map λe=>(P e.1,e.2.1,P e.2.2):=C0j _ _ λe g=>by
  have:=A e g
  exact⟨(M e.1 this.1.1 this.1.2).1,(M e.2.2 this.2.1.1 this.2.1.2).1⟩
 have K:U2 t=(t.1,(n:Int),G3 N0 [] (t.2.2.map λe=>(P e.1,e.2.1,P e.2.2))):=by
  unfold U2 K7
  rw[R,aG,ah]
 have az:∀ e∈t.2.2,∀ j∈t.2.2,((P e.1,e.2.1,P e.2.2):D0)=(P j.1,j.2.1,P j.2.2)->e=j:=λe g j V h=>by
  have a:=A e g
  have b:=A j V
  simp only[Prod.mk.injEq]at h
  have d:=C _ _ a.1.1 a.1.2 b.1.1 b.1.2 h.1
  have p:=C _ _ a.2.1.1 a.2.1.2 b.2.1.1 b.2.1.2 h.2.2
  obtain⟨aO,I,Y⟩:=e
  obtain⟨aP,aQ,f2⟩:=j
  simp only at d p h
  rw[d,p,h.2.1]
 have aE:(t.2.2.map λe=>((P e.1,e.2.1,P e.2.2):D0)).Nodup:=by
  have:=z0a al
  rw[List.Nodup,List.pairwise_map]
  exact List.Pairwise.imp_of_mem (λ{a b} ap D h e=>h (az a ap b D e)) this
 have Q:∀ j,j∈(U2 t).2.2↔∃ e∈t.2.2,j=(P e.1,e.2.1,P e.2.2):=λj=>by
  rw[K]
  simp only
  rw[Q7 I5]
  simp only[List.not_mem_nil,false_or,List.mem_map]
  exact⟨λ⟨e,d,p⟩=>⟨e,d,p.symm⟩,λ⟨e,d,p⟩=>⟨e,d,p.symm⟩⟩
 have J:H0 (U2 t)=true:=G06 hf (by rw[R];exact H) N aF (by omega)
 have aa:=J3 J
 have E:(U2 t).2.1=(n:Int):=by rw[K]
 have au:∀ v:Int,0<=v->v<t.2.1->B01 (P v) (U2 t).2.2=B01 v t.2.2:=λv h0 d=>by
  rw[K]
  simp only
  rw[Y0l _ (r0b _ [] (by simpa using aE)),List.nil_append]
  refine g0i _ λe g=>?_
  have:=A e g
  exact⟨⟨λh=>C _ _ this.1.1 this.1.2 h0 d h,λh=>by rw[h]⟩,⟨λh=>C _ _ this.2.1.1 this.2.1.2 h0 d h,λh=>by rw[h]⟩⟩
 have aJ:∀ x,Rch t.2.2 0 x->Rch (U2 t).2.2 0 (P x):=λx s =>
  Rch.sub (P:=λx=>Rch (U2 t).2.2 0 (P x)) (by show Rch _ 0 (P 0);rw[T];exact .base) (λe g=>Rch.closed (P e.1,e.2.1,P e.2.2) ((Q _).2 ⟨e,g,rfl⟩)) s
 have aB:o8 (U2 t)=none:=by
  unfold o8
  refine r0d λk aT aM=>?_
  rw[E,Int.toNat_natCast]at aM
  obtain⟨v,w⟩:∃ v,(o5 t)[k]?=some v:=⟨_,List.getElem?_eq_getElem (by omega)⟩
  have aK:=H v (List.mem_of_getElem? w)
  have U:=L k v w
  have aS:v≠0:=λh=>by rw[h,T]at U;omega
  have D:=R0b ac v.toNat (by omega) (by omega)
  unfold p08 at D ⊢
  rw[show((v.toNat:Nat):Int)=v by omega]at D
  simp only[Bool.or_eq_false_iff,Bool.not_eq_false',decide_eq_true_eq,decide_eq_false_iff_not]at D ⊢
  refine⟨?_,?_⟩
  ·rw[←U,au v aK.1 (by omega)];exact D.1
  ·rw[←U]
   exact(I05 _ _ _).2 (aJ v ((I05 _ _ _).1 D.2))
 have af:∀ v x:Int,0<=v->v<t.2.1->(O0 t v x = -1/\O0 (U2 t) (P v) x = -1)∨((0<=O0 t v x/\O0 t v x<t.2.1)/\O0 (U2 t) (P v) x=P (O0 t v x)):=λv x h0 d=>by
  rcases X03 t v x with⟨I,Y⟩|I
  ·left
   refine⟨I,?_⟩
   rcases X03 (U2 t) (P v) x with⟨S,aN⟩|S
   ·exact S
   ·exfalso
    obtain⟨j,V,W⟩:=n3.1 S
    obtain⟨e,g,rfl⟩:=(Q j).1 V
    have F:=A e g
    have:∃ y,y∈F8 v x t.2.2:=by
     rcases W with⟨a,b,c,_⟩|⟨a,b,c,_⟩
     ·exact⟨_,n3.2 ⟨e,g,.inl ⟨a,b,C _ _ F.1.1 F.1.2 h0 d c,rfl⟩⟩⟩
     ·exact⟨_,n3.2 ⟨e,g,.inr ⟨a,b,C _ _ F.2.1.1 F.2.1.2 h0 d c,rfl⟩⟩⟩
    obtain⟨y,aj⟩:=this
    rw[Y]at aj;cases aj
  ·right
   generalize O0 t v x=y at I
   obtain⟨e,g,W⟩:=n3.1 I
   have F:=A e g
   rcases W with⟨a,b,c,rfl⟩|⟨a,b,c,rfl⟩
   ·exact⟨F.2.1,s04 J (n3.2 ⟨_,(Q _).2 ⟨e,g,rfl⟩,.inl ⟨a,b,by show P e.1=P v;rw[c],rfl⟩⟩)⟩
   ·exact⟨F.1,s04 J (n3.2 ⟨_,(Q _).2 ⟨e,g,rfl⟩,.inr ⟨a,b,by show P e.2.2=P v;rw[c],rfl⟩⟩)⟩
 have ak:∀ u:List Int,gud n u->∀ x∈u,0<=x/\x<t.2.1:=λu o x s=>by have:=o.2 x s;omega
 have ay:inG (t.1,(n:Int),t.2.2):=by
  have:=A
  intro e g
  have:=A e g
  rw[ae]at this;exact this
 have av:(t.1,(n:Int),t.2.2)=t:=by
  rw[←ae]
 have ao:∀(u:List Int) (y z:Int),gud n u->(y = -1/\z = -1)∨((0<=y/\y<t.2.1)/\z=P y)->U05 (u.map P) z=(U05 u y).map P:=λu y z o h=>by
  unfold U05
  rcases h with⟨rfl,rfl⟩|⟨⟨h0,d⟩,rfl⟩
  ·rw[if_neg (by omega),if_neg (by omega)]
  ·have ad:P y∈u.map P↔y∈u:=by
    constructor
    ·intro h
     obtain⟨x,s,e⟩:=List.mem_map.1 h
     have:=ak u o x s
     rw[←C x y this.1 this.2 h0 d e];exact s
    ·exact λh=>List.mem_map.2 ⟨y,h,rfl⟩
   by_cases c:y∈u
   ·rw[if_neg λq=>q.2 (ad.2 c),if_neg λq=>q.2 c]
   ·rw[if_pos ⟨(M y h0 d).1,λq=>c (ad.1 q)⟩,if_pos ⟨h0,c⟩];simp
 have am:∀(v:Int),0<=v->v<t.2.1->∀(m u:List Int),gud n u->D01 (U2 t) (P v) m (u.map P)=(D01 t v m u).map P:=λv h0 d m=>by
  induction m with
  |nil=>intro u o;rfl
  |cons x l X =>
   intro u o
   have s:O0 t v x = -1∨(0<=O0 t v x/\O0 t v x<(n:Int)):=by
    rcases af v x h0 d with⟨a,_⟩|⟨a,_⟩
    ·exact .inl a
    ·exact .inr (by omega)
   rw[D01,D01,ao u _ _ o (af v x h0 d),X _ (I0k o s)]
 have an:∀(f i:Nat) (u:List Int) (m:List Int),gud n u->n8 (U2 t) m f i (u.map P)=(n8 t m f i u).map P:=λf=>by
  induction f with
  |zero=>intro i u m o;rfl
  |succ f X =>
   intro i u m o
   unfold n8
   rw[List.getElem?_map]
   cases e:u[i]? with
   |none=>rfl
   |some v =>
    have w:=ak u o v (List.mem_of_getElem? e)
    have ax:gud n (D01 t v m u):=by
     have:=y03 ay v m u o
     rw[av]at this;exact this
    simp only[Option.map_some]
    rw[am v w.1 w.2 m u o]
    exact X (i+1) _ m ax
 have ai:o5 (U2 t)=(o5 t).map P:=by
  have d:(U2 t).1=t.1:=by rw[K]
  have p:=an (n+1) 0 [0] (j6 t.1.toNat 1) ⟨by simp,λx s=>by simp at s;subst s;omega⟩
  rw[List.map_cons,List.map_nil,T]at p
  show n8 (U2 t) (j6 (U2 t).1.toNat 1) ((U2 t).2.1.toNat+1) 0 [0]=(n8 t (j6 t.1.toNat 1) (t.2.1.toNat+1) 0 [0]).map P
  rw[d,E,R,Int.toNat_natCast]
  exact p
 have aA:∀ i:Nat,i<n->(o5 (U2 t))[i]?=some (i:Int):=λi G=>by
  rw[ai,List.getElem?_map]
  obtain⟨v,w⟩:∃ v,(o5 t)[i]?=some v:=⟨_,List.getElem?_eq_getElem (by omega)⟩
  rw[w,Option.map_some,L i v w]
 obtain⟨⟨ar,ag⟩,_⟩:=d05 J
 rw[E,Int.toNat_natCast]at ag
 have O:∀ x:Int,0<=x->x<(n:Int)->getI (plc n (o5 (U2 t))) x=x:=λx h0 d=>by
  have:=t0g ag ar (aA x.toNat (by omega))
  rw[show((x.toNat:Nat):Int)=x by omega]at this;exact this
 have aD:(o5 (U2 t)).length=n:=by rw[ai,List.length_map,ah]
 have ab:=(Y2 aa).1
 have aq:U2 (U2 t)=U2 t:=by
  have aH:pE (plc n (o5 (U2 t))) (U2 t).2.2=(U2 t).2.2:=by
   rw[C0j _ _ λe g=>by
    have:=ab e g
    rw[E]at this
    exact⟨by rw[O _ this.1.1 this.1.2];exact this.1.1,by rw[O _ this.2.1.1 this.2.1.2];exact this.2.1.1⟩]
   refine(List.map_congr_left λe g=>?_).trans (List.map_id _)
   have:=ab e g
   rw[E]at this
   rw[O _ this.1.1 this.1.2,O _ this.2.1.1 this.2.1.2];rfl
  show K7 (U2 t) (o5 (U2 t))=U2 t
  unfold K7
  rw[E,Int.toNat_natCast,aH,h0i (z03 aa),aD]
  rw[←E]
 unfold L3
 rw[J,aB,aq]
 simp[S0e]
theorem Z0l{g:j0}(hf:H0 g=true):L3 (I06 g)=true:=by
 have a:=J3 hf
 have:=(Y2 a).2.2.1
 exact D0j (t02 40 hf) (s08 40 a (by omega))
def ng(x:Int):Int:=IntKind.i64.wrap (0-x)
def j0f(w:List Int):Prop:=∀ x∈w,J0 x
def V05(l x:Int):Bool := !(l == 0) && !(l == -9223372036854775808)&&(x == ng l)
def L9(s:List Int)(x:Int):List Int:=match s with
 | []=>[x]
 |l::t=>bif V05 l x then t else x::l::t
def n01(s w:List Int):List Int:=w.foldl L9 s
def Red:List Int->Bool
 | []=>true
 | [_]=>true
 |x::l::t => !V05 l x&&Red (l::t)
theorem i0i{x:Int}{t:List Int}(h:Red (x::t)=true):Red t=true:=by
 cases t with
 |nil=>rfl
 |cons l t=>simp only[Red,Bool.and_eq_true]at h;exact h.2
theorem a0m{s:List Int}(x:Int)(h:Red s=true):Red (L9 s x)=true:=by
 cases s with
 |nil=>rfl
 |cons l t =>
  simp only[L9]
  cases hc:V05 l x with
  |true=>exact i0i h
  |false=>simp only[cond_false,Red,hc,h];rfl
theorem j0i:∀(w s:List Int),Red s=true->Red (n01 s w)=true
 | [],s,h=>h
 |x::w,s,h=>j0i w (L9 s x) (a0m x h)
theorem I0n(s a b:List Int):n01 s (a++b)=n01 (n01 s a) b:=List.foldl_append
theorem A0a(s:List Int)(x:Int):(L9 s x).length<=s.length+1:=by
 cases s with
 |nil=>simp[L9]
 |cons l t =>
  simp only[L9]
  cases V05 l x<;>simp<;>omega
theorem f05:∀(w s:List Int),(n01 s w).length<=s.length+w.length
 | [],s=>by simp[n01]
 |x::w,s=>by
  have:=f05 w (L9 s x)
  have:=A0a s x
  simp only[n01,List.foldl_cons,List.length_cons]at *
  omega
theorem J0n{b:List Int}{x:Int}(h:j0f b)(c:J0 x):j0f (L9 b x):=by
 cases b with
 |nil=>intro y a;simp[L9]at a;subst a;exact c
 |cons l t =>
  simp only[L9]
  cases V05 l x with
  |true=>exact λy a=>h y (mC _ a)
  |false =>
   intro y a
   rcases List.mem_cons.1 a with rfl|a
   ·exact c
   ·exact h y a
theorem b0m{l x:Int}(b:J0 l)(c:J0 x):(!(x == 0)&&(l == ng x) && !(l == x))=V05 l x:=by
 unfold V05 ng
 have e:∀ {z:Int},J0 z->IntKind.i64.wrap (0-z)=if z = -9223372036854775808 then -9223372036854775808 else -z:=λ{z} a=>by
  split
  ·rename_i h;subst h;decide
  ·rw[w64 (by have:=a.1;have:=a.2;omega) (by have:=a.1;have:=a.2;omega)];omega
 rw[e b,e c]
 have d:=b.1
 have f:=b.2
 have g:=c.1
 have i:=c.2
 rw[Bool.eq_iff_iff]
 simp only[Bool.and_eq_true,Bool.not_eq_true',beq_iff_eq,beq_eq_false_iff_ne,ne_eq]
 split<;>split<;>omega
theorem s0d{l:Int}{t:List Int}:(l::t).reverse[t.length]?=some l:=by
 rw[List.reverse_cons,List.getElem?_append_right (by simp)]
 simp
theorem k0f(l:Int)(t:List Int):(l::t).reverse.take t.length=t.reverse:=by
 rw[List.reverse_cons,List.take_append_of_le_length (by simp),List.take_of_length_le (by simp)]
theorem f02(w:List Int)(hw:j0f w)(hl:w.length<=1099511627776):∀(d k fuel:Nat) (s:List Int),k+d=w.length->d<fuel->j0f s->s.length<=k ->
  K3 w fuel (k:Int) s.reverse=some (n01 s (w.drop k)).reverse
 |d,k,0,s,hk,hf,hs,hsl=>by omega
 |0,k,fuel+1,s,hk,hf,hs,hsl=>by
  rw[K3.eq_2,if_neg (by simp;omega),H1 (by omega)]
  rfl
 |d+1,k,fuel+1,s,hk,hf,hs,hsl=>by
  have hkl:k<w.length:=by omega
  have hx:=a5 hkl
  have hx64:=hw _ (List.mem_of_getElem? hx)
  generalize w[k]=x at hx hx64
  have next:=f02 w hw hl d (k+1) fuel (L9 s x) (by omega) (by omega) (J0n hs hx64) (by have:=A0a s x;omega)
  rw[J1 hx]
  show _=some (n01 (L9 s x) (w.drop (k+1))).reverse
  rw[←next,K3.eq_2,if_pos (by simp;omega),oB,B0 (by rw[List.length_reverse];omega),oB]
  rw[V1 hkl (by omega:w.length<=9223372036854775807)]
  have e0:decide (x=0)=(x == 0):=by rw[Bool.eq_iff_iff];simp
  cases s with
  |nil =>
   have hz:decide ((((([]:List Int).reverse).length:Nat):Int)>0)=false:=rfl
   simp only[hz,J2,oB,cond_false,Bool.false_eq_true,if_false,U1 hx]
   rw[B0 (by simp)]
   rfl
  |cons l t =>
   have hl64:=hs l mS
   have hp:decide ((((l::t).reverse.length:Nat):Int)>0)=true:=by simp
   have hpr:IntKind.i64.wrap ((((l::t).reverse.length:Nat):Int)-1)=((t.length:Nat):Int):=by
    rw[j09 (by simp) (by simp only[List.length_reverse,List.length_cons]at *;omega)];simp
   have hc:=b0m hl64 hx64
   have e1:decide (l=IntKind.i64.wrap (0-x))=(l == ng x):=by rw[Bool.eq_iff_iff];simp[ng]
   have e2:decide (l=x)=(l == x):=by rw[Bool.eq_iff_iff];simp
   have hpush:(grd (((l::t).reverse.length + [x].length)*8<=140737488355328))=some ():=B0 (by simp only[List.length_cons]at hsl;simp only[List.length_reverse,List.length_cons,List.length_nil];omega)
   simp only[hp,hpr,L1,oB,cond_true,U1 hx,U1 s0d,e0,L9]
   cases h0:(x == 0)with
   |true =>
    rw[h0]at hc
    simp only[Bool.not_true,Bool.false_and]at hc
    simp only[←hc,Bool.not_true,J2,cond_false,oB,Bool.false_eq_true,if_false,hpush]
    exact congrArg _ (List.reverse_cons ..).symm
   |false =>
    rw[h0]at hc
    simp only[Bool.not_false,Bool.true_and]at hc
    simp only[Bool.not_false,L1,cond_true,oB,e1]
    cases h1:(l == ng x)with
    |false =>
     rw[h1]at hc
     simp only[Bool.false_and]at hc
     simp only[←hc,J2,cond_false,oB,Bool.false_eq_true,if_false,hpush]
     exact congrArg _ (List.reverse_cons ..).symm
    |true =>
     rw[h1]at hc
     simp only[Bool.true_and]at hc
     simp only[L1,cond_true,oB,e2]
     cases h2:(l == x)with
     |true =>
      rw[h2]at hc
      simp only[Bool.not_true]at hc
      simp only[←hc,Bool.not_true,Bool.false_eq_true,if_false,cond_false,oB,hpush]
      exact congrArg _ (List.reverse_cons ..).symm
     |false =>
      rw[h2]at hc
      simp only[Bool.not_false]at hc
      simp only[←hc,Bool.not_false,if_true,cond_true]
      rw[B0 (by simp only[List.length_reverse,List.length_cons]at *;omega),oB,Int.toNat_natCast,k0f]
theorem J8(w:List Int)(b:j0f w)(a:w.length<=1099511627776):w4 w=some (n01 [] w).reverse:=by
 unfold w4
 have h:=f02 w b a w.length 0 P0 [] (by omega) (j1 (by omega)) (λx c=>by cases c) (by simp)
 rw[show((0:Nat):Int)=0 from rfl,List.drop_zero,List.reverse_nil]at h
 rw[h,oB,B0 (by have:=f05 w [];simp only[List.length_reverse,List.length_nil]at *;omega),oB,List.nil_append]
theorem k0i{r:Int}{w:List Int}(h:Q2 r w=true):∀ k,k<=w.length->n01 [] (w.take k)=(w.take k).reverse
 |0,_=>rfl
 |k+1,i=>by
  have g:=k0i h k (by omega)
  have b:=a5 (show k<w.length by omega)
  generalize w[k]=x at b
  have f:w.take (k+1)=w.take k ++ [x]:=I0h b
  rw[f,I0n,g,List.reverse_append]
  show L9 (w.take k).reverse x=x::(w.take k).reverse
  cases k with
  |zero=>rfl
  |succ j =>
   have c:=a5 (show j<w.length by omega)
   generalize w[j]=y at c
   rw[I0h c,List.reverse_append]
   show L9 (y::(w.take j).reverse) x=_
   have d:=h
   simp only[Q2,Bool.and_eq_true,decide_eq_true_eq]at d
   have a:=n07 d.2 (j+1) (Nat.zero_le _) (by omega)
   unfold g03 at a
   rw[b]at a
   simp only[Nat.add_sub_cancel,c,Bool.or_eq_false_iff,show decide (0<j+1)=true by simp,Bool.true_and]at a
   have e:V05 y x=false:=by unfold V05 ng;rw[a.2,Bool.and_false]
   simp only[L9,e,cond_false]
   rfl
theorem Y02{r:Int}{w:List Int}(h:Q2 r w=true):(n01 [] w).reverse=w:=by
 have:=k0i h w.length (Nat.le_refl _)
 rw[List.take_length]at this
 rw[this,List.reverse_reverse]
def U00(g:j0)(w:List Int):Bool:=decide ((P1 g 0 w).2=w.length)&&decide ((P1 g 0 w).1=0)
theorem Q5{g:j0}(h:L3 g=true):H0 g=true:=by
 unfold L3 at h
 simp only[Bool.and_eq_true]at h
 exact h.1
theorem J06{r:Int}{g:j0}{w:List Int}(i:L3 g=true)(j:Q2 r w=true):t9 g w=some (U00 g w):=by
 have hf:=Q5 i
 obtain⟨o,s,p,t⟩:=W0 hf
 obtain⟨wl,k⟩:=t00 j
 have f:=J8 w (λx e=>(k x e).1.1) (by omega)
 rw[Y02 j]at f
 have l:=d0g g hf 0 ⟨iR _,by omega⟩ w (λx e=>(k x e).1) (by omega)
 have m:=u09 g (by omega)
 have h:V4 g=some true:=by
  obtain⟨a,b,c⟩:=g
  unfold V4
  simp only[m,i,oB]
 have n:=A01 o p.2 w 0 ⟨by omega,by omega⟩
 have q:=z01 g w 0
 unfold U00
 obtain⟨a,b,c⟩:=g
 unfold t9
 simp only[f,oB,l]
 by_cases d:(P1 (a,b,c) 0 w).2<w.length
 ·simp only[decide_eq_true d,cond_true]
  rw[B0 (show J0 (-1) from⟨by omega,by omega⟩),oB,h]
  have:decide ((P1 (a,b,c) 0 w).2=w.length)=false:=decide_eq_false (by omega)
  rw[this];rfl
 ·simp only[decide_eq_false d,cond_false]
  rw[B0 n,oB,h]
  have:decide ((P1 (a,b,c) 0 w).2=w.length)=true:=decide_eq_true (by omega)
  rw[this]
  simp only[oB,cond_true,Bool.true_and]
theorem l0i{r:Int}{g:j0}{w:List Int}(j:L3 g=true)(k:Q2 r w=true):P5 g w=some (U00 g w):=by
 have hf:=Q5 j
 obtain⟨e,o,f,p⟩:=W0 hf
 obtain⟨wl,m⟩:=t00 k
 have h:=S0c g e f.2 (by omega) 0 w (λx l=>(m x l).1) (by omega)
 have i:=A01 e f.2 w 0 ⟨by omega,by omega⟩
 have n:=z01 g w 0
 unfold U00
 obtain⟨a,b,c⟩:=g
 unfold P5
 simp only[h,oB]
 rw[B0 i,oB,B0 (show J0 (((P1 (a,b,c) 0 w).2:Nat):Int) from⟨by omega,by omega⟩),oB]
 by_cases d:(P1 (a,b,c) 0 w).2=w.length
 ·rw[decide_eq_true d,show decide ((((P1 (a,b,c) 0 w).2:Nat):Int)=((w.length:Nat):Int))=true from decide_eq_true (by omega)]
  simp
 ·rw[decide_eq_false d,show decide ((((P1 (a,b,c) 0 w).2:Nat):Int)=((w.length:Nat):Int))=false from decide_eq_false (by omega)]
  simp
def rdw(g:j0):Int->List Int->Option Int
 |v,[]=>some v
 |v,x::w=>if O0 g v x<0 then none else rdw g (O0 g v x) w
theorem l0f(g:j0):∀(w:List Int) (v u:Int),rdw g v w=some u↔((P1 g v w).2=w.length/\(P1 g v w).1=u)
 | [],v,u=>by simp[rdw,P1]
 |x::w,v,u=>by
  have a:=l0f g w (O0 g v x) u
  unfold rdw P1
  by_cases c:O0 g v x<0
  ·rw[if_pos c,if_pos c];simp
  ·rw[if_neg c,if_neg c,a];simp
theorem c0m(g:j0)(w:List Int):U00 g w=true↔rdw g 0 w=some 0:=by
 unfold U00
 rw[l0f];simp
theorem S0k(g:j0):∀(a b:List Int) (v:Int),rdw g v (a++b)=(rdw g v a).bind λu=>rdw g u b
 | [],b,v=>rfl
 |x::a,b,v=>by
  have d:=S0k g a b (O0 g v x)
  show(if O0 g v x<0 then none else rdw g (O0 g v x) (a++b))=(if O0 g v x<0 then none else rdw g (O0 g v x) a).bind λu=>rdw g u b
  by_cases c:O0 g v x<0
  ·rw[if_pos c,if_pos c];rfl
  ·rw[if_neg c,if_neg c];exact d
theorem g05{g:j0}(hf:H0 g=true){v x u:Int}(h:O0 g v x=u)(h0:0<=u):O0 g u (-x)=v:=by
 rcases X03 g v x with⟨e,_⟩|e
 ·omega
 ·rw[h]at e
  obtain⟨d,i,f⟩:=n3.1 e
  refine s04 hf (n3.2 ⟨d,i,?_⟩)
  rcases f with⟨a,b,c,rfl⟩|⟨a,b,c,rfl⟩
  ·exact .inr ⟨by omega,by omega,rfl,c.symm⟩
  ·exact .inl ⟨by omega,b,rfl,c.symm⟩
structure Mor (a b:j0) (f:Int->Int):Prop where
 base:f 0=0
 rng:∀ v,0<=v->v<a.2.1->0<=f v/\f v<b.2.1
 step:∀ v x,0<=v->v<a.2.1->0<=O0 a v x->O0 b (f v) x=f (O0 a v x)
theorem Mor.rdw{a b:j0}{f:Int->Int}(m:Mor a b f)(i:inG a):∀(w:List Int) (v u:Int),0<=v->v<a.2.1->rdw a v w=some u->rdw b (f v) w=some (f u)
 | [],v,u,h0,g,h=>by
  simp only[Go.Proofs.YtkjhghloldgioaaGreat.rdw,Option.some.injEq]at h ⊢
  rw[h]
 |x::w,v,u,h0,g,h=>by
  unfold Go.Proofs.YtkjhghloldgioaaGreat.rdw at h ⊢
  by_cases c:O0 a v x<0
  ·rw[if_pos c]at h;cases h
  ·rw[if_neg c]at h
   have j:=m.step v x h0 g (by omega)
   have d:0<=O0 a v x/\O0 a v x<a.2.1:=by
    rcases q02 i v x with e|e
    ·omega
    ·exact e
   have k:=m.rng _ d.1 d.2
   rw[j,if_neg (by omega)]
   exact Mor.rdw m i w _ u d.1 d.2 h
theorem Mor.loop{a b:j0}{f:Int->Int}(m:Mor a b f)(c:H0 a=true){w:List Int}(h:U00 a w=true):U00 b w=true:=by
 obtain⟨d,e,g,i⟩:=W0 c
 rw[c0m]at h ⊢
 have:=m.rdw d w 0 0 (iR _) (by omega) h
 rwa [m.base]at this
abbrev Im:=List Int×List Int
def E0j(a b:Im):Prop:=(∃ t,b.2=a.2++t)/\∀ v∈a.2,getI b.1 v=getI a.1 v
theorem E0j.refl(s:Im):E0j s s:=⟨⟨[],by simp⟩,λ_ _=>rfl⟩
theorem E0j.trans{b c d:Im}(h:E0j b c)(j:E0j c d):E0j b d:=by
 obtain⟨⟨t,e⟩,f⟩:=h
 obtain⟨⟨k,g⟩,i⟩:=j
 exact⟨⟨t++k,by rw[g,e,List.append_assoc]⟩,λv a=>(i v (by rw[e];exact List.mem_append_left _ a)).trans (f v a)⟩
def d0q(a b:j0)(v x:Int)(s:Im):Prop:=0<=O0 a v x->O0 a v x∈s.2/\O0 b (getI s.1 v) x=getI s.1 (O0 a v x)
theorem d0q.le{a b:j0}{v x:Int}{c g:Im}(j:v∈c.2)(h:d0q a b v x c)(l:E0j c g):d0q a b v x g:=λh0=>by
 obtain⟨d,i⟩:=h h0
 obtain⟨⟨t,e⟩,f⟩:=l
 exact⟨by rw[e];exact List.mem_append_left _ d,by rw[f v j,f _ d];exact i⟩
theorem h03(w:List Int)(hl:w.length<=1099511627776)(n0:Nat)(hn:n0<=1099511627776):∀(d k fuel:Nat) (s:List Int),k+d=w.length->d<fuel->s.length<=n0+k ->
  d6 w fuel (k:Int) s.reverse=some (n01 s (w.drop k)).reverse
 |d,k,0,s,hk,hf,hsl=>by omega
 |0,k,fuel+1,s,hk,hf,hsl=>by
  rw[d6.eq_2,if_neg (by simp;omega),H1 (by omega)]
  rfl
 |d+1,k,fuel+1,s,hk,hf,hsl=>by
  have hkl:k<w.length:=by omega
  have hx:=a5 hkl
  generalize w[k]=x at hx
  have next:=h03 w hl n0 hn d (k+1) fuel (L9 s x) (by omega) (by omega) (by have:=A0a s x;omega)
  rw[J1 hx]
  show _=some (n01 (L9 s x) (w.drop (k+1))).reverse
  rw[←next,d6.eq_2,if_pos (by simp;omega),U1 hx,oB,oB,B0 (by rw[List.length_reverse];omega),oB,oB,oB]
  rw[V1 hkl (by omega:w.length<=9223372036854775807)]
  cases s with
  |nil =>
   have hz:decide ((((([]:List Int).reverse).length:Nat):Int)>0)=false:=rfl
   simp only[hz,J2,oB,cond_false,Bool.false_eq_true,if_false]
   rw[B0 (by simp)]
   rfl
  |cons l t =>
   have hp:decide ((((l::t).reverse.length:Nat):Int)>0)=true:=by simp
   have hpr:IntKind.i64.wrap ((((l::t).reverse.length:Nat):Int)-1)=((t.length:Nat):Int):=by
    rw[j09 (by simp) (by simp only[List.length_cons]at hsl;simp only[List.length_reverse,List.length_cons];omega)];simp
   have hpush:(grd (((l::t).reverse.length + [x].length)*8<=140737488355328))=some ():=B0 (by simp only[List.length_cons]at hsl;simp only[List.length_reverse,List.length_cons,List.length_nil];omega)
   have hlen:(grd ((l::t).reverse.length<=9223372036854775807))=some ():=B0 (by rw[List.length_reverse];omega)
   simp only[hp,hpr,L1,oB,cond_true,U1 s0d,F05,L9]
   have hcc:(!(l == 0) && !(l == -9223372036854775808)&&(x == IntKind.i64.wrap (0-l)))=V05 l x:=rfl
   rw[hcc]
   cases hc:V05 l x with
   |true =>
    simp only[if_true,cond_true,hlen,oB]
    rw[B0 (by simp only[List.length_reverse,List.length_cons];omega),oB,Int.toNat_natCast,k0f]
   |false =>
    simp only[Bool.false_eq_true,if_false,cond_false,hpush,hlen,oB]
    exact congrArg _ (List.reverse_cons ..).symm
def F0j:List (List Int)->Nat
 | []=>0
 |w::r=>w.length+F0j r
def e0q(s:List Int):List (List Int)->List Int
 | []=>s
 |w::r=>e0q (n01 s w) r
theorem i03(b:List (List Int))(h:b.length<=1099511627776):∀(d k fuel:Nat) (a:List Int),k+d=b.length->d<fuel->a.length+F0j (b.drop k)<=1099511627776 ->
  a7 b fuel (k:Int) a.reverse=some (e0q a (b.drop k)).reverse
 |d,k,0,a,f,hf,c=>by omega
 |0,k,fuel+1,a,f,hf,c=>by
  rw[a7.eq_2,if_neg (by simp;omega),H1 (by omega)]
  rfl
 |d+1,k,fuel+1,a,f,hf,c=>by
  have g:k<b.length:=by omega
  have e:=a5 g
  generalize b[k]=w at e
  rw[J1 e]at c ⊢
  simp only[F0j]at c
  have i:=f05 w a
  have h0:=h03 w (by omega) a.length (by omega) w.length 0 P0 a (by omega) (j1 (by omega)) (by omega)
  rw[show((0:Nat):Int)=0 from rfl,List.drop_zero]at h0
  rw[a7.eq_2,if_pos (by simp;omega),U1 e,oB,h0,oB,V1 g (by omega:b.length<=9223372036854775807)]
  exact i03 b h d (k+1) fuel (n01 a w) (by omega) (by omega) (by omega)
theorem E04(a:List (List Int))(c:a.length<=1099511627776)(b:F0j a<=1099511627776):a00 a=some (e0q [] a).reverse:=by
 unfold a00
 have h:=i03 a c a.length 0 P0 [] (by omega) (j1 (by omega)) (by simpa using b)
 rw[show((0:Nat):Int)=0 from rfl,List.drop_zero,List.reverse_nil]at h
 rw[h]
 rfl
abbrev Tr8:=List (Option (List Int))×List Int
def trS(g:j0)(v x:Int)(s:Tr8):Tr8:=if 0<=O0 g v x/\O0 g v x ∉ s.2 then(s.1.set (O0 g v x).toNat (some ((O7 s.1 v).getD [] ++ [x])),s.2 ++ [O0 g v x])else s
def t0d(g:j0)(v:Int):List Int->Tr8->Tr8
 | [],s=>s
 |x::r,s=>t0d g v r (trS g v x s)
def t04(g:j0)(b:List Int):Nat->Nat->Tr8->Tr8
 |0,i,a=>a
 |f+1,i,a=>match a.2[i]? with
  |some v=>t04 g b f (i+1) (t0d g v b a)
  |none=>a
def O2(g:j0)(p:Int):List Int:=n8 g (j6 g.1.toNat 1) (g.2.1.toNat+1) 0 [p]
def v08(g:j0)(p:Int):Tr8:=t04 g (j6 g.1.toNat 1) (g.2.1.toNat+1) 0 ((List.replicate g.2.1.toNat none).set p.toNat (some []),[p])
theorem T0k(g:j0)(v x:Int)(s:Tr8):(trS g v x s).2=U05 s.2 (O0 g v x):=by
 unfold trS U05
 split<;>rfl
theorem u0d(g:j0)(v:Int):∀(b:List Int) (a:Tr8),(t0d g v b a).2=D01 g v b a.2
 | [],a=>rfl
 |x::r,a=>by rw[t0d,u0d g v r,T0k];rfl
theorem m0f(g:j0)(b:List Int):∀(f i:Nat) (a:Tr8),(t04 g b f i a).2=n8 g b f i a.2
 |0,i,a=>rfl
 |f+1,i,a=>by
  unfold t04 n8
  cases a.2[i]? with
  |none=>rfl
  |some v=>simp only[m0f g b f,u0d]
theorem z09(g:j0)(p:Int):(v08 g p).2=O2 g p:=m0f _ _ _ _ _
structure TOk (g:j0) (p:Int) (n:Nat) (s:Tr8):Prop where
 ok:WOk n s.1 s.2
 gd:gud n s.2
 base:p∈s.2
 word:O7 s.1 p=some []
 par:∀ y∈s.2,y≠p->∃ v∈s.2,∃ x,x∈j6 g.1.toNat 1/\O0 g v x=y/\∃ a,O7 s.1 v=some a/\O7 s.1 y=some (a ++ [x])
 red:∀ y∈s.2,∀ a,O7 s.1 y=some a->Red a.reverse=true
theorem WOk.add{n:Nat}{b:List (Option (List Int))}{u:List Int}(a:WOk n b u){y:Int}(d:0<=y)(h:y<(n:Int))(v x:Int):WOk n (b.set y.toNat (some ((O7 b v).getD [] ++ [x]))) (u ++ [y]):=by
 have e:=a.short v
 refine⟨by simp[a.len],λz h0 f=>?_,λz=>?_⟩
 ·rw[T9 d (by have:=a.len;omega) h0]
  by_cases c:z=y
  ·rw[if_pos c];simp[c]
  ·rw[if_neg c,a.iff z h0 f];simp[c]
 ·by_cases hz:0<=z
  ·rw[T9 d (by have:=a.len;omega) hz]
   by_cases c:z=y
   ·rw[if_pos c];simp;exact e
   ·rw[if_neg c];have:=a.short z;simp only[List.length_append];omega
  ·have g:O7 (b.set y.toNat (some ((O7 b v).getD [] ++ [x]))) z=O7 (b.set y.toNat (some ((O7 b v).getD [] ++ [x]))) 0:=by
    unfold O7;rw[show z.toNat=(0:Int).toNat by omega]
   rw[g,T9 d (by have:=a.len;omega) (iR 0)]
   by_cases c:(0:Int)=y
   ·rw[if_pos c];simp;exact e
   ·rw[if_neg c];have:=a.short 0;simp only[List.length_append];omega
theorem WOk.get{n:Nat}{b:List (Option (List Int))}{u:List Int}(f:WOk n b u){v:Int}(h0:0<=v)(c:v<(n:Int))(d:v∈u):∃ a,O7 b v=some a:=by
 cases e:O7 b v with
 |none=>exact absurd d ((f.iff v h0 c).1 (by rw[e];rfl))
 |some a=>exact⟨a,rfl⟩
theorem r07{R:Nat}(b:R<=900){x:Int}(a:x∈j6 R 1):L5 x/\x≠0 /\ -(R:Int)<=x/\x<=(R:Int):=by
 obtain⟨j,c,d,e⟩:=y09 _ _ _ a
 exact⟨⟨⟨by omega,by omega⟩,by omega⟩,by omega,by omega,by omega⟩
theorem K0n{l x:Int}(a:L5 l)(h:V05 l x=true):x = -l:=by
 unfold V05 at h
 simp only[Bool.and_eq_true,beq_iff_eq]at h
 rw[h.2];exact U07 a.1 a.2
theorem TOk.add{g:j0}(hf:H0 g=true){p:Int}{n:Nat}(T:g.2.1=(n:Int)){C:Tr8}(h:TOk g p n C){v x:Int}(j:v∈C.2)(O:x∈j6 g.1.toNat 1):TOk g p n (trS g v x C):=by
 obtain⟨R,U,V,W⟩:=W0 hf
 unfold trS
 split
 ·rename_i c
  obtain⟨o,s⟩:=c
  have Q:O0 g v x<(n:Int):=by
   rcases q02 R v x with e|e<;>omega
  obtain⟨m,u⟩:=C
  obtain⟨ok,q,base,J,G,H⟩:=h
  simp only at j o s ok q base J G H ⊢
  have E:=q.2 v j
  obtain⟨a,i⟩:=ok.get E.1 E.2 j
  have S:=ok.len
  have keep:∀ z∈u,O7 (m.set (O0 g v x).toNat (some ((O7 m v).getD [] ++ [x]))) z=O7 m z:=λz L=>by
   have:=q.2 z L
   rw[T9 o (by omega) this.1,if_neg λ(e:z=O0 g v x)=>s (by rw[←e];exact L)]
  have new:O7 (m.set (O0 g v x).toNat (some ((O7 m v).getD [] ++ [x]))) (O0 g v x)=some (a ++ [x]):=by
   rw[T9 o (by omega) o,if_pos rfl,i];rfl
  refine⟨ok.add o Q v x,⟨List.nodup_append.2 ⟨q.1,by simp,λa i b f=>?_⟩,λy d=>?_⟩,List.mem_append_left _ base,?_,λy d P=>?_,λy d b f=>?_⟩
  ·simp at f;subst f;exact λe=>s (e▸i)
  ·rcases List.mem_append.1 d with d|d
   ·exact q.2 y d
   ·simp at d;subst d;omega
  ·rw[keep p base];exact J
  ·rcases List.mem_append.1 d with d|d
   ·obtain⟨I,A,M,F,D,b,w,k⟩:=G y d P
    exact⟨I,List.mem_append_left _ A,M,F,D,b,by rw[keep I A];exact w,by rw[keep y d];exact k⟩
   ·simp at d;subst d
    exact⟨v,List.mem_append_left _ j,x,O,rfl,a,by rw[keep v j];exact i,new⟩
  ·rcases List.mem_append.1 d with d|d
   ·rw[keep y d]at f;exact H y d b f
   ·simp at d;subst d
    rw[new]at f;cases f
    have K:=H v j a i
    rw[List.reverse_append]
    show Red (x::a.reverse)=true
    cases e:a.reverse with
    |nil=>rfl
    |cons l t =>
     rw[e]at K
     unfold Red
     rw[K,Bool.and_true]
     cases hc:V05 l x with
     |false=>rfl
     |true =>
      exfalso
      have N:v≠p:=λw=>by
       subst w
       rw[J]at i;cases i;simp at e
      obtain⟨I,A,M,F,D,b,w,k⟩:=G v j N
      rw[i]at k
      injection k with k
      rw[k,List.reverse_append]at e
      simp only[List.reverse_cons,List.reverse_nil,List.nil_append,List.cons_append,List.cons.injEq]at e
      rw[←e.1]at hc
      have:=K0n (r07 (by omega) F).1 hc
      have f:=g05 hf D E.1
      rw[←this]at f
      exact s (f▸A)
 ·exact h
theorem u0g(g:j0)(v x:Int)(s:Tr8):∃ t,(trS g v x s).2=s.2++t:=by rw[T0k];exact f0d _ _
theorem m0i(g:j0)(v:Int)(b:List Int)(a:Tr8):∃ t,(t0d g v b a).2=a.2++t:=by rw[u0d];exact Z01 _ _ _ _
theorem TOk.inn{g:j0}(hf:H0 g=true){p:Int}{n:Nat}(d:g.2.1=(n:Int)){v:Int}:∀(f:List Int) {a:Tr8},TOk g p n a->v∈a.2->(∀ x∈f,x∈j6 g.1.toNat 1)->TOk g p n (t0d g v f a)
 | [],a,h,c,b=>h
 |x::r,a,h,c,b=>by
  obtain⟨t,e⟩:=u0g g v x a
  exact TOk.inn hf d r (h.add hf d c (b x mS)) (by rw[e];exact List.mem_append_left _ c) λy i=>b y (mC _ i)
theorem TOk.out{g:j0}(hf:H0 g=true){p:Int}{n:Nat}(b:g.2.1=(n:Int)):∀(f i:Nat) {a:Tr8},TOk g p n a->TOk g p n (t04 g (j6 g.1.toNat 1) f i a)
 |0,i,a,h=>h
 |f+1,i,a,h=>by
  unfold t04
  cases e:a.2[i]? with
  |none=>exact h
  |some v=>exact TOk.out hf b f (i+1) (h.inn hf b _ (List.mem_of_getElem? e) λx c=>c)
theorem L0n(N:Nat)(x:Int):O7 (List.replicate N (none:Option (List Int))) x=none:=by
 unfold O7
 rw[List.getD_eq_getElem?_getD,List.getElem?_replicate];split<;>rfl
theorem B0a(g:j0){p:Int}{N:Nat}(d:0<=p/\p<(N:Int)):TOk g p N ((List.replicate N none).set p.toNat (some []),[p]):=by
 have f:∀ x,0<=x->O7 ((List.replicate N (none:Option (List Int))).set p.toNat (some [])) x=if x=p then some []else none:=λx h0=>by
  rw[T9 d.1 (by simp;omega) h0,L0n]
 refine⟨⟨by simp,λx h0 k=>?_,λx=>?_⟩,⟨by simp,λx j=>by simp at j;subst j;exact d⟩,by simp,?_,λy b h=>?_,λy b a i=>?_⟩
 ·simp only
  rw[f x h0]
  by_cases c:x=p
  ·rw[if_pos c];simp[c]
  ·rw[if_neg c];simp[c]
 ·have:∀ x,0<=x->((O7 ((List.replicate N (none:Option (List Int))).set p.toNat (some [])) x).getD []).length<=1:=λx h0=>by
   rw[f x h0];split<;>simp
  by_cases hz:0<=x
  ·exact this x hz
  ·have e:O7 ((List.replicate N (none:Option (List Int))).set p.toNat (some [])) x=O7 ((List.replicate N (none:Option (List Int))).set p.toNat (some [])) 0:=by
    unfold O7;rw[show x.toNat=(0:Int).toNat by omega]
   simp only
   rw[e];exact this 0 (iR 0)
 ·simp only
  rw[f p d.1,if_pos rfl]
 ·simp at b;exact absurd b h
 ·simp at b;subst b
  simp only at i
  rw[f y d.1,if_pos rfl]at i
  cases i;rfl
theorem v0g{g:j0}(hf:H0 g=true){p:Int}(a:0<=p/\p<g.2.1):TOk g p g.2.1.toNat (v08 g p):=by
 obtain⟨b,c,d,e⟩:=W0 hf
 exact TOk.out hf (by omega) _ _ (B0a g ⟨a.1,by omega⟩)
theorem m0p{g:j0}(hf:H0 g=true)(p:Int){n:Nat}(u:g.2.1=(n:Int))(b:List Int)(s:∀ x∈b,x∈j6 g.1.toNat 1)(C:b.length<=1000000)(v:Int):∀(d k fuel:Nat) (a:Tr8),TOk g p n a->v∈a.2->k+d=b.length->d<fuel ->
  T2 b g.1 g.2.1 g.2.2 v fuel (k:Int) a.1 a.2=some (t0d g v (b.drop k) a)
 |d,k,0,a,c,e,m,hf=>by omega
 |0,k,fuel+1,a,c,e,m,hf=>by
  rw[T2.eq_2,if_neg (by simp;omega),H1 (by omega)];rfl
 |d+1,k,fuel+1,a,c,e,m,H=>by
  obtain⟨z,L,G,M⟩:=W0 hf
  have q:k<b.length:=by omega
  have i:=a5 q
  have j:=s _ (List.mem_of_getElem? i)
  have o:=J1 i
  generalize b[k]=x at i j o
  have E:=(r07 (by omega) j).1
  have I:=o9 n a.2 c.gd.1 c.gd.2
  have J:=q02 z v x
  have D:=c.add hf u e j
  obtain⟨t,A⟩:=u0g g v x a
  have F:=m0p hf p u b s C v d (k+1) fuel (trS g v x a) D (by rw[A];exact List.mem_append_left _ e) (by omega) (by omega)
  have f:=c.ok
  have w:=c.gd.2 v e
  rw[T2.eq_2,if_pos (by simp;omega),o,t0d,←F]
  simp only[U1 i,oB,show(g.1,g.2.1,g.2.2)=g from rfl,V00 g v x E (by omega),B0 (M9 z G.2 v x),V1 q (show b.length<=9223372036854775807 by omega)]
  unfold trS
  generalize O0 g v x=y at *
  by_cases c1:0<=y
  ·have l:y<(n:Int):=by omega
   simp only[show decide (y ≥ 0)=true by simpa using c1,L1,giO f.len c1 l,oB,cond_true]
   by_cases c2:y∈a.2
   ·have : ¬ ((O7 a.1 y).isNone=true):=λh=>(f.iff y c1 l).1 h c2
    rw[if_neg this,if_neg λh=>h.2 c2]
   ·have:(O7 a.1 y).isNone=true:=(f.iff y c1 l).2 c2
    have K:=f.short v
    rw[if_pos this,if_pos ⟨c1,c2⟩,giO f.len w.1 w.2,oB,L0k (by omega),oB,B0 (by simp;omega),oB,B0 (by simp;omega),oB]
  ·simp only[show decide (y ≥ 0)=false by simpa using c1,J2,oB,cond_false]
   rw[if_neg (by simp),if_neg λh=>c1 h.1]
theorem n0p{g:j0}(hf:H0 g=true)(p:Int){n:Nat}(d:g.2.1=(n:Int)):∀(f i fuel:Nat) (a:Tr8),TOk g p n a->i<=a.2.length->n+1<=i+f->f<fuel ->
  N4 g.1 g.2.1 g.2.2 fuel (i:Int) a.1 a.2=some (t04 g (j6 g.1.toNat 1) f i a)
 |f,i,0,a,c,j,h,hf=>by omega
 |0,i,fuel+1,a,c,j,h,hf=>by have:=o9 n a.2 c.gd.1 c.gd.2;omega
 |f+1,i,fuel+1,a,c,j,h,o=>by
  obtain⟨s,u,w,y⟩:=W0 hf
  have q:=o9 n a.2 c.gd.1 c.gd.2
  rw[N4.eq_2,oB,B0 (by omega),oB]
  by_cases hk:i<a.2.length
  ·have b:=a5 hk
   generalize a.2[i]=v at b
   have k:=List.mem_of_getElem? b
   have h0:=m0p hf p d (j6 g.1.toNat 1) (λx b=>b) (by rw[C01];omega) v (j6 g.1.toNat 1).length 0 P0 a c k (by omega) (j1 (by rw[C01];omega))
   rw[show((0:Nat):Int)=0 from rfl,List.drop_zero]at h0
   obtain⟨t,e⟩:=m0i g v (j6 g.1.toNat 1) a
   have m:=n0p hf p d f (i+1) fuel _ (c.inn hf d _ k λx b=>b) (by rw[e,List.length_append];omega) (by omega) (by omega)
   have l:l8 g.1=some (j6 g.1.toNat 1):=by
    have:=v0j g.1.toNat (by omega)
    rwa [show((g.1.toNat:Nat):Int)=g.1 by omega]at this
   rw[if_pos (by simpa using hk),U1 b,oB,l,oB,h0,oB]
   simp only[V1 hk (show a.2.length<=9223372036854775807 by omega),t04,b]
   exact m
  ·have b:a.2[i]?=none:=List.getElem?_eq_none (by omega)
   rw[if_neg (by simpa using hk)]
   simp only[t04,b]
def s07(g:j0)(p:Int):List (List Int):=(v08 g p).1.map λo=>o.getD []
theorem G0j{g:j0}(hf:H0 g=true){p:Int}(f:0<=p/\p<g.2.1):A7 g p=some (O2 g p,s07 g p):=by
 obtain⟨h,i,j,l⟩:=W0 hf
 have d:g.2.1=((g.2.1.toNat:Nat):Int):=by omega
 have h0:=n0p hf p d (g.2.1.toNat+1) 0 P0 _ (B0a g (N:=g.2.1.toNat) ⟨f.1,by omega⟩) (by simp) (by omega) (j1 (by omega))
 have e:gi (List.replicate g.2.1.toNat (none:Option (List Int))) p=some none:=by
  have:=U1 (xs:=List.replicate g.2.1.toNat (none:Option (List Int))) (k:=p.toNat) (x:=none) (by rw[List.getElem?_replicate,if_pos (by omega)])
  rwa [show((p.toNat:Nat):Int)=p by omega]at this
 rw[←z09]
 unfold s07 v08
 obtain⟨a,b,c⟩:=g
 simp only at *
 unfold A7
 simp only
 rw[B0 (by omega),oB,e,oB]
 rw[show((0:Nat):Int)=0 from rfl]at h0
 rw[h0]
 rfl
def tw(g:j0)(p v:Int):List Int:=(O7 (v08 g p).1 v).getD []
structure d0e (g:j0) (p:Int) (t:Int->List Int):Prop where
 z:t p = []
 par:∀ y∈O2 g p,y≠p->∃ v∈O2 g p,∃ x,x∈j6 g.1.toNat 1/\O0 g v x=y/\t y=t v ++ [x]
 red:∀ y∈O2 g p,Red (t y).reverse=true
 len:∀ y,(t y).length<=40
theorem d0m{g:j0}(hf:H0 g=true){p:Int}(k:0<=p/\p<g.2.1):d0e g p (tw g p):=by
 obtain⟨o,q,s,t⟩:=W0 hf
 have h:=v0g hf k
 have e:=z09 g p
 refine⟨by unfold tw;rw[h.word];rfl,λy b n=>?_,λy b=>?_,λy=>?_⟩
 ·rw[←e]at b ⊢
  obtain⟨v,l,x,m,f,a,i,j⟩:=h.par y b n
  exact⟨v,l,x,m,f,by unfold tw;rw[i,j];rfl⟩
 ·rw[←e]at b
  have d:=h.gd.2 y b
  obtain⟨a,c⟩:=h.ok.get d.1 d.2 b
  unfold tw
  rw[c]
  exact h.red y b a c
 ·have:=h.ok.short y
  have:=o9 _ _ h.gd.1 h.gd.2
  unfold tw
  omega
theorem Z02{g:j0}(hf:H0 g=true){p:Int}(a:0<=p/\p<g.2.1):gud g.2.1.toNat (O2 g p):=by
 rw[←z09];exact(v0g hf a).gd
theorem A09(g:j0)(p:Int):∃ t,O2 g p=p::t:=by
 obtain⟨t,e⟩:=t08 g (j6 g.1.toNat 1) (g.2.1.toNat+1) 0 [p]
 exact⟨t,e⟩
theorem d0e.ind{g:j0}{p:Int}{t:Int->List Int}(h:d0e g p t)(P:Int->Prop)(h0:P p)(d:∀ v∈O2 g p,∀ y∈O2 g p,∀ x,x∈j6 g.1.toNat 1->O0 g v x=y->t y=t v ++ [x]->P v->P y):∀(k:Nat) (y:Int),(t y).length<=k->y∈O2 g p->P y
 |k,y,a,f=>by
  by_cases c:y=p
  ·rw[c];exact h0
  ·obtain⟨v,e,x,j,i,b⟩:=h.par y f c
   cases k with
   |zero=>rw[b]at a;simp at a
   |succ k=>exact d v e y f x j i b (d0e.ind h P h0 d k v (by rw[b]at a;simp at a;omega) e)
theorem d0e.induct{g:j0}{p:Int}{t:Int->List Int}(h:d0e g p t){P:Int->Prop}(h0:P p)(a:∀ v∈O2 g p,∀ y∈O2 g p,∀ x,x∈j6 g.1.toNat 1->O0 g v x=y->t y=t v ++ [x]->P v->P y){y:Int}(b:y∈O2 g p):P y:=h.ind P h0 a _ y (Nat.le_refl _) b
theorem P0o{g:j0}{v x y:Int}(h:O0 g v x=y)(h0:0<=y):rdw g v [x]=some y:=by
 unfold rdw
 rw[if_neg (by omega),h];rfl
theorem d0e.rd{g:j0}(hf:H0 g=true){p:Int}(d:0<=p/\p<g.2.1){t:Int->List Int}(h:d0e g p t){y:Int}(a:y∈O2 g p):rdw g p (t y)=some y:=by
 refine h.induct (P:=λy=>rdw g p (t y)=some y) ?_ (λv f y a x i b c e=>?_) a
 ·rw[h.z];rfl
 ·rw[c,S0k,e,oB]
  exact P0o b ((Z02 hf d).2 y a).1
theorem d0e.let{g:j0}{p:Int}{t:Int->List Int}(h:d0e g p t){y:Int}(c:y∈O2 g p):∀ x∈t y,x∈j6 g.1.toNat 1:=by
 refine h.induct (P:=λy=>∀ x∈t y,x∈j6 g.1.toNat 1) ?_ (λv i y c x b f d e=>?_) c
 ·rw[h.z];exact λx b=>by cases b
 ·rw[d]
  intro z a
  rcases List.mem_append.1 a with a|a
  ·exact e z a
  ·simp at a;rw[a];exact b
def s0b(w:List Int):Int:=w.getLastD 0
theorem n0f(a:List Int)(x:Int):s0b (a ++ [x])=x:=by unfold s0b;simp
def tE(g:j0)(v:Int):D0:=stp (O0 g v (-(s0b (tw g 0 v)))) (s0b (tw g 0 v)) v
def u02(g:j0):List D0:=G3 N0 [] ((O2 g 0).tail.map (tE g))
theorem M0n{g:j0}(hf:H0 g=true){p:Int}(b:0<=p/\p<g.2.1){v:Int}(d:0<=v/\v<g.2.1):gi (s07 g p) v=some (tw g p v):=by
 have h:=v0g hf b
 have c:=h.ok.len
 have a:v.toNat<(v08 g p).1.length:=by omega
 have:=U1 (xs:=s07 g p) (k:=v.toNat) (x:=tw g p v) (by
  unfold s07 tw O7
  rw[List.getElem?_map,List.getElem?_eq_getElem a,List.getD_eq_getElem?_getD,List.getElem?_eq_getElem a];rfl)
 rwa [show((v.toNat:Nat):Int)=v by omega]at this
theorem N0n{g:j0}(hf:H0 g=true){v:Int}:v∈(O2 g 0).tail↔v∈O2 g 0/\v≠0:=by
 obtain⟨f,i,j,k⟩:=W0 hf
 obtain⟨t,e⟩:=A09 g 0
 have b:=(Z02 hf (p:=0) ⟨by omega,by omega⟩).1
 rw[e]at b ⊢
 have:=(List.nodup_cons.1 b).1
 constructor
 ·intro h
  exact⟨mC _ h,λc=>this (c▸h)⟩
 ·rintro⟨a,d⟩
  rcases List.mem_cons.1 a with a|a
  ·exact absurd a d
  ·exact a
theorem U0k{g:j0}(hf:H0 g=true):∀(d k fuel:Nat) (acc:List D0),k+d=(O2 g 0).tail.length->d<fuel->acc.length<=k ->
  R5 (O2 g 0).tail (s07 g 0) g.1 g.2.1 g.2.2 fuel (k:Int) acc=some (acc++((O2 g 0).tail.drop k).map (tE g))
 |d,k,0,acc,j,s,i=>by omega
 |0,k,fuel+1,acc,j,s,i=>by
  rw[R5.eq_2,if_neg (by simp only[decide_eq_true_eq];omega),H1 (by omega)];simp
 |d+1,k,fuel+1,acc,j,G,i=>by
  obtain⟨D,M,E,N⟩:=W0 hf
  have f:(0:Int)<=0/\(0:Int)<g.2.1:=⟨by omega,by omega⟩
  have h:=d0m hf f
  have e:=Z02 hf f
  have H:=o9 _ _ e.1 e.2
  have m:k<(O2 g 0).tail.length:=by omega
  have K:(O2 g 0).tail.length<=40:=by rw[List.length_tail];omega
  have b:=a5 m
  have n:=List.mem_of_getElem? b
  have l:=J1 b
  generalize (O2 g 0).tail[k]=v at b n l
  obtain⟨o,z⟩:=(N0n hf).1 n
  have A:=e.2 v o
  obtain⟨u,L,x,C,F,c⟩:=h.par v o z
  have a:=r07 (by omega) C
  have I:(tw g 0 v).length=(tw g 0 u).length+1:=by rw[c];simp
  have J:=h.len u
  have q:gi (tw g 0 v) (IntKind.i64.wrap (((tw g 0 v).length:Nat)-1))=some x:=by
   rw[w64 (by omega) (by omega),show(((tw g 0 v).length:Nat):Int)-1=(((tw g 0 u).length:Nat):Int) by omega]
   refine U1 ?_
   rw[c,List.getElem?_append_right (Nat.le_refl _)];simp
  have y:tE g v=stp (O0 g v (-x)) x v:=by unfold tE;rw[c,n0f]
  have w:L5 (-x):=⟨⟨by have:=a.2.2;omega,by have:=a.2.2;omega⟩,by have:=a.2.2;omega⟩
  have p:=U0k hf d (k+1) fuel (acc ++ [tE g v]) (by omega) (by omega) (by simp;omega)
  rw[R5.eq_2,if_pos (by simp only[decide_eq_true_eq];omega),U1 b,oB,M0n hf f ⟨A.1,by omega⟩,oB,q,oB,U07 a.1.1 a.1.2,show(g.1,g.2.1,g.2.2)=g from rfl,V00 g v (-x) w (by omega),oB,B0 (M9 D E.2 v _),oB,o0g _ x v a.1,oB,←y,V1 m (by omega),l,List.map_cons]
  generalize tE g v=t at p ⊢
  obtain⟨O,P,Q⟩:=t
  simp only
  rw[B0 (by simp;omega),oB]
  rw[p]
  simp
theorem n0i{g:j0}(hf:H0 g=true):b00 g=some (u02 g):=by
 obtain⟨n,o,p,q⟩:=W0 hf
 have f:(0:Int)<=0/\(0:Int)<g.2.1:=⟨by omega,by omega⟩
 have d:=Z02 hf f
 have m:=o9 _ _ d.1 d.2
 have i:=G0j hf f
 obtain⟨t,h⟩:=A09 g 0
 have j:x02 (O2 g 0) 1 (((O2 g 0).length:Nat):Int)=some (O2 g 0).tail:=by
  have:=S01 (xs:=O2 g 0) (k:=1) (by rw[h];simp)
  rw[show((1:Nat):Int)=1 from rfl]at this
  rw[this,List.drop_one]
 have e:=U0k hf (O2 g 0).tail.length 0 P0 [] (by omega) (j1 (by rw[List.length_tail];omega)) (by simp)
 rw[show((0:Nat):Int)=0 from rfl,List.drop_zero,List.nil_append]at e
 have l:=z06 ((O2 g 0).tail.map (tE g)) (by rw[List.length_map,List.length_tail];omega)
 unfold u02
 obtain⟨a,b,c⟩:=g
 simp only at *
 unfold b00
 simp only[i,oB,j,e,l]
def l9(g:j0):List D0:=g.2.2.filter λe => !decide (e∈u02 g)
theorem o0f{g:j0}(hf:H0 g=true):(u02 g).length<=40:=by
 obtain⟨c,d,e,f⟩:=W0 hf
 have a:=Z02 hf (p:=0) ⟨by omega,by omega⟩
 have b:=o9 _ _ a.1 a.2
 unfold u02
 have:=n00 ((O2 g 0).tail.map (tE g)) []
 rw[List.length_map,List.length_tail,List.length_nil]at this
 omega
theorem V0k(a:List D0)(q:a.length<=1000)(es:List D0)(t:es.length<=1000):∀(d k fuel:Nat) (acc:List D0),k+d=es.length->d<fuel->acc.length<=k ->
  O4 es a fuel (k:Int) acc=some (acc++(es.drop k).filter λe => !decide (e∈a))
 |d,k,0,acc,l,s,j=>by omega
 |0,k,fuel+1,acc,l,s,j=>by
  rw[O4.eq_2,if_neg (by simp only[decide_eq_true_eq];omega),H1 (by omega)];simp
 |d+1,k,fuel+1,acc,l,u,j=>by
  have n:k<es.length:=by omega
  have b:=a5 n
  have m:=J1 b
  generalize es[k]=e at b m
  have o:=λp h=>V0k a q es t d (k+1) fuel p (by omega) (by omega) h
  obtain⟨f,g,i⟩:=e
  rw[O4.eq_2,if_pos (by simp only[decide_eq_true_eq];omega),U1 b,oB]
  simp only[z0j a (f,g,i) (by omega),oB,V1 n (show es.length<=9223372036854775807 by omega),m,List.filter_cons]
  by_cases c:(f,g,i)∈a
  ·simp only[decide_eq_true c,Bool.not_true,Bool.false_eq_true,if_false]
   exact o acc (by omega)
  ·simp only[decide_eq_false c,Bool.not_false,if_true]
   rw[B0 (by simp;omega),oB,o _ (by simp;omega)]
   simp
theorem Q0o{g:j0}(hf:H0 g=true):z9 g=some (l9 g):=by
 obtain⟨i,j,k,l⟩:=W0 hf
 have e:=S9 g (by omega)
 have f:=n0i hf
 have h:=o0f hf
 have d:=V0k (u02 g) (by omega) g.2.2 (by omega) g.2.2.length 0 P0 [] (by omega) (j1 (by omega)) (by simp)
 rw[show((0:Nat):Int)=0 from rfl,List.drop_zero,List.nil_append]at d
 unfold l9
 obtain⟨a,b,c⟩:=g
 simp only at *
 unfold z9
 simp only[e,hf,oB,f,Bool.not_true,Bool.false_eq_true,if_false,d]
theorem e0m{s:List Int}{x y:Int}(h:y∈L9 s x):y∈s∨y=x:=by
 cases s with
 |nil=>simp[L9]at h;exact .inr h
 |cons l t =>
  simp only[L9]at h
  cases c:V05 l x with
  |true=>rw[c]at h;exact .inl (mC _ h)
  |false =>
   rw[c]at h
   rcases List.mem_cons.1 h with h|h
   ·exact .inr h
   ·exact .inl h
theorem o0i:∀(w s:List Int) {y:Int},y∈n01 s w->y∈s∨y∈w
 | [],s,y,h => .inl h
 |x::w,s,y,h=>by
  rcases o0i w (L9 s x) h with h|h
  ·rcases e0m h with h|rfl
   ·exact .inl h
   ·exact .inr mS
  ·exact .inr (mC _ h)
theorem t07{g:j0}(hf:H0 g=true){e:D0}(a:e∈g.2.2):O0 g e.1 e.2.1=e.2.2/\O0 g e.2.2 (-e.2.1)=e.1:=by
 have b:=(W0 hf).1 e a
 exact⟨s04 hf (n3.2 ⟨e,a,.inl ⟨by omega,rfl,rfl,rfl⟩⟩),s04 hf (n3.2 ⟨e,a,.inr ⟨by omega,by omega,rfl,rfl⟩⟩)⟩
theorem p0f(g:j0):∀ d k,(x09 g d k).length<=d*(j6 g.1.toNat 1).length
 |0,k=>Nat.zero_le _
 |d+1,k=>by
  have a:=y0a g (k:Int) (j6 g.1.toNat 1)
  have b:=p0f g d (k+1)
  rw[x09,List.length_append,Nat.succ_mul]
  omega
theorem p0i{g:j0}(hf:H0 g=true):(m01 g).length<=1000:=by
 obtain⟨b,c,d,e⟩:=W0 hf
 have h:=p0f g g.2.1.toNat 0
 rw[C01]at h
 unfold m01
 have a:g.2.1.toNat*(2*g.1.toNat)<=40*(2*3):=Nat.mul_le_mul (by omega) (by omega)
 omega
def L02(g:j0):Bool:=L3 g&&decide ((m01 g).length=0)
theorem T0q(n:Nat):decide (((n:Nat):Int)=0)=decide (n=0):=by
 by_cases c:n=0
 ·rw[decide_eq_true c,decide_eq_true (by omega)]
 ·rw[decide_eq_false c,decide_eq_false (by omega)]
theorem q0f{g:j0}(h:L3 g=true):H0 g=true:=by
 unfold L3 at h
 simp only[Bool.and_eq_true]at h
 exact h.1
theorem q0i(g:j0)(i:g.2.2.length<=140737488355328):r8 g=some (L02 g):=by
 have d:=r02 g i
 have f:L3 g=true->E7 g=some (m01 g):=λc=>c0e (q0f c)
 have h:L3 g=true->(m01 g).length<=1000:=λc=>p0i (q0f c)
 unfold L02
 obtain⟨a,b,c⟩:=g
 unfold r8
 simp only[d,oB]
 cases e:L3 (a,b,c)with
 |false=>rfl
 |true =>
  have:=h e
  simp only[L1,f e,oB,cond_true,Bool.true_and]
  rw[B0 (by omega),oB,T0q]
theorem v0d{g:j0}(h:L02 g=true):L3 g=true:=by
 unfold L02 at h
 simp only[Bool.and_eq_true]at h
 exact h.1
theorem H0j(g:Nat):∀(d k j:Nat),k<=j->j<k+d->j≠g->(j:Int)∈wo g d k
 |0,k,j,b,e,a=>by omega
 |d+1,k,j,b,e,a=>by
  unfold wo
  split
  ·exact H0j g d (k+1) j (by omega) (by omega) a
  ·by_cases c:j=k
   ·rw[c];exact mS
   ·exact mC _ (H0j g d (k+1) j (by omega) (by omega) a)
def isS(o:Option (List Int)):Bool:=o.isSome
def gtD(o:Option (List Int)):List Int:=o.getD []
theorem t0b{c:Type}(b:c->c->Int)(x:c):∀(a l:List c),G3 b l (a ++ [x])=b9 b x (G3 b l a)
 | [],l=>rfl
 |y::a,l=>by
  show G3 b (b9 b y l) (a ++ [x])=b9 b x (G3 b (b9 b y l) a)
  exact t0b b x a _
def tEW(g:j0)(W:List (Option (List Int)))(v:Int):D0:=stp (O0 g v (-(s0b (gtD (O7 W v))))) (s0b (gtD (O7 W v))) v
def C0a(g:j0)(s:Tr8):List D0:=G3 N0 [] (s.2.tail.map (tEW g s.1))
theorem f0m{g:j0}(hf:H0 g=true){p:Int}{n:Nat}(E:g.2.1=(n:Int)){d:Tr8}(h:TOk g p n d){v x:Int}(i:v∈d.2)(c:0<=O0 g v x/\O0 g v x ∉ d.2):
  C0a g (trS g v x d)=b9 N0 (stp v x (O0 g v x)) (C0a g d)/\(trS g v x d).2=d.2 ++ [O0 g v x]:=by
 obtain⟨D,G,H,I⟩:=W0 hf
 have F:O0 g v x<(n:Int):=by
  rcases q02 D v x with e|e<;>omega
 unfold trS
 rw[if_pos c]
 obtain⟨b,u⟩:=d
 obtain⟨f,k⟩:=c
 simp only at k i
 refine⟨?_,rfl⟩
 have w:=h.ok.len
 simp only at w
 have l:=λ(z:Int) (j:0<=z)=>T9 (A:=b) (y:=some ((O7 b v).getD [] ++ [x])) f (by omega) j
 have t:u≠[]:=λe=>by rw[e]at i;cases i
 have s:(u ++ [O0 g v x]).tail=u.tail ++ [O0 g v x]:=by
  cases u with
  |nil=>exact absurd rfl t
  |cons a r=>rfl
 unfold C0a
 simp only
 rw[s,List.map_append,List.map_singleton,t0b]
 have o:tEW g (b.set (O0 g v x).toNat (some ((O7 b v).getD [] ++ [x]))) (O0 g v x)=stp v x (O0 g v x):=by
  unfold tEW
  rw[l _ f,if_pos rfl]
  show stp (O0 g (O0 g v x) (-(s0b ((O7 b v).getD [] ++ [x])))) (s0b ((O7 b v).getD [] ++ [x])) (O0 g v x)=_
  rw[n0f,g05 hf rfl f]
 have q:u.tail.map (tEW g (b.set (O0 g v x).toNat (some ((O7 b v).getD [] ++ [x]))))=u.tail.map (tEW g b):=by
  refine List.map_congr_left λz j=>?_
  have m:=List.mem_of_mem_tail j
  have C:=h.gd.2 z m
  unfold tEW
  rw[l z C.1,if_neg λe=>k (by rw[←e];exact m)]
 rw[o,q]
theorem O0n(g:j0)(v x:Int)(s:Tr8)(c : ¬ (0<=O0 g v x/\O0 g v x ∉ s.2)):trS g v x s=s:=by
 unfold trS;rw[if_neg c]
theorem P0n(g:j0)(s:Tr8):(C0a g s).length<=s.2.length:=by
 unfold C0a
 have:=n00 (s.2.tail.map (tEW g s.1)) []
 rw[List.length_map,List.length_tail,List.length_nil]at this
 omega
theorem W0k{g:j0}(hf:H0 g=true)(p:Int){n:Nat}(o:g.2.1=(n:Int))(b:List Int)(z:∀ x∈b,x∈j6 g.1.toNat 1)(I:b.length<=1000000)(i:Nat)(v:Int):∀(d k fuel:Nat) (a:Tr8),TOk g p n a->a.2[i]?=some v->k+d=b.length->d<fuel ->
  w5 b (i:Int) g.1 g.2.1 g.2.2 fuel (C0a g a) (k:Int) a.2=some (C0a g (t0d g v (b.drop k) a),(t0d g v (b.drop k) a).2)
 |d,k,0,a,f,j,s,hf=>by omega
 |0,k,fuel+1,a,f,j,s,hf=>by
  rw[w5.eq_2,if_neg (by simp only[decide_eq_true_eq];omega),H1 (by omega)];rfl
 |d+1,k,fuel+1,a,f,e,s,M=>by
  obtain⟨A,Q,L,R⟩:=W0 hf
  have w:k<b.length:=by omega
  have l:=a5 w
  have q:=z _ (List.mem_of_getElem? l)
  have u:=J1 l
  generalize b[k]=x at l q u
  have m:=r07 (by omega) q
  have N:=o9 n a.2 f.gd.1 f.gd.2
  have O:=q02 A v x
  have j:=List.mem_of_getElem? e
  have J:=f.add hf o j q
  obtain⟨t,H⟩:=u0g g v x a
  have K:=W0k hf p o b z I i v d (k+1) fuel (trS g v x a) J (by rw[H,List.getElem?_append_left (List.getElem?_eq_some_iff.1 e).1];exact e) (by omega) (by omega)
  have P:=P0n g a
  rw[w5.eq_2,if_pos (by simp only[decide_eq_true_eq];omega),u,t0d,←K]
  simp only[U1 e,U1 l,oB,show(g.1,g.2.1,g.2.2)=g from rfl,R01 g v x m.1 (by omega),B0 (M9 A L.2 v x),V1 w (show b.length<=9223372036854775807 by omega)]
  by_cases c:0<=O0 g v x/\O0 g v x ∉ a.2
  ·obtain⟨D,E⟩:=f0m hf o f j c
   rw[D,E]
   have F:decide (O0 g v x<0)=false:=decide_eq_false (by omega)
   have G:gi (a.2 ++ [O0 g v x]) (i:Int)=some v:=U1 (by rw[List.getElem?_append_left (List.getElem?_eq_some_iff.1 e).1];exact e)
   rw[F]
   simp only[Bool.not_false,L1,o07 a.2 _ (show a.2.length<=9223372036854775807 by omega),decide_eq_false c.2,oB,cond_false,Bool.false_eq_true,if_false,G]
   rw[B0 (by simp;omega),oB]
   generalize O0 g v x=y at *
   by_cases cx:x>0
   ·rw[if_pos (by simpa using cx),u03 _ _ (by omega),oB]
    unfold stp
    rw[if_neg (by omega)]
   ·rw[if_neg (by simpa using cx),u03 _ _ (by omega),oB,U07 m.1.1 m.1.2]
    unfold stp
    rw[if_pos (by have:=m.2.1;omega)]
  ·rw[O0n g v x a c]
   by_cases c1:0<=O0 g v x
   ·have C:O0 g v x∈a.2:=Classical.byContradiction λh=>c ⟨c1,h⟩
    rw[show decide (O0 g v x<0)=false from decide_eq_false (by omega)]
    simp only[Bool.not_false,L1,o07 a.2 _ (show a.2.length<=9223372036854775807 by omega),decide_eq_true C,oB,cond_false,if_true]
   ·rw[show decide (O0 g v x<0)=true from decide_eq_true (by omega)]
    simp only[Bool.not_true,J2,oB,cond_true,if_true]
theorem X0k{g:j0}(hf:H0 g=true)(p:Int){n:Nat}(d:g.2.1=(n:Int)):∀(f i fuel:Nat) (a:Tr8),TOk g p n a->i<=a.2.length->n+1<=i+f->f<fuel ->
  R7 (j6 g.1.toNat 1) g.1 g.2.1 g.2.2 fuel (C0a g a) (i:Int) a.2=some (C0a g (t04 g (j6 g.1.toNat 1) f i a),(t04 g (j6 g.1.toNat 1) f i a).2)
 |f,i,0,a,c,j,h,hf=>by omega
 |0,i,fuel+1,a,c,j,h,hf=>by have:=o9 n a.2 c.gd.1 c.gd.2;omega
 |f+1,i,fuel+1,a,c,j,h,m=>by
  obtain⟨q,s,u,w⟩:=W0 hf
  have o:=o9 n a.2 c.gd.1 c.gd.2
  rw[R7.eq_2,oB,B0 (by omega),oB]
  by_cases hk:i<a.2.length
  ·have b:=a5 hk
   generalize a.2[i]=v at b
   have k:=List.mem_of_getElem? b
   have h0:=W0k hf p d (j6 g.1.toNat 1) (λx b=>b) (by rw[C01];omega) i v (j6 g.1.toNat 1).length 0 P0 a c b (by omega) (j1 (by rw[C01];omega))
   rw[show((0:Nat):Int)=0 from rfl,List.drop_zero]at h0
   obtain⟨t,e⟩:=m0i g v (j6 g.1.toNat 1) a
   have l:=X0k hf p d f (i+1) fuel _ (c.inn hf d _ k λx b=>b) (by rw[e,List.length_append];omega) (by omega) (by omega)
   rw[if_pos (by simpa using hk),h0,oB]
   simp only[V1 hk (show a.2.length<=9223372036854775807 by omega),t04,b]
   exact l
  ·have b:a.2[i]?=none:=List.getElem?_eq_none (by omega)
   rw[if_neg (by simpa using hk)]
   simp only[t04,b]
theorem g0m{g:j0}(hf:H0 g=true):e01 g=some (u02 g):=by
 obtain⟨j,k,l,m⟩:=W0 hf
 have h:g.2.1=((g.2.1.toNat:Nat):Int):=by omega
 have h0:=X0k hf 0 h (g.2.1.toNat+1) 0 P0 _ (B0a g (N:=g.2.1.toNat) ⟨iR _,by omega⟩) (by simp) (by omega) (j1 (by omega))
 have d:=A0n g.1.toNat (by omega)
 rw[show((g.1.toNat:Nat):Int)=g.1 by omega]at d
 have i:=i9 g (by omega)
 have e:C0a g (t04 g (j6 g.1.toNat 1) (g.2.1.toNat+1) 0 ((List.replicate g.2.1.toNat none).set (0:Int).toNat (some []),[0]))=u02 g:=by
  show C0a g (v08 g 0)=_
  unfold C0a u02
  rw[z09]
  rfl
 rw[e]at h0
 have f:C0a g ((List.replicate g.2.1.toNat none).set (0:Int).toNat (some []),[0]) = []:=rfl
 rw[f,show((0:Nat):Int)=0 from rfl]at h0
 obtain⟨a,b,c⟩:=g
 simp only at *
 unfold e01
 simp only[i,hf,oB,Bool.not_true,Bool.false_eq_true,if_false,d,h0]
theorem o0p(a es:List D0)(j:Nat){e:D0}(o:es[j]?=some e)(y:a.length<=1000):∀(d k fuel:Nat) (b:Bool),k+d=a.length->d<fuel ->
  D5 a es (j:Int) fuel b (k:Int)=some (b || decide (e∈a.drop k))
 |d,k,0,b,m,hf=>by omega
 |0,k,fuel+1,b,m,hf=>by
  rw[D5.eq_2,if_neg (by simp only[decide_eq_true_eq];omega),H1 (by omega)];simp
 |d+1,k,fuel+1,b,m,z=>by
  have p:k<a.length:=by omega
  have f:=a5 p
  have n:=J1 f
  generalize a[k]=t at f n
  have q:=λw=>o0p a es j o y d (k+1) fuel w (by omega) (by omega)
  obtain⟨s,u,v⟩:=t
  obtain⟨g,i,l⟩:=e
  rw[D5.eq_2,if_pos (by simp only[decide_eq_true_eq];omega),n,V1 p (by omega)]
  cases b with
  |true =>
   simp only[Bool.not_true,J2,oB,cond_true,q,Bool.true_or]
  |false =>
   simp only[Bool.not_false,L1,U1 f,U1 o,oB,cond_false,q,Bool.false_or]
   by_cases c:(s,u,v)=(g,i,l)
   ·rw[c];simp[eqE]
   ·have x : ¬ (g,i,l)=(s,u,v):=λh=>c h.symm
    unfold eqE
    rw[decide_eq_false c,Bool.false_or]
    simp only[List.mem_cons,x,false_or]
theorem r0i{g:j0}(hf:H0 g=true)(a:List D0)(f:a.length<=1000):∀(d k fuel:Nat) (acc:List D0),k+d=g.2.2.length->d<fuel->acc.length<=k ->
  P4 g.2.2 g.1 g.2.1 a fuel (k:Int) acc=some (acc++(g.2.2.drop k).filter λe => !decide (e∈a))
 |d,k,0,acc,j,t,i=>by omega
 |0,k,fuel+1,acc,j,t,i=>by
  rw[P4.eq_2,show decide ((k:Int)<((g.2.2.length:Nat):Int))=false from decide_eq_false (by omega),H1 (by omega)]
  simp only[J2,oB,cond_false,Bool.false_eq_true,if_false,List.filter_nil,List.append_nil]
 |d+1,k,fuel+1,acc,j,v,i=>by
  obtain⟨w,x,y,z⟩:=W0 hf
  have m:k<g.2.2.length:=by omega
  have b:=a5 m
  have l:=J1 b
  generalize g.2.2[k]=e at b l
  have u:=i9 g (by omega)
  have n:=λo h=>r0i hf a f d (k+1) fuel o (by omega) (by omega) h
  have h0:=o0p a g.2.2 k b f a.length 0 P0 false (by omega) (j1 (by omega))
  rw[show((0:Nat):Int)=0 from rfl,List.drop_zero,Bool.false_or]at h0
  obtain⟨p,q,s⟩:=e
  rw[P4.eq_2,show decide ((k:Int)<((g.2.2.length:Nat):Int))=true from decide_eq_true (by omega)]
  simp only[L1,show(g.1,g.2.1,g.2.2)=g from rfl,u,hf,oB,cond_true,if_true,h0,U1 b,V1 m (show g.2.2.length<=9223372036854775807 by omega),l,List.filter_cons]
  by_cases c:(p,q,s)∈a
  ·simp only[decide_eq_true c,Bool.not_true,Bool.false_eq_true,if_false]
   exact n acc (by omega)
  ·simp only[decide_eq_false c,Bool.not_false,if_true]
   rw[B0 (by simp;omega),oB,n _ (by simp;omega)]
   simp
theorem Q0n{g:j0}(hf:H0 g=true):A9 g=some (l9 g):=by
 obtain⟨h,i,j,k⟩:=W0 hf
 have e:=g0m hf
 have f:=o0f hf
 have d:=r0i hf (u02 g) (by omega) g.2.2.length 0 P0 [] (by omega) (j1 (by omega)) (by simp)
 rw[show((0:Nat):Int)=0 from rfl,List.drop_zero,List.nil_append]at d
 unfold l9
 obtain⟨a,b,c⟩:=g
 simp only at *
 unfold A9
 simp only[e,oB,d]
theorem K06(g:j0)(d:g.2.2.length<=140737488355328):V4 g=some (L3 g):=by
 have:=u09 g d
 obtain⟨a,b,c⟩:=g
 unfold V4
 show(J9 (a,b,c)).bind (λe=>some e)=_
 rw[this];rfl
theorem R0o{g:j0}(hf:H0 g=true){w:List Int}(k:∀ x∈w,L5 x)(j:w.length<=140737488355328):P5 g w=some (U00 g w):=by
 obtain⟨e,m,f,n⟩:=W0 hf
 have h:=S0c g e f.2 (by omega) 0 w k j
 have i:=A01 e f.2 w 0 ⟨by omega,by omega⟩
 have l:=z01 g w 0
 unfold U00
 obtain⟨a,b,c⟩:=g
 unfold P5
 simp only[h,oB]
 rw[B0 i,oB,B0 (show J0 (((P1 (a,b,c) 0 w).2:Nat):Int) from⟨by omega,by omega⟩),oB]
 by_cases d:(P1 (a,b,c) 0 w).2=w.length
 ·rw[decide_eq_true d,show decide ((((P1 (a,b,c) 0 w).2:Nat):Int)=((w.length:Nat):Int))=true from decide_eq_true (by omega)]
  simp
 ·rw[decide_eq_false d,show decide ((((P1 (a,b,c) 0 w).2:Nat):Int)=((w.length:Nat):Int))=false from decide_eq_false (by omega)]
  simp
theorem K05(w:List Int)(a:w.length<=1099511627776):M3 w=some (n01 [] w).reverse:=by
 unfold M3
 rw[E04 [w] (by simp) (by simp only[F0j];omega)]
 rfl
def u07(g:j0):j0:=U2 (H06 (T8 g).1)
theorem s0i{g:j0}(f:V0 g=true):Y9 g=some (u07 g):=by
 obtain⟨m,o,p,s⟩:=Y2 f
 have h:=Y0d g (by omega)
 have hf:=D06 f
 obtain⟨v,d⟩:=B0j (J3 hf)
 have e:=p0b (H06 (T8 g).1) (t02 40 hf)
 unfold u07
 obtain⟨r,n,es⟩:=g
 unfold Y9
 generalize T8 (r,n,es)=q at *
 obtain⟨⟨a,b,c⟩,l⟩:=q
 simp only[h,oB]
 simp only at d e
 generalize H06 (a,b,c)=q2 at *
 obtain⟨i,j,k⟩:=q2
 simp only[d,oB,e]
theorem t0i{g:j0}(f:V0 g=true):Z9 g=some (u07 g):=by
 obtain⟨m,o,p,s⟩:=Y2 f
 have h:=Z0d g (by omega)
 have hf:=D06 f
 obtain⟨v,d⟩:=e0i (J3 hf)
 have e:=o0b (H06 (T8 g).1) (t02 40 hf)
 unfold u07
 obtain⟨r,n,es⟩:=g
 unfold Z9
 generalize T8 (r,n,es)=q at *
 obtain⟨⟨a,b,c⟩,l⟩:=q
 simp only[h,oB]
 simp only at d e
 generalize H06 (a,b,c)=q2 at *
 obtain⟨i,j,k⟩:=q2
 simp only[d,oB,e]
theorem w0d{r:Int}{g:j0}{w:List Int}(e:L3 g=true)(f:Q2 r w=true):B00 g w=some (U00 g w):=by
 have hf:=Q5 e
 obtain⟨l,m,n,o⟩:=W0 hf
 obtain⟨wl,k⟩:=t00 f
 have d:=K05 w (by omega)
 rw[Y02 f]at d
 have h:=R0o hf (λx j=>(k x j).1) (by omega)
 have i:=r02 g (by omega)
 obtain⟨a,b,c⟩:=g
 unfold B00
 simp only[i,e,oB,L1,d,h,cond_true]
theorem x0d(g:j0):∀(w:List Int) (v:Int),P1 g v (w.take (P1 g v w).2)=P1 g v w
 | [],v=>rfl
 |x::w,v=>by
  have a:=x0d g w (O0 g v x)
  by_cases c:O0 g v x<0
  ·have e:P1 g v (x::w)=(v,0):=by rw[P1,if_pos c]
   rw[e];rfl
  ·have e:P1 g v (x::w)=((P1 g (O0 g v x) w).1,(P1 g (O0 g v x) w).2+1):=by rw[P1,if_neg c]
   rw[e,List.take_succ_cons,P1,if_neg c,a]
theorem Y03{g:j0}(a:inG g):∀(w:List Int) (v:Int),(0<=v/\v<g.2.1)->0<=(P1 g v w).1/\(P1 g v w).1<g.2.1
 | [],v,h=>h
 |x::w,v,h=>by
  unfold P1
  split
  ·exact h
  ·rename_i c
   have b:=q02 a v x
   refine Y03 a w _ ?_
   rcases b with e|e<;>omega
theorem r0f{b a:Int}{w:List Int}:∀ {d k:Nat},(∀ i,k<=i->i<k+d->g03 b a w i=false)->P01 b a w d k=true
 |0,k,h=>rfl
 |d+1,k,h=>by
  unfold P01
  rw[h k (Nat.le_refl _) (by omega),r0f λi c e=>h i (by omega) (by omega)]
  rfl
theorem s0f{r:Int}{w:List Int}(h:Q2 r w=true)(n:Nat):Q2 r (w.drop n)=true:=by
 simp only[Q2,Bool.and_eq_true,decide_eq_true_eq]at h ⊢
 refine⟨⟨h.1.1,by rw[List.length_drop];omega⟩,r0f λi d c=>?_⟩
 have a:=n07 h.2 (n+i) (Nat.zero_le _) (by rw[List.length_drop]at c;omega)
 unfold g03 at a ⊢
 rw[List.getElem?_drop,List.getElem?_drop]
 cases hw:w[n+i]? with
 |none=>rw[hw]at a;exact a
 |some x =>
  rw[hw]at a
  simp only[Bool.or_eq_false_iff]at a ⊢
  refine⟨a.1,?_⟩
  cases i with
  |zero=>rfl
  |succ j =>
   have b:=a.2
   rw[show n+(j+1)-1=n+j by omega]at b
   rw[show n+(j+1-1)=n+j by omega]
   rw[show decide (0<n+(j+1))=true from decide_eq_true (by omega)]at b
   rw[show decide (0<j+1)=true from decide_eq_true (by omega)]
   exact b
theorem t0f{g:j0}(f:inG g)(j:g.2.1<=40)(e:g.2.2.length<=1099511627776)(w:List Int)(l:∀ x∈w,L5 x)(n:w.length<=140737488355328):∀(d k fuel:Nat) (v:Int),k+d=w.length->d<fuel ->
  E5 w g.1 g.2.1 g.2.2 fuel v (k:Int)=some (bif decide ((P1 g v (w.drop k)).2<d)then .inl (((k+(P1 g v (w.drop k)).2:Nat):Int))else .inr ())
 |d,k,0,v,b,hf=>by omega
 |0,k,fuel+1,v,b,hf=>by
  rw[E5.eq_2,if_neg (by simp only[decide_eq_true_eq];omega),H1 (by omega)]
  rfl
 |d+1,k,fuel+1,v,b,hf=>by
  have i:k<w.length:=by omega
  have a:=a5 i
  have m:=l _ (List.mem_of_getElem? a)
  have c:=J1 a
  generalize w[k]=x at a m c
  rw[E5.eq_2,if_pos (by simp only[decide_eq_true_eq];omega),U1 a,oB,show(g.1,g.2.1,g.2.2)=g from rfl,R01 g v x m e,oB,B0 (M9 f j v x),oB,c]
  unfold P1
  by_cases h:O0 g v x<0
  ·rw[if_pos (by simpa using h),if_pos h]
   simp
  ·rw[if_neg (by simpa using h),if_neg h,V1 i (by omega),t0f f j e w l n d (k+1) fuel _ (by omega) (by omega)]
   simp only[Nat.add_lt_add_iff_right]
   rw[show k+1+(P1 g (O0 g v x) (w.drop (k+1))).2=k+((P1 g (O0 g v x) (w.drop (k+1))).2+1) by omega]
theorem h0m{g:j0}(hf:H0 g=true){v:Int}(f:0<=v/\v<g.2.1){w:List Int}(i:∀ x∈w,L5 x)(a:w.length<=140737488355328):B9 g v w=some (((P1 g v w).2:Nat):Int):=by
 obtain⟨j,l,b,m⟩:=W0 hf
 have d:=i9 g (by omega)
 have h:=t0f j b.2 (by omega) w i a w.length 0 P0 v (by omega) (j1 a)
 rw[show((0:Nat):Int)=0 from rfl,List.drop_zero,Nat.zero_add]at h
 have k:=z01 g w v
 obtain⟨r,n,es⟩:=g
 simp only at f b h
 have e:inR 0 (n-1) v=true:=by simp only[inR,Bool.and_eq_true,decide_eq_true_eq];omega
 unfold B9
 simp only[d,hf,oB,Bool.not_true,Bool.not_false,L1,U03,w64 (show -9223372036854775808<=n-1 by omega) (show n-1<=9223372036854775807 by omega),e,cond_false,Bool.false_eq_true,if_false,h]
 by_cases c:(P1 (r,n,es) v w).2<w.length
 ·rw[decide_eq_true c];rfl
 ·rw[decide_eq_false c,show(P1 (r,n,es) v w).2=w.length by omega];rfl
theorem v07{g:j0}(h:(B3 g).2=true):B3 g=((g.1,g.2.1+1,g.2.2),true)/\g.2.1<40:=by
 unfold B3 at h ⊢
 by_cases c:g.2.1<40
 ·simp[c]
 ·simp[c]at h
def D0a(g:j0):Int:=bif L02 g then g.2.1 else -1
theorem e0e(g:j0)(e:g.2.2.length<=140737488355328):c00 g=some (D0a g):=by
 have d:=q0i g e
 unfold D0a
 obtain⟨a,b,c⟩:=g
 unfold c00
 cases hc:L02 (a,b,c)with
 |false =>
  rw[hc]at d
  simp only[d,oB,Bool.not_false,if_true,cond_false]
 |true =>
  rw[hc]at d
  simp only[d,oB,Bool.not_true,Bool.false_eq_true,if_false,cond_true]
def X07(g:j0):Prop:=∀ v,Rch g.2.2 0 v->∀ x∈j6 g.1.toNat 1,∃ z,z∈F8 v x g.2.2
theorem E0a{g:j0}(b:inG g)(h0:0<g.2.1){v:Int}(h:Rch g.2.2 0 v):0<=v/\v<g.2.1:=by
 have:=Rch.sub (es:=g.2.2) (v:=0) (P:=λv=>v=0∨(0<=v/\v<g.2.1)) (.inl rfl) (λe a=>⟨λ_ => .inr (b e a).2.1,λ_ => .inr (b e a).1⟩) h
 rcases this with rfl|h
 ·exact⟨iR _,h0⟩
 ·exact h
theorem u0i{es:List D0}{v x z:Int}(h:Rch es 0 v)(c:z∈F8 v x es):Rch es 0 z:=by
 obtain⟨e,a,b⟩:=n3.1 c
 rcases b with⟨_,_,rfl,rfl⟩|⟨_,_,rfl,rfl⟩
 ·exact(Rch.closed e a).1 h
 ·exact(Rch.closed e a).2 h
theorem I0j{P:List Int}{a:D0}:∀ {es:List D0},a∈pE P es↔∃ e∈es,(0<=getI P e.1/\0<=getI P e.2.2)/\a=(getI P e.1,e.2.1,getI P e.2.2)
 | []=>by simp[pE]
 |e::r=>by
  unfold pE
  by_cases c:0<=getI P e.1/\0<=getI P e.2.2
  ·rw[decide_eq_true c.1,decide_eq_true c.2]
   simp only[Bool.and_self,cond_true,List.mem_cons,I0j (es:=r),exists_eq_or_imp]
   constructor
   ·rintro(h|h)
    ·exact .inl ⟨c,h⟩
    ·exact .inr h
   ·rintro(h|h)
    ·exact .inl h.2
    ·exact .inr h
  ·have:(decide (0<=getI P e.1)&&decide (0<=getI P e.2.2))=false:=by
    by_cases c1:0<=getI P e.1
    ·rw[decide_eq_true c1,decide_eq_false λh=>c ⟨c1,h⟩];rfl
    ·rw[decide_eq_false c1];rfl
   rw[this]
   simp only[cond_false,List.mem_cons,I0j (es:=r),exists_eq_or_imp]
   constructor
   ·exact .inr
   ·rintro(h|h)
    ·exact absurd h.1 c
    ·exact h
theorem u0f{g:j0}(p:inG g)(h0:0<g.2.1){o:List Int}(s:inV g.2.1.toNat o)(n:o.Nodup)(L:∃ t,o=0::t)(G:∀ v,Rch g.2.2 0 v->v∈o)(hf:X07 g):X07 (K7 g o):=by
 obtain⟨t,rfl⟩:=L
 have F:getI (plc g.2.1.toNat (0::t)) 0=0:=t0g s n (i:=0) rfl
 have l:∀ v,Rch g.2.2 0 v->0<=getI (plc g.2.1.toNat (0::t)) v:=λv c=>by
  obtain⟨i,I⟩:=List.getElem?_of_mem (G v c)
  rw[t0g s n I];omega
 have q:∀ f,f∈(K7 g (0::t)).2.2↔∃ e∈g.2.2,(0<=getI (plc g.2.1.toNat (0::t)) e.1/\0<=getI (plc g.2.1.toNat (0::t)) e.2.2)/\f=(getI (plc g.2.1.toNat (0::t)) e.1,e.2.1,getI (plc g.2.1.toNat (0::t)) e.2.2):=λf=>by
  show f∈G3 N0 [] (pE _ g.2.2)↔_
  rw[Q7 I5,←I0j]
  simp
 have A:=λ{x y:Int} w K m k=>P0b (x:=x) (y:=y) s n w K m k
 generalize getI (plc g.2.1.toNat (0::t))=P at *
 have back:∀ d,Rch (K7 g (0::t)).2.2 0 d->∃ v,Rch g.2.2 0 v/\d=P v:=λd h=>by
  refine Rch.sub (P:=λd=>∃ v,Rch g.2.2 0 v/\d=P v) ⟨0,.base,F.symm⟩ (λf H=>?_) h
  obtain⟨e,j,⟨M,N⟩,rfl⟩:=(q f).1 H
  have C:=p e j
  constructor
  ·rintro⟨v,c,k⟩
   have u:=E0a p h0 c
   have:=A C.1.1 u.1 M k
   rw[←this]at c
   exact⟨e.2.2,(Rch.closed e j).1 c,rfl⟩
  ·rintro⟨v,c,k⟩
   have u:=E0a p h0 c
   have:=A C.2.1.1 u.1 N k
   rw[←this]at c
   exact⟨e.1,(Rch.closed e j).2 c,rfl⟩
 intro d J x w
 obtain⟨v,c,rfl⟩:=back d J
 obtain⟨z,E⟩:=hf v c x w
 have D:=u0i c E
 refine⟨P z,n3.2 ?_⟩
 obtain⟨e,j,m⟩:=n3.1 E
 rcases m with⟨a,b,rfl,rfl⟩|⟨a,b,rfl,rfl⟩
 ·exact⟨(P e.1,e.2.1,P e.2.2),(q _).2 ⟨e,j,⟨l _ c,l _ D⟩,rfl⟩,.inl ⟨a,b,rfl,rfl⟩⟩
 ·exact⟨(P e.1,e.2.1,P e.2.2),(q _).2 ⟨e,j,⟨l _ D,l _ c⟩,rfl⟩,.inr ⟨a,b,rfl,rfl⟩⟩
def J0j(v:Int):List D0->Nat
 | []=>0
 |e::r=>(if e.1=v then 1 else 0)+J0j v r
def K0j(v:Int):List D0->Nat
 | []=>0
 |e::r=>(if e.2.2=v then 1 else 0)+K0j v r
theorem y0d(v:Int):∀ es,B01 v es=J0j v es+K0j v es
 | []=>rfl
 |e::r=>by
  have:=y0d v r
  simp only[B01,R0l,J0j,K0j]
  omega
theorem v0i{v:Int}:∀ {es:List D0} {e:D0},e∈es->e.1=v->1<=J0j v es
 |x::r,e,h,a=>by
  rcases List.mem_cons.1 h with rfl|h
  ·simp only[J0j,if_pos a];omega
  ·have:=v0i h a;simp only[J0j];omega
theorem w0i{v:Int}:∀ {es:List D0} {e:D0},e∈es->e.2.2=v->1<=K0j v es
 |x::r,e,h,a=>by
  rcases List.mem_cons.1 h with rfl|h
  ·simp only[K0j,if_pos a];omega
  ·have:=w0i h a;simp only[K0j];omega
theorem R0n{g:j0}(n:1<=g.1)(hf:X07 g){v:Int}(f:Rch g.2.2 0 v):2<=B01 v g.2.2:=by
 have b:=p0d g.1.toNat 1 1 (Nat.le_refl _) (by omega)
 obtain⟨z,m⟩:=hf v f 1 b.1
 obtain⟨y,l⟩:=hf v f (-1) b.2
 obtain⟨e,k,h⟩:=n3.1 m
 obtain⟨d,j,i⟩:=n3.1 l
 rw[y0d]
 have s1:1<=J0j v g.2.2:=by
  rcases h with⟨_,_,c,_⟩|⟨a,_,_,_⟩
  ·exact v0i k c
  ·omega
 have s2:1<=K0j v g.2.2:=by
  rcases i with⟨a,_,_,_⟩|⟨_,_,c,_⟩
  ·omega
  ·exact w0i j c
 omega
theorem x0i{a:Nat->Bool}:∀ {d v k:Nat},lf a d v=some k->a k=true
 |0,v,k,h=>nomatch h
 |d+1,v,k,h=>by
  unfold lf at h
  cases hb:a v with
  |true=>rw[hb]at h;simp only[cond_true,Option.some.injEq]at h;rw[←h];exact hb
  |false=>rw[hb]at h;exact x0i h
theorem S0o(k d:Nat)(a:1<=k):∃ t,wo k (d+1) 0=0::t:=by
 unfold wo
 rw[if_neg (by omega)]
 exact⟨_,rfl⟩
theorem z0d:∀(d:Nat) {g:j0},H0 g=true->X07 g->X07 (e02 d g)
 |0,g,h,hf=>hf
 |d+1,g,h,hf=>by
  unfold e02
  cases e:o8 g with
  |none=>exact hf
  |some k =>
   obtain⟨i,u,w,x⟩:=W0 h
   obtain⟨f,s,j,l⟩:=q07 (J3 h) e
   have m:=Q0b e
   refine z0d d (G06 h f (e05 _ _ _) j l) (u0f i (by omega) f (e05 _ _ _) ?_ (λv b=>?_) hf)
   ·obtain⟨n,p⟩:∃ n,g.2.1.toNat=n+1:=⟨g.2.1.toNat-1,by omega⟩
    rw[p]
    exact S0o k n m.1
   ·have t:=E0a i (by omega) b
    have:=H0j k g.2.1.toNat 0 v.toNat (by omega) (by omega) (λc=>by
     have a:=x0i e
     have o:(k:Int)=v:=by omega
     unfold p08 at a
     rw[o,Bool.or_eq_true]at a
     rcases a with a|a
     ·have:=R0n (by omega) hf b
      simp only[decide_eq_true_eq]at a
      omega
     ·have q:v∈w0j g.2.2:=(I05 _ _ _).2 b
      rw[decide_eq_true q]at a
      cases a)
    rwa [show((v.toNat:Nat):Int)=v by omega]at this
theorem i0m{g:j0}(h:H0 g=true)(hf:X07 g):X07 (I06 g):=by
 have a:=t02 40 h
 have d:o8 (e02 40 g)=none:=by
  obtain⟨b,f,i,j⟩:=W0 h
  exact s08 40 (J3 h) (by omega)
 obtain⟨b,f,i,j⟩:=W0 a
 obtain⟨c,k⟩:=d05 a
 show X07 (K7 (e02 40 g) (o5 (e02 40 g)))
 refine u0f b (by omega) c.2 c.1 (u08 _) (λv e=>?_) (z0d 40 h hf)
 have:=E0a b (by omega) e
 exact g0f a d this.1 this.2
theorem A0d{g:j0}{v:Int}:∀(a:List Int),(∀ x∈a,0<=O0 g v x)->W07 g v a = []
 | [],_=>rfl
 |x::a,h=>by
  unfold W07
  have:=h x mS
  rw[decide_eq_false (show ¬ O0 g v x<0 by omega),A0d a λy b=>h y (mC _ b)]
  rfl
theorem B0d{g:j0}:∀(d k:Nat),(∀ v:Nat,k<=v->v<k+d->∀ x∈j6 g.1.toNat 1,0<=O0 g (v:Int) x)->x09 g d k = []
 |0,k,h=>rfl
 |d+1,k,h=>by
  unfold x09
  rw[A0d _ (h k (Nat.le_refl _) (by omega)),B0d d (k+1) λv a b=>h v (by omega) (by omega)]
  rfl
theorem S0n{g:j0}(h:H0 g=true)(hf:X07 g):L02 (I06 g)=true:=by
 have a:=Z0l h
 have b:=Q5 a
 have f:=i0m h hf
 obtain⟨l,o,p,q⟩:=W0 b
 have i:o8 (I06 g)=none:=by
  unfold L3 at a
  simp only[Bool.and_eq_true,Option.isNone_iff_eq_none]at a
  exact a.2.1
 have j:m01 (I06 g) = []:=by
  unfold m01
  refine B0d _ 0 λv m n x k=>?_
  have d:Rch (I06 g).2.2 0 (v:Int):=by
   by_cases c:v=0
   ·subst c;exact .base
   ·have:=R0b i v (by omega) (by omega)
    unfold p08 at this
    simp only[Bool.or_eq_false_iff,Bool.not_eq_false',decide_eq_true_eq]at this
    exact(I05 _ _ _).1 this.2
  obtain⟨z,e⟩:=f _ d x k
  rw[s04 b e]
  exact(E0a l (by omega) (u0i d e)).1
 unfold L02
 rw[a,j]
 rfl
def F01(g:j0)(l:Int):Nat->Nat->List Int
 |0,_=>[]
 |d+1,k=>if O0 g (k:Int) l<0 then(k:Int)::F01 g l d (k+1)else F01 g l d (k+1)
def B0b(g:j0)(l:Int):Nat->Nat->List Int
 |0,_=>[]
 |d+1,k=>if O0 g (k:Int) l<0 then B0b g l d (k+1)else(k:Int)::B0b g l d (k+1)
theorem w07(g:j0)(l:Int):∀ d k,(F01 g l d k).length+(B0b g l d k).length=d
 |0,k=>rfl
 |d+1,k=>by
  have:=w07 g l d (k+1)
  unfold F01 B0b
  split<;>simp only[List.length_cons]<;>omega
theorem h05{g:j0}{l v:Int}:∀ {d k:Nat},v∈F01 g l d k↔∃ j:Nat,v=(j:Int)/\(k<=j/\j<k+d)/\O0 g v l<0
 |0,k=>⟨(λh=>by cases h),λ⟨j,_,h,_⟩=>by omega⟩
 |d+1,k=>by
  have i:=h05 (g:=g) (l:=l) (v:=v) (d:=d) (k:=k+1)
  unfold F01
  split
  ·rename_i c
   rw[List.mem_cons,i]
   constructor
   ·rintro(rfl|⟨j,a,f,b⟩)
    ·exact⟨k,rfl,by omega,c⟩
    ·exact⟨j,a,by omega,b⟩
   ·rintro⟨j,a,f,b⟩
    by_cases e:j=k
    ·left;rw[a,e]
    ·right;exact⟨j,a,by omega,b⟩
  ·rename_i c
   rw[i]
   constructor
   ·rintro⟨j,a,f,b⟩;exact⟨j,a,by omega,b⟩
   ·rintro⟨j,a,f,b⟩
    refine⟨j,a,?_,b⟩
    by_cases e:j=k
    ·rw[a,e]at b;exact absurd b c
    ·omega
theorem i05{g:j0}{l v:Int}:∀ {d k:Nat},v∈B0b g l d k↔∃ j:Nat,v=(j:Int)/\(k<=j/\j<k+d)/\0<=O0 g v l
 |0,k=>⟨(λh=>by cases h),λ⟨j,_,h,_⟩=>by omega⟩
 |d+1,k=>by
  have i:=i05 (g:=g) (l:=l) (v:=v) (d:=d) (k:=k+1)
  unfold B0b
  split
  ·rename_i c
   rw[i]
   constructor
   ·rintro⟨j,a,f,b⟩;exact⟨j,a,by omega,b⟩
   ·rintro⟨j,a,f,b⟩
    refine⟨j,a,?_,b⟩
    by_cases e:j=k
    ·rw[a,e]at b;omega
    ·omega
  ·rename_i c
   rw[List.mem_cons,i]
   constructor
   ·rintro(rfl|⟨j,a,f,b⟩)
    ·exact⟨k,rfl,by omega,by omega⟩
    ·exact⟨j,a,by omega,b⟩
   ·rintro⟨j,a,f,b⟩
    by_cases e:j=k
    ·left;rw[a,e]
    ·right;exact⟨j,a,by omega,b⟩
theorem L05(g:j0)(l:Int):∀ d k,(F01 g l d k).Nodup
 |0,k=>List.nodup_nil
 |d+1,k=>by
  unfold F01
  split
  ·refine List.nodup_cons.2 ⟨λh=>?_,L05 g l d (k+1)⟩
   obtain⟨j,a,b,c⟩:=h05.1 h
   omega
  ·exact L05 g l d (k+1)
theorem w08(g:j0)(l:Int):∀ d k,(B0b g l d k).Nodup
 |0,k=>List.nodup_nil
 |d+1,k=>by
  unfold B0b
  split
  ·exact w08 g l d (k+1)
  ·refine List.nodup_cons.2 ⟨λh=>?_,w08 g l d (k+1)⟩
   obtain⟨j,a,b,c⟩:=i05.1 h
   omega
theorem Y0k:∀ {a b:List Int},a.Nodup->(∀ x∈a,x∈b)->a.length<=b.length
 | [],b,_,_=>Nat.zero_le _
 |x::a,b,i,h=>by
  obtain⟨f,g⟩:=List.nodup_cons.1 i
  have c:=h x mS
  have:=Y0k (b:=b.erase x) g λy d=>(List.mem_erase_of_ne (λe=>f (by rw[←e];exact d))).2 (h y (mC _ d))
  rw[List.length_erase_of_mem c]at this
  have:=List.length_pos_of_mem c
  rw[List.length_cons]
  omega
theorem T0n{g:j0}(hf:H0 g=true)(l:Int):(B0b g l g.2.1.toNat 0).length<=(B0b g (-l) g.2.1.toNat 0).length:=by
 obtain⟨s,w,x,z⟩:=W0 hf
 have m:((B0b g l g.2.1.toNat 0).map λv=>O0 g v l).Nodup:=by
  rw[List.Nodup,List.pairwise_map]
  refine List.Pairwise.imp_of_mem (λ{a b} k d o e=>?_) (w08 g l g.2.1.toNat 0)
  obtain⟨_,_,_,c⟩:=i05.1 k
  obtain⟨_,_,_,i⟩:=i05.1 d
  have f:=g05 hf rfl c
  have h:=g05 hf rfl i
  rw[e]at f
  exact o (f.symm.trans h)
 have:=Y0k (b:=B0b g (-l) g.2.1.toNat 0) m λy q=>by
  obtain⟨v,p,rfl⟩:=List.mem_map.1 q
  obtain⟨j,t,u,c⟩:=i05.1 p
  have d:=g05 hf rfl c
  have n:=q02 s v l
  refine i05.2 ⟨(O0 g v l).toNat,by omega,?_,by rw[d];omega⟩
  rcases n with e|e<;>omega
 rwa [List.length_map]at this
theorem S0b{g:j0}(hf:H0 g=true)(l:Int):(F01 g l g.2.1.toNat 0).length=(F01 g (-l) g.2.1.toNat 0).length:=by
 have b:=T0n hf l
 have a:=T0n hf (-l)
 rw[Int.neg_neg]at a
 have c:=w07 g l g.2.1.toNat 0
 have d:=w07 g (-l) g.2.1.toNat 0
 omega
def f0e(l:Int):List Int->List Int->List D0
 |a::A,b::B=>(a,l,b)::f0e l A B
 |_,_=>[]
theorem B09(l:Int):∀(A B:List Int),A.length=B.length->(f0e l A B).length=A.length
 | [],[],_=>rfl
 |a::A,b::B,h=>by simp only[f0e,List.length_cons,B09 l A B (by simpa using h)]
 | [],b::B,h=>by simp at h
 |a::A,[],h=>by simp at h
theorem L06(l:Int):∀(A B:List Int) (i:Nat) (a b:Int),A[i]?=some a->B[i]?=some b->(f0e l A B)[i]?=some (a,l,b)
 |x::A,y::B,0,a,b,c,d=>by simp at c d;simp[f0e,c,d]
 |x::A,y::B,i+1,a,b,c,d=>by simp at c d;simpa [f0e] using L06 l A B i a b c d
 | [],B,i,a,b,c,d=>by simp at c
 |x::A,[],i,a,b,c,d=>by simp at d
theorem y0i(l:Int):∀(A B:List Int) (e:D0),e∈f0e l A B->e.2.1=l/\∃ i:Nat,A[i]?=some e.1/\B[i]?=some e.2.2
 |a::A,b::B,e,h=>by
  rcases List.mem_cons.1 h with rfl|h
  ·exact⟨rfl,0,rfl,rfl⟩
  ·obtain⟨c,i,d,f⟩:=y0i l A B e h
   exact⟨c,i+1,by simpa using d,by simpa using f⟩
 | [],B,e,h=>by cases B<;>cases h
 |a::A,[],e,h=>by cases h
def w0g(g:j0)(l:Int):List D0:=f0e l (F01 g l g.2.1.toNat 0) (F01 g (-l) g.2.1.toNat 0)
def nwA(g:j0):Nat->Nat->List D0
 |0,_=>[]
 |d+1,l=>w0g g (l:Int)++nwA g d (l+1)
theorem Z0k{g:j0}{e:D0}:∀ {d l:Nat},e∈nwA g d l↔∃ j:Nat,(l<=j/\j<l+d)/\e∈w0g g (j:Int)
 |0,l=>⟨(λh=>by cases h),λ⟨j,h,_⟩=>by omega⟩
 |d+1,l=>by
  rw[nwA,List.mem_append,Z0k (d:=d) (l:=l+1)]
  constructor
  ·rintro(h|⟨j,b,a⟩)
   ·exact⟨l,by omega,h⟩
   ·exact⟨j,by omega,a⟩
  ·rintro⟨j,b,a⟩
   by_cases c:j=l
   ·left;rw[←c];exact a
   ·right;exact⟨j,by omega,a⟩
theorem C0d{g:j0}(hf:H0 g=true)(l:Int):(w0g g l).length<=40:=by
 obtain⟨a,b,c,d⟩:=W0 hf
 have:=w07 g l g.2.1.toNat 0
 unfold w0g
 rw[B09 l _ _ (S0b hf l)]
 omega
theorem a0l{g:j0}(hf:H0 g=true):∀ d l,(nwA g d l).length<=40*d
 |0,l=>Nat.zero_le _
 |d+1,l=>by
  have a:=C0d hf (l:Int)
  have b:=a0l hf d (l+1)
  rw[nwA,List.length_append]
  omega
def a03(g:j0):j0:=(g.1,g.2.1,G3 N0 g.2.2 (nwA g g.1.toNat 1))
def T01(g:j0):j0×Bool:=bif H0 g&&decide (g.2.1*g.1<=120)then(a03 g,true)else((0,0,[]),false)
theorem D0d{d:Type}(c:d->d->Int):∀(a b l:List d),G3 c l (a++b)=G3 c (G3 c l a) b
 | [],b,l=>rfl
 |x::a,b,l=>D0d c a b (b9 c x l)
theorem p0p(A B:List Int)(l r n:Int)(f:A.length=B.length)(m:A.length<=1000):∀(d i fuel:Nat) (es:List D0),i+d=A.length->d<fuel->es.length+d<=100000 ->
  A4 A B l fuel (i:Int) r n es=some (r,n,G3 N0 es ((f0e l A B).drop i))
 |d,i,0,es,g,hf,h=>by omega
 |0,i,fuel+1,es,g,hf,h=>by
  rw[A4.eq_2,oB,B0 (by omega),oB,if_neg (by simp only[decide_eq_true_eq];omega),H1 (by rw[B09 l A B f];omega)];rfl
 |d+1,i,fuel+1,es,g,hf,h=>by
  have j:i<A.length:=by omega
  have c:=a5 j
  have e:=a5 (show i<B.length by omega)
  generalize A[i]=a at c
  generalize B[i]=b at e
  have p:=L06 l A B i a b c e
  have k:=n00 [(a,l,b)] es
  have o:G3 N0 es [(a,l,b)]=b9 N0 (a,l,b) es:=rfl
  rw[o]at k
  simp only[List.length_cons,List.length_nil]at k
  have q:=p0p A B l r n f m d (i+1) fuel (b9 N0 (a,l,b) es) (by omega) (by omega) (by omega)
  rw[A4.eq_2,oB,B0 (by omega),oB,if_pos (by simp only[decide_eq_true_eq];omega),U1 c,oB,U1 e,oB,u03 _ _ (by omega),oB,V1 j (by omega),q,J1 p]
  rfl
theorem q0p(A B:List Int)(l r n:Int)(f:A.length=B.length)(k:A.length<=1000):∀(d i fuel:Nat) (es:List D0),i+d=A.length->d<fuel->es.length+d<=100000 ->
  D4 A.length A B l fuel (i:Int) r n es=some (r,n,es++(f0e l A B).drop i)
 |d,i,0,es,g,hf,h=>by omega
 |0,i,fuel+1,es,g,hf,h=>by
  rw[D4.eq_2,if_neg (by simp only[decide_eq_true_eq];omega),H1 (by rw[B09 l A B f];omega)];simp
 |d+1,i,fuel+1,es,g,hf,h=>by
  have j:i<A.length:=by omega
  have c:=a5 j
  have e:=a5 (show i<B.length by omega)
  generalize A[i]=a at c
  generalize B[i]=b at e
  have m:=L06 l A B i a b c e
  have o:=q0p A B l r n f k d (i+1) fuel (es ++ [(a,l,b)]) (by omega) (by omega) (by simp;omega)
  rw[D4.eq_2,if_pos (by simp only[decide_eq_true_eq];omega),U1 c,oB,U1 e,oB,B0 (by simp;omega),oB,V1 j (by omega),o,J1 m]
  simp
theorem r0p{g:j0}(i:H0 g=true){l:Int}(n : -3<=l/\l<=3):∀(d k fuel:Nat) (a b:List Int),k+d=g.2.1.toNat->d<fuel->a.length<=k->b.length<=k ->
  E2 g.2.1 g.1 g.2.2 l fuel (k:Int) a b=some (a++F01 g l d k,b++F01 g (-l) d k)
 |d,k,0,a,b,h,hf,c,e=>by omega
 |0,k,fuel+1,a,b,h,hf,c,e=>by
  rw[E2.eq_2,if_neg (by simp only[decide_eq_true_eq];omega)];simp[F01]
 |d+1,k,fuel+1,a,b,h,hf,c,e=>by
  obtain⟨j,u,m,v⟩:=W0 i
  have s:=R01 g (k:Int) l ⟨⟨by omega,by omega⟩,by omega⟩ (by omega)
  have t:=R01 g (k:Int) (-l) ⟨⟨by omega,by omega⟩,by omega⟩ (by omega)
  have p:=M9 j m.2 (k:Int) l
  have q:=M9 j m.2 (k:Int) (-l)
  have f:=λa b c e=>r0p i n d (k+1) fuel a b (by omega) (by omega) c e
  have o:IntKind.i64.wrap ((k:Int)+1)=((k+1:Nat):Int):=by rw[w64 (by omega) (by omega)];omega
  rw[E2.eq_2,if_pos (by simp only[decide_eq_true_eq];omega)]
  simp only[show(g.1,g.2.1,g.2.2)=g from rfl,show IntKind.i64.wrap (0-l) = -l by rw[w64 (by omega) (by omega)];omega,s,t,oB,B0 p,B0 q,o]
  unfold F01
  by_cases c1:O0 g (k:Int) l<0<;>by_cases c2:O0 g (k:Int) (-l)<0
  ·rw[if_pos (decide_eq_true c1),if_pos c1,if_pos c2,if_pos (decide_eq_true c2),B0 (by simp;omega),oB,B0 (by simp;omega),oB,f _ _ (by simp;omega) (by simp;omega)]
   simp
  ·rw[if_pos (decide_eq_true c1),if_pos c1,if_neg c2,if_neg (by simpa using c2),B0 (by simp;omega),oB,f _ _ (by simp;omega) (by omega)]
   simp
  ·rw[if_neg (by simpa using c1),if_neg c1,if_pos c2,if_pos (decide_eq_true c2),B0 (by simp;omega),oB,f _ _ (by omega) (by simp;omega)]
   simp
  ·rw[if_neg (by simpa using c1),if_neg c1,if_neg c2,if_neg (by simpa using c2),f _ _ (by omega) (by omega)]
theorem s0p{g:j0}(i:H0 g=true){l:Int}(n : -3<=l/\l<=3):∀(d k fuel:Nat) (a b:List Int),k+d=g.2.1.toNat->d<fuel->a.length<=k->b.length<=k ->
  G2 g.2.1 g.1 g.2.2 l fuel (k:Int) a b=some (a++F01 g l d k,b++F01 g (-l) d k)
 |d,k,0,a,b,h,hf,c,e=>by omega
 |0,k,fuel+1,a,b,h,hf,c,e=>by
  rw[G2.eq_2,if_neg (by simp only[decide_eq_true_eq];omega)];simp[F01]
 |d+1,k,fuel+1,a,b,h,hf,c,e=>by
  obtain⟨j,u,m,v⟩:=W0 i
  have s:=V00 g (k:Int) l ⟨⟨by omega,by omega⟩,by omega⟩ (by omega)
  have t:=V00 g (k:Int) (-l) ⟨⟨by omega,by omega⟩,by omega⟩ (by omega)
  have p:=M9 j m.2 (k:Int) l
  have q:=M9 j m.2 (k:Int) (-l)
  have f:=λa b c e=>s0p i n d (k+1) fuel a b (by omega) (by omega) c e
  have o:IntKind.i64.wrap ((k:Int)+1)=((k+1:Nat):Int):=by rw[w64 (by omega) (by omega)];omega
  rw[G2.eq_2,if_pos (by simp only[decide_eq_true_eq];omega)]
  simp only[show(g.1,g.2.1,g.2.2)=g from rfl,show IntKind.i64.wrap (0-l) = -l by rw[w64 (by omega) (by omega)];omega,s,t,oB,B0 p,B0 q,o]
  unfold F01
  by_cases c1:O0 g (k:Int) l<0<;>by_cases c2:O0 g (k:Int) (-l)<0
  ·rw[if_pos (decide_eq_true c1),if_pos c1,if_pos c2,if_pos (decide_eq_true c2),B0 (by simp;omega),oB,B0 (by simp;omega),oB,f _ _ (by simp;omega) (by simp;omega)]
   simp
  ·rw[if_pos (decide_eq_true c1),if_pos c1,if_neg c2,if_neg (by simpa using c2),B0 (by simp;omega),oB,f _ _ (by simp;omega) (by omega)]
   simp
  ·rw[if_neg (by simpa using c1),if_neg c1,if_pos c2,if_pos (decide_eq_true c2),B0 (by simp;omega),oB,f _ _ (by omega) (by simp;omega)]
   simp
  ·rw[if_neg (by simpa using c1),if_neg c1,if_neg c2,if_neg (by simpa using c2),f _ _ (by omega) (by omega)]
theorem t0p{g:j0}(a:H0 g=true)(c b:Int):∀(d l fuel:Nat) (es:List D0),l+d=g.1.toNat+1->1<=l->d<fuel->es.length+40*d<=10000 ->
  B4 g.1 g.2.1 g.2.2 fuel (l:Int) c b es=some (c,b,G3 N0 es (nwA g d l))
 |d,l,0,es,i,h,hf,j=>by omega
 |0,l,fuel+1,es,i,h,hf,j=>by
  rw[B4.eq_2,if_neg (by simp only[decide_eq_true_eq];omega)];rfl
 |d+1,l,fuel+1,es,i,h,hf,j=>by
  obtain⟨p,q,s,t⟩:=W0 a
  have f:=r0p a (l:=(l:Int)) (by omega) g.2.1.toNat 0 P0 [] [] (by omega) (j1 (by omega)) (by simp) (by simp)
  rw[show((0:Nat):Int)=0 from rfl,List.nil_append,List.nil_append]at f
  have m:=w07 g (l:Int) g.2.1.toNat 0
  have e:=p0p (F01 g (l:Int) g.2.1.toNat 0) (F01 g (-(l:Int)) g.2.1.toNat 0) (l:Int) c b (S0b a _) (by omega) (F01 g (l:Int) g.2.1.toNat 0).length 0 P0 es (by omega) (j1 (by omega)) (by omega)
  rw[show((0:Nat):Int)=0 from rfl,List.drop_zero]at e
  have n:=C0d a (l:Int)
  have o:=n00 (w0g g (l:Int)) es
  have k:=t0p a c b d (l+1) fuel (G3 N0 es (w0g g (l:Int))) (by omega) (by omega) (by omega) (by omega)
  rw[B4.eq_2,if_pos (by simp only[decide_eq_true_eq];omega),f,oB]
  simp only
  rw[e,oB,V1 (show l<1000 by omega) (by omega),nwA,D0d]
  exact k
theorem u0p{g:j0}(a:H0 g=true)(c b:Int):∀(d l fuel:Nat) (es:List D0),l+d=g.1.toNat+1->1<=l->d<fuel->es.length+40*d<=10000 ->
  E4 g.1 g.2.1 g.2.2 fuel (l:Int) c b es=some (c,b,es++nwA g d l)
 |d,l,0,es,i,h,hf,j=>by omega
 |0,l,fuel+1,es,i,h,hf,j=>by
  rw[E4.eq_2,if_neg (by simp only[decide_eq_true_eq];omega)];simp[nwA]
 |d+1,l,fuel+1,es,i,h,hf,j=>by
  obtain⟨o,p,q,s⟩:=W0 a
  have f:=s0p a (l:=(l:Int)) (by omega) g.2.1.toNat 0 P0 [] [] (by omega) (j1 (by omega)) (by simp) (by simp)
  rw[show((0:Nat):Int)=0 from rfl,List.nil_append,List.nil_append]at f
  have m:=w07 g (l:Int) g.2.1.toNat 0
  have e:=q0p (F01 g (l:Int) g.2.1.toNat 0) (F01 g (-(l:Int)) g.2.1.toNat 0) (l:Int) c b (S0b a _) (by omega) (F01 g (l:Int) g.2.1.toNat 0).length 0 P0 es (by omega) (j1 (by omega)) (by omega)
  rw[show((0:Nat):Int)=0 from rfl,List.drop_zero]at e
  have n:=C0d a (l:Int)
  have k:=u0p a c b d (l+1) fuel (es++w0g g (l:Int)) (by omega) (by omega) (by omega) (by rw[List.length_append];omega)
  rw[E4.eq_2,if_pos (by simp only[decide_eq_true_eq];omega),f,oB]
  simp only
  rw[oB,B0 (by omega),oB,e,oB,V1 (show l<1000 by omega) (by omega),nwA,←List.append_assoc]
  exact k
theorem U0n{n r:Int}(a:1<=n/\n<=40)(b:1<=r/\r<=3):IntKind.i64.wrap (n*r)=n*r:=by
 have:r=1∨r=2∨r=3:=by omega
 rcases this with rfl|rfl|rfl<;>exact w64 (by omega) (by omega)
theorem L0j(g:j0)(k:g.2.2.length<=1099511627776):c7 g=some (T01 g):=by
 have d:=i9 g (by omega)
 have j:=W00 g (by omega)
 unfold T01
 cases hf:H0 g with
 |false =>
  rw[hf]at d
  obtain⟨a,b,c⟩:=g
  unfold c7
  simp only[d,oB,Bool.not_false,cond_true,if_true,Bool.false_and,cond_false]
 |true =>
  rw[hf]at d
  obtain⟨l,h,i,m⟩:=W0 hf
  have e:=t0p hf g.1 g.2.1 g.1.toNat 1 P0 g.2.2 (by omega) (by omega) (j1 (by omega)) (by omega)
  rw[show((1:Nat):Int)=1 from rfl]at e
  have f:=U0n i h
  unfold a03
  obtain⟨a,b,c⟩:=g
  simp only at f e h i ⊢
  unfold c7
  simp only[d,oB,Bool.not_true,cond_false,f,Bool.true_and]
  by_cases c1:b*a<=120
  ·rw[if_neg (by simp only[decide_eq_true_eq];omega),decide_eq_true c1,j]
   simp only[oB,e,cond_true]
  ·rw[if_pos (by simp only[decide_eq_true_eq];omega),decide_eq_false c1];rfl
theorem M0j(g:j0)(l:g.2.2.length<=1099511627776):g7 g=some (T01 g):=by
 have d:=S9 g (by omega)
 have k:=X00 g (by omega)
 unfold T01
 cases hf:H0 g with
 |false =>
  rw[hf]at d
  obtain⟨a,b,c⟩:=g
  unfold g7
  simp only[d,oB,Bool.not_false,cond_true,if_true,Bool.false_and,cond_false]
 |true =>
  rw[hf]at d
  obtain⟨n,i,j,o⟩:=W0 hf
  have e:=u0p hf g.1 g.2.1 g.1.toNat 1 P0 g.2.2 (by omega) (by omega) (j1 (by omega)) (by omega)
  rw[show((1:Nat):Int)=1 from rfl]at e
  have h:=U0n j i
  have m:=a0l hf g.1.toNat 1
  have f:=z06 (g.2.2++nwA g g.1.toNat 1) (by rw[List.length_append];omega)
  rw[m0d (z03 (J3 hf))]at f
  unfold a03
  obtain⟨a,b,c⟩:=g
  simp only at h e i j f ⊢
  unfold g7
  simp only[d,oB,Bool.not_true,cond_false,h,Bool.true_and]
  by_cases c1:b*a<=120
  ·rw[if_neg (by simp only[decide_eq_true_eq];omega),decide_eq_true c1,k]
   simp only[oB,e,f,cond_true]
  ·rw[if_pos (by simp only[decide_eq_true_eq];omega),decide_eq_false c1];rfl
theorem j05{g:j0}{e:D0}:e∈(a03 g).2.2↔e∈g.2.2∨∃ j:Nat,(1<=j/\j<1+g.1.toNat)/\e∈w0g g (j:Int):=by
 unfold a03
 simp only
 rw[Q7 I5,Z0k]
theorem k05{g:j0}{j:Nat}{e:D0}(h:e∈w0g g (j:Int)):e.2.1=(j:Int)/\(∃ i:Nat,(F01 g (j:Int) g.2.1.toNat 0)[i]?=some e.1/\(F01 g (-(j:Int)) g.2.1.toNat 0)[i]?=some e.2.2) /\
  ((0<=e.1/\e.1.toNat<g.2.1.toNat)/\O0 g e.1 (j:Int)<0)/\((0<=e.2.2/\e.2.2.toNat<g.2.1.toNat)/\O0 g e.2.2 (-(j:Int))<0):=by
 obtain⟨l,i,c,d⟩:=y0i _ _ _ _ h
 obtain⟨a,m,n,f⟩:=h05.1 (List.mem_of_getElem? c)
 obtain⟨b,o,p,k⟩:=h05.1 (List.mem_of_getElem? d)
 exact⟨l,⟨i,c,d⟩,⟨by omega,f⟩,⟨by omega,k⟩⟩
theorem z0i{l:List Int}(h:l.Nodup){i j:Nat}{x:Int}(f:l[i]?=some x)(g:l[j]?=some x):i=j:=by
 obtain⟨d,a⟩:=List.getElem?_eq_some_iff.1 f
 obtain⟨e,b⟩:=List.getElem?_eq_some_iff.1 g
 rcases Nat.lt_trichotomy i j with c|c|c
 ·exact absurd (a.trans b.symm) (List.pairwise_iff_getElem.1 h i j d e c)
 ·exact c
 ·exact absurd (b.trans a.symm) (List.pairwise_iff_getElem.1 h j i e d c)
theorem C09{a b:D0}(c:a.1=b.1)(d:a.2.1=b.2.1)(e:a.2.2=b.2.2):a=b:=by
 obtain⟨f,g,h⟩:=a
 obtain⟨i,j,k⟩:=b
 simp only at c d e
 rw[c,d,e]
theorem b0l{g:j0}(hf:H0 g=true){a b:D0}(d:a∈(a03 g).2.2)(e:b∈(a03 g).2.2)(f:a.2.1=b.2.1)(l:a.1=b.1∨a.2.2=b.2.2):a=b:=by
 obtain⟨p,z,A,C⟩:=W0 hf
 rcases j05.1 d with d|⟨i,u,d⟩<;>rcases j05.1 e with e|⟨j,v,e⟩
 ·have c:=t07 hf d
  have o:=t07 hf e
  rw[f]at c
  rcases l with h|h
  ·rw[h]at c
   exact C09 h f (c.1.symm.trans o.1)
  ·rw[h]at c
   exact C09 (c.2.symm.trans o.2) f h
 ·have c:=t07 hf d
  have t:=p a d
  obtain⟨k,_,f3,q⟩:=k05 e
  rw[f,k]at c
  rcases l with h|h
  ·rw[h]at c;omega
  ·rw[h]at c;omega
 ·have c:=t07 hf e
  have t:=p b e
  obtain⟨k,_,f3,q⟩:=k05 d
  rw[←f,k]at c
  rcases l with h|h
  ·rw[←h]at c;omega
  ·rw[←h]at c;omega
 ·obtain⟨k,⟨x,f2,f3⟩,_,_⟩:=k05 d
  obtain⟨w,⟨y,m,n⟩,_,_⟩:=k05 e
  have s:i=j:=by omega
  subst s
  rcases l with h|h
  ·rw[h]at f2
   have:=z0i (L05 _ _ _ _) f2 m
   subst this
   rw[f3]at n
   exact C09 h f (oJ n)
  ·rw[h]at f3
   have:=z0i (L05 _ _ _ _) f3 n
   subst this
   rw[f2]at m
   exact C09 (oJ m) f h
theorem x0g{g:j0}(hf:H0 g=true):inG (a03 g):=λe a=>by
 obtain⟨b,h,j,k⟩:=W0 hf
 rcases j05.1 a with a|⟨i,f,a⟩
 ·exact b e a
 ·obtain⟨c,_,f3,d⟩:=k05 a
  show(0<=e.1/\e.1<g.2.1)/\(0<=e.2.2/\e.2.2<g.2.1)/\1<=e.2.1/\e.2.1<=g.1
  omega
theorem A0i{g:j0}(hf:H0 g=true):Asc N0 (a03 g).2.2:=O01 I5 _ _ (z03 (J3 hf))
theorem V0n{g:j0}(hf:H0 g=true)(m:g.2.1*g.1<=120):(a03 g).2.2.length<=120:=by
 obtain⟨q,s,t,u⟩:=W0 hf
 have f:=x0g hf
 have n:=z0a (A0i hf)
 have l:((a03 g).2.2.map λe=>e.1*g.1+(e.2.1-1)).Nodup:=by
  rw[List.Nodup,List.pairwise_map]
  refine List.Pairwise.imp_of_mem (λ{a b} h i o e=>?_) n
  have d:(0<=a.1/\a.1<g.2.1)/\(0<=a.2.2/\a.2.2<g.2.1)/\1<=a.2.1/\a.2.1<=g.1:=f a h
  have j:(0<=b.1/\b.1<g.2.1)/\(0<=b.2.2/\b.2.2<g.2.1)/\1<=b.2.1/\b.2.1<=g.1:=f b i
  have c:g.1=1∨g.1=2∨g.1=3:=by omega
  have:a.1=b.1/\a.2.1=b.2.1:=by
   rcases c with c|c|c<;>rw[c]at e d j<;>omega
  exact o (b0l hf h i this.2 (.inl this.1))
 have:=o9 120 _ l λx p=>by
  obtain⟨e,k,rfl⟩:=List.mem_map.1 p
  have d:(0<=e.1/\e.1<g.2.1)/\(0<=e.2.2/\e.2.2<g.2.1)/\1<=e.2.1/\e.2.1<=g.1:=f e k
  have c:g.1=1∨g.1=2∨g.1=3:=by omega
  rcases c with c|c|c<;>rw[c]at m d ⊢<;>omega
 rwa [List.length_map]at this
theorem M06{g:j0}(hf:H0 g=true)(h:g.2.1*g.1<=120):H0 (a03 g)=true:=by
 obtain⟨l,j,k,m⟩:=W0 hf
 have f:V0 (a03 g)=true:=(a02 _).2 ⟨x0g hf,j,k,V0n hf h,A0i hf⟩
 refine(p07 f).2 λa d b e i=>?_
 unfold t03
 cases c:(decide (a.2.1=b.2.1)&&(decide (a.1=b.1) || decide (a.2.2=b.2.2)))with
 |false=>rfl
 |true =>
  simp only[Bool.and_eq_true,Bool.or_eq_true,decide_eq_true_eq]at c
  exact absurd (b0l hf d e c.1 c.2) i
theorem j0m{g:j0}(hf:H0 g=true):X07 (a03 g):=λv o x d=>by
 obtain⟨w,y,z,A⟩:=W0 hf
 have s:0<=v/\v<g.2.1:=E0a (x0g hf) (show(0:Int)<g.2.1 by omega) o
 have d:x∈j6 g.1.toNat 1:=d
 obtain⟨j,t,u,p⟩:=y09 _ _ _ d
 have up:∀ e∈g.2.2,e∈(a03 g).2.2:=λe b=>j05.2 (.inl b)
 rcases X03 g v x with⟨f,_⟩|f
 ·have m:x=(j:Int)∨x = -(j:Int):=p
  have q:=S0b hf (j:Int)
  rcases m with rfl|rfl
  ·have c:v∈F01 g (j:Int) g.2.1.toNat 0:=h05.2 ⟨v.toNat,by omega,by omega,by omega⟩
   obtain⟨i,a⟩:=List.getElem?_of_mem c
   have n:=(List.getElem?_eq_some_iff.1 a).1
   have l:=a5 (show i<(F01 g (-(j:Int)) g.2.1.toNat 0).length by omega)
   exact⟨_,n3.2 ⟨(v,(j:Int),_),j05.2 (.inr ⟨j,by omega,List.mem_of_getElem? (L06 _ _ _ i _ _ a l)⟩),.inl ⟨by omega,rfl,rfl,rfl⟩⟩⟩
  ·have c:v∈F01 g (-(j:Int)) g.2.1.toNat 0:=h05.2 ⟨v.toNat,by omega,by omega,by omega⟩
   obtain⟨i,a⟩:=List.getElem?_of_mem c
   have n:=(List.getElem?_eq_some_iff.1 a).1
   have k:=a5 (show i<(F01 g (j:Int) g.2.1.toNat 0).length by omega)
   exact⟨_,n3.2 ⟨(_,(j:Int),v),j05.2 (.inr ⟨j,by omega,List.mem_of_getElem? (L06 _ _ _ i _ _ k a)⟩),.inr ⟨by omega,by simp,rfl,rfl⟩⟩⟩
 ·obtain⟨e,b,h⟩:=n3.1 f
  exact⟨_,n3.2 ⟨e,up e b,h⟩⟩
theorem W0n{g:j0}(hf:H0 g=true)(a:g.2.1*g.1<=120):L02 (I06 (a03 g))=true:=S0n (M06 hf a) (j0m hf)
def F00(g:j0)(w:List Int):j0×Bool :=
 bif decide ((P1 g 0 w).2<w.length)then
  (bif(B3 g).2 then d02 (B3 g).1 (P1 g 0 w).1 (w.drop (P1 g 0 w).2) g.2.1 else((0,0,[]),false))
 else(g,true)
theorem N0j{g:j0}(hf:H0 g=true){w:List Int}(t:Q2 g.1 w=true):f01 g w=some (F00 g w):=by
 unfold F00
 have s:=J3 hf
 obtain⟨C,J,H,K⟩:=W0 hf
 obtain⟨wl,I⟩:=t00 t
 have A:∀ x∈w,L5 x:=λx f=>(I x f).1
 have z:(0:Int)<=0/\(0:Int)<g.2.1:=⟨iR _,by omega⟩
 have l:=h0m hf z A (by omega)
 have e:=z01 g w 0
 have d:=d0g g hf 0 z (w.take (P1 g 0 w).2) (λx f=>A x (List.mem_of_mem_take f)) (by rw[List.length_take];omega)
 rw[x0d,List.length_take,show min (P1 g 0 w).2 w.length=(P1 g 0 w).2 by omega,decide_eq_false (Nat.lt_irrefl _)]at d
 have m:=A01 C H.2 w 0 ⟨by omega,by omega⟩
 have D:=W00 g (by omega)
 have o:=j0d (xs:=w) (k:=(P1 g 0 w).2) e
 have p:=S01 (xs:=w) (k:=(P1 g 0 w).2) e
 have E:=z0b s
 have G:=Y03 C w 0 z
 have F:=d03 s
 have i:(B3 g).2=true->_:=λh=>a0e (g:=(B3 g).1) (u:=(P1 g 0 w).1) (v:=g.2.1) (w:=w.drop (P1 g 0 w).2) F (by rw[(v07 h).1];simp only;omega) (by rw[(v07 h).1];simp only;omega) (by rw[(v07 h).1];exact s0f t _)
 generalize P1 g 0 w=R at *
 obtain⟨v,n⟩:=R
 obtain⟨a,b,c⟩:=g
 simp only at l d m o p e G i ⊢
 unfold f01
 simp only[l,oB]
 rw[B0 (show J0 ((n:Nat):Int) from⟨by omega,by omega⟩),oB]
 by_cases c1:n<w.length
 ·rw[if_neg (by simp only[decide_eq_true_eq];omega),decide_eq_true c1,o,oB,d]
  simp only[cond_false,oB]
  rw[B0 m,oB,E]
  simp only[oB,cond_true]
  cases hok:(B3 (a,b,c)).2 with
  |false =>
   generalize B3 (a,b,c)=q at *
   obtain⟨⟨x,y,z⟩,ok⟩:=q
   simp only at hok
   subst hok
   rfl
  |true =>
   have j:=i hok
   generalize B3 (a,b,c)=q at *
   obtain⟨⟨x,y,z⟩,ok⟩:=q
   simp only at hok j
   subst hok
   simp only[Bool.not_true,Bool.false_eq_true,if_false,p,oB,j,cond_true]
 ·rw[if_pos (by simp only[decide_eq_true_eq];omega),decide_eq_false c1,D];rfl
theorem O0j{g:j0}(hf:H0 g=true){w:List Int}(s:Q2 g.1 w=true):
  ∃ v:Int,J0 v/\E01 g w=some (bif(F00 g w).2 then((F00 g w).1,v,true)else((0,0,[]),0,false)):=by
 unfold F00
 have o:=J3 hf
 obtain⟨e,t,f,I⟩:=W0 hf
 obtain⟨wl,H⟩:=t00 s
 have E:∀ x∈w,L5 x:=λx F=>(H x F).1
 have z:(0:Int)<=0/\(0:Int)<g.2.1:=⟨iR _,by omega⟩
 have l:=S0c g e f.2 (by omega) 0 w E (by omega)
 have p:=z01 g w 0
 have d:=A01 e f.2 w 0 ⟨by omega,by omega⟩
 have m:=S01 (xs:=w) (k:=(P1 g 0 w).2) p
 have A:=A0b o
 have D:=Y03 e w 0 z
 have C:=d03 o
 have i:(B3 g).2=true->_:=λh=>b0e (g:=(B3 g).1) (u:=(P1 g 0 w).1) (v:=g.2.1) (w:=w.drop (P1 g 0 w).2) C (by rw[(v07 h).1];simp only;omega) (by rw[(v07 h).1];simp only;omega) (by rw[(v07 h).1];exact s0f s _)
 generalize P1 g 0 w=R at *
 obtain⟨v,n⟩:=R
 obtain⟨a,b,c⟩:=g
 simp only at l d m p D i f ⊢
 unfold E01
 simp only[l,oB]
 rw[B0 d,oB,B0 (show J0 ((n:Nat):Int) from⟨by omega,by omega⟩),oB]
 by_cases c1:n<w.length
 ·refine⟨b,⟨by omega,by omega⟩,?_⟩
  rw[if_neg (by simp only[decide_eq_true_eq];omega),decide_eq_true c1,A]
  simp only[oB,cond_true]
  cases hok:(B3 (a,b,c)).2 with
  |false =>
   generalize B3 (a,b,c)=q at *
   obtain⟨⟨x,y,z⟩,ok⟩:=q
   simp only at hok
   subst hok
   rfl
  |true =>
   have j:=i hok
   generalize B3 (a,b,c)=q at *
   obtain⟨⟨x,y,z⟩,ok⟩:=q
   simp only at hok j
   subst hok
   simp only[Bool.not_true,Bool.false_eq_true,if_false,m,oB,j,cond_true]
   generalize d02 (x,y,z) v (w.drop n) b=t at *
   obtain⟨⟨J,K,L⟩,G⟩:=t
   cases G with
   |false=>rfl
   |true=>rfl
 ·refine⟨v,d,?_⟩
  rw[if_pos (by simp only[decide_eq_true_eq];omega),decide_eq_false c1];rfl
def C00(g:j0)(w:List Int):j0×Bool :=
 bif L3 g&&(Q2 g.1 w && !U00 g w)then
  (bif(F00 g w).2 then(bif(T01 (F00 g w).1).2 then(u07 (T01 (F00 g w).1).1,true)else((0,0,[]),false))else((0,0,[]),false))
 else((0,0,[]),false)
theorem B0i{g:j0}(hf:H0 g=true)(w:List Int):(F00 g w).1.2.2.length<=120:=by
 have a:=J3 hf
 obtain⟨c,d,e,b⟩:=W0 hf
 have h:=a0i (d03 a) (P1 g 0 w).1 (w.drop (P1 g 0 w).2) g.2.1
 unfold F00
 cases decide ((P1 g 0 w).2<w.length)with
 |false=>exact b
 |true =>
  cases (B3 g).2 with
  |false=>exact Nat.zero_le _
  |true=>exact h
theorem y0g{g:j0}(h:(T01 g).2=true):V0 (T01 g).1=true/\H0 g=true/\g.2.1*g.1<=120/\T01 g=(a03 g,true):=by
 unfold T01 at h ⊢
 cases c:(H0 g&&decide (g.2.1*g.1<=120))with
 |false=>rw[c]at h;cases h
 |true =>
  rw[Bool.and_eq_true,decide_eq_true_eq]at c
  exact⟨J3 (M06 c.1 c.2),c.1,c.2,rfl⟩
theorem k0m(g:j0)(o:g.2.2.length<=1099511627776)(w:List Int)(m:w.length<=140737488355328):l6 g w=some (C00 g w):=by
 have h0:=W00 g (by omega)
 have e:=K06 g (by omega)
 have d:=r03 g.1 w m
 unfold C00
 cases hc:L3 g with
 |false =>
  rw[hc]at e
  obtain⟨a,b,c⟩:=g
  unfold l6 d7
  simp only[h0,e,oB,Bool.not_false,cond_true,if_true,Bool.false_and,cond_false]
 |true =>
  rw[hc]at e
  have hf:=Q5 hc
  cases hwd:Q2 g.1 w with
  |false =>
   rw[hwd]at d
   obtain⟨a,b,c⟩:=g
   simp only at d
   unfold l6 d7
   simp only[h0,e,oB,Bool.not_true,Bool.not_false,List.length_singleton,cond_false]
   rw[if_neg (by simp),show P0=9223372036854775807+1 from rfl,C4.eq_2,if_pos (by simp),show gi [w] 0=some w from rfl]
   simp only[oB,d,Bool.not_false,Bool.not_true,J2,cond_true,if_true,C3,Bool.false_and,Bool.and_false,cond_false]
  |true =>
   rw[hwd]at d
   have k:=J06 (r:=g.1) hc hwd
   have l:=N0j hf hwd
   have f:=L0j (F00 g w).1 (by have:=B0i hf w;omega)
   have i:(T01 (F00 g w).1).2=true->_:=λh=>s0i (y0g h).1
   obtain⟨a,b,c⟩:=g
   simp only at d
   unfold l6 d7
   simp only[h0,e,oB,Bool.not_true,Bool.not_false,List.length_singleton,cond_false]
   rw[if_neg (by simp),show P0=9223372036854775806+1+1 from rfl,C4.eq_2,if_pos (by simp),show gi [w] 0=some w from rfl]
   simp only[oB,d,Bool.not_false,Bool.not_true,L1,cond_false,k,Bool.true_and]
   cases U00 (a,b,c) w with
   |true=>rfl
   |false =>
    simp only[Bool.false_eq_true,if_false,l,oB,Bool.not_false,cond_true]
    generalize F00 (a,b,c) w=q at *
    obtain⟨⟨x,y,z⟩,ok⟩:=q
    cases ok with
    |false=>rfl
    |true =>
     simp only[Bool.not_true,Bool.false_eq_true,if_false,cond_true]
     rw[C4.eq_2,if_neg (by rw[show IntKind.i64.wrap (0+1)=1 by decide];simp)]
     simp only[oB,S0]at f i ⊢
     rw[f]
     generalize T01 (x,y,z)=q2 at *
     obtain⟨⟨p,s,t⟩,n⟩:=q2
     cases n with
     |false=>rfl
     |true =>
      have j:=i rfl
      simp only[oB,Bool.not_true,Bool.false_eq_true,if_false,cond_true]at j ⊢
      rw[j];rfl
theorem l0m(g:j0)(p:g.2.2.length<=1099511627776)(w:List Int)(n:w.length<=140737488355328):o6 g w=some (C00 g w):=by
 have e:=r02 g (by omega)
 have d:=s03 g.1 w n
 unfold C00
 cases hc:L3 g with
 |false =>
  rw[hc]at e
  obtain⟨a,b,c⟩:=g
  unfold o6 i7
  simp only[e,oB,Bool.not_false,cond_true,if_true,Bool.false_and,cond_false]
 |true =>
  rw[hc]at e
  have hf:=Q5 hc
  cases hwd:Q2 g.1 w with
  |false =>
   rw[hwd]at d
   obtain⟨a,b,c⟩:=g
   simp only at d
   unfold o6 i7
   simp only[e,oB,Bool.not_true,Bool.not_false,List.length_singleton,cond_false]
   rw[if_neg (by simp),show P0=9223372036854775807+1 from rfl,F4.eq_2,if_pos (by simp),show gi [w] 0=some w from rfl]
   simp only[oB,d,Bool.not_false,Bool.not_true,J2,cond_true,if_true,C3,Bool.false_and,Bool.and_false,cond_false]
  |true =>
   rw[hwd]at d
   have k:=l0i (r:=g.1) hc hwd
   obtain⟨v,m,l⟩:=O0j hf hwd
   have f:=M0j (F00 g w).1 (by have:=B0i hf w;omega)
   have i:(T01 (F00 g w).1).2=true->_:=λh=>t0i (y0g h).1
   obtain⟨a,b,c⟩:=g
   simp only at d
   unfold o6 i7
   simp only[e,oB,Bool.not_true,Bool.not_false,List.length_singleton,cond_false]
   rw[if_neg (by simp),show P0=9223372036854775806+1+1 from rfl,F4.eq_2,if_pos (by simp),show gi [w] 0=some w from rfl]
   simp only[oB,d,Bool.not_false,Bool.not_true,L1,cond_false,k,Bool.true_and]
   cases U00 (a,b,c) w with
   |true=>rfl
   |false =>
    simp only[Bool.false_eq_true,if_false,Bool.not_false,cond_true]
    rw[F4.eq_2,if_neg (by rw[show IntKind.i64.wrap (0+1)=1 by decide];simp)]
    simp only[oB,S0]
    rw[j5.eq_2,if_pos (by simp),show gi [w] 0=some w from rfl]
    simp only[oB,l]
    generalize F00 (a,b,c) w=q at *
    obtain⟨⟨x,y,z⟩,ok⟩:=q
    cases ok with
    |false =>
     simp only[cond_false]
     rw[B0 (show J0 0 from⟨by omega,by omega⟩)];rfl
    |true =>
     simp only[cond_true]
     rw[B0 m]
     simp only[oB,Bool.not_true,Bool.false_eq_true,if_false]
     rw[j5.eq_2,if_neg (by rw[show IntKind.i64.wrap (0+1)=1 by decide];simp)]
     simp only[oB,S0]at f i ⊢
     rw[f]
     generalize T01 (x,y,z)=q2 at *
     obtain⟨⟨s,t,u⟩,o⟩:=q2
     cases o with
     |false=>rfl
     |true =>
      have j:=i rfl
      simp only[oB,Bool.not_true,Bool.false_eq_true,if_false,cond_true]at j ⊢
      rw[j];rfl
def l05(e:D0):List D0->Nat->Option Nat
 | [],_=>none
 |x::l,k=>if e=x then some k else l05 e l (k+1)
theorem E0d{e:D0}:∀ {l:List D0} {k i:Nat},l05 e l k=some i->i<k+l.length
 | [],k,i,h=>by cases h
 |x::l,k,i,h=>by
  unfold l05 at h
  split at h
  ·cases h;simp
  ·have:=E0d h
   simp only[List.length_cons];omega
def sgK(x:Int)(k:Nat):Int:=if 0<x then(k:Int)+1 else -(k:Int)-1
def G08(x v n:Int):List D0->Nat->List Int
 | [],_=>[]
 |e::l,k=>if stp v x n=e then sgK x k::G08 x v n l (k+1)else G08 x v n l (k+1)
theorem C0i{x v n:Int}:∀ {l:List D0} {k:Nat},stp v x n ∉ l->G08 x v n l k = []
 | [],k,h=>rfl
 |e::l,k,h=>by
  unfold G08
  rw[if_neg λc=>h (by rw[c];exact mS)]
  exact C0i λc=>h (mC _ c)
theorem v0f{x v n:Int}:∀ {l:List D0} {k:Nat},l.Nodup->G08 x v n l k=(l05 (stp v x n) l k).toList.map (sgK x)
 | [],k,h=>rfl
 |e::l,k,h=>by
  obtain⟨a,b⟩:=List.nodup_cons.1 h
  unfold G08 l05
  split
  ·rename_i c
   rw[C0i (by rw[c];exact a)];rfl
  ·exact v0f b
def rwL(g:j0)(E:List D0):Int->List Int->List Int
 |_,[]=>[]
 |v,x::w=>(l05 (stp v x (O0 g v x)) E 0).toList.map (sgK x)++rwL g E (O0 g v x) w
theorem c0l{a:Type}(o:Option a):o.toList.length<=1:=by cases o<;>simp
theorem T0b(g:j0)(E:List D0):∀(w:List Int) (v:Int),(rwL g E v w).length<=w.length
 | [],v=>Nat.le_refl _
 |x::w,v=>by
  have a:=T0b g E w (O0 g v x)
  have b:=c0l (l05 (stp v x (O0 g v x)) E 0)
  unfold rwL
  simp only[List.length_append,List.length_map,List.length_cons]
  omega
theorem P0j(g:j0)(E:List D0)(b:E.length<=1000):∀(w:List Int) (v:Int),∀ y∈rwL g E v w,-1000<=y/\y<=1000
 | [],v,y,h=>by cases h
 |x::w,v,y,h=>by
  unfold rwL at h
  rcases List.mem_append.1 h with h|h
  ·obtain⟨k,a,rfl⟩:=List.mem_map.1 h
   have a:=E0d (Option.mem_toList.1 a)
   unfold sgK
   split<;>omega
  ·exact P0j g E b w _ y h
theorem X0n(w:List Int)(i:Nat)(x:Int)(m:w[i]?=some x)(f:L5 x)(h0:x≠0)(v n:Int)(E:List D0)(y:E.length<=1000):∀(d k fuel:Nat) (acc:List Int),k+d=E.length->d<fuel->acc.length<=100000+k ->
  S3 E w (i:Int) v n fuel (k:Int) acc=some (acc++G08 x v n (E.drop k) k)
 |d,k,0,acc,p,hf,o=>by omega
 |0,k,fuel+1,acc,p,hf,o=>by
  rw[S3.eq_2,if_neg (by simp only[decide_eq_true_eq];omega),H1 (by omega)];simp[G08]
 |d+1,k,fuel+1,acc,p,hf,o=>by
  have z:k<E.length:=by omega
  have l:=a5 z
  have q:=J1 l
  generalize E[k]=e at l q
  have j:=λs h=>X0n w i x m f h0 v n E y d (k+1) fuel s (by omega) (by omega) h
  have t:=w64 (show -9223372036854775808<=(k:Int)+1 by omega) (by omega)
  have u:IntKind.i64.wrap (IntKind.i64.wrap (0-(k:Int))-1) = -(k:Int)-1:=by
   rw[w64 (show -9223372036854775808<=0-(k:Int) by omega) (by omega),w64 (by omega) (by omega)];omega
  obtain⟨a,b,c⟩:=e
  rw[S3.eq_2,if_pos (by simp only[decide_eq_true_eq];omega),U1 m,oB,q,G08]
  simp only[U1 l,t,u,chk,U07 f.1 f.2]
  unfold stp sgK
  by_cases hp:0<x
  ·have g : ¬ x<0:=by omega
   simp only[decide_eq_true (show x>0 from hp),decide_eq_false g,if_pos hp,if_neg g,cond_true,cond_false,oB,Bool.false_eq_true,if_false]
   by_cases c1:(v,x,n)=(a,b,c)
   ·rw[if_pos ((K02 _ _).2 c1.symm),if_pos c1,B0 (by simp only[List.length_singleton];omega),oB]
    have:=j (acc ++ [(k:Int)+1]) (by simp only[List.length_append,List.length_singleton];omega)
    rw[show((k+1:Nat):Int)=(k:Int)+1 by omega]at this
    rw[this,List.append_assoc];rfl
   ·rw[if_neg λh=>c1 ((K02 _ _).1 h).symm,if_neg c1]
    have:=j acc (by omega)
    rw[show((k+1:Nat):Int)=(k:Int)+1 by omega]at this
    exact this
  ·have g:x<0:=by omega
   simp only[decide_eq_false (show ¬ x>0 from hp),decide_eq_true g,if_neg hp,if_pos g,cond_true,cond_false,oB,Bool.false_eq_true,if_false,U1 m,U07 f.1 f.2]
   by_cases c1:(n,-x,v)=(a,b,c)
   ·rw[if_pos ((K02 _ _).2 c1.symm),if_pos c1,B0 (by simp only[List.length_singleton];omega),oB]
    have:=j (acc ++ [-(k:Int)-1]) (by simp only[List.length_append,List.length_singleton];omega)
    rw[show((k+1:Nat):Int)=(k:Int)+1 by omega]at this
    rw[this,List.append_assoc];rfl
   ·rw[if_neg λh=>c1 ((K02 _ _).1 h).symm,if_neg c1]
    have:=j acc (by omega)
    rw[show((k+1:Nat):Int)=(k:Int)+1 by omega]at this
    exact this
theorem Y0n{g:j0}(l:H0 g=true)(w:List Int)(n:∀ x∈w,L5 x/\x≠0)(o:w.length<=1000)(E:List D0)(e:E.length<=1000)(f:E.Nodup):∀(d k fuel:Nat) (v:Int) (acc:List Int),k+d=w.length->d<fuel->acc.length<=k ->
  S5 w g.1 g.2.1 g.2.2 E fuel v (k:Int) acc=some (acc++rwL g E v (w.drop k))
 |d,k,0,v,acc,i,hf,h=>by omega
 |0,k,fuel+1,v,acc,i,hf,h=>by
  rw[S5.eq_2,if_neg (by simp only[decide_eq_true_eq];omega),H1 (by omega)];simp[rwL]
 |d+1,k,fuel+1,v,acc,i,hf,h=>by
  obtain⟨p,t,q,u⟩:=W0 l
  have m:k<w.length:=by omega
  have a:=a5 m
  obtain⟨b,h0⟩:=n _ (List.mem_of_getElem? a)
  have j:=J1 a
  generalize w[k]=x at a b h0 j
  have c:=X0n w k x a b h0 v (O0 g v x) E e E.length 0 P0 acc (by omega) (j1 (by omega)) (by omega)
  rw[show((0:Nat):Int)=0 from rfl,List.drop_zero,v0f f]at c
  have s:=c0l (l05 (stp v x (O0 g v x)) E 0)
  rw[S5.eq_2,if_pos (by simp only[decide_eq_true_eq];omega),U1 a,oB,show(g.1,g.2.1,g.2.2)=g from rfl,R01 g v x b (by omega),oB,B0 (M9 p q.2 v x),oB,c,oB,V1 m (by omega),
   Y0n l w n o E e f d (k+1) fuel _ _ (by omega) (by omega) (by simp only[List.length_append,List.length_map];omega),j,rwL,List.append_assoc]
theorem D0i(es:List D0)(e:D0)(o:es.length<=1000):∀(d k fuel:Nat),k+d=es.length->d<fuel ->
  D1 es e.1 e.2.1 e.2.2 fuel (k:Int)=some (match l05 e (es.drop k) k with|some i => .inl (i:Int)|none => .inr ())
 |d,k,0,f,hf=>by omega
 |0,k,fuel+1,f,hf=>by
  rw[D1.eq_2,if_neg (by simp only[decide_eq_true_eq];omega),H1 (by omega)];rfl
 |d+1,k,fuel+1,f,hf=>by
  have j:k<es.length:=by omega
  have a:=a5 j
  have g:=J1 a
  generalize es[k]=b at a g
  obtain⟨l,m,n⟩:=b
  rw[D1.eq_2,if_pos (by simp only[decide_eq_true_eq];omega),U1 a,oB,g,l05]
  simp only[show(e.1,e.2.1,e.2.2)=e from rfl]
  by_cases c:e=(l,m,n)
  ·rw[if_pos ((K02 _ _).2 c),if_pos c]
  ·rw[if_neg λh=>c ((K02 _ _).1 h),if_neg c,V1 j (by omega)]
   exact D0i es e o d (k+1) fuel (by omega) (by omega)
theorem T0o(es:List D0)(e:D0)(d:es.length<=1000):Q1 es e=some (match l05 e es 0 with|some i=>(i:Int)|none => -1):=by
 have h:=D0i es e d es.length 0 P0 (by omega) (j1 (by omega))
 rw[show((0:Nat):Int)=0 from rfl,List.drop_zero]at h
 obtain⟨a,b,c⟩:=e
 unfold Q1
 simp only at h ⊢
 rw[h,oB]
 cases l05 (a,b,c) es 0<;>rfl
theorem v0p{g:j0}(q:H0 g=true)(w:List Int)(t:∀ x∈w,L5 x/\x≠0)(C:w.length<=1000)(E:List D0)(m:E.length<=1000):∀(d k fuel:Nat) (v:Int) (acc:List Int),k+d=w.length->d<fuel->acc.length<=k ->
  I4 w g.1 g.2.1 g.2.2 E fuel v (k:Int) acc=some (acc++rwL g E v (w.drop k))
 |d,k,0,v,acc,o,hf,n=>by omega
 |0,k,fuel+1,v,acc,o,hf,n=>by
  rw[I4.eq_2,if_neg (by simp only[decide_eq_true_eq];omega),H1 (by omega)];simp[rwL]
 |d+1,k,fuel+1,v,acc,o,hf,n=>by
  obtain⟨F,I,G,J⟩:=W0 q
  have s:k<w.length:=by omega
  have f:=a5 s
  obtain⟨j,h0⟩:=t _ (List.mem_of_getElem? f)
  have p:=J1 f
  generalize w[k]=x at f j h0 p
  have A:=T0o E (stp v x (O0 g v x)) m
  have D:=o0g v x (O0 g v x) j
  have l:=λu h=>v0p q w t C E m d (k+1) fuel (O0 g v x) u (by omega) (by omega) h
  rw[I4.eq_2,if_pos (by simp only[decide_eq_true_eq];omega),U1 f,oB,show(g.1,g.2.1,g.2.2)=g from rfl,V00 g v x j (by omega),oB,B0 (M9 F G.2 v x),oB,D,oB,V1 s (by omega),p,rwL]
  generalize stp v x (O0 g v x)=e at *
  obtain⟨a,b,c⟩:=e
  simp only[A]
  cases hfe:l05 (a,b,c) E 0 with
  |none =>
   simp only[oB]
   rw[B0 (show J0 (-1) from⟨by omega,by omega⟩),oB,if_neg (by simp),l acc (by omega)]
   simp
  |some i =>
   have H:=E0d hfe
   have y:=w64 (show -9223372036854775808<=(i:Int)+1 by omega) (by omega)
   have z:IntKind.i64.wrap (IntKind.i64.wrap (0-(i:Int))-1) = -(i:Int)-1:=by
    rw[w64 (show -9223372036854775808<=0-(i:Int) by omega) (by omega),w64 (by omega) (by omega)];omega
   simp only[oB,y,z]
   rw[B0 (show J0 (i:Int) from⟨by omega,by omega⟩),oB,if_pos (by simp only[decide_eq_true_eq];omega)]
   simp only[Option.toList_some,List.map_cons,List.map_nil]
   unfold sgK
   by_cases hp:0<x
   ·rw[if_pos (by simp only[decide_eq_true_eq];omega),if_pos hp,B0 (by simp only[List.length_singleton];omega),oB,l _ (by simp only[List.length_append,List.length_singleton];omega),List.append_assoc]
   ·rw[if_neg (by simp only[decide_eq_true_eq];omega),if_neg hp,B0 (by simp only[List.length_singleton];omega),oB,l _ (by simp only[List.length_append,List.length_singleton];omega),List.append_assoc]
def x08(g:j0)(w:List Int):List Int×Bool:=bif U00 g w then((n01 [] (rwL g (l9 g) 0 w)).reverse,true)else([],false)
theorem F0a{g:j0}(hf:H0 g=true):(l9 g).length<=120/\(l9 g).Nodup:=by
 obtain⟨b,c,d,f⟩:=W0 hf
 have a:=List.length_filter_le (λe => !decide (e∈u02 g)) g.2.2
 exact⟨by unfold l9;omega,(z0a (z03 (J3 hf))).filter _⟩
theorem E0i{g:j0}(hf:H0 g=true)(w:List Int):(x08 g w).1.length<=w.length/\∀ y∈(x08 g w).1,J0 y:=by
 have c:=T0b g (l9 g) w 0
 have a:=f05 (rwL g (l9 g) 0 w) []
 have b:=P0j g (l9 g) (by have:=(F0a hf).1;omega) w 0
 unfold x08
 cases U00 g w with
 |false=>exact⟨Nat.zero_le _,λy h=>by cases h⟩
 |true =>
  refine⟨by simp only[cond_true,List.length_reverse,List.length_nil]at a ⊢;omega,λy h=>?_⟩
  rcases o0i _ _ (List.mem_reverse.1 h)with h|h
  ·cases h
  ·have:=b y h
   exact⟨by omega,by omega⟩
theorem Z0n{g:j0}(k:L3 g=true){w:List Int}(f:Q2 g.1 w=true):d00 g w=some (x08 g w):=by
 have hf:=Q5 k
 obtain⟨s,t,u,v⟩:=W0 hf
 obtain⟨wl,h⟩:=t00 f
 have i:=J8 w (λx e=>(h x e).1.1) (by omega)
 rw[Y02 f]at i
 have m:=J06 (r:=g.1) k f
 have n:=Q0n hf
 obtain⟨p,l⟩:=F0a hf
 have d:=Y0n hf w (λx e=>⟨(h x e).1,(h x e).2.1⟩) (by omega) (l9 g) (by omega) l w.length 0 P0 0 [] (by omega) (j1 (by omega)) (by simp)
 rw[show((0:Nat):Int)=0 from rfl,List.drop_zero,List.nil_append]at d
 have q:=T0b g (l9 g) w 0
 have j:=J8 (rwL g (l9 g) 0 w) (λy o=>by have:=P0j g (l9 g) (by omega) w 0 y o;exact⟨by omega,by omega⟩) (by omega)
 unfold x08
 obtain⟨a,b,c⟩:=g
 unfold d00
 simp only[i,m,n,d,oB]at d j ⊢
 cases U00 (a,b,c) w with
 |false=>rfl
 |true=>simp only[Bool.not_true,Bool.false_eq_true,if_false,cond_true,d,j,oB]
theorem a0o{g:j0}(i:L3 g=true){w:List Int}(e:Q2 g.1 w=true):e00 g w=some (x08 g w):=by
 have hf:=Q5 i
 obtain⟨q,s,t,u⟩:=W0 hf
 obtain⟨wl,k⟩:=t00 e
 have f:=K05 w (by omega)
 rw[Y02 e]at f
 have l:=w0d (r:=g.1) i e
 have m:=Q0o hf
 obtain⟨n,o⟩:=F0a hf
 have d:=v0p hf w (λx j=>⟨(k x j).1,(k x j).2.1⟩) (by omega) (l9 g) (by omega) w.length 0 P0 0 [] (by omega) (j1 (by omega)) (by simp)
 rw[show((0:Nat):Int)=0 from rfl,List.drop_zero,List.nil_append]at d
 have p:=T0b g (l9 g) w 0
 have h:=E04 [rwL g (l9 g) 0 w] (by simp) (by simp only[F0j];omega)
 unfold x08
 obtain⟨a,b,c⟩:=g
 unfold e00
 simp only[f,l,m,d,oB]at d h ⊢
 cases U00 (a,b,c) w with
 |false=>rfl
 |true=>simp only[Bool.not_true,Bool.false_eq_true,if_false,cond_true,d,h,oB];rfl
theorem d0l{a:List Int}(b:a.length<=1099511627776):M6 a=some a:=by
 unfold M6
 rw[B0 (by simp;omega)]
 rfl
def sm(r:Int)(w:List Int):Prop:=∀ x∈w,x≠0 /\ -r<=x/\x<=r
theorem A0q{r:Int}(b:r<=3){w:List Int}(h:sm r w):j0f w:=λx a=>by have:=h x a;exact⟨by omega,by omega⟩
theorem e0l{x:Int}(a : -3<=x)(b:x<=3):ng x = -x:=by unfold ng;rw[w64 (by omega) (by omega)];omega
theorem U0o{r:Int}(d:r<=3){l x:Int}(h0:l≠0)(a : -r<=l)(b:l<=r):V05 l x=decide (x = -l):=by
 unfold V05
 rw[e0l (by omega) (by omega),show(l == 0)=false by simpa using h0,show(l == -9223372036854775808)=false by simp;omega]
 by_cases c:x = -l
 ·simp[c]
 ·simp[c]
theorem b0o{r:Int}{b:List Int}{x:Int}(c:sm r b)(d:x≠0 /\ -r<=x/\x<=r):sm r (L9 b x):=by
 unfold L9
 cases b with
 |nil=>intro y a;simp at a;rw[a];exact d
 |cons l t =>
  simp only
  cases V05 l x with
  |true=>exact λy a=>c y (mC _ a)
  |false =>
   intro y a
   rcases List.mem_cons.1 a with rfl|a
   ·exact d
   ·exact c y a
theorem U0b{r:Int}:∀(w a:List Int),sm r a->sm r w->sm r (n01 a w)
 | [],a,b,_=>b
 |x::w,a,b,c=>U0b w (L9 a x) (b0o b (c x mS)) λy d=>c y (mC _ d)
def rd(l:List Int):Prop:=∀ A x y B,l=A++x::y::B->y ≠ -x
theorem f0q{P m Q:List Int}(h:rd (P++(m++Q))):rd m:=λA x y B e=>h (P++A) x y (B++Q) (by rw[e];simp)
theorem g0q{l:List Int}(h:rd l):rd l.reverse:=λA x y B e=>by
 have:=h B.reverse y x A.reverse (by
  have:=congrArg List.reverse e
  rw[List.reverse_reverse]at this
  rw[this];simp)
 omega
theorem c0o{r:Int}(i:r<=3):∀ {l:List Int},sm r l->Red l=true->rd l
 | [],_,_,A,x,y,B,e=>by cases A<;>cases e
 | [a],_,_,A,x,y,B,e=>by
  cases A with
  |nil=>cases e
  |cons b A=>cases A<;>cases e
 |a::b::t,j,h,A,x,y,B,e=>by
  cases A with
  |nil =>
   simp only[List.nil_append,List.cons.injEq]at e
   obtain⟨rfl,rfl,rfl⟩:=e
   have d:=j b (by simp)
   have g:=h
   simp only[Red,Bool.and_eq_true]at g
   have f:=g.1
   rw[U0o i d.1 d.2.1 d.2.2]at f
   simp only[Bool.not_eq_true',decide_eq_false_iff_not]at f
   omega
  |cons c A =>
   simp only[List.cons_append,List.cons.injEq]at e
   exact c0o i (λx k=>j x (mC _ k)) (i0i h) A x y B e.2
def ccA:Nat->List Int->List Int×List Int
 |0,l=>(l,[])
 |n+1,l=>if 2<=l.length/\l.headD 0 = -(l.getLastD 0)then((ccA n l.tail.dropLast).1,l.headD 0::(ccA n l.tail.dropLast).2)else(l,[])
theorem h0q{l:List Int}(h:2<=l.length):∃ a m b,l=a::(m ++ [b])/\l.headD 0=a/\l.getLastD 0=b/\l.tail.dropLast=m:=by
 cases l with
 |nil=>simp at h
 |cons a r =>
  have c:r≠[]:=λe=>by rw[e]at h;simp at h
  refine⟨a,r.dropLast,r.getLast c,by rw[List.dropLast_concat_getLast],rfl,?_,rfl⟩
  cases r with
  |nil=>exact absurd rfl c
  |cons b t=>simp[List.getLastD,List.getLast]
theorem G0a:∀(n:Nat) (l:List Int),∃ q,l=(ccA n l).2++((ccA n l).1++q)
 |0,l=>⟨[],by simp[ccA]⟩
 |n+1,l=>by
  unfold ccA
  split
  ·rename_i c
   obtain⟨a,m,b,e,f,h,g⟩:=h0q c.1
   obtain⟨q,d⟩:=G0a n l.tail.dropLast
   refine⟨q ++ [b],?_⟩
   rw[g]at d ⊢
   rw[f]
   conv=>lhs;rw[e,d]
   simp
  ·exact⟨[],by simp⟩
theorem D09{n:Nat}{l:List Int}(h : ¬ (2<=l.length/\l.headD 0 = -(l.getLastD 0))):ccA n l=(l,[]):=by
 cases n with
 |zero=>rfl
 |succ n=>unfold ccA;rw[if_neg h]
theorem f0l(n:Nat)(l:List Int):(ccA n l).1.length<=l.length/\(ccA n l).2.length<=l.length:=by
 obtain⟨q,e⟩:=G0a n l
 have:=congrArg List.length e
 simp only[List.length_append]at this
 omega
theorem V0o{r:Int}{n:Nat}{l:List Int}(h:sm r l):sm r (ccA n l).1/\sm r (ccA n l).2:=by
 obtain⟨q,e⟩:=G0a n l
 exact⟨λx a=>h x (by rw[e];simp[a]),λx a=>h x (by rw[e];simp[a])⟩
theorem F0d{a:Type}{xs:List a}{i j:Nat}(b:i<=j)(c:j<=xs.length):x02 xs (i:Int) (j:Int)=some ((xs.take j).drop i):=by
 unfold x02
 rw[if_pos ⟨by omega,by omega,by omega⟩]
 simp
theorem w0p{r:Int}(v:r<=3):∀(n fuel:Nat) (x p:List Int),x.length<=n->n<fuel->sm r x->x.length+p.length<=1000000 ->
  p6 fuel x p=some ((ccA n x).1,p++(ccA n x).2)
 |n,0,x,p,u,hf,d,t=>by omega
 |n,fuel+1,x,p,u,hf,d,t=>by
  rw[p6.eq_2]
  by_cases c:2<=x.length
  ·obtain⟨a,m,b,e,f,g,o⟩:=h0q c
   have C:=d a (by rw[e];simp)
   have D:=d b (by rw[e];simp)
   have E:x.length=m.length+2:=by rw[e];simp
   have l:gi x 0=some a:=by rw[e];exact U1 (k:=0) rfl
   have q:gi x (IntKind.i64.wrap (((x.length:Nat):Int)-1))=some b:=by
    rw[w64 (by omega) (by omega),show((x.length:Nat):Int)-1=((m.length+1:Nat):Int) by omega]
    refine U1 ?_
    rw[e];simp
   rw[show decide (((x.length:Nat):Int)>1)=true from decide_eq_true (by omega)]
   simp only[L1,l,q,oB,cond_true]
   rw[show IntKind.i64.wrap (0-b) = -b from e0l (by omega) (by omega)]
   obtain⟨n,rfl⟩:∃ A,n=A+1:=⟨n-1,by omega⟩
   by_cases c2:a = -b
   ·have w:ccA (n+1) x=((ccA n m).1,a::(ccA n m).2):=by
     show(if 2<=x.length/\x.headD 0 = -(x.getLastD 0)then((ccA n x.tail.dropLast).1,x.headD 0::(ccA n x.tail.dropLast).2)else(x,[]))=_
     rw[if_pos ⟨c,by rw[f,g];exact c2⟩,f,o]
    have s:x02 x 1 (IntKind.i64.wrap (((x.length:Nat):Int)-1))=some m:=by
     rw[w64 (by omega) (by omega),show((x.length:Nat):Int)-1=((m.length+1:Nat):Int) by omega]
     have:=F0d (xs:=x) (i:=1) (j:=m.length+1) (by omega) (by omega)
     rw[show((1:Nat):Int)=1 from rfl]at this
     rw[this,e]
     simp
    rw[decide_eq_true c2]
    simp only[L1,l,oB,cond_true]
    rw[show IntKind.i64.wrap (0-a) = -a from e0l (by omega) (by omega),show decide (a = -a)=false from decide_eq_false (by omega),if_pos (show(!false)=true from rfl),B0 (by simp;omega),oB,s,oB,
     w0p v n fuel m (p ++ [a]) (by omega) (by omega) (λy z=>d y (by rw[e];simp[z])) (by simp;omega),w]
    simp
   ·rw[decide_eq_false c2]
    simp only[J2,oB,cond_false,Bool.false_eq_true,if_false]
    rw[D09 λh=>c2 (by rw[←f,←g];exact h.2)];simp
  ·rw[show decide (((x.length:Nat):Int)>1)=false from decide_eq_false (by omega)]
   simp only[J2,oB,cond_false,Bool.false_eq_true,if_false]
   rw[D09 λh=>c h.1];simp
def M00(w:List Int):List Int×List Int:=ccA (n01 [] w).length (n01 [] w).reverse
theorem d0o{r:Int}(a:r<=3){w:List Int}(b:sm r w)(j:w.length<=300000):C9 w=some (M00 w):=by
 have c:=J8 w (A0q a b) (by omega)
 have f:=f05 w []
 simp only[List.length_nil]at f
 have g:sm r (n01 [] w).reverse:=λx h=>U0b w [] (λy i=>by cases i) b x (List.mem_reverse.1 h)
 have d:=w0p a (n01 [] w).length P0 (n01 [] w).reverse [] (by simp) (j1 (by omega)) g (by simp;omega)
 have e:=f0l (n01 [] w).length (n01 [] w).reverse
 rw[List.length_reverse]at e
 unfold C9 M00
 rw[c,oB,d,oB]
 simp only[List.nil_append]
 rw[B0 (by simp;omega),oB]
theorem g0e{c:List Int}{k:Nat}(h:2*k+2<=c.length){a b:Int}(f:c[k]?=some a)(g:c[c.length-k-1]?=some b):
  (c.take (c.length-k)).drop k=a::((c.take (c.length-(k+1))).drop (k+1) ++ [b]):=by
 have d:c.take (c.length-k)=c.take (c.length-(k+1)) ++ [b]:=by
  rw[show c.length-k=(c.length-k-1)+1 by omega,I0h g,show c.length-k-1=c.length-(k+1) by omega]
 rw[d,List.drop_append_of_le_length (by rw[List.length_take];omega)]
 have e:(c.take (c.length-(k+1))).drop k=a::(c.take (c.length-(k+1))).drop (k+1):=J1 (by rw[List.getElem?_take,if_pos (by omega)];exact f)
 rw[e];rfl
theorem x0p{r:Int}(u:r<=3)(c:List Int)(j:sm r c)(s:c.length<=1000000):∀(n k fuel:Nat),c.length<=2*k+n->2*k<=c.length->n<fuel ->
  ∃ d,2*d<=c.length/\k<=d/\F5 c fuel (k:Int) ((c.length-k:Nat):Int)=some ((d:Int),((c.length-d:Nat):Int))/\ccA n ((c.take (c.length-k)).drop k)=((c.take (c.length-d)).drop d,(c.take d).drop k)
 |n,k,0,t,i,hf=>by omega
 |n,k,fuel+1,t,i,hf=>by
  have m:∀(h : ¬ (2<=((c.take (c.length-k)).drop k).length/\((c.take (c.length-k)).drop k).headD 0 = -(((c.take (c.length-k)).drop k).getLastD 0))),ccA n ((c.take (c.length-k)).drop k)=((c.take (c.length-k)).drop k,(c.take k).drop k):=λh=>by
   rw[D09 h,List.drop_eq_nil_of_le (show(c.take k).length<=k by rw[List.length_take];omega)]
  have l:IntKind.i64.wrap (((c.length-k:Nat):Int)-(k:Int))=((c.length-2*k:Nat):Int):=by rw[w64 (by omega) (by omega)];omega
  by_cases h2:2*k+2<=c.length
  ·have f:=a5 (show k<c.length by omega)
   have g:=a5 (show c.length-k-1<c.length by omega)
   generalize c[k]=a at f
   generalize c[c.length-k-1]=b at g
   have p:=j a (List.mem_of_getElem? f)
   have A:=j b (List.mem_of_getElem? g)
   have q:=g0e h2 f g
   have e:((c.take (c.length-k)).drop k).headD 0=a/\((c.take (c.length-k)).drop k).getLastD 0=b/\((c.take (c.length-k)).drop k).tail.dropLast=(c.take (c.length-(k+1))).drop (k+1)/\2<=((c.take (c.length-k)).drop k).length:=by
    rw[q]
    refine⟨rfl,?_,?_,by simp⟩
    ·rw[←List.cons_append,List.getLastD_concat]
    ·simp
   have o:gi c (IntKind.i64.wrap (((c.length-k:Nat):Int)-1))=some b:=by
    rw[w64 (by omega) (by omega),show((c.length-k:Nat):Int)-1=((c.length-k-1:Nat):Int) by omega];exact U1 g
   rw[F5.eq_2,l,show decide (((c.length-2*k:Nat):Int) ≥ 2)=true from decide_eq_true (by omega)]
   simp only[L1,U1 f,o,oB,F05,cond_true]
   rw[show IntKind.i64.wrap (0-a) = -a from e0l (by omega) (by omega),show(a == 0)=false by simpa using p.1,show(a == -9223372036854775808)=false by simp;omega]
   by_cases c2:b = -a
   ·obtain⟨n,rfl⟩:∃ v,n=v+1:=⟨n-1,by omega⟩
    obtain⟨d,w,C,y,z⟩:=x0p u c j s n (k+1) fuel (by omega) (by omega) (by omega)
    refine⟨d,w,by omega,?_,?_⟩
    ·rw[show(b == -a)=true by simpa using c2]
     simp only[Bool.not_false,Bool.and_self,if_true]
     rw[w64 (x:=(k:Int)+1) (by omega) (by omega),w64 (by omega) (by omega),show(k:Int)+1=((k+1:Nat):Int) by omega,show((c.length-k:Nat):Int)-1=((c.length-(k+1):Nat):Int) by omega]
     exact y
    ·show(if 2<=((c.take (c.length-k)).drop k).length/\((c.take (c.length-k)).drop k).headD 0 = -(((c.take (c.length-k)).drop k).getLastD 0)then((ccA n ((c.take (c.length-k)).drop k).tail.dropLast).1,((c.take (c.length-k)).drop k).headD 0::(ccA n ((c.take (c.length-k)).drop k).tail.dropLast).2)else((c.take (c.length-k)).drop k,[]))=_
     rw[if_pos ⟨e.2.2.2,by rw[e.1,e.2.1];omega⟩,e.1,e.2.2.1,z]
     simp only
     rw[show(c.take d).drop k=a::(c.take d).drop (k+1) from J1 (by rw[List.getElem?_take,if_pos (by omega)];exact f)]
   ·refine⟨k,i,Nat.le_refl _,?_,m λh=>c2 (by have:=h.2;rw[e.1,e.2.1]at this;omega)⟩
    rw[show(b == -a)=false by simpa using c2]
    simp only[Bool.and_false,Bool.false_eq_true,if_false]
  ·refine⟨k,i,Nat.le_refl _,?_,m λh=>by have:=h.1;rw[List.length_drop,List.length_take]at this;omega⟩
   rw[F5.eq_2,l,show decide (((c.length-2*k:Nat):Int) ≥ 2)=false from decide_eq_false (by omega)]
   simp only[J2,oB,cond_false,Bool.false_eq_true,if_false]
theorem h0e(w:List Int)(a:w.length<=1099511627776):M3 w=some (n01 [] w).reverse:=by
 unfold M3
 rw[E04 [w] (by simp) (by simp only[F0j];omega)]
 rfl
theorem e0o{r:Int}(g:r<=3){w:List Int}(h:sm r w)(o:w.length<=300000):D9 w=some (M00 w):=by
 have d:=h0e w (by omega)
 have f:=f05 w []
 simp only[List.length_nil]at f
 have k:sm r (n01 [] w).reverse:=λx l=>U0b w [] (λy m=>by cases m) h x (List.mem_reverse.1 l)
 unfold D9 M00
 rw[d,oB]
 have e:(n01 [] w).length=(n01 [] w).reverse.length:=by simp
 rw[e]
 generalize (n01 [] w).reverse=c at *
 obtain⟨n,p,q,a,b⟩:=x0p g c k (by omega) c.length 0 P0 (by omega) (by omega) (j1 (by omega))
 rw[show((0:Nat):Int)=0 from rfl,Nat.sub_zero]at a
 rw[List.drop_zero,Nat.sub_zero,List.take_length,List.drop_zero]at b
 rw[a,oB,b]
 simp only
 rw[F0d (by omega) (by omega),oB,d0l (by rw[List.length_drop,List.length_take];omega),oB]
 have h0:=F0d (xs:=c) (i:=0) (j:=n) (by omega) (by omega)
 rw[show((0:Nat):Int)=0 from rfl,List.drop_zero]at h0
 rw[h0,oB,d0l (by rw[List.length_take];omega),oB]
end Go.Proofs.YtkjhghloldgioaaGreat
