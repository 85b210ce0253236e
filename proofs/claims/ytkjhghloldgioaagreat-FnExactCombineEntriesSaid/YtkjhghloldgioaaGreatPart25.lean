/- Texts of the claim, joined: Plain laws: trimming and the core of a folded graph and others. -/
import Derived.Test.YtkjhghloldgioaaGreatPart24
import Derived.Test.YtkjhghloldgioaaGreatPart19
import Derived.Test.YtkjhghloldgioaaGreatPart18
import Derived.Test.YtkjhghloldgioaaGreatH36
namespace Go.Proofs.YtkjhghloldgioaaGreat
open Go.H
set_option linter.unusedVariables false
set_option linter.unusedSimpArgs false
theorem z0h(g:Nat):∀(d k:Nat) (x:Int),x∈wo g d k->∃ j:Nat,x=(j:Int)/\k<=j/\j<k+d
 |0,k,x,h=>nomatch h
 |d+1,k,x,h=>by
  unfold wo at h
  split at h
  ·obtain⟨j,h1,h2,h3⟩:=z0h g d (k+1) x h
   exact⟨j,h1,by omega,by omega⟩
  ·rcases List.mem_cons.1 h with rfl|h
   ·exact⟨k,rfl,Nat.le_refl _,by omega⟩
   ·obtain⟨j,h1,h2,h3⟩:=z0h g d (k+1) x h
    exact⟨j,h1,by omega,by omega⟩
theorem m08(g:Nat):∀(d k:Nat),(wo g d k).Nodup
 |0,k=>List.nodup_nil
 |d+1,k=>by
  unfold wo
  split
  ·exact m08 g d (k+1)
  ·refine List.nodup_cons.2 ⟨λh=>?_,m08 g d (k+1)⟩
   obtain⟨j,h1,h2,h3⟩:=z0h g d (k+1) _ h
   omega
theorem w0e(P:List Int):∀(es:List H0),∀ e∈pE P es,∃ a∈es,e=(getI P a.1,a.2.1,getI P a.2.2)/\0<=getI P a.1/\0<=getI P a.2.2
 | [],e,h=>nomatch h
 |b::r,e,h=>by
  unfold pE at h
  cases hb:decide (0<=getI P b.1)&&decide (0<=getI P b.2.2)
  ·rw[hb]at h
   obtain⟨a,h1,h2⟩:=w0e P r e h
   exact⟨a,mC _ h1,h2⟩
  ·rw[hb]at h
   simp only[Bool.and_eq_true,decide_eq_true_eq]at hb
   rcases List.mem_cons.1 h with rfl|h
   ·exact⟨b,mS,rfl,hb.1,hb.2⟩
   ·obtain⟨a,h1,h2⟩:=w0e P r e h
    exact⟨a,mC _ h1,h2⟩
theorem P0b{g:j0}{o:List Int}(hg:N0 g=true)(ho:inV g.2.1.toNat o)(h1:1<=o.length)(h2:o.length<=40):N0 (t9 g o)=true:=by
 obtain⟨q1,q2,q3,q4⟩:=V0 hg
 have hl:=m0e (plc g.2.1.toNat o) g.2.2
 refine I02 q2 ⟨by omega,by omega⟩ (by omega) λe he=>?_
 obtain⟨a,ha,rfl,k1,k2⟩:=w0e _ _ e he
 have hq:=q1 a ha
 have r1:=(v04 ho (x:=a.1) (by omega)).2
 have r2:=(v04 ho (x:=a.2.2) (by omega)).2
 exact⟨⟨k1,r1⟩,⟨k2,r2⟩,hq.2.2⟩
theorem Q0b{n:Nat}:∀(o:List Int) (k:Nat) (A:List Int),A.length=n->inV n o->o.Nodup->(∀ x,0<=x->getI A x<(k:Int))->(∀ x y,0<=x->0<=y->0<=getI A x->getI A x=getI A y->x=y) ->
  ∀ x y,0<=x->0<=y->0<=getI (J01 A k o) x->getI (J01 A k o) x=getI (J01 A k o) y->x=y
 | [],k,A,hA,ho,hd,hr,hi=>hi
 |v::r,k,A,hA,ho,hd,hr,hi=>by
  have hv:=ho v mS
  refine Q0b r (k+1) (A.set v.toNat (k:Int)) (by simp[hA]) (λw hw=>ho w (mC _ hw)) (List.nodup_cons.1 hd).2 (λx hx=>?_) (λx y hx hy h0 he=>?_)
  ·rw[u04 hv.1 (by omega) hx]
   have:=hr x hx
   split<;>omega
  ·rw[u04 hv.1 (by omega) hx]at h0 he
   rw[u04 hv.1 (by omega) hy]at he
   have h1:=hr x hx
   have h2:=hr y hy
   by_cases c1:x=v
   ·by_cases c2:y=v
    ·rw[c1,c2]
    ·rw[if_pos c1,if_neg c2]at he;omega
   ·by_cases c2:y=v
    ·rw[if_neg c1,if_pos c2]at he;omega
    ·rw[if_neg c1]at h0;rw[if_neg c1,if_neg c2]at he
     exact hi x y hx hy h0 he
theorem d0j{n:Nat}{o:List Int}(ho:inV n o)(hd:o.Nodup){x y:Int}(hx:0<=x)(hy:0<=y)(h0:0<=getI (plc n o) x)(he:getI (plc n o) x=getI (plc n o) y):x=y:=by
 refine Q0b o 0 (List.replicate n (-1)) (by simp) ho hd (λx hx=>by rw[S05];omega) (λx y _ _ h _=>by rw[S05]at h;omega) x y hx hy h0 he
theorem X0l{es:List H0}(h:es.Pairwise λa b=>k03 a b=false){a b:H0}(ha:a∈es)(hb:b∈es)(hne:a≠b):k03 a b=false:=by
 induction es with
 |nil=>cases ha
 |cons c r ih =>
  obtain⟨h1,h2⟩:=List.pairwise_cons.1 h
  rcases List.mem_cons.1 ha with rfl|ha'
  ·rcases List.mem_cons.1 hb with rfl|hb'
   ·exact absurd rfl hne
   ·exact h1 b hb'
  ·rcases List.mem_cons.1 hb with rfl|hb'
   ·rw[f09];exact h1 a ha'
   ·exact ih h2 ha' hb'
theorem v0n{es:List H0}(hA:Asc P0 es)(h:∀ a∈es,∀ b∈es,a≠b->k03 a b=false):es.Pairwise λa b=>k03 a b=false:=by
 induction es with
 |nil=>exact .nil
 |cons c r ih =>
  obtain⟨h1,h2⟩:=List.pairwise_cons.1 hA
  refine List.pairwise_cons.2 ⟨λb hb=>h c mS b (mC _ hb) λe=>?_,ih h2 λa ha b hb=>h a (mC _ ha) b (mC _ hb)⟩
  have:=h1 b hb
  rw[e,g9.refl]at this;omega
theorem o09{g:j0}(hg:N0 g=true):M0 g=true↔∀ a∈g.2.2,∀ b∈g.2.2,a≠b->k03 a b=false:=by
 rw[M0b,n09]
 exact⟨λh a ha b hb hne=>X0l h.2 ha hb hne,λh=>⟨hg,v0n (graph_asc' hg) h⟩⟩
where graph_asc' {g:j0} (h:N0 g=true):Asc P0 g.2.2:=((x04 g).1 h).2.2.2.2
theorem r0g{g:j0}{o:List Int}(hf:M0 g=true)(ho:inV g.2.1.toNat o)(hd:o.Nodup)(h1:1<=o.length)(h2:o.length<=40):M0 (t9 g o)=true:=by
 have hg:=I1 hf
 obtain⟨q1,q2,q3,q4⟩:=V0 hg
 refine(o09 (P0b hg ho h1 h2)).2 λa ha b hb hne=>?_
 have mem:∀ e∈(t9 g o).2.2,∃ a∈g.2.2,e=(getI (plc g.2.1.toNat o) a.1,a.2.1,getI (plc g.2.1.toNat o) a.2.2)/\0<=getI (plc g.2.1.toNat o) a.1/\0<=getI (plc g.2.1.toNat o) a.2.2:=λe he=>by
  rcases(Q9 g9 e _ _).1 he with h|h
  ·cases h
  ·exact w0e _ _ e h
 obtain⟨a',ha',rfl,k1,k2⟩:=mem a ha
 obtain⟨b',hb',rfl,k3,k4⟩:=mem b hb
 have hne':a'≠b':=λe=>hne (by rw[e])
 have hc:=(o09 hg).1 hf a' ha' b' hb' hne'
 have ra:=q1 a' ha'
 have rb:=q1 b' hb'
 unfold k03 at hc ⊢
 simp only[Bool.and_eq_false_iff,Bool.or_eq_false_iff,decide_eq_false_iff_not]at hc ⊢
 rcases hc with hc|⟨hc1,hc2⟩
 ·exact .inl hc
 ·exact .inr ⟨λe=>hc1 (d0j ho hd ra.1.1 rb.1.1 k1 e),λe=>hc2 (d0j ho hd ra.2.1.1 rb.2.1.1 k2 e)⟩
def y04:Nat->j0->j0
 |0,g=>g
 |d+1,g=>match W00 g with
  |none=>g
  |some k=>y04 d (t9 g (wo k g.2.1.toNat 0))
theorem e0j{g:j0}{k:Nat}(h:W00 g=some k):1<=k/\k<g.2.1.toNat:=by
 have:=T05 _ _ _ h
 omega
theorem q0d{g:j0}(hg:N0 g=true){k:Nat}(h:W00 g=some k):inV g.2.1.toNat (wo k g.2.1.toNat 0)/\(wo k g.2.1.toNat 0).length=g.2.1.toNat-1/\1<=(wo k g.2.1.toNat 0).length/\(wo k g.2.1.toNat 0).length<=40:=by
 obtain⟨q1,q2,q3,q4⟩:=V0 hg
 have hk:=e0j h
 have hlen:=o0e k g.2.1.toNat 0
 rw[if_pos (by omega)]at hlen
 exact⟨S0i k _ _ 0 (by omega),hlen,by omega,by omega⟩
theorem J02:∀(d:Nat) {g:j0},M0 g=true->M0 (y04 d g)=true
 |0,g,h=>h
 |d+1,g,h=>by
  unfold y04
  cases e:W00 g with
  |none=>exact h
  |some k =>
   obtain⟨h1,h2,h3,h4⟩:=q0d (I1 h) e
   exact J02 d (r0g h h1 (m08 _ _ _) h3 h4)
theorem R0b(n g:Nat)(hn:n<=1000)(u:List Int)(hu:u.length=n):∀(d k fuel:Nat) (acc bcc:List Int),k+d=n->d<fuel->acc.length<=k->bcc.length<=k ->
  ∃ v,p5 (n:Int) (g:Int) u fuel (k:Int) acc bcc=some (acc++wo g d k,v)/\v.length+acc.length=bcc.length+(acc++wo g d k).length
 |d,k,0,acc,bcc,hd,hf,ha,hb=>by omega
 |0,k,fuel+1,acc,bcc,hd,hf,ha,hb=>by
  rw[p5.eq_2,if_neg (by simp;omega)];exact⟨bcc,by simp[wo],by simp[wo]⟩
 |d+1,k,fuel+1,acc,bcc,hd,hf,ha,hb=>by
  have hx:=l7 (show k<u.length by omega)
  generalize u[k]=x at hx
  rw[p5.eq_2,if_pos (by simp;omega),U2 (show k<10000 by omega) (by omega)]
  unfold wo
  by_cases c:k=g
  ·have e:decide ((k:Int)=(g:Int))=true:=decide_eq_true (by omega)
   rw[e,if_neg (by simp),if_pos c]
   exact R0b n g hn u hu d (k+1) fuel acc bcc (by omega) (by omega) (by omega) (by omega)
  ·have e:decide ((k:Int)=(g:Int))=false:=decide_eq_false (by omega)
   rw[e,if_pos (show(!false)=true from rfl),if_neg c,D0 (by simp;omega),oB,Z3 hx,oB,D0 (by simp;omega),oB]
   obtain⟨v,h1,h2⟩:=R0b n g hn u hu d (k+1) fuel (acc ++ [(k:Int)]) (bcc ++ [x]) (by omega) (by omega) (by simp;omega) (by simp;omega)
   refine⟨v,by rw[h1];simp,?_⟩
   simp only[List.length_append,List.length_cons,List.length_nil]at h2 ⊢
   omega
theorem s0g(g:j0)(hg:N0 g=true):∀(d k fuel:Nat) (acc:List Int),k+d=g.2.1.toNat->d<fuel->acc.length=k ->
  ∃ u,T5 g.2.1 g.1 g.2.2 fuel (k:Int) acc=some u/\u.length=g.2.1.toNat
 |d,k,0,acc,hd,hf,ha=>by omega
 |0,k,fuel+1,acc,hd,hf,ha=>by
  obtain⟨q1,q2,q3,q4⟩:=V0 hg
  rw[T5.eq_2,show decide (((k:Nat):Int)<g.2.1)=false by simp;omega]
  exact⟨acc,by simp[chk],by omega⟩
 |d+1,k,fuel+1,acc,hd,hf,ha=>by
  obtain⟨q1,q2,q3,q4⟩:=V0 hg
  obtain⟨u,h1,h2⟩:=s0g g hg d (k+1) fuel (acc ++ [(k:Int)]) (by omega) (by omega) (by simp;omega)
  rw[T5.eq_2,show decide (((k:Nat):Int)<g.2.1)=true by simp;omega,E2,show(g.1,g.2.1,g.2.2)=g from rfl,Z6 g (by omega),oB,hg]
  rw[if_pos (show(bif true then true else false)=true from rfl),D0 (by simp;omega),oB,U2 (show k<1000 by omega) (by omega),h1]
  exact⟨u,rfl,h2⟩
theorem t0g(g0:j0)(hg0:N0 g0=true):∀(d k fuel:Nat) (g:j0) (u:List Int),k+d=40->d<fuel->N0 g=true->u.length=g.2.1.toNat->g.2.1.toNat<=d+1 ->
  ∃ v,(S5 g0.1 g0.2.1 g0.2.2 fuel u (k:Int) g.1 g.2.1 g.2.2).bind (λX=>W8 X (λS=>match S with|(a,b,c,e)=>some ((b,c,e),a)))=some (y04 d g,v)
 |d,k,0,g,u,hd,hf,hg,hu,hn=>by omega
 |0,k,fuel+1,g,u,hd,hf,hg,hu,hn=>by
  rw[S5.eq_2,show decide (((k:Nat):Int)<40)=false by simp;omega]
  exact⟨u,by simp[chk,W8,y04]⟩
 |d+1,k,fuel+1,g,u,hd,hf,hg,hu,hn=>by
  obtain⟨p1,p2,p3,p4⟩:=V0 hg0
  obtain⟨q1,q2,q3,q4⟩:=V0 hg
  have hl:=P0l g hg
  rw[S5.eq_2,show decide (((k:Nat):Int)<40)=true by simp;omega,E2,show(g0.1,g0.2.1,g0.2.2)=g0 from rfl,Z6 g0 (by omega),oB,hg0]
  rw[if_pos (show(bif true then true else false)=true from rfl),show(g.1,g.2.1,g.2.2)=g from rfl,hl]
  unfold y04
  cases e:W00 g with
  |none =>
   simp only[oB]
   rw[D0 (show O0 (-1) from⟨by omega,by omega⟩),oB,if_pos (by simp)]
   exact⟨u,rfl⟩
  |some j =>
   obtain⟨h1,h2,h3,h4⟩:=q0d hg e
   have hj:=e0j e
   obtain⟨N,hN⟩:∃ N:Nat,g.2.1=(N:Int):=⟨g.2.1.toNat,by omega⟩
   have hNt:g.2.1.toNat=N:=by omega
   obtain⟨v,w1,w2⟩:=R0b N j (by omega) u (by omega) N 0 U0 [] [] (by omega) (P1 (by omega)) (Nat.le_refl _) (Nat.le_refl _)
   have hr:=E0b g.1 N g.2.2 (wo j N 0) (by rw[←hN];exact hg) (by rw[←hNt];exact h1) (m08 _ _ _) (by rw[←hNt];exact h3) (by rw[←hNt];omega)
   rw[←hN,show(g.1,g.2.1,g.2.2)=g from rfl]at hr
   have hG:=P0b hg h1 h3 h4
   rw[hNt]at hG h2 h3
   obtain⟨v2,z⟩:=t0g g0 hg0 d (k+1) fuel (t9 g (wo j N 0)) v (by omega) (by omega) hG (by simp only[List.nil_append,List.length_nil]at w2;show v.length=((wo j N 0).length:Int).toNat;omega) (by show((wo j N 0).length:Int).toNat<=d+1;omega)
   simp only[oB]
   rw[D0 (show O0 ((j:Nat):Int) from⟨by omega,by omega⟩),oB,if_neg (by simp),hN,show(0:Int)=((0:Nat):Int) from rfl,w1]
   simp only[oB,List.nil_append]
   rw[←hN,hr]
   simp only[oB]
   rw[U2 (show k<1000 by omega) (by omega),hNt]
   exact⟨v2,z⟩
def o07(g:j0):j0:=y04 40 g
theorem A0h{g:j0}(hg:N0 g=true):∃ v,F9 g=some (o07 g,v):=by
 obtain⟨q1,q2,q3,q4⟩:=V0 hg
 have hc:=R9 g (by omega)
 obtain⟨u,h1,h2⟩:=s0g g hg g.2.1.toNat 0 U0 [] (by omega) (P1 (by omega)) rfl
 obtain⟨v,h3⟩:=t0g g hg 40 0 U0 g u rfl (P1 (by omega)) hg h2 (by omega)
 refine⟨v,?_⟩
 obtain⟨r,n,es⟩:=g
 unfold F9
 simp only[hc,oB]
 simp only at h1 h3
 rw[show(0:Int)=((0:Nat):Int) from rfl,h1,oB]
 exact h3
theorem u0g:∀(n fuel d:Nat) (left:List Int) (r:Int) (es:List H0),1<=n->n<=40->inN n es->es.length<=120->left.length=n->n<fuel->n<=d+1 ->
  ∃ l',n5 fuel left r (n:Int) es=some (.inl (y04 d (r,(n:Int),es),l'))
 |n,0,d,left,r,es,h1,h2,hn,hes,hl,hf,hd=>by omega
 |n,fuel+1,d,left,r,es,h1,h2,hn,hes,hl,hf,hd=>by
  obtain⟨S,eS,lS,hS⟩:=X0f r n es hn (by omega) h1 (by omega)
  have ht1:=n0e r n es (by omega) S lS h2 (n-1) 1 U0 (Nat.le_refl _) (by omega) (by omega) (P1 (by omega))
  have hcg:lf (λv=>decide (t04 (v:Int) es<2) || !E8 S (v:Int)) (n-1) 1=lf (J0b es) (n-1) 1:=I0b _ _ λk k1 k2=>by
   unfold J0b
   have:=hS (k:Int) (by omega) (by omega)
   have h3:=J0i es 0 (k:Int)
   congr 2
   cases hb:E8 S (k:Int)
   ·symm;exact decide_eq_false λh=>by rw[this.2 (h3.1 h)]at hb;cases hb
   ·symm;exact decide_eq_true (h3.2 (this.1 hb))
  rw[hcg]at ht1
  have hleaf:W00 (r,(n:Int),es)=lf (J0b es) (n-1) 1:=by simp only[W00,Int.toNat_natCast]
  rw[n5.eq_2,eS,oB,show(1:Int)=((1:Nat):Int) from rfl,ht1,oB]
  cases hlf:lf (J0b es) (n-1) 1 with
  |none =>
   have e2:y04 d (r,(n:Int),es)=(r,(n:Int),es):=by
    cases d with
    |zero=>rfl
    |succ d=>unfold y04;rw[hleaf,hlf]
   rw[e2]
   exact⟨left,by rw[if_pos (by rfl)]⟩
  |some k =>
   have hk:=T05 _ _ _ hlf
   have e0:decide ((k:Int)=0)=false:=decide_eq_false (by omega)
   have ho:=S0i k n n 0 (by omega)
   have hlen:=o0e k n 0
   rw[if_pos (by omega)]at hlen
   have ht0:=p0e n k (by omega) n 0 U0 [] (by omega) (P1 (by omega)) (Nat.le_refl _)
   rw[show((0:Nat):Int)=0 from rfl,List.nil_append]at ht0
   have hp:=v0h r n es (wo k n 0) hn ho (by omega) (by omega) (by omega)
   have hpl:=m07 (r,(n:Int),es) (wo k n 0)
   have hpi:=i0d (r:=r) ho hn
   have hw:IntKind.i64.wrap ((k:Int)+((1:Nat):Int))=((k+1:Nat):Int):=by rw[w64 (by omega) (by omega)];rfl
   obtain⟨d',rfl⟩:∃ d',d=d'+1:=⟨d-1,by omega⟩
   have hF:t9 (r,(n:Int),es) (wo k n 0)=(r,((n-1:Nat):Int),(t9 (r,(n:Int),es) (wo k n 0)).2.2):=by rw[←hlen];rfl
   obtain⟨l',q1⟩:=u0g (n-1) fuel d' (left.take k++left.drop (k+1)) r (t9 (r,(n:Int),es) (wo k n 0)).2.2 (by omega) (by omega) (by rw[hlen]at hpi;exact hpi) (by simp only at hpl;omega) (by simp only[List.length_append,List.length_take,List.length_drop];omega) (by omega) (by omega)
   refine⟨l',?_⟩
   rw[←hF]at q1
   have e2:y04 (d'+1) (r,(n:Int),es)=y04 d' (t9 (r,(n:Int),es) (wo k n 0)):=by
    show(match W00 (r,(n:Int),es)with|none=>(r,(n:Int),es)|some k=>y04 d' (t9 (r,(n:Int),es) (wo k ((n:Int)).toNat 0)))=_
    rw[hleaf,hlf,Int.toNat_natCast]
   rw[e2]
   simp only[e0,Bool.false_eq_true,if_false,ht0,oB,hp]
   generalize t9 (r,(n:Int),es) (wo k n 0)=gp at *
   rw[hF]
   simp only[hw]
   rw[c0g (by omega),oB,Y04 (by omega),oB,D0 (by simp only[List.length_take,List.length_drop];omega),oB,q1,←hF]
theorem v0g{g:j0}(hg:N0 g=true):∃ v,U6 g=some (o07 g,v):=by
 obtain⟨h1,h2,h3,h4⟩:=V0 hg
 have hq:=r9 g (by omega)
 have hc:=S9 g (by omega)
 obtain⟨r,n,es⟩:=g
 simp only at h2 h3 h4
 obtain⟨N,rfl⟩:∃ N:Nat,n=(N:Int):=⟨n.toNat,by omega⟩
 have hn:inN N es:=λe he=>⟨(h1 e he).1,(h1 e he).2.1⟩
 obtain⟨u,e1,e2⟩:=q0e N (by omega) N 0 U0 [] (by omega) (P1 (by omega)) rfl
 obtain⟨l',q1⟩:=u0g N U0 40 u r es (by omega) (by omega) hn h4 e2 (P1 (by omega)) (by omega)
 refine⟨l',?_⟩
 unfold U6
 rw[show((0:Nat):Int)=0 from rfl]at e1
 simp only[hc,oB,hq,hg,Bool.not_true,Bool.false_eq_true,if_false,e1,q1,W8]
 rfl
theorem h0k{g:j0}(hf:M0 g=true){v x y z:Int}(hy:y∈Z8 v x g.2.2)(hz:z∈Z8 v x g.2.2):y=z:=by
 obtain⟨e,he,h1⟩:=X01.1 hy
 obtain⟨e',he',h2⟩:=X01.1 hz
 by_cases hne:e=e'
 ·subst hne
  rcases h1 with⟨a,b,c,rfl⟩|⟨a,b,c,rfl⟩<;>rcases h2 with⟨a',b',c',rfl⟩|⟨a',b',c',rfl⟩<;>first|rfl|omega
 ·have hc:=(o09 (I1 hf)).1 hf e he e' he' hne
  unfold k03 at hc
  simp only[Bool.and_eq_false_iff,Bool.or_eq_false_iff,decide_eq_false_iff_not]at hc
  rcases h1 with⟨a,b,c,d⟩|⟨a,b,c,d⟩<;>rcases h2 with⟨a',b',c',d'⟩|⟨a',b',c',d'⟩<;>first|omega|(exfalso;rcases hc with hc|⟨hc1,hc2⟩<;>omega)
theorem S0b(g:j0)(v x:Int):(S0 g v x = -1/\Z8 v x g.2.2 = [])∨S0 g v x∈Z8 v x g.2.2:=by
 unfold S0
 cases e:h01 g v x with
 |nil =>
  left
  refine⟨rfl,List.eq_nil_iff_forall_not_mem.2 λy hy=>?_⟩
  have:y∈h01 g v x:=(Q9 Z00 y _ _).2 (.inr hy)
  rw[e]at this;cases this
 |cons a l=>exact .inr (a0d (by rw[e];exact mS))
theorem w0n{g:j0}(hf:M0 g=true){v x y:Int}(hy:y∈Z8 v x g.2.2):S0 g v x=y:=by
 rcases S0b g v x with⟨_,h⟩|h
 ·rw[h]at hy;cases hy
 ·exact h0k hf h hy
theorem w0g:∀(d i j:Nat),i<=j->j<i+d->(j:Int)∈K4 d i /\ -(j:Int)∈K4 d i
 |0,i,j,h1,h2=>by omega
 |d+1,i,j,h1,h2=>by
  simp only[K4,List.mem_cons]
  by_cases c:j=i
  ·subst c;simp
  ·obtain⟨a,b⟩:=w0g d (i+1) j (by omega) (by omega)
   exact⟨.inr (.inr a),.inr (.inr b)⟩
def K09(g:j0)(w:List Int):Bool:=decide ((N09 g 0 w).2=w.length)&&decide ((N09 g 0 w).1=0)
def rdw(g:j0):Int->List Int->Option Int
 |v,[]=>some v
 |v,x::w=>if S0 g v x<0 then none else rdw g (S0 g v x) w
theorem r0d(g:j0):∀(w:List Int) (v u:Int),rdw g v w=some u↔((N09 g v w).2=w.length/\(N09 g v w).1=u)
 | [],v,u=>by simp[rdw,N09]
 |x::w,v,u=>by
  have ih:=r0d g w (S0 g v x) u
  unfold rdw N09
  by_cases c:S0 g v x<0
  ·rw[if_pos c,if_pos c];simp
  ·rw[if_neg c,if_neg c,ih];simp
theorem i0k(g:j0)(w:List Int):K09 g w=true↔rdw g 0 w=some 0:=by
 unfold K09
 rw[r0d];simp
theorem f0j(g:j0):∀(a b:List Int) (v:Int),rdw g v (a++b)=(rdw g v a).bind λu=>rdw g u b
 | [],b,v=>rfl
 |x::a,b,v=>by
  have ih:=f0j g a b (S0 g v x)
  show(if S0 g v x<0 then none else rdw g (S0 g v x) (a++b))=(if S0 g v x<0 then none else rdw g (S0 g v x) a).bind λu=>rdw g u b
  by_cases c:S0 g v x<0
  ·rw[if_pos c,if_pos c];rfl
  ·rw[if_neg c,if_neg c];exact ih
theorem j0k{g:j0}(hf:M0 g=true){v x u:Int}(h:S0 g v x=u)(h0:0<=u):S0 g u (-x)=v:=by
 rcases S0b g v x with⟨e,_⟩|e
 ·omega
 ·rw[h]at e
  obtain⟨d,hd,h1⟩:=X01.1 e
  refine w0n hf (X01.2 ⟨d,hd,?_⟩)
  rcases h1 with⟨a,b,c,rfl⟩|⟨a,b,c,rfl⟩
  ·exact .inr ⟨by omega,by omega,rfl,c.symm⟩
  ·exact .inl ⟨by omega,b,rfl,c.symm⟩
structure Mor (a b:j0) (f:Int->Int):Prop where
 base:f 0=0
 rng:∀ v,0<=v->v<a.2.1->0<=f v/\f v<b.2.1
 step:∀ v x,0<=v->v<a.2.1->0<=S0 a v x->S0 b (f v) x=f (S0 a v x)
theorem Mor.rdw{a b:j0}{f:Int->Int}(m:Mor a b f)(ha:inG a):∀(w:List Int) (v u:Int),0<=v->v<a.2.1->rdw a v w=some u->rdw b (f v) w=some (f u)
 | [],v,u,h0,h1,h=>by
  simp only[Go.Proofs.YtkjhghloldgioaaGreat.rdw,Option.some.injEq]at h ⊢
  rw[h]
 |x::w,v,u,h0,h1,h=>by
  unfold Go.Proofs.YtkjhghloldgioaaGreat.rdw at h ⊢
  by_cases c:S0 a v x<0
  ·rw[if_pos c]at h;cases h
  ·rw[if_neg c]at h
   have hs:=m.step v x h0 h1 (by omega)
   have hr:0<=S0 a v x/\S0 a v x<a.2.1:=by
    rcases i01 ha v x with e|e
    ·omega
    ·exact e
   have hb:=m.rng _ hr.1 hr.2
   rw[hs,if_neg (by omega)]
   exact Mor.rdw m ha w _ u hr.1 hr.2 h
theorem Mor.loop{a b:j0}{f:Int->Int}(m:Mor a b f)(ha:M0 a=true){w:List Int}(h:K09 a w=true):K09 b w=true:=by
 obtain⟨q1,q2,q3,q4⟩:=j00 ha
 rw[i0k]at h ⊢
 have:=m.rdw q1 w 0 0 (iR _) (by omega) h
 rwa [m.base]at this
abbrev Im:=List Int×List Int
def B0h(s s':Im):Prop:=(∃ t,s'.2=s.2++t)/\∀ v∈s.2,getI s'.1 v=getI s.1 v
theorem B0h.refl(s:Im):B0h s s:=⟨⟨[],by simp⟩,λ_ _=>rfl⟩
theorem B0h.trans{s s' s'':Im}(h:B0h s s')(h':B0h s' s''):B0h s s'':=by
 obtain⟨⟨t,e⟩,f⟩:=h
 obtain⟨⟨t',e'⟩,f'⟩:=h'
 exact⟨⟨t++t',by rw[e',e,List.append_assoc]⟩,λv hv=>(f' v (by rw[e];exact List.mem_append_left _ hv)).trans (f v hv)⟩
def z0o(a b:j0)(v x:Int)(s:Im):Prop:=0<=S0 a v x->S0 a v x∈s.2/\S0 b (getI s.1 v) x=getI s.1 (S0 a v x)
theorem z0o.le{a b:j0}{v x:Int}{s s':Im}(hv:v∈s.2)(h:z0o a b v x s)(l:B0h s s'):z0o a b v x s':=λh0=>by
 obtain⟨h1,h2⟩:=h h0
 obtain⟨⟨t,e⟩,f⟩:=l
 exact⟨by rw[e];exact List.mem_append_left _ h1,by rw[f v hv,f _ h1];exact h2⟩
abbrev Tr8:=List (Option (List Int))×List Int
def trS(g:j0)(v x:Int)(s:Tr8):Tr8:=if 0<=S0 g v x/\S0 g v x ∉ s.2 then(s.1.set (S0 g v x).toNat (some ((a9 s.1 v).getD [] ++ [x])),s.2 ++ [S0 g v x])else s
def Y0l(g:j0)(v:Int):List Int->Tr8->Tr8
 | [],s=>s
 |x::r,s=>Y0l g v r (trS g v x s)
def s0d(g:j0)(ls:List Int):Nat->Nat->Tr8->Tr8
 |0,i,s=>s
 |f+1,i,s=>match s.2[i]? with
  |some v=>s0d g ls f (i+1) (Y0l g v ls s)
  |none=>s
def I8(g:j0)(p:Int):List Int:=n01 g (K4 g.1.toNat 1) (g.2.1.toNat+1) 0 [p]
def Z0l(g:j0)(p:Int):Tr8:=s0d g (K4 g.1.toNat 1) (g.2.1.toNat+1) 0 ((List.replicate g.2.1.toNat none).set p.toNat (some []),[p])
theorem g0j(g:j0)(v x:Int)(s:Tr8):(trS g v x s).2=k09 s.2 (S0 g v x):=by
 unfold trS k09
 split<;>rfl
theorem x0g(g:j0)(v:Int):∀(ls:List Int) (s:Tr8),(Y0l g v ls s).2=w04 g v ls s.2
 | [],s=>rfl
 |x::r,s=>by rw[Y0l,x0g g v r,g0j];rfl
theorem t0d(g:j0)(ls:List Int):∀(f i:Nat) (s:Tr8),(s0d g ls f i s).2=n01 g ls f i s.2
 |0,i,s=>rfl
 |f+1,i,s=>by
  unfold s0d n01
  cases s.2[i]? with
  |none=>rfl
  |some v=>simp only[t0d g ls f,x0g]
theorem a0m(g:j0)(p:Int):(Z0l g p).2=I8 g p:=t0d _ _ _ _ _
structure TOk (g:j0) (p:Int) (n:Nat) (s:Tr8):Prop where
 ok:WOk n s.1 s.2
 gd:gud n s.2
 base:p∈s.2
 word:a9 s.1 p=some []
 par:∀ y∈s.2,y≠p->∃ v∈s.2,∃ x,x∈K4 g.1.toNat 1/\S0 g v x=y/\∃ a,a9 s.1 v=some a/\a9 s.1 y=some (a ++ [x])
 red:∀ y∈s.2,∀ a,a9 s.1 y=some a->Red a.reverse=true
theorem WOk.add{n:Nat}{W:List (Option (List Int))}{u:List Int}(hw:WOk n W u){y:Int}(c1:0<=y)(hy:y<(n:Int))(v x:Int):WOk n (W.set y.toNat (some ((a9 W v).getD [] ++ [x]))) (u ++ [y]):=by
 have hs:=hw.short v
 refine⟨by simp[hw.len],λz h0 h1=>?_,λz=>?_⟩
 ·rw[a00 c1 (by have:=hw.len;omega) h0]
  by_cases c:z=y
  ·rw[if_pos c];simp[c]
  ·rw[if_neg c,hw.iff z h0 h1];simp[c]
 ·by_cases hz:0<=z
  ·rw[a00 c1 (by have:=hw.len;omega) hz]
   by_cases c:z=y
   ·rw[if_pos c];simp;exact hs
   ·rw[if_neg c];have:=hw.short z;simp only[List.length_append];omega
  ·have hz0:a9 (W.set y.toNat (some ((a9 W v).getD [] ++ [x]))) z=a9 (W.set y.toNat (some ((a9 W v).getD [] ++ [x]))) 0:=by
    unfold a9;rw[show z.toNat=(0:Int).toNat by omega]
   rw[hz0,a00 c1 (by have:=hw.len;omega) (iR 0)]
   by_cases c:(0:Int)=y
   ·rw[if_pos c];simp;exact hs
   ·rw[if_neg c];have:=hw.short 0;simp only[List.length_append];omega
theorem WOk.get{n:Nat}{W:List (Option (List Int))}{u:List Int}(hw:WOk n W u){v:Int}(h0:0<=v)(h1:v<(n:Int))(hv:v∈u):∃ a,a9 W v=some a:=by
 cases e:a9 W v with
 |none=>exact absurd hv ((hw.iff v h0 h1).1 (by rw[e];rfl))
 |some a=>exact⟨a,rfl⟩
theorem k0k{R:Nat}(hR:R<=900){x:Int}(hx:x∈K4 R 1):C9 x/\x≠0 /\ -(R:Int)<=x/\x<=(R:Int):=by
 obtain⟨j,k1,k2,k3⟩:=q0g _ _ _ hx
 exact⟨⟨⟨by omega,by omega⟩,by omega⟩,by omega,by omega,by omega⟩
theorem b0m{l x:Int}(hl:C9 l)(h:x0n l x=true):x = -l:=by
 unfold x0n at h
 simp only[Bool.and_eq_true,beq_iff_eq]at h
 rw[h.2];exact B0i hl.1 hl.2
theorem TOk.add{g:j0}(hf:M0 g=true){p:Int}{n:Nat}(hn:g.2.1=(n:Int)){s:Tr8}(h:TOk g p n s){v x:Int}(hv:v∈s.2)(hx:x∈K4 g.1.toNat 1):TOk g p n (trS g v x s):=by
 obtain⟨q1,q2,q3,q4⟩:=j00 hf
 unfold trS
 split
 ·rename_i c
  obtain⟨c1,c2⟩:=c
  have hyr:S0 g v x<(n:Int):=by
   rcases i01 q1 v x with e|e<;>omega
  obtain⟨W,u⟩:=s
  obtain⟨ok,gd,base,word,par,red⟩:=h
  simp only at hv c1 c2 ok gd base word par red ⊢
  have hvr:=gd.2 v hv
  obtain⟨a,ha⟩:=ok.get hvr.1 hvr.2 hv
  have hlen:=ok.len
  have keep:∀ z∈u,a9 (W.set (S0 g v x).toNat (some ((a9 W v).getD [] ++ [x]))) z=a9 W z:=λz hz=>by
   have:=gd.2 z hz
   rw[a00 c1 (by omega) this.1,if_neg λ(e:z=S0 g v x)=>c2 (by rw[←e];exact hz)]
  have new:a9 (W.set (S0 g v x).toNat (some ((a9 W v).getD [] ++ [x]))) (S0 g v x)=some (a ++ [x]):=by
   rw[a00 c1 (by omega) c1,if_pos rfl,ha];rfl
  refine⟨ok.add c1 hyr v x,⟨List.nodup_append.2 ⟨gd.1,by simp,λa ha b hb=>?_⟩,λy hy=>?_⟩,List.mem_append_left _ base,?_,λy hy hyp=>?_,λy hy b hb=>?_⟩
  ·simp at hb;subst hb;exact λe=>c2 (e▸ha)
  ·rcases List.mem_append.1 hy with hy|hy
   ·exact gd.2 y hy
   ·simp at hy;subst hy;omega
  ·rw[keep p base];exact word
  ·rcases List.mem_append.1 hy with hy|hy
   ·obtain⟨v',hv',x',hx',e1,b,e2,e3⟩:=par y hy hyp
    exact⟨v',List.mem_append_left _ hv',x',hx',e1,b,by rw[keep v' hv'];exact e2,by rw[keep y hy];exact e3⟩
   ·simp at hy;subst hy
    exact⟨v,List.mem_append_left _ hv,x,hx,rfl,a,by rw[keep v hv];exact ha,new⟩
  ·rcases List.mem_append.1 hy with hy|hy
   ·rw[keep y hy]at hb;exact red y hy b hb
   ·simp at hy;subst hy
    rw[new]at hb;cases hb
    have hra:=red v hv a ha
    rw[List.reverse_append]
    show Red (x::a.reverse)=true
    cases e:a.reverse with
    |nil=>rfl
    |cons l t =>
     rw[e]at hra
     unfold Red
     rw[hra,Bool.and_true]
     cases hc:x0n l x with
     |false=>rfl
     |true =>
      exfalso
      have hvp:v≠p:=λe2=>by
       subst e2
       rw[word]at ha;cases ha;simp at e
      obtain⟨v',hv',x',hx',e1,b,e2,e3⟩:=par v hv hvp
      rw[ha]at e3
      injection e3 with e3
      rw[e3,List.reverse_append]at e
      simp only[List.reverse_cons,List.reverse_nil,List.nil_append,List.cons_append,List.cons.injEq]at e
      rw[←e.1]at hc
      have:=b0m (k0k (by omega) hx').1 hc
      have hb:=j0k hf e1 hvr.1
      rw[←this]at hb
      exact c2 (hb▸hv')
 ·exact h
theorem y0n(g:j0)(v x:Int)(s:Tr8):∃ t,(trS g v x s).2=s.2++t:=by rw[g0j];exact F0b _ _
theorem TOk.inn{g:j0}(hf:M0 g=true){p:Int}{n:Nat}(hn:g.2.1=(n:Int)){v:Int}:∀(ls:List Int) {s:Tr8},TOk g p n s->v∈s.2->(∀ x∈ls,x∈K4 g.1.toNat 1)->TOk g p n (Y0l g v ls s)
 | [],s,h,hv,hl=>h
 |x::r,s,h,hv,hl=>by
  obtain⟨t,e⟩:=y0n g v x s
  exact TOk.inn hf hn r (h.add hf hn hv (hl x mS)) (by rw[e];exact List.mem_append_left _ hv) λy hy=>hl y (mC _ hy)
theorem TOk.out{g:j0}(hf:M0 g=true){p:Int}{n:Nat}(hn:g.2.1=(n:Int)):∀(f i:Nat) {s:Tr8},TOk g p n s->TOk g p n (s0d g (K4 g.1.toNat 1) f i s)
 |0,i,s,h=>h
 |f+1,i,s,h=>by
  unfold s0d
  cases e:s.2[i]? with
  |none=>exact h
  |some v=>exact TOk.out hf hn f (i+1) (h.inn hf hn _ (List.mem_of_getElem? e) λx hx=>hx)
theorem c0m(N:Nat)(x:Int):a9 (List.replicate N (none:Option (List Int))) x=none:=by
 unfold a9
 rw[List.getD_eq_getElem?_getD,List.getElem?_replicate];split<;>rfl
theorem l0k(g:j0){p:Int}{N:Nat}(hp:0<=p/\p<(N:Int)):TOk g p N ((List.replicate N none).set p.toNat (some []),[p]):=by
 have hset:∀ x,0<=x->a9 ((List.replicate N (none:Option (List Int))).set p.toNat (some [])) x=if x=p then some []else none:=λx h0=>by
  rw[a00 hp.1 (by simp;omega) h0,c0m]
 refine⟨⟨by simp,λx h0 h1=>?_,λx=>?_⟩,⟨by simp,λx hx=>by simp at hx;subst hx;exact hp⟩,by simp,?_,λy hy h=>?_,λy hy a ha=>?_⟩
 ·simp only
  rw[hset x h0]
  by_cases c:x=p
  ·rw[if_pos c];simp[c]
  ·rw[if_neg c];simp[c]
 ·have:∀ x,0<=x->((a9 ((List.replicate N (none:Option (List Int))).set p.toNat (some [])) x).getD []).length<=1:=λx h0=>by
   rw[hset x h0];split<;>simp
  by_cases hz:0<=x
  ·exact this x hz
  ·have e:a9 ((List.replicate N (none:Option (List Int))).set p.toNat (some [])) x=a9 ((List.replicate N (none:Option (List Int))).set p.toNat (some [])) 0:=by
    unfold a9;rw[show x.toNat=(0:Int).toNat by omega]
   simp only
   rw[e];exact this 0 (iR 0)
 ·simp only
  rw[hset p hp.1,if_pos rfl]
 ·simp at hy;exact absurd hy h
 ·simp at hy;subst hy
  simp only at ha
  rw[hset y hp.1,if_pos rfl]at ha
  cases ha;rfl
theorem z0n{g:j0}(hf:M0 g=true){p:Int}(hp:0<=p/\p<g.2.1):TOk g p g.2.1.toNat (Z0l g p):=by
 obtain⟨q1,q2,q3,q4⟩:=j00 hf
 exact TOk.out hf (by omega) _ _ (l0k g ⟨hp.1,by omega⟩)
def isS(o:Option (List Int)):Bool:=o.isSome
theorem d0m{n u:Int}(h:inR 0 (n-1) u=true):0<=u/\u<n:=by
 simp only[inR,Bool.and_eq_true,decide_eq_true_eq]at h
 omega
theorem e0m(g:j0)(hg:N0 g=true)(u:Int):S4 g u=some (inR 0 (g.2.1-1) u):=by
 obtain⟨q1,q2,q3,q4⟩:=V0 hg
 obtain⟨r,n,es⟩:=g
 simp only at q3
 unfold S4
 simp only[r04]
 rw[w64 (by omega) (by omega)]
 rfl
abbrev Prs:=List (Int×Int)
theorem T0b(q:Int×Int):∀(ps:Prs) (i:Nat),match lkP q ps i with
  |some k=>i<=k/\ps[k-i]?=some q
  |none=>q ∉ ps
 | [],i=>by simp[lkP]
 |p::r,i=>by
  have ih:=T0b q r (i+1)
  unfold lkP
  by_cases c:q=p
  ·subst c;simp
  ·have c2:(decide (q.1=p.1)&&decide (q.2=p.2))=false:=by
    cases e:decide (q.1=p.1)&&decide (q.2=p.2)
    ·rfl
    ·simp only[Bool.and_eq_true,decide_eq_true_eq]at e
     exact absurd (Prod.ext e.1 e.2) c
   rw[c2,cond_false]
   cases e:lkP q r (i+1)with
   |none=>rw[e]at ih;simpa [c] using ih
   |some k =>
    rw[e]at ih
    simp only at ih ⊢
    refine⟨by omega,?_⟩
    have:k-i=(k-(i+1))+1:=by omega
    rw[this,List.getElem?_cons_succ]
    exact ih.2
theorem h0j{q:Int×Int}{k:Nat}:∀ {ps:Prs} {i:Nat} (t:Prs),lkP q ps i=some k->lkP q (ps++t) i=some k
 | [],i,t,h=>by simp[lkP]at h
 |p::r,i,t,h=>by
  rw[List.cons_append]
  unfold lkP at h ⊢
  cases c:decide (q.1=p.1)&&decide (q.2=p.2)
  ·rw[c,cond_false]at h;rw[cond_false];exact h0j t h
  ·rw[c,cond_true]at h;rw[cond_true];exact h
theorem i0j{q:Int×Int}:∀ {ps:Prs} {i:Nat},q ∉ ps->lkP q (ps ++ [q]) i=some (i+ps.length)
 | [],i,h=>by simp[lkP]
 |p::r,i,h=>by
  have c:(decide (q.1=p.1)&&decide (q.2=p.2))=false:=by
   cases e:decide (q.1=p.1)&&decide (q.2=p.2)
   ·rfl
   ·simp only[Bool.and_eq_true,decide_eq_true_eq]at e
    exact absurd (List.mem_cons.2 (.inl (Prod.ext e.1 e.2))) h
  rw[List.cons_append,lkP,c,cond_false,i0j (λe=>h (mC _ e))]
  simp;omega
theorem n08{q:Int×Int}{ps:Prs}:lkP q ps 0=none↔q ∉ ps:=by
 have:=T0b q ps 0
 constructor
 ·intro h;rw[h]at this;exact this
 ·intro h
  cases e:lkP q ps 0 with
  |none=>rfl
  |some k=>rw[e]at this;exact absurd (List.mem_of_getElem? this.2) h
theorem p06{q:Int×Int}{ps:Prs}{k:Nat}(h:lkP q ps 0=some k):ps[k]?=some q:=by
 have:=T0b q ps 0
 rw[h]at this
 simpa using this.2
theorem x0e{q:Int×Int}{ps:Prs}(h:q∈ps):∃ k,lkP q ps 0=some k:=by
 cases e:lkP q ps 0 with
 |none=>exact absurd h (n08.1 e)
 |some k=>exact⟨k,rfl⟩
theorem j0j{q:Int×Int}{ps:Prs}(t:Prs)(h:q∈ps):lkZ q (ps++t)=lkZ q ps:=by
 obtain⟨k,e⟩:=x0e h
 unfold lkZ
 rw[e,h0j t e]
def stP(a b:j0)(x:Int)(p:Int×Int):Option (Int×Int):=bif decide (S0 a p.1 x<0) || decide (S0 b p.2 x<0)then none else some (S0 a p.1 x,S0 b p.2 x)
abbrev PSt:=Prs×List H0
def pbS(i:Nat)(x:Int)(q:Option (Int×Int))(S:PSt):PSt:=match q with
 |none=>S
 |some q=>match lkP q S.1 0 with
  |some k=>(S.1,bif decide (0<x)then S.2 ++ [((i:Int),x,(k:Int))]else S.2)
  |none=>(S.1 ++ [q],bif decide (0<x)then S.2 ++ [((i:Int),x,(S.1.length:Int))]else S.2)
def pbI(a b:j0)(i:Nat)(p:Int×Int):List Int->PSt->PSt
 | [],S=>S
 |x::r,S=>pbI a b i p r (pbS i x (stP a b x p) S)
def pbO(a b:j0)(ls:List Int):Nat->Nat->PSt->PSt
 |0,_,S=>S
 |f+1,i,S=>match S.1[i]? with
  |none=>S
  |some p=>pbO a b ls f (i+1) (pbI a b i p ls S)
def b05(a b:j0)(ps:Prs):Prop:=∀ q∈ps,(0<=q.1/\q.1<a.2.1)/\(0<=q.2/\q.2<b.2.1)
theorem A0o{a b:j0}(ha:inG a)(hb:inG b){x:Int}{p q:Int×Int}(h:stP a b x p=some q):(0<=q.1/\q.1<a.2.1)/\(0<=q.2/\q.2<b.2.1):=by
 unfold stP at h
 cases c:decide (S0 a p.1 x<0) || decide (S0 b p.2 x<0)with
 |true=>rw[c]at h;cases h
 |false =>
  rw[c,cond_false]at h
  cases h
  simp only[Bool.or_eq_false_iff,decide_eq_false_iff_not]at c
  have h1:=i01 ha p.1 x
  have h2:=i01 hb p.2 x
  exact⟨by omega,by omega⟩
theorem o08{q:Int×Int}{S:PSt}{k:Nat}(h:lkP q S.1 0=some k)(i:Nat)(x:Int):pbS i x (some q) S=(S.1,bif decide (0<x)then S.2 ++ [((i:Int),x,(k:Int))]else S.2):=by
 simp only[pbS,h]
theorem p08{q:Int×Int}{S:PSt}(h:lkP q S.1 0=none)(i:Nat)(x:Int):pbS i x (some q) S=(S.1 ++ [q],bif decide (0<x)then S.2 ++ [((i:Int),x,(S.1.length:Int))]else S.2):=by
 simp only[pbS,h]
theorem y0e(i:Nat)(x:Int)(q:Option (Int×Int))(S:PSt):∃ t,(pbS i x q S).1=S.1++t:=by
 cases q with
 |none=>exact⟨[],by simp[pbS]⟩
 |some q =>
  cases e:lkP q S.1 0 with
  |none=>exact⟨[q],by rw[p08 e]⟩
  |some k=>exact⟨[],by rw[o08 e];simp⟩
theorem q06(a b:j0)(i:Nat)(p:Int×Int):∀(ls:List Int) (S:PSt),∃ t,(pbI a b i p ls S).1=S.1++t
 | [],S=>⟨[],by simp[pbI]⟩
 |x::r,S=>by
  obtain⟨t1,e1⟩:=y0e i x (stP a b x p) S
  obtain⟨t2,e2⟩:=q06 a b i p r (pbS i x (stP a b x p) S)
  exact⟨t1++t2,by rw[pbI,e2,e1,List.append_assoc]⟩
theorem C0h{a b:j0}(ha:inG a)(hb:inG b)(i:Nat)(x:Int)(p:Int×Int)(S:PSt)(h1:b05 a b S.1)(h2:S.1.Nodup):b05 a b (pbS i x (stP a b x p) S).1/\(pbS i x (stP a b x p) S).1.Nodup:=by
 cases e:stP a b x p with
 |none=>exact⟨h1,h2⟩
 |some q =>
  have hq:=A0o ha hb e
  cases e2:lkP q S.1 0 with
  |none =>
   rw[p08 e2]
   refine⟨λq' hq'=>?_,?_⟩
   ·rcases List.mem_append.1 hq' with h|h
    ·exact h1 q' h
    ·simp at h;subst h;exact hq
   ·show(S.1 ++ [q]).Nodup
    rw[List.nodup_append]
    refine⟨h2,by simp,λu hu v hv e3=>?_⟩
    simp at hv
    subst hv
    subst e3
    exact n08.1 e2 hu
  |some k=>rw[o08 e2];exact⟨h1,h2⟩
theorem z0e{a b:j0}(ha:inG a)(hb:inG b)(i:Nat)(p:Int×Int):∀(ls:List Int) (S:PSt),b05 a b S.1->S.1.Nodup->b05 a b (pbI a b i p ls S).1/\(pbI a b i p ls S).1.Nodup
 | [],S,h1,h2=>⟨h1,h2⟩
 |x::r,S,h1,h2=>by
  obtain⟨g1,g2⟩:=C0h ha hb i x p S h1 h2
  exact z0e ha hb i p r _ g1 g2
def enP(m:Int)(p:Int×Int):Int:=p.1*m+p.2
theorem A0e{m:Int}{p q:Int×Int}(hp:0<=p.2/\p.2<m)(hq:0<=q.2/\q.2<m)(h:enP m p=enP m q):p=q:=by
 unfold enP at h
 have h1:p.1=q.1:=by
  rcases Int.lt_trichotomy p.1 q.1 with c|c|c
  ·exfalso
   have:(p.1+1)*m<=q.1*m:=Int.mul_le_mul_of_nonneg_right (by omega) (by omega)
   rw[Int.add_mul,Int.one_mul]at this
   omega
  ·exact c
  ·exfalso
   have:(q.1+1)*m<=p.1*m:=Int.mul_le_mul_of_nonneg_right (by omega) (by omega)
   rw[Int.add_mul,Int.one_mul]at this
   omega
 rw[h1]at h
 exact Prod.ext h1 (by omega)
theorem r06{n m:Int}{p:Int×Int}(h1:0<=p.1/\p.1<n)(h2:0<=p.2/\p.2<m):0<=enP m p/\enP m p<n*m:=by
 unfold enP
 have a1:0<=p.1*m:=Int.mul_nonneg h1.1 (by omega)
 have a2:(p.1+1)*m<=n*m:=Int.mul_le_mul_of_nonneg_right (by omega) (by omega)
 rw[Int.add_mul,Int.one_mul]at a2
 omega
theorem B0e{m:Int}{p:Int×Int}(h1:0<=p.1)(h2:0<=p.2/\p.2<m):Int.tdiv (enP m p) m=p.1/\Int.tmod (enP m p) m=p.2:=by
 have h0:0<=enP m p:=by
  unfold enP
  have:0<=p.1*m:=Int.mul_nonneg h1 (by omega)
  omega
 rw[Int.tdiv_eq_ediv_of_nonneg h0,Int.tmod_eq_emod_of_nonneg h0]
 unfold enP
 refine⟨?_,?_⟩
 ·rw[Int.add_comm,Int.add_mul_ediv_right _ _ (by omega),Int.ediv_eq_zero_of_lt h2.1 h2.2];omega
 ·rw[Int.add_comm,Int.add_mul_emod_self_right,Int.emod_eq_of_lt h2.1 h2.2]
theorem c05{a b:j0}(ha:1<=a.2.1/\a.2.1<=40)(hb:1<=b.2.1/\b.2.1<=40){ps:Prs}(h1:b05 a b ps)(h2:ps.Nodup):ps.length<=1600:=by
 have h3:(ps.map (enP b.2.1)).Nodup:=by
  rw[List.Nodup,List.pairwise_map]
  exact List.Pairwise.imp_of_mem (λ{x y} hx hy hne e=>hne (A0e (h1 x hx).2 (h1 y hy).2 e)) h2
 have h4:inV 1600 (ps.map (enP b.2.1)):=by
  intro v hv
  obtain⟨p,hp,rfl⟩:=List.mem_map.1 hv
  have:=r06 (h1 p hp).1 (h1 p hp).2
  have h5:a.2.1*b.2.1<=40*40:=Int.mul_le_mul ha.2 hb.2 (by omega) (by omega)
  exact⟨this.1,by omega⟩
 have:=R03 1600 _ h3 h4
 simpa using this
def eL(a b:j0)(ps:Prs)(i:Nat)(p:Int×Int):List Int->List H0
 | []=>[]
 |x::r=>(match stP a b x p with
  |some q=>bif decide (0<x)then [((i:Int),x,lkZ q ps)]else []
  |none=>[])++eL a b ps i p r
def eB(a b:j0)(ls:List Int)(ps:Prs):Prs->Nat->List H0
 | [],_=>[]
 |p::r,i=>eL a b ps i p ls++eB a b ls ps r (i+1)
theorem f0m{a b:j0}{ps:Prs}(t:Prs){i:Nat}{p:Int×Int}:∀ {ls:List Int},(∀ x∈ls,∀ q,stP a b x p=some q->q∈ps)->eL a b (ps++t) i p ls=eL a b ps i p ls
 | [],_=>rfl
 |x::r,h=>by
  rw[eL,eL,f0m t λy hy=>h y (mC _ hy)]
  cases e:stP a b x p with
  |none=>rfl
  |some q=>simp only[j0j t (h x mS q e)]
theorem p09{a b:j0}{i:Nat}{p:Int×Int}:∀(ls:List Int) (S:PSt),(pbI a b i p ls S).2=S.2++eL a b (pbI a b i p ls S).1 i p ls/\∀ x∈ls,∀ q,stP a b x p=some q->q∈(pbI a b i p ls S).1
 | [],S=>⟨by simp[pbI,eL],λx hx=>nomatch hx⟩
 |x::r,S=>by
  obtain⟨h1,h2⟩:=p09 r (pbS i x (stP a b x p) S)
  obtain⟨t,ht⟩:=q06 a b i p r (pbS i x (stP a b x p) S)
  have key:∀ q,stP a b x p=some q->q∈(pbS i x (stP a b x p) S).1/\(pbS i x (stP a b x p) S).2=S.2++(bif decide (0<x)then [((i:Int),x,lkZ q (pbS i x (stP a b x p) S).1)]else []):=λq e=>by
   rw[e]
   cases e2:lkP q S.1 0 with
   |none =>
    rw[p08 e2]
    refine⟨by simp,?_⟩
    have e3:=i0j (i:=0) (n08.1 e2)
    simp only[lkZ,e3,Nat.zero_add]
    cases decide (0<x)<;>simp
   |some k =>
    rw[o08 e2]
    refine⟨List.mem_of_getElem? (p06 e2),?_⟩
    simp only[lkZ,e2]
    cases decide (0<x)<;>simp
  refine⟨?_,λy hy q e=>?_⟩
  ·rw[pbI,h1,eL,←List.append_assoc]
   congr 1
   cases e:stP a b x p with
   |none=>simp[pbS]
   |some q =>
    obtain⟨k1,k2⟩:=key q e
    rw[e]at k1 k2 ht
    rw[k2]
    congr 1
    rw[ht]
    simp only[j0j t k1]
  ·rw[pbI]
   rcases List.mem_cons.1 hy with rfl|hy
   ·rw[ht];exact List.mem_append_left _ (key q e).1
   ·exact h2 y hy q e
theorem A0n{a b:j0}{i:Nat}{p:Int×Int}{ls:List Int}{S:PSt}{j:Nat}{q:Int×Int}(h:S.1[j]?=some q):(pbI a b i p ls S).1[j]?=some q:=by
 obtain⟨t,e⟩:=q06 a b i p ls S
 rw[e,List.getElem?_append_left (List.getElem?_eq_some_iff.1 h).1];exact h
theorem C0e{a b:j0}(ha:inG a)(hb:inG b)(na:1<=a.2.1/\a.2.1<=40)(nb:1<=b.2.1/\b.2.1<=40)(ls:List Int):∀(f i:Nat) (S:PSt),b05 a b S.1->S.1.Nodup->i<=S.1.length->1601<=i+f ->
  ∃ t,(pbO a b ls f i S).1=S.1++t/\b05 a b (S.1++t)/\(S.1++t).Nodup/\(pbO a b ls f i S).2=S.2++eB a b ls (S.1++t) ((S.1++t).drop i) i /\
   ∀ j p,i<=j->(S.1++t)[j]?=some p->∀ x∈ls,∀ q,stP a b x p=some q->q∈S.1++t
 |0,i,S,h1,h2,h3,h4=>by
  have:=c05 na nb h1 h2
  omega
 |f+1,i,S,h1,h2,h3,h4=>by
  cases e:S.1[i]? with
  |none =>
   have hi:i=S.1.length:=by have:=List.getElem?_eq_none_iff.1 e;omega
   refine⟨[],?_⟩
   rw[List.append_nil]
   refine⟨by simp[pbO,e],h1,h2,?_,λj p hj hp=>?_⟩
   ·rw[pbO,e,hi,List.drop_length];simp[eB]
   ·have:=(List.getElem?_eq_some_iff.1 hp).1
    omega
  |some p =>
   obtain⟨g1,g2⟩:=z0e ha hb i p ls S h1 h2
   obtain⟨e1,e2⟩:=p09 (a:=a) (b:=b) (i:=i) (p:=p) ls S
   obtain⟨t1,ht1⟩:=q06 a b i p ls S
   have hlt:=(List.getElem?_eq_some_iff.1 e).1
   obtain⟨t,k1,k2,k3,k4,k5⟩:=C0e ha hb na nb ls f (i+1) (pbI a b i p ls S) g1 g2 (by rw[ht1];simp;omega) (by omega)
   refine⟨t1++t,?_⟩
   rw[←List.append_assoc,←ht1]
   have hp:((pbI a b i p ls S).1++t)[i]?=some p:=by
    have:=A0n (a:=a) (b:=b) (i:=i) (p:=p) (ls:=ls) e
    rw[List.getElem?_append_left (List.getElem?_eq_some_iff.1 this).1];exact this
   refine⟨by rw[pbO,e];exact k1,k2,k3,?_,λj p' hj hp' x hx q hq=>?_⟩
   ·rw[pbO,e]
    show(pbO a b ls f (i+1) (pbI a b i p ls S)).2=_
    rw[k4,e1,V2 hp,eB,f0m t e2,List.append_assoc]
   ·rcases Nat.lt_or_ge i j with c|c
    ·exact k5 j p' c hp' x hx q hq
    ·have:j=i:=by omega
     subst this
     rw[hp]at hp';cases hp'
     exact List.mem_append_left _ (e2 x hx q hq)
theorem k0j{R:Nat}(hR:R<=900):∀ x∈K4 R 1,C9 x:=s0a R 1 (by omega)
theorem B0n(u x v:Int)(hx:C9 x)(h:0<x):K9 u x v=some (u,x,v):=by
 rw[y0o u x v hx]
 unfold stp
 simp[h]
 omega
theorem B0o(q:Int×Int)(ps:Prs)(hl:ps.length<=1000000):lkM q ps=some (lkZ q ps):=by
 have h:O0 (lkI (lkZ q ps)):=by
  unfold lkI lkZ lkB
  cases e:lkP q ps 0 with
  |none=>exact⟨by decide,by decide⟩
  |some k =>
   have h2:=(List.getElem?_eq_some_iff.1 (p06 e)).1
   simp only[Int.natCast_nonneg,decide_true,cond_true]
   exact⟨by omega,by omega⟩
 unfold lkM
 rw[D0 h];rfl
theorem g0m{a b:j0}(ha:M0 a=true)(hb:M0 b=true)(hr:a.1=b.1)(ls:List Int)(hls:∀ x∈ls,C9 x)(hl:ls.length<=1000)(i:Nat)(p:Int×Int)(u v:Int):∀(d k fuel:Nat) (S:PSt),k+d=ls.length->d<fuel ->
  b05 a b S.1->S.1.Nodup->S.1[i]?=some p->S.2.length<=i*1000+k->i<=2000 ->
  I3 ls (i:Int) a.1 a.2.1 a.2.2 b.1 b.2.1 b.2.2 fuel (k:Int) u v S.1 S.2=some (u,v,(pbI a b i p (ls.drop k) S).1,(pbI a b i p (ls.drop k) S).2)
 |d,k,0,S,hd,hf,h1,h2,h3,h4,h5=>by omega
 |0,k,fuel+1,S,hd,hf,h1,h2,h3,h4,h5=>by
  rw[I3.eq_2,if_neg (by simp only[decide_eq_true_eq];omega),O2 (by omega)];rfl
 |d+1,k,fuel+1,S,hd,hf,h1,h2,h3,h4,h5=>by
  have hk:k<ls.length:=by omega
  have hx:=l7 hk
  have hm:=hls _ (List.mem_of_getElem? hx)
  have hdr:=V2 hx
  generalize ls[k]=x at hx hm hdr
  obtain⟨qa,ra,na,la⟩:=V0 (I1 ha)
  obtain⟨qb,rb,nb,lb⟩:=V0 (I1 hb)
  have ih:=λS'=>g0m ha hb hr ls hls hl i p u v d (k+1) fuel S' (by omega) (by omega)
  have ea:=l07 a p.1 x hm (by omega)
  have eb:=l07 b p.2 x hm (by omega)
  have ia:=g02 qa (by omega) p.1 x
  have ib:=g02 qb (by omega) p.2 x
  have hlen:=c05 na nb h1 h2
  obtain⟨g1,g2⟩:=C0h qa qb i x p S h1 h2
  obtain⟨t,ht⟩:=y0e i x (stP a b x p) S
  have g3:(pbS i x (stP a b x p) S).1[i]?=some p:=by rw[ht,List.getElem?_append_left (List.getElem?_eq_some_iff.1 h3).1];exact h3
  have hstep:∀ v,0<x->K9 (i:Int) x v=some ((i:Int),x,v):=λv h=>B0n _ _ _ hm h
  rw[I3.eq_2,if_pos (by simp only[decide_eq_true_eq];omega),Z3 hx,oB,Z3 h3,oB,U2 hk (by omega),hdr,pbI]
  obtain⟨p1,p2⟩:=p
  obtain⟨a0,a1,a2⟩:=a
  obtain⟨b0,b1,b2⟩:=b
  simp only at ea eb ia ib ih g1 g2 g3 ⊢
  rw[ea,oB,D0 ia,oB,oB,eb,oB,D0 ib,oB]
  have e0:stP (a0,a1,a2) (b0,b1,b2) x (p1,p2)=(bif decide (S0 (a0,a1,a2) p1 x<0) || decide (S0 (b0,b1,b2) p2 x<0)then none else some (S0 (a0,a1,a2) p1 x,S0 (b0,b1,b2) p2 x)):=rfl
  have hc:(bif decide (S0 (a0,a1,a2) p1 x<0)then true else decide (S0 (b0,b1,b2) p2 x<0))=(decide (S0 (a0,a1,a2) p1 x<0) || decide (S0 (b0,b1,b2) p2 x<0)):=by
   cases decide (S0 (a0,a1,a2) p1 x<0)<;>rfl
  rw[hc]
  cases c:decide (S0 (a0,a1,a2) p1 x<0) || decide (S0 (b0,b1,b2) p2 x<0)with
  |true =>
   rw[c,cond_true]at e0
   rw[if_pos rfl,e0]
   exact ih S h1 h2 h3 (by omega) h5
  |false =>
   rw[c,cond_false]at e0
   rw[e0]at g1 g2 g3 ⊢
   rw[if_neg (by simp),B0o _ _ (by omega),oB]
   generalize (S0 (a0,a1,a2) p1 x,S0 (b0,b1,b2) p2 x)=q at *
   cases e:lkP q S.1 0 with
   |none =>
    rw[p08 e]at g1 g2 g3 ⊢
    have ez:lkZ q S.1 = -1:=by unfold lkZ;rw[e]
    rw[ez,if_pos (by decide),oB,D0 (by omega),oB,D0 (by simp;omega),oB]
    by_cases c2:0<x
    ·have:=ih (S.1 ++ [q],S.2 ++ [((i:Int),x,(S.1.length:Int))]) g1 g2 g3 (by simp;omega) h5
     rw[if_pos (by simpa using c2),hstep _ c2,oB]
     simp only[c2,decide_true,cond_true]at this ⊢
     rw[D0 (by simp;omega),oB]
     exact this
    ·have:=ih (S.1 ++ [q],S.2) g1 g2 g3 (by simp;omega) h5
     rw[if_neg (by simpa using c2)]
     simp only[c2,decide_false,cond_false]at this ⊢
     exact this
   |some k' =>
    rw[o08 e]at g1 g2 g3 ⊢
    have ez:lkZ q S.1=(k':Int):=by unfold lkZ;rw[e]
    have eb':lkB (k':Int)=true:=by unfold lkB;simp
    have ei:lkI (k':Int)=(k':Int):=by unfold lkI;rw[eb'];rfl
    rw[ez,eb',if_neg (by simp),ei]
    by_cases c2:0<x
    ·have:=ih (S.1,S.2 ++ [((i:Int),x,(k':Int))]) g1 g2 g3 (by simp;omega) h5
     rw[if_pos (by simpa using c2),hstep _ c2,oB]
     simp only[c2,decide_true,cond_true]at this ⊢
     rw[D0 (by simp;omega),oB]
     exact this
    ·have:=ih (S.1,S.2) g1 g2 g3 (by simp;omega) h5
     rw[if_neg (by simpa using c2)]
     simp only[c2,decide_false,cond_false]at this ⊢
     exact this
theorem U0b{a b:j0}{ps:Prs}{i:Nat}{p:Int×Int}:∀(ls:List Int),(eL a b ps i p ls).length<=ls.length
 | []=>by simp[eL]
 |x::r=>by
  have:=U0b (a:=a) (b:=b) (ps:=ps) (i:=i) (p:=p) r
  rw[eL,List.length_append,List.length_cons]
  have h:(match stP a b x p with
   |some q=>bif decide (0<x)then [((i:Int),x,lkZ q ps)]else []
   |none=>[]).length<=1:=by
   cases stP a b x p with
   |none=>simp
   |some q=>cases decide (0<x)<;>simp
  exact Nat.le_trans (Nat.add_le_add h this) (by omega)
theorem D0h{a b:j0}{ls:List Int}{ps:Prs}:∀(r:Prs) (i:Nat),(eB a b ls ps r i).length<=r.length*ls.length
 | [],i=>by simp[eB]
 |p::r,i=>by
  have h1:=U0b (a:=a) (b:=b) (ps:=ps) (i:=i) (p:=p) ls
  have h2:=D0h (a:=a) (b:=b) (ls:=ls) (ps:=ps) r (i+1)
  rw[eB,List.length_append,List.length_cons,Nat.add_mul,Nat.one_mul]
  omega
theorem h0m{a b:j0}(ha:M0 a=true)(hb:M0 b=true)(hr:a.1=b.1)(u v:Int):∀(d i fuel:Nat) (S:PSt),i+d=1601->d<fuel->b05 a b S.1->S.1.Nodup->i<=S.1.length->S.2.length<=i*1000 ->
  c6 a.1 a.2.1 a.2.2 b.1 b.2.1 b.2.2 fuel (i:Int) u v S.1 S.2=some (u,v,(pbO a b (K4 a.1.toNat 1) d i S).1,(pbO a b (K4 a.1.toNat 1) d i S).2)
 |d,i,0,S,hd,hf,h1,h2,h3,h4=>by omega
 |0,i,fuel+1,S,hd,hf,h1,h2,h3,h4=>by
  obtain⟨qa,ra,na,la⟩:=V0 (I1 ha)
  obtain⟨qb,rb,nb,lb⟩:=V0 (I1 hb)
  have:=c05 na nb h1 h2
  omega
 |d+1,i,fuel+1,S,hd,hf,h1,h2,h3,h4=>by
  obtain⟨qa,ra,na,la⟩:=V0 (I1 ha)
  obtain⟨qb,rb,nb,lb⟩:=V0 (I1 hb)
  have hlen:=c05 na nb h1 h2
  obtain⟨R,hR⟩:∃ R:Nat,a.1=(R:Int):=⟨a.1.toNat,by omega⟩
  have hi2:i<=2000:=by omega
  rw[c6.eq_2,oB,D0 (by omega),oB]
  cases e:S.1[i]? with
  |none =>
   have:=List.getElem?_eq_none_iff.1 e
   rw[if_neg (by simp only[decide_eq_true_eq];omega)]
   simp only[pbO,e]
  |some p =>
   have hlt:=(List.getElem?_eq_some_iff.1 e).1
   have hRt:a.1.toNat=R:=by omega
   obtain⟨g1,g2⟩:=z0e qa qb i p (K4 R 1) S h1 h2
   obtain⟨e1,e2⟩:=p09 (a:=a) (b:=b) (i:=i) (p:=p) (K4 R 1) S
   obtain⟨t1,ht1⟩:=q06 a b i p (K4 R 1) S
   have hl:=b01 R 1
   have hel:=U0b (a:=a) (b:=b) (ps:=(pbI a b i p (K4 R 1) S).1) (i:=i) (p:=p) (K4 R 1)
   have h0:=g0m ha hb hr (K4 R 1) (k0j (by omega)) (by omega) i p u v (K4 R 1).length 0 U0 S (by omega) (P1 (by omega)) h1 h2 e (Nat.le_trans h4 (Nat.le_add_right _ _)) hi2
   have ih:=h0m ha hb hr u v d (i+1) fuel (pbI a b i p (K4 R 1) S) (by omega) (by omega) g1 g2 (by rw[ht1];simp;omega) (by rw[e1,List.length_append];omega)
   rw[if_pos (by simp only[decide_eq_true_eq];omega)]
   rw[List.drop_zero,show((0:Nat):Int)=0 from rfl]at h0
   rw[show O8 a.1=some (K4 R 1) by rw[hR];exact L0l R (by omega),oB,h0,oB]
   simp only
   rw[U2 (show i<2000 by omega) (by omega),ih]
   rw[hRt]
   simp only[pbO,e]
def q08(a b:j0)(u v:Int):j0×Bool:=bif M0 a&&(M0 b&&(decide (a.1=b.1)&&(inR 0 (a.2.1-1) u&&inR 0 (b.2.1-1) v)))then
    (bif decide (40<(pbO a b (K4 a.1.toNat 1) 1601 0 ([(u,v)],[])).1.length) || decide (120<(pbO a b (K4 a.1.toNat 1) 1601 0 ([(u,v)],[])).2.length)then((0,0,[]),false)
     else((a.1,((pbO a b (K4 a.1.toNat 1) 1601 0 ([(u,v)],[])).1.length:Int),a6 P0 [] (pbO a b (K4 a.1.toNat 1) 1601 0 ([(u,v)],[])).2),true))else((0,0,[]),false)
theorem V0b{a b:j0}{u v:Int}(hu:inR 0 (a.2.1-1) u=true)(hv:inR 0 (b.2.1-1) v=true):b05 a b [(u,v)]:=by
 intro q hq
 simp at hq
 subst hq
 simp only[inR,Bool.and_eq_true,decide_eq_true_eq]at hu hv
 exact⟨by omega,by omega⟩
theorem i0m{a b:j0}(la:a.2.2.length<=140737488355328)(lb:b.2.2.length<=140737488355328)(u v:Int):i9 a b u v=some (q08 a b u v):=by
 have f1:=A00 a la
 have f2:=A00 b lb
 have f3:M0 a=true->S4 a u=some (inR 0 (a.2.1-1) u):=λh=>e0m a (I1 h) u
 have f4:M0 b=true->S4 b v=some (inR 0 (b.2.1-1) v):=λh=>e0m b (I1 h) v
 have f5:M0 a=true->M0 b=true->a.1=b.1->inR 0 (a.2.1-1) u=true->inR 0 (b.2.1-1) v=true->_:=λh1 h2 h3 h4 h5=>h0m h1 h2 h3 a.1 0 1601 0 U0 ([(u,v)],[]) (by omega) (P1 (by omega)) (V0b h4 h5) (by simp) (by simp) (by simp)
 have f6:M0 a=true->M0 b=true->inR 0 (a.2.1-1) u=true->inR 0 (b.2.1-1) v=true->∀ ls,ls.length<=1000->(pbO a b ls 1601 0 ([(u,v)],[])).1.length<=1600/\(pbO a b ls 1601 0 ([(u,v)],[])).2.length<=1600000:=λh1 h2 h4 h5 ls hls=>by
  obtain⟨qa,ra,na,la⟩:=V0 (I1 h1)
  obtain⟨qb,rb,nb,lb⟩:=V0 (I1 h2)
  obtain⟨t,k1,k2,k3,k4,_⟩:=C0e qa qb na nb ls 1601 0 ([(u,v)],[]) (V0b h4 h5) (by simp) (by simp) (by omega)
  have k5:=c05 na nb k2 k3
  refine⟨by rw[k1];exact k5,?_⟩
  rw[k4,List.drop_zero,List.nil_append]
  exact Nat.le_trans (D0h _ _) (Nat.mul_le_mul k5 hls)
 unfold q08
 obtain⟨a0,a1,a2⟩:=a
 obtain⟨b0,b1,b2⟩:=b
 unfold i9
 simp only at f1 f2 f3 f4 f5 ⊢
 rw[f1,oB]
 cases h1:M0 (a0,a1,a2)with
 |false=>simp[chk]
 |true =>
  rw[show(!!true)=true from rfl,E2,f2,oB]
  cases h2:M0 (b0,b1,b2)with
  |false=>simp[chk]
  |true =>
   by_cases h3:a0=b0
   ·have g3:=f3 h1
    rw[show(!(bif(bif(!true)then true else(!true))then true else(!decide (a0=b0))))=true by simp[h3],E2,g3,oB]
    cases h4:inR 0 (a1-1) u with
    |false=>simp[chk]
    |true =>
     rw[show(!(bif(bif(bif(!true)then true else(!true))then true else(!decide (a0=b0)))then true else(!true)))=true by simp[h3],E2,f4 h2,oB]
     cases h5:inR 0 (b1-1) v with
     |false=>simp
     |true =>
      have g5:=f5 h1 h2 h3 h4 h5
      have g6:=f6 h1 h2 h4 h5
      rw[if_neg (by simp[h3])]
      rw[show((0:Nat):Int)=0 from rfl]at g5
      rw[g5,oB]
      have hr0:=(V0 (I1 h1)).2.1
      simp only at hr0
      obtain⟨g7,g8⟩:=g6 (K4 a0.toNat 1) (by rw[b01];omega)
      clear f5 f6 g6
      generalize pbO (a0,a1,a2) (b0,b1,b2) (K4 a0.toNat 1) 1601 0 ([(u,v)],[])=S at *
      obtain⟨ps,es⟩:=S
      simp only at g7 g8 ⊢
      rw[oB,D0 (by omega),oB,oB,D0 (by omega),oB]
      have e1:decide (((ps.length:Nat):Int)>40)=decide (40<ps.length):=by rw[decide_eq_decide];omega
      have e2:decide (((es.length:Nat):Int)>120)=decide (120<es.length):=by rw[decide_eq_decide];omega
      rw[e1,e2]
      cases decide (40<ps.length)<;>cases decide (120<es.length)<;>simp[g08 es (by omega),h1,h2,h3,h4,h5]
   ·simp[chk,h3]
def W0b(m:Int)(N:Nat)(seen:List Bool)(ps:Prs):Prop:=seen.length=N/\∀ j:Nat,j<N->seen[j]?=some (decide ((j:Int)∈ps.map (enP m)))
theorem C0n{a b:j0}{ps:Prs}(h:b05 a b ps){q:Int×Int}(hq:0<=q.2/\q.2<b.2.1):enP b.2.1 q∈ps.map (enP b.2.1)↔q∈ps:=by
 constructor
 ·intro e
  obtain⟨p,hp,e2⟩:=List.mem_map.1 e
  have:=A0e (h p hp).2 hq e2
  rw[←this];exact hp
 ·exact λe=>List.mem_map.2 ⟨q,e,rfl⟩
theorem u0d{m:Int}{N:Nat}{seen:List Bool}{ps:Prs}(h:W0b m N seen ps){q:Int×Int}(h1:0<=enP m q)(h2:enP m q<(N:Int)):W0b m N (seen.set (enP m q).toNat true) (ps ++ [q]):=by
 refine⟨by simp[h.1],λj hj=>?_⟩
 rw[List.getElem?_set]
 by_cases c:(enP m q).toNat=j
 ·have hm:(j:Int)∈(ps ++ [q]).map (enP m):=List.mem_map.2 ⟨q,by simp,by omega⟩
  rw[if_pos c,if_pos (by rw[h.1];omega),decide_eq_true hm]
 ·rw[if_neg c,h.2 j hj]
  have:((j:Int)∈(ps ++ [q]).map (enP m))↔(j:Int)∈ps.map (enP m):=by
   rw[List.map_append,List.mem_append]
   constructor
   ·rintro(e|e)
    ·exact e
    ·simp at e;omega
   ·exact .inl
  simp only[this]
theorem j0m{a b:j0}(ha:M0 a=true)(hb:M0 b=true)(ls:List Int)(hls:∀ x∈ls,C9 x)(hl:ls.length<=1000)(i:Nat)(p:Int×Int):∀(d k fuel:Nat) (S:PSt) (seen:List Bool),k+d=ls.length->d<fuel ->
  b05 a b S.1->S.1.Nodup->S.1[i]?=some p->W0b b.2.1 (a.2.1*b.2.1).toNat seen S.1 ->
  ∃ seen',F5 ls (i:Int) b.2.1 a.1 a.2.1 a.2.2 b.1 b.2.2 fuel (k:Int) seen (S.1.map (enP b.2.1))=some (seen',(pbI a b i p (ls.drop k) S).1.map (enP b.2.1))/\W0b b.2.1 (a.2.1*b.2.1).toNat seen' (pbI a b i p (ls.drop k) S).1
 |d,k,0,S,seen,hd,hf,h1,h2,h3,h4=>by omega
 |0,k,fuel+1,S,seen,hd,hf,h1,h2,h3,h4=>by
  rw[F5.eq_2,if_neg (by simp only[decide_eq_true_eq];omega),O2 (by omega)]
  exact⟨seen,rfl,h4⟩
 |d+1,k,fuel+1,S,seen,hd,hf,h1,h2,h3,h4=>by
  have hk:k<ls.length:=by omega
  have hx:=l7 hk
  have hm:=hls _ (List.mem_of_getElem? hx)
  have hdr:=V2 hx
  generalize ls[k]=x at hx hm hdr
  obtain⟨qa,ra,na,la⟩:=V0 (I1 ha)
  obtain⟨qb,rb,nb,lb⟩:=V0 (I1 hb)
  have ih:=λS' seen'=>j0m ha hb ls hls hl i p d (k+1) fuel S' seen' (by omega) (by omega)
  have ea:=m01 a p.1 x hm (by omega)
  have eb:=m01 b p.2 x hm (by omega)
  have ia:=g02 qa (by omega) p.1 x
  have ib:=g02 qb (by omega) p.2 x
  have hlen:=c05 na nb h1 h2
  have hp:=h1 p (List.mem_of_getElem? h3)
  obtain⟨d1,d2⟩:=B0e (m:=b.2.1) hp.1.1 hp.2
  obtain⟨g1,g2⟩:=C0h qa qb i x p S h1 h2
  obtain⟨t,ht⟩:=y0e i x (stP a b x p) S
  have g3:(pbS i x (stP a b x p) S).1[i]?=some p:=by rw[ht,List.getElem?_append_left (List.getElem?_eq_some_iff.1 h3).1];exact h3
  have hg:gi (S.1.map (enP b.2.1)) (i:Int)=some (enP b.2.1 p):=Z3 (by rw[List.getElem?_map,h3];rfl)
  rw[F5.eq_2,if_pos (by simp only[decide_eq_true_eq];omega)]
  simp only[hg,oB,D0 (show b.2.1≠0 by omega),Z3 hx,d1,d2]
  rw[w64 (by omega) (by omega),hdr,pbI]
  have e0:stP a b x p=(bif decide (S0 a p.1 x<0) || decide (S0 b p.2 x<0)then none else some (S0 a p.1 x,S0 b p.2 x)):=rfl
  have na':=i01 qa p.1 x
  have nb':=i01 qb p.2 x
  have e5:(a.1,a.2.1,a.2.2)=a:=rfl
  have e6:(b.1,b.2.1,b.2.2)=b:=rfl
  simp only[e5,e6]
  rw[ea,oB,D0 ia,oB,eb,oB,D0 ib,oB,U2 hk (by omega)]
  have hc:(bif decide (S0 a p.1 x ≥ 0)then decide (S0 b p.2 x ≥ 0)else false) = !(decide (S0 a p.1 x<0) || decide (S0 b p.2 x<0)):=by
   have q1:decide (S0 a p.1 x ≥ 0) = !decide (S0 a p.1 x<0):=by rw[←decide_not,decide_eq_decide];omega
   have q2:decide (S0 b p.2 x ≥ 0) = !decide (S0 b p.2 x<0):=by rw[←decide_not,decide_eq_decide];omega
   rw[q1,q2]
   cases decide (S0 a p.1 x<0)<;>cases decide (S0 b p.2 x<0)<;>rfl
  rw[hc]
  cases c:decide (S0 a p.1 x<0) || decide (S0 b p.2 x<0)with
  |true =>
   rw[c,cond_true]at e0
   rw[e0]
   rw[show(!true)=false from rfl,Q2,oB,if_neg (by simp)]
   exact ih S seen h1 h2 h3 h4
  |false =>
   rw[c,cond_false]at e0
   simp only[Bool.or_eq_false_iff,decide_eq_false_iff_not]at c
   rw[e0]at g1 g2 g3 ⊢
   have hq1:0<=S0 a p.1 x/\S0 a p.1 x<a.2.1:=by omega
   have hq2:0<=S0 b p.2 x/\S0 b p.2 x<b.2.1:=by omega
   generalize S0 a p.1 x=s at *
   generalize S0 b p.2 x=r at *
   have hr:=r06 (p:=(s,r)) hq1 hq2
   have h40:a.2.1*b.2.1<=40*40:=Int.mul_le_mul na.2 nb.2 (by omega) (by omega)
   have hs0:0<=s*b.2.1:=Int.mul_nonneg hq1.1 (by omega)
   have hen:enP b.2.1 (s,r)=s*b.2.1+r:=rfl
   have hw:IntKind.i64.wrap (IntKind.i64.wrap (s*b.2.1)+r)=enP b.2.1 (s,r):=by
    rw[w64 (x:=s*b.2.1) (by omega) (by omega),w64 (by omega) (by omega)];rfl
   rw[hw]
   have hz:((enP b.2.1 (s,r)).toNat:Int)=enP b.2.1 (s,r):=by omega
   have hN:((a.2.1*b.2.1).toNat:Int)=a.2.1*b.2.1:=by omega
   have hg2:gi seen (enP b.2.1 (s,r))=some (decide ((s,r)∈S.1)):=by
    unfold gi
    rw[if_pos hr.1,h4.2 _ (by omega),hz]
    simp only[C0n h1 (q:=(s,r)) hq2]
   rw[show(!false)=true from rfl,E2,hg2,oB]
   cases e:lkP (s,r) S.1 0 with
   |none =>
    have hno:=n08.1 e
    rw[p08 e]at g1 g2 g3 ⊢
    have hs':=u0d h4 hr.1 (by omega)
    obtain⟨seen',k1,k2⟩:=ih (S.1 ++ [(s,r)],_) _ g1 g2 g3 hs'
    rw[if_pos (by simp[hno]),oB,D0 (by simp;omega),oB]
    refine⟨seen',?_,k2⟩
    rw[←k1]
    simp only[List.map_append,List.map_cons,List.map_nil]
   |some k' =>
    have hin:(s,r)∈S.1:=List.mem_of_getElem? (p06 e)
    rw[o08 e]at g1 g2 g3 ⊢
    rw[if_neg (by simp[hin])]
    exact ih (S.1,bif decide (0<x)then S.2 ++ [((i:Int),x,(k':Int))]else S.2) seen h1 h2 h3 h4
theorem k0m{a b:j0}(ha:M0 a=true)(hb:M0 b=true)(ls:List Int)(hls:∀ x∈ls,C9 x)(hl:ls.length<=1000):∀(d i fuel:Nat) (S:PSt) (seen:List Bool),i+d=1601->d<fuel->b05 a b S.1->S.1.Nodup->i<=S.1.length->W0b b.2.1 (a.2.1*b.2.1).toNat seen S.1 ->
  ∃ seen',j7 ls b.2.1 a.1 a.2.1 a.2.2 b.1 b.2.2 fuel (i:Int) seen (S.1.map (enP b.2.1))=some (seen',(pbO a b ls d i S).1.map (enP b.2.1))
 |d,i,0,S,seen,hd,hf,h1,h2,h3,h4=>by omega
 |0,i,fuel+1,S,seen,hd,hf,h1,h2,h3,h4=>by
  obtain⟨qa,ra,na,la⟩:=V0 (I1 ha)
  obtain⟨qb,rb,nb,lb⟩:=V0 (I1 hb)
  have:=c05 na nb h1 h2
  omega
 |d+1,i,fuel+1,S,seen,hd,hf,h1,h2,h3,h4=>by
  obtain⟨qa,ra,na,la⟩:=V0 (I1 ha)
  obtain⟨qb,rb,nb,lb⟩:=V0 (I1 hb)
  have hlen:=c05 na nb h1 h2
  rw[j7.eq_2,oB,List.length_map,D0 (by omega),oB]
  cases e:S.1[i]? with
  |none =>
   have:=List.getElem?_eq_none_iff.1 e
   rw[if_neg (by simp only[decide_eq_true_eq];omega)]
   simp only[pbO,e]
   exact⟨seen,rfl⟩
  |some p =>
   have hlt:=(List.getElem?_eq_some_iff.1 e).1
   obtain⟨g1,g2⟩:=z0e qa qb i p ls S h1 h2
   obtain⟨t1,ht1⟩:=q06 a b i p ls S
   obtain⟨seen1,k1,k2⟩:=j0m ha hb ls hls hl i p ls.length 0 U0 S seen (by omega) (P1 (by omega)) h1 h2 e h4
   rw[List.drop_zero,show((0:Nat):Int)=0 from rfl]at k1
   rw[List.drop_zero]at k2
   obtain⟨seen2,k3⟩:=k0m ha hb ls hls hl d (i+1) fuel (pbI a b i p ls S) seen1 (by omega) (by omega) g1 g2 (by rw[ht1];simp;omega) k2
   rw[if_pos (by simp only[decide_eq_true_eq];omega),k1,oB]
   simp only
   rw[U2 (show i<2000 by omega) (by omega),k3]
   simp only[pbO,e]
   exact⟨seen2,rfl⟩
theorem E0h{a b:j0}(ha:M0 a=true)(hb:M0 b=true)(hr:a.1=b.1){u v:Int}(hu:0<=u/\u<a.2.1)(hv:0<=v/\v<b.2.1):
  c9 a b u v=some ((pbO a b (K4 a.1.toNat 1) 1601 0 ([(u,v)],[])).1.map (enP b.2.1)):=by
 obtain⟨qa,ra,na,la⟩:=V0 (I1 ha)
 obtain⟨qb,rb,nb,lb⟩:=V0 (I1 hb)
 obtain⟨R,hR⟩:∃ R:Nat,a.1=(R:Int):=⟨a.1.toNat,by omega⟩
 have hRt:a.1.toNat=R:=by omega
 have h0:b05 a b [(u,v)]:=λq hq=>by simp at hq;subst hq;exact⟨hu,hv⟩
 have hz:=r06 (p:=(u,v)) hu hv
 have h40:a.2.1*b.2.1<=40*40:=Int.mul_le_mul na.2 nb.2 (by omega) (by omega)
 have hen:enP b.2.1 (u,v)=u*b.2.1+v:=rfl
 have hs0:0<=u*b.2.1:=Int.mul_nonneg hu.1 (by omega)
 have hz2:((enP b.2.1 (u,v)).toNat:Int)=enP b.2.1 (u,v):=by omega
 have hN:((a.2.1*b.2.1).toNat:Int)=a.2.1*b.2.1:=by omega
 have hseen:W0b b.2.1 (a.2.1*b.2.1).toNat ((List.replicate (a.2.1*b.2.1).toNat false).set (enP b.2.1 (u,v)).toNat true) [(u,v)]:=by
  have:W0b b.2.1 (a.2.1*b.2.1).toNat (List.replicate (a.2.1*b.2.1).toNat false) []:=⟨by simp,λj hj=>by rw[List.getElem?_replicate,if_pos hj];simp⟩
  have:=u0d this (q:=(u,v)) hz.1 (by omega)
  simpa using this
 obtain⟨seen',h⟩:=k0m ha hb (K4 R 1) (k0j (by omega)) (by rw[b01];omega) 1601 0 U0 ([(u,v)],[]) _ (by omega) (P1 (by omega)) h0 (by simp) (by simp) hseen
 rw[show((0:Nat):Int)=0 from rfl]at h
 rw[hRt]
 have hw:IntKind.i64.wrap (IntKind.i64.wrap (u*b.2.1)+v)=enP b.2.1 (u,v):=by
  rw[w64 (x:=u*b.2.1) (by omega) (by omega),w64 (by omega) (by omega)];rfl
 have hw2:IntKind.i64.wrap (a.2.1*b.2.1)=a.2.1*b.2.1:=w64 (by omega) (by omega)
 have hg:gi (List.replicate (a.2.1*b.2.1).toNat (false:Bool)) (enP b.2.1 (u,v))=some false:=by
  unfold gi
  rw[if_pos hz.1,List.getElem?_replicate,if_pos (by omega)]
 have hL:M7 (if b.1<a.1 then b.1 else a.1)=some (K4 R 1):=by
  rw[if_neg (by omega),hR];exact M0l R (by omega)
 obtain⟨a0,a1,a2⟩:=a
 obtain⟨b0,b1,b2⟩:=b
 unfold c9
 simp only at *
 rw[hw,hw2,D0 ⟨by omega,by omega,by omega,by omega⟩,oB,show gi [enP b1 (u,v)] 0=some (enP b1 (u,v)) from o0b rfl,oB,hg,oB,hL,oB]
 simp only[List.map_cons,List.map_nil]at h
 rw[h];rfl
theorem D0n{α:Type}{l:List α}(h:l.Nodup){i j:Nat}{x:α}(hi:l[i]?=some x)(hj:l[j]?=some x):i=j:=by
 obtain⟨i1,i2⟩:=List.getElem?_eq_some_iff.1 hi
 obtain⟨j1,j2⟩:=List.getElem?_eq_some_iff.1 hj
 rcases Nat.lt_trichotomy i j with c|c|c
 ·exact absurd (i2.trans j2.symm) (List.pairwise_iff_getElem.1 h i j i1 j1 c)
 ·exact c
 ·exact absurd (j2.trans i2.symm) (List.pairwise_iff_getElem.1 h j i j1 i1 c)
theorem l0j{a b:j0}{ps:Prs}{i:Nat}{p:Int×Int}(d x:Nat)(hx:1<=x):eL a b ps i p (K4 (d+1) x)=(match stP a b (x:Int) p with
  |some q=>[((i:Int),(x:Int),lkZ q ps)]
  |none=>[])++eL a b ps i p (K4 d (x+1)):=by
 have h1:decide (0<(x:Int))=true:=decide_eq_true (by omega)
 have h2:decide (0 < -(x:Int))=false:=decide_eq_false (by omega)
 rw[K4,eL,eL,h1,h2]
 cases stP a b (x:Int) p<;>cases stP a b (-(x:Int)) p<;>simp
theorem y0g{a b:j0}{x:Int}{p:Int×Int}:(stP a b x p=none/\(bif decide (S0 a p.1 x ≥ 0)then decide (S0 b p.2 x ≥ 0)else false)=false) ∨
  (stP a b x p=some (S0 a p.1 x,S0 b p.2 x)/\0<=S0 a p.1 x/\0<=S0 b p.2 x):=by
 unfold stP
 cases c:decide (S0 a p.1 x<0) || decide (S0 b p.2 x<0)with
 |true =>
  refine .inl ⟨rfl,?_⟩
  simp only[Bool.or_eq_true,decide_eq_true_eq]at c
  by_cases c1:S0 a p.1 x<0
  ·rw[decide_eq_false (by omega)];rfl
  ·rw[decide_eq_true (by omega),cond_true,decide_eq_false (by omega)]
 |false =>
  simp only[Bool.or_eq_false_iff,decide_eq_false_iff_not]at c
  exact .inr ⟨rfl,by omega,by omega⟩
theorem l0m{a b:j0}(ha:M0 a=true)(hb:M0 b=true)(hr:a.1=b.1)(ps:Prs)(h1:b05 a b ps)(i:Nat)(p:Int×Int)(hp:ps[i]?=some p)(qs:Prs):∀(d x fuel c:Nat),x+d=a.1.toNat+1->1<=x->d<fuel->c+d<=1000000 ->
  G5 b.1 a.1 (ps.map (enP b.2.1)) (i:Int) b.2.1 a.2.1 a.2.2 b.2.2 fuel (c:Int) (x:Int)=some (((c+(eL a b qs i p (K4 d x)).length:Nat):Int))
 |d,x,0,c,hd,hx,hf,hc=>by omega
 |0,x,fuel+1,c,hd,hx,hf,hc=>by
  obtain⟨qa,ra,na,la⟩:=V0 (I1 ha)
  rw[G5.eq_2,if_neg (by rw[if_neg (show ¬ b.1<a.1 by omega)];simp only[decide_eq_true_eq];omega)]
  simp[K4,eL]
 |d+1,x,fuel+1,c,hd,hx,hf,hc=>by
  obtain⟨qa,ra,na,la⟩:=V0 (I1 ha)
  obtain⟨qb,rb,nb,lb⟩:=V0 (I1 hb)
  have hm:C9 (x:Int):=⟨⟨by omega,by omega⟩,by omega⟩
  have ih:=λc'=>l0m ha hb hr ps h1 i p hp qs d (x+1) fuel c' (by omega) (by omega) (by omega)
  have ea:=m01 a p.1 (x:Int) hm (by omega)
  have eb:=m01 b p.2 (x:Int) hm (by omega)
  have ia:=g02 qa (by omega) p.1 (x:Int)
  have ib:=g02 qb (by omega) p.2 (x:Int)
  have hpi:=h1 p (List.mem_of_getElem? hp)
  obtain⟨d1,d2⟩:=B0e (m:=b.2.1) hpi.1.1 hpi.2
  have hg:gi (ps.map (enP b.2.1)) (i:Int)=some (enP b.2.1 p):=Z3 (by rw[List.getElem?_map,hp];rfl)
  have e5:(a.1,a.2.1,a.2.2)=a:=rfl
  have e6:(b.1,b.2.1,b.2.2)=b:=rfl
  rw[G5.eq_2,if_pos (by rw[if_neg (show ¬ b.1<a.1 by omega)];simp only[decide_eq_true_eq];omega)]
  simp only[hg,oB,D0 (show b.2.1≠0 by omega),d1,e5,e6]
  rw[w64 (by omega) (by omega),ea,oB,D0 ia,oB,U2 (show x<2000 by omega) (by omega),l0j d x hx]
  rcases y0g (a:=a) (b:=b) (x:=(x:Int)) (p:=p)with⟨k1,k2⟩|⟨k1,k2,k3⟩
  ·rw[k1]
   cases hA:decide (S0 a p.1 (x:Int) ≥ 0)with
   |false =>
    simp only[Q2,oB]
    rw[D0 (show O0 0 from⟨by omega,by omega⟩),oB,if_neg (by simp),ih c (by omega)]
    simp
   |true =>
    rw[hA,cond_true]at k2
    simp only[E2,oB,d2]
    rw[eb,oB,D0 ib,oB,k2,if_neg (by simp),ih c (by omega)]
    simp
  ·rw[k1,decide_eq_true k2]
   simp only[E2,oB,d2]
   rw[eb,oB,D0 ib,oB,decide_eq_true k3,if_pos (show(bif true then true else false)=true from rfl),U2 (show c<2000000 by omega) (by omega),ih (c+1) (by omega)]
   simp only[List.length_append,List.length_cons,List.length_nil]
   congr 2
   omega
theorem m0m{a b:j0}(ha:M0 a=true)(hb:M0 b=true)(hr:a.1=b.1)(ps:Prs)(h1:b05 a b ps)(hl:ps.length<=1600):∀(d i fuel c:Nat),i+d=ps.length->d<fuel->c+10*d<=100000 ->
  o6 (ps.map (enP b.2.1)) b.1 a.1 b.2.1 a.2.1 a.2.2 b.2.2 fuel (c:Int) (i:Int)=some (((c+(eB a b (K4 a.1.toNat 1) ps (ps.drop i) i).length:Nat):Int))
 |d,i,0,c,hd,hf,hc=>by omega
 |0,i,fuel+1,c,hd,hf,hc=>by
  rw[o6.eq_2,if_neg (by simp only[decide_eq_true_eq,List.length_map];omega),O2 (by omega)]
  simp[eB]
 |d+1,i,fuel+1,c,hd,hf,hc=>by
  obtain⟨qa,ra,na,la⟩:=V0 (I1 ha)
  have hk:i<ps.length:=by omega
  have hx:=l7 hk
  have hdr:=V2 hx
  generalize ps[i]=p at hx hdr
  have h0:=l0m ha hb hr ps h1 i p hx ps a.1.toNat 1 U0 c (by omega) (by omega) (P1 (by omega)) (by omega)
  have hel:=U0b (a:=a) (b:=b) (ps:=ps) (i:=i) (p:=p) (K4 a.1.toNat 1)
  rw[b01]at hel
  rw[o6.eq_2,if_pos (by simp only[decide_eq_true_eq,List.length_map];omega),show(1:Int)=((1:Nat):Int) from rfl,h0,oB,hdr,eB,show((1:Nat):Int)=1 from rfl,U2 (show i<2000 by omega) (by omega),m0m ha hb hr ps h1 hl d (i+1) fuel _ (by omega) (by omega) (by omega),List.length_append]
  congr 2
  omega
theorem n0m(m:Int)(ps:Prs)(hl:ps.length<=1600)(s r:Int)(i x u v:Int)(hinj:∀ p∈ps,enP m p=enP m (s,r)->p=(s,r))(hw:IntKind.i64.wrap (IntKind.i64.wrap (s*m)+r)=enP m (s,r))(hs:0<=s)(hr:0<=r)(hd':ps.Nodup){k0:Nat}(hk0:lkP (s,r) ps 0=some k0):
  ∀(d k fuel:Nat) (es:List H0),k+d=ps.length->d<fuel->es.length+d<=1000000->Y3 (ps.map (enP m)) s r m i x fuel (k:Int) u v es=some (u,v,if k<=k0 then N00 P0 (i,x,(k0:Int)) es else es)
 |d,k,0,es,hd,hf,he=>by omega
 |0,k,fuel+1,es,hd,hf,he=>by
  have:=(List.getElem?_eq_some_iff.1 (p06 hk0)).1
  rw[Y3.eq_2,if_neg (by simp only[List.length_map];rw[decide_eq_false (by omega)];simp),if_neg (by omega)]
 |d+1,k,fuel+1,es,hd,hf,he=>by
  have hk:k<ps.length:=by omega
  have hx:=l7 hk
  have hg:gi (ps.map (enP m)) (k:Int)=some (enP m ps[k]):=Z3 (by rw[List.getElem?_map,hx];rfl)
  have hg0:=p06 hk0
  have ih:=λes' h=>n0m m ps hl s r i x u v hinj hw hs hr hd' hk0 d (k+1) fuel es' (by omega) (by omega) h
  rw[Y3.eq_2,if_pos (by simp only[List.length_map];rw[decide_eq_true (show((k:Nat):Int)<((ps.length:Nat):Int) by omega),decide_eq_true (show s ≥ 0 by omega),decide_eq_true (show r ≥ 0 by omega)];rfl),hg,oB,hw,U2 hk (by omega)]
  by_cases c:ps[k]=(s,r)
  ·have hkk:k=k0:=by
    rw[c]at hx
    exact D0n hd' hx hg0
   subst hkk
   have:=Y01 (i,x,(k:Int)) es
   rw[if_pos (by simp[c]),q0a _ _ (by omega),oB,ih _ (by omega),if_neg (by omega),if_pos (Nat.le_refl _)]
  ·have hne:k≠k0:=λe=>by
    subst e
    rw[hx]at hg0
    exact c (oJ hg0)
   rw[if_neg (by simp only[decide_eq_true_eq];exact λe=>c (hinj _ (List.getElem_mem _) e)),ih _ (by omega)]
   by_cases c2:k<=k0
   ·rw[if_pos (by omega),if_pos c2]
   ·rw[if_neg (by omega),if_neg c2]
theorem X0b{α:Type}(cf:α->α->Int):∀(a b l:List α),a6 cf l (a++b)=a6 cf (a6 cf l a) b
 | [],b,l=>rfl
 |x::a,b,l=>X0b cf a b (N00 cf x l)
theorem o0m{a b:j0}(ha:M0 a=true)(hb:M0 b=true)(hr:a.1=b.1)(ps:Prs)(h1:b05 a b ps)(h2:ps.Nodup)(hl:ps.length<=1600)(i:Nat)(p:Int×Int)(hp:ps[i]?=some p)(u v:Int)
  (hcl:∀ x∈K4 a.1.toNat 1,∀ q,stP a b x p=some q->q∈ps):∀(d x fuel:Nat) (es:List H0),x+d=a.1.toNat+1->1<=x->d<fuel->es.length+d<=900000 ->
  C5 a.1 (ps.map (enP b.2.1)) (i:Int) b.2.1 a.2.1 a.2.2 b.1 b.2.2 fuel (x:Int) u v es=some (u,v,a6 P0 es (eL a b ps i p (K4 d x)))
 |d,x,0,es,hd,hx,hf,he=>by omega
 |0,x,fuel+1,es,hd,hx,hf,he=>by
  obtain⟨qa,ra,na,la⟩:=V0 (I1 ha)
  rw[C5.eq_2,if_neg (by simp only[decide_eq_true_eq];omega)]
  simp[K4,eL,a6]
 |d+1,x,fuel+1,es,hd,hx,hf,he=>by
  obtain⟨qa,ra,na,la⟩:=V0 (I1 ha)
  obtain⟨qb,rb,nb,lb⟩:=V0 (I1 hb)
  have hm:C9 (x:Int):=⟨⟨by omega,by omega⟩,by omega⟩
  have ih:=λes' h=>o0m ha hb hr ps h1 h2 hl i p hp u v hcl d (x+1) fuel es' (by omega) (by omega) (by omega) h
  have ea:=m01 a p.1 (x:Int) hm (by omega)
  have eb:=m01 b p.2 (x:Int) hm (by omega)
  have ia:=g02 qa (by omega) p.1 (x:Int)
  have ib:=g02 qb (by omega) p.2 (x:Int)
  have hpi:=h1 p (List.mem_of_getElem? hp)
  obtain⟨d1,d2⟩:=B0e (m:=b.2.1) hpi.1.1 hpi.2
  have hg:gi (ps.map (enP b.2.1)) (i:Int)=some (enP b.2.1 p):=Z3 (by rw[List.getElem?_map,hp];rfl)
  have e5:(a.1,a.2.1,a.2.2)=a:=rfl
  have e6:(b.1,b.2.1,b.2.2)=b:=rfl
  have na':=i01 qa p.1 (x:Int)
  have nb':=i01 qb p.2 (x:Int)
  rw[C5.eq_2,if_pos (by simp only[decide_eq_true_eq];omega)]
  simp only[hg,oB,D0 (show b.2.1≠0 by omega),d1,d2,e5,e6]
  rw[w64 (by omega) (by omega),ea,oB,D0 ia,oB,eb,oB,D0 ib,oB,U2 (show x<2000 by omega) (by omega),l0j d x hx]
  rcases y0g (a:=a) (b:=b) (x:=(x:Int)) (p:=p)with⟨k1,k2⟩|⟨k1,k2,k3⟩
  ·rw[k1]
   have hF:U0=(U0-1)+1:=by unfold U0;omega
   rw[hF,Y3.eq_2,if_neg (by
    rw[Bool.not_eq_true]
    generalize decide ((0:Int)<_)=z
    cases z
    ·rfl
    ·rw[cond_true];exact k2),oB]
   simp only
   rw[ih es (by omega)]
   rfl
  ·rw[k1]
   generalize S0 a p.1 (x:Int)=s at *
   generalize S0 b p.2 (x:Int)=r at *
   have hq1:0<=s/\s<a.2.1:=by omega
   have hq2:0<=r/\r<b.2.1:=by omega
   have hrr:=r06 (p:=(s,r)) hq1 hq2
   have h40:a.2.1*b.2.1<=40*40:=Int.mul_le_mul na.2 nb.2 (by omega) (by omega)
   have hs0:0<=s*b.2.1:=Int.mul_nonneg hq1.1 (by omega)
   have hen:enP b.2.1 (s,r)=s*b.2.1+r:=rfl
   have hw:IntKind.i64.wrap (IntKind.i64.wrap (s*b.2.1)+r)=enP b.2.1 (s,r):=by
    rw[w64 (x:=s*b.2.1) (by omega) (by omega),w64 (by omega) (by omega)];rfl
   have hin:(s,r)∈ps:=hcl (x:Int) (w0g a.1.toNat 1 x hx (by omega)).1 _ k1
   obtain⟨k0,hk0⟩:=x0e hin
   have h0:=n0m b.2.1 ps hl s r (i:Int) (x:Int) u v (λp' hp' e=>A0e (h1 p' hp').2 hq2 e) hw k2 k3 h2 hk0 ps.length 0 U0 es (by omega) (P1 (by omega)) (by omega)
   rw[if_pos (Nat.zero_le _),show((0:Nat):Int)=0 from rfl]at h0
   have hpl:=Y01 ((i:Int),(x:Int),(k0:Int)) es
   rw[h0,oB]
   simp only
   rw[ih _ (by omega)]
   have ez:lkZ (s,r) ps=(k0:Int):=by unfold lkZ;rw[hk0]
   rw[ez]
   rfl
theorem p0m{a b:j0}(ha:M0 a=true)(hb:M0 b=true)(hr:a.1=b.1)(ps:Prs)(h1:b05 a b ps)(h2:ps.Nodup)(hl:ps.length<=1600)(u v:Int)
  (hcl:∀(j:Nat) (p:Int×Int),ps[j]?=some p->∀ x∈K4 a.1.toNat 1,∀ q,stP a b x p=some q->q∈ps):∀(d i fuel:Nat) (es:List H0),i+d=ps.length->d<fuel->es.length+10*d<=800000 ->
  Q4 (ps.map (enP b.2.1)) a.1 b.2.1 a.2.1 a.2.2 b.1 b.2.2 fuel (i:Int) u v es=some (u,v,a6 P0 es (eB a b (K4 a.1.toNat 1) ps (ps.drop i) i))
 |d,i,0,es,hd,hf,he=>by omega
 |0,i,fuel+1,es,hd,hf,he=>by
  rw[Q4.eq_2,if_neg (by simp only[decide_eq_true_eq,List.length_map];omega),O2 (by omega)]
  rfl
 |d+1,i,fuel+1,es,hd,hf,he=>by
  obtain⟨qa,ra,na,la⟩:=V0 (I1 ha)
  have hk:i<ps.length:=by omega
  have hx:=l7 hk
  have hdr:=V2 hx
  generalize ps[i]=p at hx hdr
  have h0:=o0m ha hb hr ps h1 h2 hl i p hx u v (hcl i p hx) a.1.toNat 1 U0 es (by omega) (by omega) (P1 (by omega)) (by omega)
  have hel:=U0b (a:=a) (b:=b) (ps:=ps) (i:=i) (p:=p) (K4 a.1.toNat 1)
  have hpl:=F03 (eL a b ps i p (K4 a.1.toNat 1)) es
  rw[b01]at hel
  rw[Q4.eq_2,if_pos (by simp only[decide_eq_true_eq,List.length_map];omega),show(1:Int)=((1:Nat):Int) from rfl,h0,oB,hdr,eB,X0b]
  simp only
  rw[show((1:Nat):Int)=1 from rfl,U2 (show i<2000 by omega) (by omega),p0m ha hb hr ps h1 h2 hl u v hcl d (i+1) fuel _ (by omega) (by omega) (by omega)]
theorem z0g{a b:j0}(ha:M0 a=true)(hb:M0 b=true){u v:Int}(hu:inR 0 (a.2.1-1) u=true)(hv:inR 0 (b.2.1-1) v=true)(ls:List Int):
  ∃ ps:Prs,(pbO a b ls 1601 0 ([(u,v)],[]))=(ps,eB a b ls ps ps 0)/\b05 a b ps/\ps.Nodup/\1<=ps.length/\ps.length<=1600/\∀(j:Nat) (p:Int×Int),ps[j]?=some p->∀ x∈ls,∀ q,stP a b x p=some q->q∈ps:=by
 obtain⟨qa,ra,na,la⟩:=V0 (I1 ha)
 obtain⟨qb,rb,nb,lb⟩:=V0 (I1 hb)
 obtain⟨t,k1,k2,k3,k4,k5⟩:=C0e qa qb na nb ls 1601 0 ([(u,v)],[]) (V0b hu hv) (by simp) (by simp) (by omega)
 refine⟨[(u,v)]++t,Prod.ext k1 (by rw[k4];simp),k2,k3,by simp,c05 na nb k2 k3,λj p hp=>k5 j p (Nat.zero_le _) hp⟩
theorem q0m{a b:j0}(la:a.2.2.length<=140737488355328)(lb:b.2.2.length<=140737488355328)(u v:Int):h9 a b u v=some (q08 a b u v):=by
 have f1:=I01 a la
 have f2:=I01 b lb
 unfold q08
 have main:M0 a=true->M0 b=true->a.1=b.1->inR 0 (a.2.1-1) u=true->inR 0 (b.2.1-1) v=true->∃ ps:Prs,c9 a b u v=some (ps.map (enP b.2.1)) /\
   (pbO a b (K4 a.1.toNat 1) 1601 0 ([(u,v)],[]))=(ps,eB a b (K4 a.1.toNat 1) ps ps 0)/\ps.length<=1600/\V9 a b (ps.map (enP b.2.1))=some (((eB a b (K4 a.1.toNat 1) ps ps 0).length:Nat):Int)/\(eB a b (K4 a.1.toNat 1) ps ps 0).length<=1600000 /\
   Q4 (ps.map (enP b.2.1)) a.1 b.2.1 a.2.1 a.2.2 b.1 b.2.2 U0 0 a.1 (((ps.map (enP b.2.1)).length:Nat):Int) []=some (a.1,((ps.length:Nat):Int),a6 P0 [] (eB a b (K4 a.1.toNat 1) ps ps 0)):=λh1 h2 h3 h4 h5=>by
  obtain⟨ps,k1,k2,k3,_,k4,k5⟩:=z0g h1 h2 h4 h5 (K4 a.1.toNat 1)
  obtain⟨qa,ra,na,la⟩:=V0 (I1 h1)
  have e1:=E0h h1 h2 h3 (d0m h4) (d0m h5)
  rw[k1]at e1
  have e2:=m0m h1 h2 h3 ps k2 k4 ps.length 0 U0 0 (by omega) (P1 (by omega)) (by omega)
  have e3:=p0m h1 h2 h3 ps k2 k3 k4 a.1 ((ps.length:Nat):Int) k5 ps.length 0 U0 [] (by omega) (P1 (by omega)) (by simp;omega)
  rw[List.drop_zero]at e2 e3
  have e4:=D0h (a:=a) (b:=b) (ls:=K4 a.1.toNat 1) (ps:=ps) ps 0
  have e5:(K4 a.1.toNat 1).length<=1000:=by rw[b01];omega
  refine⟨ps,e1,k1,k4,?_,Nat.le_trans e4 (Nat.mul_le_mul k4 e5),?_⟩
  ·unfold V9
   simp only[Int.natCast_zero,Nat.zero_add]at e2
   simp only[e2,oB]
  ·rw[List.length_map];exact e3
 obtain⟨a0,a1,a2⟩:=a
 obtain⟨b0,b1,b2⟩:=b
 unfold h9
 simp only at f1 f2 main ⊢
 rw[f1,oB]
 cases h1:M0 (a0,a1,a2)with
 |false=>simp[chk]
 |true =>
  have ga:=(V0 (I1 h1)).2.2.1
  simp only at ga
  rw[show(!!true)=true from rfl,E2,f2,oB]
  cases h2:M0 (b0,b1,b2)with
  |false=>simp[chk]
  |true =>
   have gb:=(V0 (I1 h2)).2.2.1
   simp only at gb
   by_cases h3:a0=b0
   ·rw[show(!(bif(bif(!true)then true else(!true))then true else(!decide (a0=b0))))=true by simp[h3],E2,P03,w64 (x:=a1-1) (by omega) (by omega),oB]
    cases h4:inR 0 (a1-1) u with
    |false=>simp[chk]
    |true =>
     rw[show(!(bif(bif(bif(!true)then true else(!true))then true else(!decide (a0=b0)))then true else(!true)))=true by simp[h3],E2,P03,w64 (x:=b1-1) (by omega) (by omega),oB]
     cases h5:inR 0 (b1-1) v with
     |false=>simp
     |true =>
      obtain⟨ps,g1,g2,g3,g4,g5,g6⟩:=main h1 h2 h3 h4 h5
      rw[if_neg (by simp[h3]),g1,oB,g4,oB,D0 ⟨by omega,by omega⟩,oB,g2]
      simp only[List.length_map]at g6 ⊢
      generalize eB (a0,a1,a2) (b0,b1,b2) (K4 a0.toNat 1) ps ps 0=es at *
      have e1:decide (((ps.length:Nat):Int)>40)=decide (40<ps.length):=by rw[decide_eq_decide];omega
      have e2:decide (((es.length:Nat):Int)>120)=decide (120<es.length):=by rw[decide_eq_decide];omega
      rw[e1,e2]
      subst h3
      cases decide (40<ps.length)<;>cases decide (120<es.length)<;>simp[g6,h1,h2,h4,h5]
   ·simp[chk,h3]
structure D0e (g:j0) (p:Int) (t:Int->List Int):Prop where
 z:t p = []
 par:∀ y∈I8 g p,y≠p->∃ v∈I8 g p,∃ x,x∈K4 g.1.toNat 1/\S0 g v x=y/\t y=t v ++ [x]
 red:∀ y∈I8 g p,Red (t y).reverse=true
 len:∀ y,(t y).length<=40
theorem A0g{g:j0}(hf:M0 g=true){p:Int}(hp:0<=p/\p<g.2.1):gud g.2.1.toNat (I8 g p):=by
 rw[←a0m];exact(z0n hf hp).gd
theorem D0e.ind{g:j0}{p:Int}{t:Int->List Int}(h:D0e g p t)(P:Int->Prop)(h0:P p)(hs:∀ v∈I8 g p,∀ y∈I8 g p,∀ x,x∈K4 g.1.toNat 1->S0 g v x=y->t y=t v ++ [x]->P v->P y):∀(k:Nat) (y:Int),(t y).length<=k->y∈I8 g p->P y
 |k,y,hk,hy=>by
  by_cases c:y=p
  ·rw[c];exact h0
  ·obtain⟨v,hv,x,hx,e1,e2⟩:=h.par y hy c
   cases k with
   |zero=>rw[e2]at hk;simp at hk
   |succ k=>exact hs v hv y hy x hx e1 e2 (D0e.ind h P h0 hs k v (by rw[e2]at hk;simp at hk;omega) hv)
theorem D0e.induct{g:j0}{p:Int}{t:Int->List Int}(h:D0e g p t){P:Int->Prop}(h0:P p)(hs:∀ v∈I8 g p,∀ y∈I8 g p,∀ x,x∈K4 g.1.toNat 1->S0 g v x=y->t y=t v ++ [x]->P v->P y){y:Int}(hy:y∈I8 g p):P y:=h.ind P h0 hs _ y (Nat.le_refl _) hy
theorem E0n{g:j0}{v x y:Int}(h:S0 g v x=y)(h0:0<=y):rdw g v [x]=some y:=by
 unfold rdw
 rw[if_neg (by omega),h];rfl
theorem D0e.rd{g:j0}(hf:M0 g=true){p:Int}(hp:0<=p/\p<g.2.1){t:Int->List Int}(h:D0e g p t){y:Int}(hy:y∈I8 g p):rdw g p (t y)=some y:=by
 refine h.induct (P:=λy=>rdw g p (t y)=some y) ?_ (λv hv y hy x hx e1 e2 ih=>?_) hy
 ·rw[h.z];rfl
 ·rw[e2,f0j,ih,oB]
  exact E0n e1 ((A0g hf hp).2 y hy).1
theorem D0e.let{g:j0}{p:Int}{t:Int->List Int}(h:D0e g p t){y:Int}(hy:y∈I8 g p):∀ x∈t y,x∈K4 g.1.toNat 1:=by
 refine h.induct (P:=λy=>∀ x∈t y,x∈K4 g.1.toNat 1) ?_ (λv hv y hy x hx e1 e2 ih=>?_) hy
 ·rw[h.z];exact λx hx=>by cases hx
 ·rw[e2]
  intro z hz
  rcases List.mem_append.1 hz with hz|hz
  ·exact ih z hz
  ·simp at hz;rw[hz];exact hx
theorem I03(g:j0)(hl:g.2.2.length<=140737488355328):C3 g=some (E3 g):=by
 have:=a05 g hl
 obtain⟨a,b,c⟩:=g
 unfold C3
 show(p9 (a,b,c)).bind (λx1=>some x1)=_
 rw[this];rfl
def zG:j0:=(0,0,[])
def l3(x:Q0)(s:ByteArray):j0×Bool:=match S03 x s with
 |some i=>match x.2[i]? with
  |some e=>(e.2,true)
  |none=>(zG,false)
 |none=>(zG,false)
theorem r08(x:Q0)(s:ByteArray)(hl:B00 x.2):l00 x s=some (l3 x s):=by
 have h1:=hl.1
 have hf:=U0l x s (by omega)
 have hlt:=λi => @u0e x s i
 obtain⟨r,l⟩:=x
 unfold l00 l3
 simp only at h1 hlt
 simp only[hf,oB]
 cases hq:S03 (r,l) s with
 |none =>
  simp only[D0 (show O0 (-1) by decide),oB]
  rfl
 |some i =>
  have hi:=hlt i hq
  have hx:=l7 hi
  have hm:=hl.2 _ (List.mem_of_getElem? hx)
  generalize l[i]=e at hx hm
  obtain⟨nm,g0,g1,g2⟩:=e
  have e0:decide ((i:Int)<0)=false:=decide_eq_false (by omega)
  have hc:=S9 (g0,g1,g2) (by simp only at hm ⊢;omega)
  simp only[D0 (show O0 (i:Int) from c64 (by omega) (by omega)),oB,e0,Z3 hx,hc,hx]
  rfl
theorem m0j(l:K1)(s:ByteArray)(hl:B00 l):∀(d k fuel:Nat),k+d=l.length->d<fuel ->
  E7 l s fuel (k:Int)=some (match fnd s l d k with|some i=>(match l[i]? with|some e => .inl (e.2,true)|none => .inr ())|none => .inr ())
 |d,k,0,hd,hf=>by omega
 |0,k,fuel+1,hd,hf=>by
  rw[E7.eq_2,if_neg (by simp only[decide_eq_true_eq];omega)];rfl
 |d+1,k,fuel+1,hd,hf=>by
  have hk:k<l.length:=by omega
  have he:=l7 hk
  have hm:=hl.2 _ (List.mem_of_getElem? he)
  generalize l[k]=e at he hm
  obtain⟨nm,r2,n,es⟩:=e
  have ih:=m0j l s hl d (k+1) fuel (by omega) (by omega)
  have hc:=R9 (r2,n,es) (by simp only at hm ⊢;omega)
  have:=hl.1
  rw[E7.eq_2,if_pos (by simp only[decide_eq_true_eq];omega)]
  simp only[Z3 he,oB,U2 hk (show l.length<=9223372036854775807 by omega),ih,fnd,he,hc]
  cases O9 nm s
  ·rfl
  ·simp only[if_true,cond_true,he]
theorem s08(x:Q0)(s:ByteArray)(hl:B00 x.2):k00 x s=some (l3 x s):=by
 have h1:=hl.1
 obtain⟨r,l⟩:=x
 have h:=m0j l s hl l.length 0 U0 (by omega) (P1 (by simp only at h1;omega))
 rw[show((0:Nat):Int)=0 from rfl]at h
 unfold k00 l3 S03
 simp only[h,oB]
 cases fnd s l l.length 0 with
 |none=>rfl
 |some i =>
  simp only
  cases l[i]? with
  |none=>rfl
  |some e=>rfl
def d05(g:j0):j0:=h02 (o07 (E9 g).1)
theorem S09{g:j0}(hg:N0 g=true):G8 g=some (d05 g):=by
 obtain⟨h1,h2,h3,h4⟩:=V0 hg
 have e1:=o0c g (by omega)
 have hf:=m03 hg
 obtain⟨v,e2⟩:=A0h (I1 hf)
 have e3:=Q09 (o07 (E9 g).1) (J02 40 hf)
 unfold d05
 obtain⟨r,n,es⟩:=g
 unfold G8
 generalize E9 (r,n,es)=q at *
 obtain⟨⟨a,b,c⟩,l⟩:=q
 simp only[e1,oB]
 simp only at e2 e3
 generalize o07 (a,b,c)=q2 at *
 obtain⟨a2,b2,c2⟩:=q2
 simp only[e2,oB,e3]
theorem T09{g:j0}(hg:N0 g=true):H8 g=some (d05 g):=by
 obtain⟨h1,h2,h3,h4⟩:=V0 hg
 have e1:=p0c g (by omega)
 have hf:=m03 hg
 obtain⟨v,e2⟩:=v0g (I1 hf)
 have e3:=P09 (o07 (E9 g).1) (J02 40 hf)
 unfold d05
 obtain⟨r,n,es⟩:=g
 unfold H8
 generalize E9 (r,n,es)=q at *
 obtain⟨⟨a,b,c⟩,l⟩:=q
 simp only[e1,oB]
 simp only at e2 e3
 generalize o07 (a,b,c)=q2 at *
 obtain⟨a2,b2,c2⟩:=q2
 simp only[e2,oB,e3]
theorem r0m{a b:j0}{ps:Prs}{i:Nat}{p:Int×Int}{e:H0}:∀ {ls:List Int},e∈eL a b ps i p ls->∃ x∈ls,∃ q,0<x/\stP a b x p=some q/\e=((i:Int),x,lkZ q ps)
 | [],h=>by simp[eL]at h
 |x::r,h=>by
  rw[eL]at h
  rcases List.mem_append.1 h with h|h
  ·cases e2:stP a b x p with
   |none=>rw[e2]at h;simp at h
   |some q =>
    rw[e2]at h
    by_cases c:0<x
    ·simp only[c,decide_true,cond_true,List.mem_singleton]at h
     exact⟨x,mS,q,c,e2,h⟩
    ·simp only[c,decide_false,cond_false]at h
     cases h
  ·obtain⟨y,hy,q,h1,h2,h3⟩:=r0m h
   exact⟨y,mC _ hy,q,h1,h2,h3⟩
theorem s0m{a b:j0}{ls:List Int}{ps:Prs}{e:H0}:∀ {r:Prs} {i:Nat},e∈eB a b ls ps r i->∃ j p,r[j]?=some p/\∃ x∈ls,∃ q,0<x/\stP a b x p=some q/\e=(((i+j:Nat):Int),x,lkZ q ps)
 | [],i,h=>by simp[eB]at h
 |p::r,i,h=>by
  rw[eB]at h
  rcases List.mem_append.1 h with h|h
  ·obtain⟨x,hx,q,h1,h2,h3⟩:=r0m h
   exact⟨0,p,rfl,x,hx,q,h1,h2,h3⟩
  ·obtain⟨j,p',hp,x,hx,q,h1,h2,h3⟩:=s0m h
   exact⟨j+1,p',by simpa using hp,x,hx,q,h1,h2,by rw[h3];congr 1;omega⟩
theorem B0g:∀(d i:Nat) (x:Int),x∈K4 d i->1<=i->0<x->1<=x/\x<(i+d:Int)
 |0,i,x,h,hi,h0=>by simp[K4]at h
 |d+1,i,x,h,hi,h0=>by
  simp only[K4,List.mem_cons]at h
  rcases h with rfl|rfl|h
  ·omega
  ·omega
  ·have:=B0g d (i+1) x h (by omega) h0
   omega
theorem C0o{q:Int×Int}{ps:Prs}(h:q∈ps):0<=lkZ q ps/\lkZ q ps<(ps.length:Int):=by
 obtain⟨k,e⟩:=x0e h
 have:=(List.getElem?_eq_some_iff.1 (p06 e)).1
 unfold lkZ
 rw[e]
 exact⟨by simp,by simp only;omega⟩
theorem Y0b{a b:j0}{u v:Int}(h:(q08 a b u v).2=true):N0 (q08 a b u v).1=true:=by
 unfold q08 at h ⊢
 cases c:M0 a&&(M0 b&&(decide (a.1=b.1)&&(inR 0 (a.2.1-1) u&&inR 0 (b.2.1-1) v)))with
 |false=>rw[c]at h;cases h
 |true =>
  rw[c,cond_true]at h
  rw[cond_true]
  simp only[Bool.and_eq_true,decide_eq_true_eq]at c
  obtain⟨h1,h2,h3,h4,h5⟩:=c
  obtain⟨ps,k1,k2,k3,k0,k4,k5⟩:=z0g h1 h2 h4 h5 (K4 a.1.toNat 1)
  rw[k1]at h ⊢
  simp only at h ⊢
  cases c2:decide (40<ps.length) || decide (120<(eB a b (K4 a.1.toNat 1) ps ps 0).length)with
  |true=>rw[c2]at h;cases h
  |false =>
   rw[cond_false]
   simp only[Bool.or_eq_false_iff,decide_eq_false_iff_not]at c2
   have hr:=(V0 (I1 h1)).2.1
   refine I02 hr ⟨by omega,by omega⟩ (by omega) λe he=>?_
   obtain⟨j,p,hp,x,hx,q,q1,q2,rfl⟩:=s0m he
   have hj:=(List.getElem?_eq_some_iff.1 hp).1
   have hq:=C0o (k5 j p hp x hx q q2)
   have hx2:=B0g _ _ _ hx (Nat.le_refl _) q1
   simp only
   exact⟨by omega,hq,by omega,by omega⟩
theorem v0d{g:j0}(hg:N0 g=true):(d05 g).2.2.length<=120:=l09 (J02 40 (m03 hg))
def e05(a b:j0):j0×Bool:=bif E3 a&&(E3 b&&(q08 a b 0 0).2)then(d05 (q08 a b 0 0).1,true)else((0,0,[]),false)
theorem F0h{a b:j0}(la:a.2.2.length<=140737488355328)(lb:b.2.2.length<=140737488355328):J7 a b=some (e05 a b):=by
 have f1:=I03 a la
 have f2:=I03 b lb
 have f3:=q0m la lb 0 0
 have f4:(q08 a b 0 0).2=true->_:=λh=>S09 (Y0b h)
 unfold e05
 obtain⟨a0,a1,a2⟩:=a
 obtain⟨b0,b1,b2⟩:=b
 unfold J7
 simp only[f1,f2,f3,oB]
 generalize q08 (a0,a1,a2) (b0,b1,b2) 0 0=r at *
 obtain⟨⟨r0,r1,r2⟩,t⟩:=r
 cases h1:E3 (a0,a1,a2)
 ·simp[chk]
 ·cases h2:E3 (b0,b1,b2)
  ·simp[chk]
  ·cases t
   ·simp[chk]
   ·simp only at f4
    simp[chk,f4]
theorem G0h{a b:j0}(la:a.2.2.length<=140737488355328)(lb:b.2.2.length<=140737488355328):K7 a b=some (e05 a b):=by
 have f1:=O00 a la
 have f2:=O00 b lb
 have f3:=i0m la lb 0 0
 have f4:(q08 a b 0 0).2=true->_:=λh=>T09 (Y0b h)
 unfold e05
 obtain⟨a0,a1,a2⟩:=a
 obtain⟨b0,b1,b2⟩:=b
 unfold K7
 simp only[f1,f2,f3,oB]
 generalize q08 (a0,a1,a2) (b0,b1,b2) 0 0=r at *
 obtain⟨⟨r0,r1,r2⟩,t⟩:=r
 cases h1:E3 (a0,a1,a2)
 ·simp[chk]
 ·cases h2:E3 (b0,b1,b2)
  ·simp[chk]
  ·cases t
   ·simp[chk]
   ·simp only at f4
    simp[chk,f4]
theorem t0m{a b:j0}:(e05 a b).1.2.2.length<=120:=by
 unfold e05
 cases c:E3 a&&(E3 b&&(q08 a b 0 0).2)with
 |false=>simp
 |true =>
  simp only[Bool.and_eq_true]at c
  exact v0d (Y0b c.2.2)
def glV(n v:Int):Int:=if v=0 then 0 else n+v-1
def glE(n:Int)(e:H0):H0:=(glV n e.1,e.2.1,glV n e.2.2)
def a0a(a b:j0):Bool:=N0 a&&(N0 b&&(decide (a.1=b.1)&&(decide (a.2.1+b.2.1-1<=40)&&decide (a.2.2.length+b.2.2.length<=120))))
def F00(a b:j0):j0×Bool:=bif a0a a b then((a.1,a.2.1+b.2.1-1,a6 P0 [] (a.2.2++b.2.2.map (glE a.2.1))),true)else((0,0,[]),false)
theorem E0e{n m v:Int}(hn:1<=n)(hv:0<=v/\v<m):0<=glV n v/\glV n v<n+m-1:=by
 unfold glV
 split<;>omega
theorem H0h{a b:j0}(h:a0a a b=true):N0 (a.1,a.2.1+b.2.1-1,a6 P0 [] (a.2.2++b.2.2.map (glE a.2.1)))=true:=by
 unfold a0a at h
 simp only[Bool.and_eq_true,decide_eq_true_eq]at h
 obtain⟨h1,h2,h3,h4,h5⟩:=h
 obtain⟨qa,ra,na,la⟩:=V0 h1
 obtain⟨qb,rb,nb,lb⟩:=V0 h2
 refine I02 ra ⟨by omega,by omega⟩ (by simp;omega) λe he=>?_
 rcases List.mem_append.1 he with he|he
 ·have:=qa e he
  simp only
  omega
 ·obtain⟨e',he',rfl⟩:=List.mem_map.1 he
  have:=qb e' he'
  have i1:=E0e (n:=a.2.1) (m:=b.2.1) (by omega) this.1
  have i2:=E0e (n:=a.2.1) (m:=b.2.1) (by omega) this.2.1
  simp only[glE]
  omega
theorem n0j{a b:j0}(ha:N0 a=true)(hb:N0 b=true)(r n:Int):∀(d k fuel:Nat) (es:List H0),k+d=b.2.2.length->d<fuel->es.length+d<=1000 ->
  J3 b.2.2 a.2.1 fuel (k:Int) r n es=some (r,n,a6 P0 es ((b.2.2.drop k).map (glE a.2.1)))
 |d,k,0,es,hd,hf,he=>by omega
 |0,k,fuel+1,es,hd,hf,he=>by
  rw[J3.eq_2,if_neg (by simp only[decide_eq_true_eq];omega),O2 (by omega)];rfl
 |d+1,k,fuel+1,es,hd,hf,he=>by
  obtain⟨qa,ra,na,la⟩:=V0 ha
  obtain⟨qb,rb,nb,lb⟩:=V0 hb
  have hk:k<b.2.2.length:=by omega
  have hx:=l7 hk
  have hi:=qb _ (List.mem_of_getElem? hx)
  have hdr:=V2 hx
  generalize b.2.2[k]=e at hx hi hdr
  obtain⟨e0,e1,e2⟩:=e
  have ih:=λes' h=>n0j ha hb r n d (k+1) fuel es' (by omega) (by omega) h
  have hput:=λe=>q0a es e (by omega)
  have hpl:=λe=>Y01 e es
  simp only at hi
  have w1:∀ z:Int,0<=z->z<b.2.1->IntKind.i64.wrap (IntKind.i64.wrap (z+a.2.1)-1)=a.2.1+z-1:=λz z1 z2=>by
   rw[w64 (x:=z+a.2.1) (by omega) (by omega),w64 (by omega) (by omega)];omega
  rw[J3.eq_2,if_pos (by simp only[decide_eq_true_eq];omega),Z3 hx,oB,U2 hk (by omega),hdr,List.map_cons]
  simp only[w1 e0 hi.1.1 hi.1.2,w1 e2 hi.2.1.1 hi.2.1.2,hput,oB]
  have g1:∀ z:Int,0<=z->(decide (z>0)=true->glV a.2.1 z=a.2.1+z-1)/\(decide (z>0)=false->glV a.2.1 z=z):=λz hz=>by
   unfold glV
   simp only[decide_eq_true_eq,decide_eq_false_iff_not]
   exact⟨λh=>by rw[if_neg (by omega)],λh=>by rw[if_pos (by omega)];omega⟩
  obtain⟨a1,a2⟩:=g1 e0 hi.1.1
  obtain⟨b1,b2⟩:=g1 e2 hi.2.1.1
  have fin:∀ x y,x=glV a.2.1 e0->y=glV a.2.1 e2->J3 b.2.2 a.2.1 fuel ((k+1:Nat):Int) r n (N00 P0 (x,e1,y) es)=some (r,n,a6 P0 es (glE a.2.1 (e0,e1,e2)::(b.2.2.drop (k+1)).map (glE a.2.1))):=λx y hx hy=>by
   have:=hpl (x,e1,y)
   rw[ih _ (by omega),hx,hy];rfl
  cases c1:decide (e0>0)<;>cases c2:decide (e2>0)
  ·simp only[Bool.false_eq_true,if_false];exact fin _ _ (a2 c1).symm (b2 c2).symm
  ·simp only[Bool.false_eq_true,if_false,if_true];exact fin _ _ (a2 c1).symm (b1 c2).symm
  ·simp only[Bool.false_eq_true,if_false,if_true];exact fin _ _ (a1 c1).symm (b2 c2).symm
  ·simp only[if_true];exact fin _ _ (a1 c1).symm (b1 c2).symm
theorem W0n{a:j0}{z m:Int}(hn:1<=a.2.1/\a.2.1<=40)(hz:0<=z/\z<m)(hm:m<=40):w7 z a=some (glV a.2.1 z):=by
 obtain⟨a0,a1,a2⟩:=a
 simp only at hn
 unfold w7 glV
 simp only
 rw[w64 (x:=a1+z) (by omega) (by omega),w64 (by omega) (by omega)]
 by_cases c:z=0<;>simp[c]
theorem o0j{a b:j0}(ha:N0 a=true)(hb:N0 b=true)(r n:Int):∀(d k fuel:Nat) (es:List H0),k+d=b.2.2.length->d<fuel->es.length+d<=1000 ->
  D5 b.2.2 a.1 a.2.1 a.2.2 fuel (k:Int) r n es=some (r,n,es++(b.2.2.drop k).map (glE a.2.1))
 |d,k,0,es,hd,hf,he=>by omega
 |0,k,fuel+1,es,hd,hf,he=>by
  rw[D5.eq_2,if_neg (by simp only[decide_eq_true_eq];omega),O2 (by omega)];simp
 |d+1,k,fuel+1,es,hd,hf,he=>by
  obtain⟨qa,ra,na,la⟩:=V0 ha
  obtain⟨qb,rb,nb,lb⟩:=V0 hb
  have hk:k<b.2.2.length:=by omega
  have hx:=l7 hk
  have hi:=qb _ (List.mem_of_getElem? hx)
  have hdr:=V2 hx
  generalize b.2.2[k]=e at hx hi hdr
  obtain⟨e0,e1,e2⟩:=e
  have ih:=λes' h=>o0j ha hb r n d (k+1) fuel es' (by omega) (by omega) h
  simp only at hi
  have i1:=E0e (n:=a.2.1) (m:=b.2.1) (by omega) hi.1
  have i2:=E0e (n:=a.2.1) (m:=b.2.1) (by omega) hi.2.1
  have e5:(a.1,a.2.1,a.2.2)=a:=rfl
  rw[D5.eq_2,if_pos (by simp only[decide_eq_true_eq];omega),Z3 hx,oB,U2 hk (by omega),hdr,List.map_cons]
  simp only[e5]
  rw[W0n na hi.1 (by omega),oB,D0 ⟨by omega,by omega⟩,oB,W0n na hi.2.1 (by omega),oB,D0 ⟨by omega,by omega⟩,oB,D0 (by simp;omega),oB,ih _ (by simp;omega)]
  simp[glE]
theorem I0h{a b:j0}(la:a.2.2.length<=1099511627776)(lb:b.2.2.length<=1099511627776):j9 a b=some (F00 a b):=by
 have f1:=Z6 a (by omega)
 have f2:=Z6 b (by omega)
 have f3:=R9 a la
 have f4:N0 a=true->N0 b=true->_:=λh1 h2=>n0j h1 h2 a.1 (a.2.1+b.2.1-1) b.2.2.length 0 U0 a.2.2 (by omega) (P1 (by omega)) (by have:=(V0 h1).2.2.2;have:=(V0 h2).2.2.2;omega)
 have f5:N0 a=true->Asc P0 a.2.2:=λh=>((x04 a).1 h).2.2.2.2
 have f6:N0 a=true->(1<=a.2.1/\a.2.1<=40):=λh=>(V0 h).2.2.1
 have f7:N0 b=true->(1<=b.2.1/\b.2.1<=40):=λh=>(V0 h).2.2.1
 unfold F00 a0a
 obtain⟨a0,a1,a2⟩:=a
 obtain⟨b0,b1,b2⟩:=b
 unfold j9
 simp only at la lb f4 f5 f6 f7
 simp only[f1,f2,f3,oB]
 cases h1:N0 (a0,a1,a2)
 ·simp[chk]
 ·cases h2:N0 (b0,b1,b2)
  ·simp[chk]
  ·have n1:=f6 h1
   have n2:=f7 h2
   have g:=f4 h1 h2
   rw[List.drop_zero,show((0:Nat):Int)=0 from rfl,←y0h (f5 h1)]at g
   rw[w64 (x:=a1+b1) (by omega) (by omega),w64 (x:=a1+b1-1) (by omega) (by omega),w64 (x:=((a2.length:Nat):Int)+((b2.length:Nat):Int)) (by omega) (by omega)]
   have c1:decide (a1+b1-1>40) = !decide (a1+b1-1<=40):=by rw[←decide_not,decide_eq_decide];omega
   have c2:decide (((a2.length:Nat):Int)+((b2.length:Nat):Int)>120) = !decide (a2.length+b2.length<=120):=by rw[←decide_not,decide_eq_decide];omega
   simp only[chk,Bool.not_true,Bool.not_false,c1,c2,oB,g]
   cases decide (a0=b0)<;>cases decide (a1+b1-1<=40)<;>cases decide (a2.length+b2.length<=120)<;>simp
theorem J0h{a b:j0}(la:a.2.2.length<=1099511627776)(lb:b.2.2.length<=1099511627776):l9 a b=some (F00 a b):=by
 have f1:=r9 a (by omega)
 have f2:=r9 b (by omega)
 have f3:=S9 a la
 have f4:N0 a=true->N0 b=true->_:=λh1 h2=>o0j h1 h2 a.1 (a.2.1+b.2.1-1) b.2.2.length 0 U0 a.2.2 (by omega) (P1 (by omega)) (by have:=(V0 h1).2.2.2;have:=(V0 h2).2.2.2;omega)
 have f6:N0 a=true->(1<=a.2.1/\a.2.1<=40):=λh=>(V0 h).2.2.1
 have f7:N0 b=true->(1<=b.2.1/\b.2.1<=40):=λh=>(V0 h).2.2.1
 have f8:N0 a=true->N0 b=true->R7 (a.2.2++b.2.2.map (glE a.2.1))=some (a6 P0 [] (a.2.2++b.2.2.map (glE a.2.1))):=λh1 h2=>g08 _ (by have:=(V0 h1).2.2.2;have:=(V0 h2).2.2.2;simp;omega)
 unfold F00 a0a
 obtain⟨a0,a1,a2⟩:=a
 obtain⟨b0,b1,b2⟩:=b
 unfold l9
 simp only at la lb f4 f6 f7 f8
 simp only[f1,f2,f3,oB]
 cases h1:N0 (a0,a1,a2)
 ·simp[chk]
 ·cases h2:N0 (b0,b1,b2)
  ·simp[chk]
  ·have n1:=f6 h1
   have n2:=f7 h2
   have g:=f4 h1 h2
   rw[List.drop_zero,show((0:Nat):Int)=0 from rfl]at g
   rw[w64 (x:=a1+b1) (by omega) (by omega),w64 (x:=a1+b1-1) (by omega) (by omega),w64 (x:=((a2.length:Nat):Int)+((b2.length:Nat):Int)) (by omega) (by omega)]
   have c1:decide (a1+b1-1>40) = !decide (a1+b1-1<=40):=by rw[←decide_not,decide_eq_decide];omega
   have c2:decide (((a2.length:Nat):Int)+((b2.length:Nat):Int)>120) = !decide (a2.length+b2.length<=120):=by rw[←decide_not,decide_eq_decide];omega
   simp only[chk,Bool.not_true,Bool.not_false,c1,c2,oB,g,f8 h1 h2]
   cases decide (a0=b0)<;>cases decide (a1+b1-1<=40)<;>cases decide (a2.length+b2.length<=120)<;>simp
def f05(a b:j0):j0×Bool:=bif a0a a b&&(E3 a&&E3 b)then(d05 (F00 a b).1,true)else((0,0,[]),false)
theorem F0e{a b:j0}(h:(F00 a b).2=true):N0 (F00 a b).1=true:=by
 unfold F00 at h ⊢
 cases c:a0a a b with
 |false=>rw[c]at h;cases h
 |true=>exact H0h c
theorem u0m{a b:j0}:(f05 a b).1.2.2.length<=120:=by
 unfold f05
 cases c:a0a a b&&(E3 a&&E3 b)with
 |false=>simp
 |true =>
  simp only[Bool.and_eq_true]at c
  refine v0d (F0e ?_)
  unfold F00
  rw[c.1];rfl
theorem K0h{a b:j0}(la:a.2.2.length<=1099511627776)(lb:b.2.2.length<=1099511627776):c01 a b=some (f05 a b):=by
 have f1:=I03 a (by omega)
 have f2:=I03 b (by omega)
 have f3:=I0h la lb
 have f4:(F00 a b).2=true->_:=λh=>S09 (F0e h)
 have f5:(F00 a b).2=a0a a b:=by unfold F00;cases a0a a b<;>rfl
 unfold f05
 obtain⟨a0,a1,a2⟩:=a
 obtain⟨b0,b1,b2⟩:=b
 unfold c01
 simp only[f1,f2,f3,oB]
 generalize F00 (a0,a1,a2) (b0,b1,b2)=r at *
 obtain⟨⟨r0,r1,r2⟩,t⟩:=r
 simp only at f5
 rw[←f5]
 cases t
 ·simp[chk]
 ·simp only at f4
  cases E3 (a0,a1,a2)<;>cases E3 (b0,b1,b2)<;>simp[chk,f4]
theorem L0h{a b:j0}(la:a.2.2.length<=1099511627776)(lb:b.2.2.length<=1099511627776):d01 a b=some (f05 a b):=by
 have f1:=O00 a (by omega)
 have f2:=O00 b (by omega)
 have f3:=J0h la lb
 have f4:(F00 a b).2=true->_:=λh=>T09 (F0e h)
 have f5:(F00 a b).2=a0a a b:=by unfold F00;cases a0a a b<;>rfl
 unfold f05
 obtain⟨a0,a1,a2⟩:=a
 obtain⟨b0,b1,b2⟩:=b
 unfold d01
 simp only[f1,f2,f3,oB]
 generalize F00 (a0,a1,a2) (b0,b1,b2)=r at *
 obtain⟨⟨r0,r1,r2⟩,t⟩:=r
 simp only at f5
 rw[←f5]
 cases t
 ·simp[chk]
 ·simp only at f4
  cases E3 (a0,a1,a2)<;>cases E3 (b0,b1,b2)<;>simp[chk,f4]
def o03(e:I5):K1->K1
 | []=>[e]
 |x::r=>bif M00 x.1 e.1 then x::o03 e r else(bif O9 x.1 e.1 then e::r else e::x::r)
def o01(x:Q0)(s:ByteArray)(g:j0):Q0×Bool :=
 bif P4 x&&(D9 s&&(decide (g.1=x.1)&&E3 g))then
  (bif decide (16<(o03 (s,g) x.2).length)then(x,false)else((x.1,o03 (s,g) x.2),true))else(x,false)
theorem C0g(e:I5):∀ l:K1,(o03 e l).length<=l.length+1
 | []=>by simp[o03]
 |x::r=>by
  have:=C0g e r
  unfold o03
  cases M00 x.1 e.1
  ·cases O9 x.1 e.1<;>simp[cond_true,cond_false]
  ·simp only[cond_true,List.length_cons];omega
def G0e(e:I5)(p:Bool)(x:I5):Bool:=bif !p then(M00 e.1 x.1 || O9 e.1 x.1)else false
def q09(e:I5):Bool->K1->K1
 |_,[]=>[]
 |p,x::r=>bif G0e e p x then e::(bif O9 x.1 e.1 then q09 e true r else x::q09 e true r)else(bif O9 x.1 e.1 then q09 e p r else x::q09 e p r)
def q0c(e:I5):Bool->K1->Bool
 |p,[]=>p
 |p,x::r=>q0c e (bif G0e e p x then true else p) r
theorem v0m(l:K1)(hl:B00 l)(s:ByteArray)(g:j0)(hg:g.2.2.length<=1048576)(rk:Int):∀(d k fuel:Nat) (p:Bool) (acc:K1),k+d=l.length->d<fuel->acc.length<=2*k ->
  G4 l s g.1 g.2.1 g.2.2 fuel p (k:Int) rk acc=some (q0c (s,g) p (l.drop k),rk,acc++q09 (s,g) p (l.drop k))
 |d,k,0,p,acc,hd,hf,ha=>by omega
 |0,k,fuel+1,p,acc,hd,hf,ha=>by
  rw[G4.eq_2,if_neg (by simp;omega),O2 (by omega)];simp[q09,q0c]
 |d+1,k,fuel+1,p,acc,hd,hf,ha=>by
  have hk:k<l.length:=by omega
  have he:=l7 hk
  have hin:=hl.2 _ (List.mem_of_getElem? he)
  generalize l[k]=e at he hin
  obtain⟨nm,r2,n,es⟩:=e
  simp only at hin
  have hl1:=hl.1
  have ih:=λp' acc' h=>v0m l hl s g hg rk d (k+1) fuel p' acc' (by omega) (by omega) h
  obtain⟨g0,g1,g2⟩:=g
  simp only at hg ih
  have hc:=R9 (g0,g1,g2) (by simp only;omega)
  rw[G4.eq_2,if_pos (by simp;omega),V2 he]
  simp only[Z3 he,oB,R9 (r2,n,es) (by simp only;omega),U2 hk (show l.length<=9223372036854775807 by omega),q09,q0c]
  have hh:(bif(!p)then(M00 s nm || O9 s nm)else false)=G0e (s,(g0,g1,g2)) p (nm,(r2,n,es)):=rfl
  rw[hh]
  cases G0e (s,(g0,g1,g2)) p (nm,(r2,n,es))
  ·rw[if_neg (by simp)]
   cases O9 nm s
   ·rw[if_pos (by rfl),D0 (by simp only[List.length_singleton];omega),oB,ih _ _ (by simp;omega)];simp
   ·rw[if_neg (by simp),ih _ _ (by omega)];simp
  ·rw[if_pos rfl]
   simp only[hc,oB]
   rw[D0 (by simp only[List.length_singleton];omega),oB]
   cases O9 nm s
   ·rw[if_pos (by rfl),D0 (by simp only[List.length_append,List.length_singleton];omega),oB,ih _ _ (by simp;omega)];simp
   ·rw[if_neg (by simp),ih _ _ (by simp;omega)];simp
def D0o(l:K1):Prop:=l.Pairwise λa b=>M00 a.1 b.1=true
theorem w0m{x:Q0}(h:P4 x=true):D0o x.2:=by
 rw[D0o,List.pairwise_iff_getElem]
 intro i j hi hj hij
 exact t0e h j i _ _ hij (List.getElem?_eq_getElem hi) (List.getElem?_eq_getElem hj)
theorem D0g(e:I5):∀ l:K1,(∀ x∈l,x.1≠e.1)->q09 e true l=l/\q0c e true l=true
 | [],_=>⟨rfl,rfl⟩
 |x::r,h=>by
  have ih:=D0g e r λy hy=>h y (mC _ hy)
  have:O9 x.1 e.1=false:=Bool.eq_false_iff.2 λhb=>h x mS (e00.1 hb)
  simp only[q09,q0c,G0e,Bool.not_true,cond_false,this]
  exact⟨by rw[ih.1],ih.2⟩
theorem x0m{a b:ByteArray}(h:M00 a b=true):a≠b:=λe=>by rw[e,s0e]at h;cases h
theorem p0j(e:I5)(tri:∀ a b:ByteArray,M00 a b=false->M00 b a=false->a=b):∀ l:K1,D0o l->q09 e false l++(bif q0c e false l then []else [e])=o03 e l
 | [],_=>rfl
 |x::r,h=>by
  obtain⟨h1,h2⟩:=List.pairwise_cons.1 h
  have ih:=p0j e tri r h2
  unfold o03
  cases hs:M00 x.1 e.1
  ·rw[cond_false]
   have gone:∀ y∈r,y.1≠e.1:=λy hy he=>by
    have:=h1 y hy
    rw[he]at this;rw[this]at hs;cases hs
   have ht:=D0g e r gone
   have hh:G0e e false x=true:=by
    simp only[G0e,Bool.not_false,cond_true,Bool.or_eq_true]
    cases hq:M00 e.1 x.1
    ·exact .inr (e00.2 (tri _ _ hq hs))
    ·exact .inl rfl
   simp only[q09,q0c,hh,cond_true,ht.1,ht.2,List.append_nil]
   cases O9 x.1 e.1<;>rfl
  ·rw[cond_true]
   have hq:O9 x.1 e.1=false:=Bool.eq_false_iff.2 λhb=>x0m hs (e00.1 hb)
   have hh:G0e e false x=false:=by
    simp only[G0e,Bool.not_false,cond_true,Bool.or_eq_false_iff]
    refine⟨Bool.eq_false_iff.2 λhb=>?_,Bool.eq_false_iff.2 λhb=>x0m hs (e00.1 hb).symm⟩
    have:=k0d hs hb
    rw[s0e]at this;cases this
   simp only[q09,q0c,hh,cond_false,hq,List.cons_append,ih]
def b0a(s:ByteArray):K1->Nat
 | []=>0
 |x::r=>bif M00 x.1 s then b0a s r+1 else 0
theorem y0m(s:ByteArray):∀ l:K1,b0a s l<=l.length
 | []=>Nat.le_refl _
 |x::r=>by have:=y0m s r;unfold b0a;cases M00 x.1 s<;>simp only[cond_true,cond_false,List.length_cons]<;>omega
theorem z0m(l:K1)(hl:B00 l)(s:ByteArray):∀(d k fuel:Nat),k+d=l.length->d<fuel ->
  p6 l s fuel (k:Int)=some ((k+b0a s (l.drop k):Nat):Int)
 |d,k,0,hd,hf=>by omega
 |0,k,fuel+1,hd,hf=>by
  have hk:decide ((k:Int)<((l.length:Nat):Int))=false:=decide_eq_false (by omega)
  rw[p6.eq_2,hk,O2 (by omega)]
  rfl
 |d+1,k,fuel+1,hd,hf=>by
  have hk:k<l.length:=by omega
  have he:=l7 hk
  have hl1:=hl.1
  have ih:=z0m l hl s d (k+1) fuel (by omega) (by omega)
  generalize l[k]=e at he
  obtain⟨nm,r2,n,es⟩:=e
  have hk2:decide ((k:Int)<((l.length:Nat):Int))=true:=decide_eq_true (by omega)
  rw[p6.eq_2,hk2,V2 he]
  simp only[chk,Z3 he,cond_true,oB,U2 hk (show l.length<=9223372036854775807 by omega),b0a,if_true]
  cases M00 nm s
  ·rfl
  ·simp only[if_true,ih,cond_true]
   congr 2;omega
theorem swp(a c:K1)(y e:I5):((a++y::e::c).set (a.length+1) y).set a.length e=a++e::y::c:=by
 simp[List.set_append_right]
theorem A0m(l:K1)(hl:l.length<=1048576)(e:I5)(at_:Nat):∀(d fuel:Nat),at_+d<=l.length->d<fuel ->
  H4 (at_:Int) fuel ((at_+d:Nat):Int) (l.take (at_+d)++e::l.drop (at_+d))=some (l.take at_++e::l.drop at_)
 |d,0,hd,hf=>by omega
 |0,fuel+1,hd,hf=>by
  rw[H4.eq_2,if_neg (by simp)];rfl
 |d+1,fuel+1,hd,hf=>by
  have ih:=A0m l hl e at_ d fuel (by omega) (by omega)
  have hk:at_+d<l.length:=by omega
  have hy:=l7 hk
  generalize l[at_+d]=y at hy
  have e1:l.take (at_+(d+1))=l.take (at_+d) ++ [y]:=by rw[←Nat.add_assoc,V0f hy]
  have e2:l.drop (at_+d)=y::l.drop (at_+(d+1)):=by rw[V2 hy,←Nat.add_assoc]
  have hal:(l.take (at_+d)).length=at_+d:=by rw[List.length_take];omega
  have hw:IntKind.i64.wrap (((at_+(d+1):Nat):Int)-1)=((at_+d:Nat):Int):=by
   rw[show((at_+(d+1):Nat):Int)-1=((at_+d:Nat):Int) by omega]
   exact w64 (by omega) (by omega)
  rw[e1,List.append_assoc,List.singleton_append]
  rw[e2]at ih
  generalize l.take (at_+d)=a at hal ih
  generalize l.drop (at_+(d+1))=c at ih
  have q1:gi (a++y::e::c) ((at_+d:Nat):Int)=some y:=Z3 (by rw[←hal];simp)
  have q2:gi (a++y::e::c) ((at_+(d+1):Nat):Int)=some e:=Z3 (by rw[←Nat.add_assoc,←hal,List.getElem?_append_right (by omega)];simp)
  have q3:=swp a c y e
  rw[hal]at q3
  obtain⟨y0,y1,y2,y3⟩:=y
  obtain⟨z0,z1,z2,z3⟩:=e
  rw[H4.eq_2,if_pos (by simp;omega)]
  simp only[hw,q1,q2,oB,Int.toNat_natCast]
  rw[show at_+(d+1)=at_+d+1 from rfl,q3]
  exact ih
theorem B0m(e:I5):∀ l:K1,(∀ x∈l,x.1≠e.1)->l.take (b0a e.1 l)++e::l.drop (b0a e.1 l)=o03 e l
 | [],_=>rfl
 |x::r,h=>by
  have ih:=B0m e r λy hy=>h y (mC _ hy)
  unfold b0a o03
  cases M00 x.1 e.1
  ·have:O9 x.1 e.1=false:=Bool.eq_false_iff.2 λhb=>h x mS (e00.1 hb)
   simp[this]
  ·simp only[cond_true,List.take_succ_cons,List.drop_succ_cons,List.cons_append,ih]
theorem q0j(e x:I5)(hx:x.1=e.1)(b:K1):∀ a:K1,(∀ y∈a,M00 y.1 e.1=true)->o03 e (a++x::b)=a++e::b
 | [],_=>by
  rw[List.nil_append,List.nil_append,o03,hx,s0e,cond_false,e00.2 rfl,cond_true]
 |y::a,h=>by
  rw[List.cons_append,o03,h y mS,cond_true,q0j e x hx b a λz hz=>h z (mC _ hz)];rfl
theorem m0k{x:Q0}{s:ByteArray}{g:j0}(hL:P4 x=true){i:Nat}(hi:S03 x s=some i):o03 (s,g) x.2=x.2.set i (s,g):=by
 obtain⟨_,⟨e,he,hes⟩,hbef⟩:=L0b _ _ _ hi
 have hlt:=u0e hi
 have h3:x.2=x.2.take i++(e::x.2.drop (i+1)):=by rw[←V2 he,List.take_append_drop]
 rw[List.set_eq_take_append_cons_drop,if_pos hlt]
 conv=>lhs;rw[h3]
 refine q0j (s,g) e hes _ _ λy hy=>?_
 obtain⟨j,hj⟩:=List.getElem?_of_mem hy
 have hjl:=(List.getElem?_eq_some_iff.1 hj).1
 rw[List.length_take]at hjl
 rw[List.getElem?_take_of_lt (by omega)]at hj
 have:=t0e hL i j y e (by omega) hj he
 rw[hes]at this;exact this
theorem C0m:∀ x y:List UInt8,Go.Op.bytesLess x y=false->Go.Op.bytesLess y x=false->x=y
 | [],[],_,_=>rfl
 | [],b::y,h,_=>by simp[Go.Op.bytesLess]at h
 |a::x,[],_,h=>by simp[Go.Op.bytesLess]at h
 |a::x,b::y,h1,h2=>by
  simp only[Go.Op.bytesLess,Bool.or_eq_false_iff,Bool.and_eq_false_iff,decide_eq_false_iff_not,beq_eq_false_iff_ne]at h1 h2
  have hab:a=b:=by
   have q1:=h1.1;have q2:=h2.1
   rw[UInt8.lt_iff_toNat_lt]at q1 q2
   exact UInt8.toNat_inj.1 (by omega)
  subst hab
  rcases h1.2 with h|h
  ·exact absurd rfl h
  rcases h2.2 with h'|h'
  ·exact absurd rfl h'
  rw[C0m x y h h']
theorem F0n(a b:ByteArray)(h1:M00 a b=false)(h2:M00 b a=false):a=b:=by
 have:=C0m _ _ h1 h2
 exact e00.1 (by unfold O9;rw[this];exact beq_self_eq_true _)
theorem n0k{x:Q0}(hL:P4 x=true):x.2.length<=16:=by
 unfold P4 at hL
 simp only[Bool.and_eq_true,decide_eq_true_eq]at hL;exact hL.2.1
theorem o0k(x:Q0)(s:ByteArray)(g:j0)(hl:B00 x.2)(hs:s.size<=1048576)(hg:g.2.2.length<=1048576):j8 x s g=some (o01 x s g):=by
 have hc:=b0j x hl
 have h1:=hl.1
 have hi:=j05 x hl.ok
 have hn:=j08 s (by omega)
 have hC:C3 g=some (E3 g):=by
  unfold C3
  simp only[a05 g (by omega),oB]
 have hgc:=R9 g (by omega)
 have hD:=v0m x.2 hl s g hg x.1 x.2.length 0 U0 false [] (by omega) (P1 (by omega)) (Nat.le_refl _)
 rw[show((0:Nat):Int)=0 from rfl,List.drop_zero,List.nil_append]at hD
 have hsp:=λh=>p0j (s,g) F0n x.2 (@w0m x h)
 have hil:=C0g (s,g) x.2
 obtain⟨r,l⟩:=x
 obtain⟨g0,g1,g2⟩:=g
 unfold j8 o01
 simp only at h1 hC hgc hD hsp hil
 simp only[hc,hi,hn,hC,hD,hgc,oB]
 cases hL:P4 (r,l)
 ·simp[E2,Q2]
 cases hN:D9 s
 ·simp[E2,Q2]
 cases hQ:E3 (g0,g1,g2)
 ·simp[E2,Q2]
 cases hR:decide (g0=r)
 ·simp[E2,Q2,hR]
 have hsp:=hsp hL
 simp only[Bool.not_true,Bool.not_false,E2,cond_false,cond_true,Bool.and_self,oB,Bool.false_eq_true,if_false,hR]
 cases hp:q0c (s,(g0,g1,g2)) false l
 ·rw[hp,cond_false]at hsp
  have hlen:(q09 (s,(g0,g1,g2)) false l ++ [(s,(g0,g1,g2))]).length<=l.length+1:=by rw[hsp];exact hil
  simp only[Bool.not_false,if_true]
  rw[D0 (by simp only[List.length_append,List.length_singleton]at hlen ⊢;omega),oB,D0 (by omega),oB,hsp]
  cases hd:decide (16<(o03 (s,(g0,g1,g2)) l).length)
  ·rw[if_neg (by have:=of_decide_eq_false hd;simp;omega)];rfl
  ·rw[if_pos (by have:=of_decide_eq_true hd;simp;omega)];rfl
 ·rw[hp,cond_true,List.append_nil]at hsp
  simp only[Bool.not_true,Bool.false_eq_true,if_false]
  rw[hsp,D0 (by omega),oB]
  cases hd:decide (16<(o03 (s,(g0,g1,g2)) l).length)
  ·rw[if_neg (by have:=of_decide_eq_false hd;simp;omega)];rfl
  ·rw[if_pos (by have:=of_decide_eq_true hd;simp;omega)];rfl
theorem p0k(x:Q0)(s:ByteArray)(g:j0)(hl:B00 x.2)(hs:s.size<=1048576)(hg:g.2.2.length<=1048576):l8 x s g=some (o01 x s g):=by
 have hc:=Z0i x hl
 have h1:=hl.1
 have hi:=i05 x hl.ok
 have hn:=k08 s (by omega)
 have hC:=O00 g (by omega)
 have hgc:=S9 g (by omega)
 have hf:=U0l x s (by omega)
 have hlt:=λi => @u0e x s i
 have hfd:=λh i => @m0k x s g h i
 have hsm:=λh => @n0k x h
 have hfn:S03 x s=none->∀ e∈x.2,e.1≠s:=λh e he=>by
  obtain⟨j,hj⟩:=List.getElem?_of_mem he
  exact e0g _ _ (by omega) h j (Nat.zero_le _) e hj
 have hD:=z0m x.2 hl s x.2.length 0 U0 (by omega) (P1 (by omega))
 rw[show((0:Nat):Int)=0 from rfl,List.drop_zero,Nat.zero_add]at hD
 have hcl:=y0m s x.2
 have hB:=A0m x.2 (by omega) (s,g) (b0a s x.2) (x.2.length-b0a s x.2) U0 (by omega) (P1 (by omega))
 rw[show b0a s x.2+(x.2.length-b0a s x.2)=x.2.length by omega,List.take_of_length_le (Nat.le_refl _),O2 rfl]at hB
 have hia:=λh=>B0m (s,g) x.2 h
 obtain⟨r,l⟩:=x
 obtain⟨g0,g1,g2⟩:=g
 unfold l8 o01
 simp only at h1 hC hgc hD hfn hlt hfd hsm hcl hB hia
 simp only[hc,hi,hn,hC,hgc,hf,oB]
 cases hL:P4 (r,l)
 ·simp[E2,Q2]
 cases hN:D9 s
 ·simp[E2,Q2]
 cases hR:decide (g0=r)
 ·simp[E2,Q2,hR]
 cases hQ:E3 (g0,g1,g2)
 ·simp[E2,Q2,hR]
 have hsm:=hsm hL
 simp only[Bool.not_true,Bool.not_false,E2,cond_false,cond_true,Bool.and_self,oB,Bool.false_eq_true,if_false,hR]
 cases hq:S03 (r,l) s with
 |some i =>
  have hi2:=hlt i hq
  have hfd:=hfd hL i hq
  simp only
  rw[D0 (show O0 (i:Int) from c64 (by omega) (by omega)),oB,if_pos (by simp),Z3 (l7 hi2),oB,Int.toNat_natCast,hfd]
  have hd:decide (16<(l.set i (s,(g0,g1,g2))).length)=false:=decide_eq_false (by rw[List.length_set];omega)
  rw[hd,cond_false]
 |none =>
  have hia:=hia (hfn hq)
  have hlen:(o03 (s,(g0,g1,g2)) l).length=l.length+1:=by
   rw[←hia];simp only[List.length_append,List.length_take,List.length_cons,List.length_drop];omega
  simp only
  rw[D0 (show O0 (-1) by decide),oB,if_neg (by decide),hlen]
  by_cases h16:l.length=16
  ·rw[if_pos (by simp[h16]),show decide (16<l.length+1)=true from decide_eq_true (by omega),cond_true]
  ·rw[if_neg (by simp;omega),show decide (16<l.length+1)=false from decide_eq_false (by omega),cond_false]
   have hw:IntKind.i64.wrap ((((l ++ [(s,(g0,g1,g2))]).length:Nat):Int)-1)=((l.length:Nat):Int):=by
    rw[List.length_append,List.length_singleton,show(((l.length+1:Nat):Int))-1=((l.length:Nat):Int) by omega]
    exact w64 (by omega) (by omega)
   rw[hD,oB,D0 (by simp only[List.length_singleton];omega),oB,hw,hB,oB,hia]
def K02(op:ByteArray)(x y:j0):j0×Bool:=bif O9 op (⟨#[109,101,101,116]⟩:ByteArray)then e05 x y else bif O9 op (⟨#[106,111,105,110]⟩:ByteArray)then f05 x y else((0,0,[]),false)
def O02(l:Q0)(name op a b:ByteArray):Q0×Bool :=
 bif P4 l&&((l3 l a).2&&((l3 l b).2&&(K02 op (l3 l a).1 (l3 l b).1).2))then o01 l name (K02 op (l3 l a).1 (l3 l b).1).1 else(l,false)
theorem r09(op:ByteArray)(x y:j0):(K02 op x y).1.2.2.length<=120:=by
 unfold K02
 cases O9 op (⟨#[109,101,101,116]⟩:ByteArray)
 ·cases O9 op (⟨#[106,111,105,110]⟩:ByteArray)
  ·simp
  ·exact u0m
 ·exact t0m
theorem t08{l:Q0}(hl:B00 l.2)(s:ByteArray):(l3 l s).1.2.2.length<=1048576:=by
 unfold l3
 cases S03 l s with
 |none=>simp[zG]
 |some i =>
  simp only
  cases e:l.2[i]? with
  |none=>simp[zG]
  |some e'=>exact(hl.2 e' (List.mem_of_getElem? e)).2
theorem r0c(l:Q0)(name op a b:ByteArray)(hl:B00 l.2)(hs:name.size<=1048576):T8 l name op a b=some (O02 l name op a b):=by
 have l1:=t08 hl a
 have l2:=t08 hl b
 have f1:=s08 l a hl
 have f2:=s08 l b hl
 have f3:=j05 l hl.ok
 have f4:=b0j l hl
 have f5:=F0h (a:=(l3 l a).1) (b:=(l3 l b).1) (by omega) (by omega)
 have f6:=K0h (a:=(l3 l a).1) (b:=(l3 l b).1) (by omega) (by omega)
 have f7:=o0k l name (K02 op (l3 l a).1 (l3 l b).1).1 hl hs (by have:=r09 op (l3 l a).1 (l3 l b).1;omega)
 unfold O02
 unfold K02 at f7 ⊢
 obtain⟨r,es⟩:=l
 unfold T8
 simp only[f1,f2,f3,f4,oB]
 generalize l3 (r,es) a=q1 at *
 generalize l3 (r,es) b=q2 at *
 obtain⟨⟨x0,x1,x2⟩,t1⟩:=q1
 obtain⟨⟨y0,y1,y2⟩,t2⟩:=q2
 simp only at f5 f6 f7 ⊢
 cases h1:P4 (r,es)
 ·simp
 ·cases t1
  ·simp
  ·cases t2
   ·simp
   ·rw[if_neg (by simp)]
    cases h2:O9 op (⟨#[109,101,101,116]⟩:ByteArray)
    ·rw[if_neg (by simp)]
     rw[h2]at f7
     cases h3:O9 op (⟨#[106,111,105,110]⟩:ByteArray)
     ·rw[if_neg (by simp)]
      simp
     ·rw[if_pos rfl,f6,oB]
      rw[h3]at f7
      simp only[cond_false,cond_true]at f7 ⊢
      generalize f05 (x0,x1,x2) (y0,y1,y2)=z at *
      obtain⟨⟨z0,z1,z2⟩,t⟩:=z
      cases t
      ·simp
      ·simp only at f7
       simp[f7]
    ·rw[if_pos rfl,f5,oB]
     rw[h2]at f7
     simp only[cond_false,cond_true]at f7 ⊢
     generalize e05 (x0,x1,x2) (y0,y1,y2)=z at *
     obtain⟨⟨z0,z1,z2⟩,t⟩:=z
     cases t
     ·simp
     ·simp only at f7
      simp[f7]
theorem s0c(l:Q0)(name op a b:ByteArray)(hl:B00 l.2)(hs:name.size<=1048576):U8 l name op a b=some (O02 l name op a b):=by
 have l1:=t08 hl a
 have l2:=t08 hl b
 have f1:=r08 l a hl
 have f2:=r08 l b hl
 have f3:=i05 l hl.ok
 have f4:=Z0i l hl
 have f5:=G0h (a:=(l3 l a).1) (b:=(l3 l b).1) (by omega) (by omega)
 have f6:=L0h (a:=(l3 l a).1) (b:=(l3 l b).1) (by omega) (by omega)
 have f7:=p0k l name (K02 op (l3 l a).1 (l3 l b).1).1 hl hs (by have:=r09 op (l3 l a).1 (l3 l b).1;omega)
 unfold O02
 unfold K02 at f7 ⊢
 obtain⟨r,es⟩:=l
 unfold U8
 simp only[f1,f2,f3,f4,oB]
 generalize l3 (r,es) a=q1 at *
 generalize l3 (r,es) b=q2 at *
 obtain⟨⟨x0,x1,x2⟩,t1⟩:=q1
 obtain⟨⟨y0,y1,y2⟩,t2⟩:=q2
 simp only at f5 f6 f7 ⊢
 cases h1:P4 (r,es)
 ·simp
 ·cases t1
  ·simp
  ·cases t2
   ·simp
   ·rw[if_neg (by simp)]
    cases h2:O9 op (⟨#[109,101,101,116]⟩:ByteArray)
    ·rw[if_neg (by simp)]
     rw[h2]at f7
     cases h3:O9 op (⟨#[106,111,105,110]⟩:ByteArray)
     ·rw[if_neg (by simp)]
      simp
     ·rw[if_pos rfl,f6,oB]
      rw[h3]at f7
      simp only[cond_false,cond_true]at f7 ⊢
      generalize f05 (x0,x1,x2) (y0,y1,y2)=z at *
      obtain⟨⟨z0,z1,z2⟩,t⟩:=z
      cases t
      ·simp
      ·simp only at f7
       simp[f7]
    ·rw[if_pos rfl,f5,oB]
     rw[h2]at f7
     simp only[cond_false,cond_true]at f7 ⊢
     generalize e05 (x0,x1,x2) (y0,y1,y2)=z at *
     obtain⟨⟨z0,z1,z2⟩,t⟩:=z
     cases t
     ·simp
     ·simp only at f7
      simp[f7]
end Go.Proofs.YtkjhghloldgioaaGreat
