/- Texts of the claim, joined: Plain laws: vertices and edges added; the steps that are mis and others. -/
import Derived.Test.YtcakocbgbelmeaaGreatPart23
import Derived.Test.YtcakocbgbelmeaaGreatPart17
import Derived.Test.YtcakocbgbelmeaaGreatH36
import Derived.Test.YtcakocbgbelmeaaGreatPart18
namespace Go.Proofs.YtcakocbgbelmeaaGreat
open Go.H
set_option linter.unusedVariables false
set_option linter.unusedSimpArgs false
def M2(g:j0):j0×Bool:=bif decide (g.2.1<40)then((g.1,g.2.1+1,g.2.2),true)else(g,false)
theorem O0c{g:j0}(hg:Q0 g=true):G00 g=some (M2 g):=by
 obtain⟨q1,q2,q3,q4⟩:=A2 hg
 have h1:=L7 g (by omega)
 have h2:=K01 g (by omega)
 obtain⟨r,n,es⟩:=g
 simp only at q3
 unfold G00 M2
 simp only[h1,h2,hg,oB,Bool.not_true,cond_false]
 by_cases c:n<40
 ·rw[if_neg (by simp;omega),w64 (by omega) (by omega)];simp[c]
 ·rw[if_pos (by simp;omega)];simp[c]
theorem P0c{g:j0}(hg:Q0 g=true):I00 g=some (M2 g):=by
 obtain⟨q1,q2,q3,q4⟩:=A2 hg
 have h1:=z00 g (by omega)
 have h2:=T00 g (by omega)
 obtain⟨r,n,es⟩:=g
 simp only at q3
 unfold I00 M2
 simp only[h1,h2,hg,oB,Bool.not_true,cond_false]
 by_cases c:n<40
 ·rw[if_neg (by simp;omega),w64 (by omega) (by omega)];simp[c]
 ·rw[if_pos (by simp;omega)];simp[c]
theorem a04{g:j0}(hg:Q0 g=true):Q0 (M2 g).1=true:=by
 unfold M2
 by_cases c:g.2.1<40
 ·simp only[c,decide_true,cond_true]
  obtain⟨q1,q2,q3,q4,q5⟩:=(p01 g).1 hg
  refine(p01 _).2 ⟨fun e he=>?_,q2,?_,q4,q5⟩
  ·have:=q1 e he
   simp only
   omega
  ·simp only;omega
 ·simp only[c,decide_false,cond_false];exact hg
theorem X0l(es:List H0)(e:H0)(hl:es.length≤140737488355328):∀(d k fuel:Nat),k+d=es.length→d<fuel →
  ∃ X,M1 es e.1 e.2.1 e.2.2 fuel (k:Int)=some X∧((∃ i:Nat,X = .inl (i:Int)∧i<es.length∧e∈es.drop k)∨(X = .inr ()∧e ∉ es.drop k))
 |d,k,0,hd,hf=>by omega
 |0,k,fuel+1,hd,hf=>by
  rw[M1.eq_2,if_neg (by simp;omega),E1 (by omega)]
  exact⟨_,rfl,.inr ⟨rfl,by simp⟩⟩
 |d+1,k,fuel+1,hd,hf=>by
  have hk:k<es.length:=by omega
  have hx:=p5 hk
  generalize es[k]=b at hx
  rw[M1.eq_2,if_pos (by simp;omega),j2 hx,oB,J1 hx]
  simp only[]
  by_cases c:eqE e b=true
  ·rw[if_pos c]
   refine⟨_,rfl,.inl ⟨k,rfl,hk,?_⟩⟩
   rw[(o0d _ _).1 c]
   exact mS
  ·rw[if_neg c,V1 hk (by omega)]
   obtain⟨X,h1,h2⟩:=X0l es e hl d (k+1) fuel (by omega) (by omega)
   refine⟨X,h1,?_⟩
   have hne:e≠b:=fun h=>c ((o0d _ _).2 h)
   rcases h2 with⟨i,q1,q2,q3⟩|⟨q1,q2⟩
   ·exact .inl ⟨i,q1,q2,mC _ q3⟩
   ·refine .inr ⟨q1,fun h=>?_⟩
    rcases List.mem_cons.1 h with h|h
    ·exact hne h
    ·exact q2 h
theorem K0k(es:List H0)(e:H0)(hl:es.length≤140737488355328):U2 es e=some (decide (e∈es)):=by
 obtain⟨X,h1,h2⟩:=X0l es e hl es.length 0 S0 (by omega) (Y0 hl)
 obtain⟨e0,e1,e2⟩:=e
 unfold U2 H4
 simp only
 simp only[List.drop_zero]at h2
 rw[show(0:Int)=((0:Nat):Int) from rfl,h1]
 rcases h2 with⟨i,rfl,q2,q3⟩|⟨rfl,q2⟩
 ·simp only[oB,S3]
  rw[D0 (show M0 ((i:Nat):Int) from⟨by omega,by omega⟩)]
  simp[q3]
 ·simp only[oB,T0]
  rw[D0 (show M0 (-1) from⟨by omega,by omega⟩)]
  simp[q2]
def T06(g:j0)(v:Int):List Int→List H0
 | []=>[]
 |x::r=>(bif decide (U0 g v x<0)then [(v,x,-1)]else [])++T06 g v r
def X08(g:j0):Nat→Nat→List H0
 |0,_=>[]
 |d+1,v=>T06 g (v:Int) (F5 g.1.toNat 1)++X08 g d (v+1)
theorem v08(g:j0)(v:Int):∀ l,(T06 g v l).length≤l.length
 | []=>Nat.le_refl _
 |x::r=>by
  have:=v08 g v r
  simp only[T06,List.length_append,List.length_cons]
  cases decide (U0 g v x<0)<;>simp<;>omega
theorem v0j(g:j0)(hg:Q0 g=true)(v:Int)(ls:List Int)(hls:∀ x∈ls,j4 x)(hl:ls.length≤1000):∀(d k fuel:Nat) (acc:List H0),k+d=ls.length→d<fuel→acc.length+d≤100000 →
  B3 ls g.1 g.2.1 g.2.2 v fuel (k:Int) acc=some (acc++T06 g v (ls.drop k))
 |d,k,0,acc,hd,hf,ha=>by omega
 |0,k,fuel+1,acc,hd,hf,ha=>by
  rw[B3.eq_2,if_neg (by simp;omega),E1 (by omega)]
  simp[T06]
 |d+1,k,fuel+1,acc,hd,hf,ha=>by
  obtain⟨q1,q2,q3,q4⟩:=A2 hg
  have hk:k<ls.length:=by omega
  have hx:=p5 hk
  have hm:=hls _ (List.getElem_mem hk)
  generalize ls[k]=x at hx hm
  have ih:∀ acc':List H0,acc'.length+d≤100000→B3 ls g.1 g.2.1 g.2.2 v fuel ((k+1:Nat):Int) acc'=some (acc'++T06 g v (ls.drop (k+1))):=fun acc' h=>v0j g hg v ls hls hl d (k+1) fuel acc' (by omega) (by omega) h
  rw[B3.eq_2,if_pos (by simp;omega),j2 hx,oB,show(g.1,g.2.1,g.2.2)=g from rfl,t03 g v x hm (by omega),oB,D0 (v02 q1 q3.2 v x),oB,V1 hk (by omega),J1 hx,T06]
  cases decide (U0 g v x<0)with
  |true =>
   rw[if_pos rfl,oB,D0 (by simp;omega),oB,ih _ (by simp;omega)]
   simp
  |false =>
   rw[if_neg (by simp),ih _ (by omega)]
   simp
theorem w0j(g:j0)(hg:Q0 g=true)(v:Int)(ls:List Int)(hls:∀ x∈ls,j4 x)(hl:ls.length≤1000):∀(d k fuel:Nat) (acc:List H0),k+d=ls.length→d<fuel→acc.length+d≤100000 →
  C3 ls g.1 g.2.1 g.2.2 v fuel (k:Int) acc=some (acc++T06 g v (ls.drop k))
 |d,k,0,acc,hd,hf,ha=>by omega
 |0,k,fuel+1,acc,hd,hf,ha=>by
  rw[C3.eq_2,if_neg (by simp;omega),E1 (by omega)]
  simp[T06]
 |d+1,k,fuel+1,acc,hd,hf,ha=>by
  obtain⟨q1,q2,q3,q4⟩:=A2 hg
  have hk:k<ls.length:=by omega
  have hx:=p5 hk
  have hm:=hls _ (List.getElem_mem hk)
  generalize ls[k]=x at hx hm
  have ih:∀ acc':List H0,acc'.length+d≤100000→C3 ls g.1 g.2.1 g.2.2 v fuel ((k+1:Nat):Int) acc'=some (acc'++T06 g v (ls.drop (k+1))):=fun acc' h=>w0j g hg v ls hls hl d (k+1) fuel acc' (by omega) (by omega) h
  rw[C3.eq_2,if_pos (by simp;omega),j2 hx,oB,show(g.1,g.2.1,g.2.2)=g from rfl,N04 g v x hm (by omega),oB,D0 (v02 q1 q3.2 v x),oB,V1 hk (by omega),J1 hx,T06]
  cases decide (U0 g v x<0)with
  |true =>
   rw[if_pos rfl,D0 (by simp;omega),oB,ih _ (by simp;omega)]
   simp
  |false =>
   rw[if_neg (by simp),ih _ (by omega)]
   simp
theorem D0a:∀(d i:Nat) (x:Int),x∈F5 d i→∃ j:Nat,i≤j∧j<i+d∧(x=(j:Int)∨x = -(j:Int))
 |0,i,x,h=>by simp[F5]at h
 |d+1,i,x,h=>by
  simp only[F5,List.mem_cons]at h
  rcases h with rfl|rfl|h
  ·exact⟨i,Nat.le_refl _,by omega,.inl rfl⟩
  ·exact⟨i,Nat.le_refl _,by omega,.inr rfl⟩
  ·obtain⟨j,h1,h2,h3⟩:=D0a d (i+1) x h
   exact⟨j,by omega,by omega,h3⟩
theorem x0j(g:j0)(hf0:K0 g=true):∀(d k fuel:Nat) (acc:List H0),k+d=g.2.1.toNat→d<fuel→acc.length+100*d≤10000 →
  M4 g.2.1 g.1 g.2.2 fuel (k:Int) acc=some (acc++X08 g d k)
 |d,k,0,acc,hd,hf,ha=>by omega
 |0,k,fuel+1,acc,hd,hf,ha=>by
  obtain⟨q1,q2,q3,q4⟩:=j1 hf0
  rw[M4.eq_2,show decide (((k:Nat):Int)<g.2.1)=false by simp;omega]
  simp[chk,X08]
 |d+1,k,fuel+1,acc,hd,hf,ha=>by
  obtain⟨q1,q2,q3,q4⟩:=j1 hf0
  have hg:=((R04 g).1 hf0).1
  obtain⟨R,hR⟩:∃ R:Nat,g.1=(R:Int):=⟨g.1.toNat,by omega⟩
  have hls:∀ x∈F5 g.1.toNat 1,j4 x:=fun x hx=>by
   obtain⟨j,h1,h2,h3⟩:=D0a _ _ _ hx
   refine⟨⟨by omega,by omega⟩,by omega⟩
  have hlen:=D00 g.1.toNat 1
  have hm:=v08 g (k:Int) (F5 g.1.toNat 1)
  have h0:=v0j g hg (k:Int) (F5 g.1.toNat 1) hls (by omega) (F5 g.1.toNat 1).length 0 S0 acc (by omega) (Y0 (by omega)) (by omega)
  rw[M4.eq_2,show decide (((k:Nat):Int)<g.2.1)=true by simp;omega,C1,show(g.1,g.2.1,g.2.2)=g from rfl,I5 g (by omega),oB,hf0]
  rw[if_pos (show(bif true then true else false)=true from rfl),show w6 g.1=some (F5 g.1.toNat 1) by rw[hR,I0h R (by omega)];rfl,oB,show(0:Int)=((0:Nat):Int) from rfl,h0,oB,V1 (show k<1000 by omega) (by omega),x0j g hf0 d (k+1) fuel _ (by omega) (by omega) (by simp;omega),X08]
  simp
theorem y0j(g:j0)(hf0:K0 g=true):∀(d k fuel:Nat) (acc:List H0),k+d=g.2.1.toNat→d<fuel→acc.length+100*d≤10000 →
  O4 g.2.1 g.1 g.2.2 fuel (k:Int) acc=some (acc++X08 g d k)
 |d,k,0,acc,hd,hf,ha=>by omega
 |0,k,fuel+1,acc,hd,hf,ha=>by
  obtain⟨q1,q2,q3,q4⟩:=j1 hf0
  rw[O4.eq_2,if_neg (by simp;omega)]
  simp[X08]
 |d+1,k,fuel+1,acc,hd,hf,ha=>by
  obtain⟨q1,q2,q3,q4⟩:=j1 hf0
  have hg:=((R04 g).1 hf0).1
  obtain⟨R,hR⟩:∃ R:Nat,g.1=(R:Int):=⟨g.1.toNat,by omega⟩
  have hls:∀ x∈F5 g.1.toNat 1,j4 x:=fun x hx=>by
   obtain⟨j,h1,h2,h3⟩:=D0a _ _ _ hx
   refine⟨⟨by omega,by omega⟩,by omega⟩
  have hlen:=D00 g.1.toNat 1
  have hm:=v08 g (k:Int) (F5 g.1.toNat 1)
  have h0:=w0j g hg (k:Int) (F5 g.1.toNat 1) hls (by omega) (F5 g.1.toNat 1).length 0 S0 acc (by omega) (Y0 (by omega)) (by omega)
  rw[O4.eq_2,if_pos (by simp;omega),show Q8 g.1=some (F5 g.1.toNat 1) by rw[hR,F0k R (by omega)];rfl,oB,show(0:Int)=((0:Nat):Int) from rfl,h0,oB,V1 (show k<1000 by omega) (by omega),y0j g hf0 d (k+1) fuel _ (by omega) (by omega) (by simp;omega),X08]
  simp
def J00(g:j0):List H0:=X08 g g.2.1.toNat 0
theorem t0f{g:j0}(hf:K0 g=true):W7 g=some (J00 g):=by
 obtain⟨q1,q2,q3,q4⟩:=j1 hf
 have h:=x0j g hf g.2.1.toNat 0 S0 [] (by omega) (Y0 (by omega)) (by simp;omega)
 obtain⟨r,n,es⟩:=g
 unfold W7 J00
 simp only at h ⊢
 rw[show(0:Int)=((0:Nat):Int) from rfl,h];simp
theorem u0f{g:j0}(hf:K0 g=true):Y7 g=some (J00 g):=by
 obtain⟨q1,q2,q3,q4⟩:=j1 hf
 have h:=y0j g hf g.2.1.toNat 0 S0 [] (by omega) (Y0 (by omega)) (by simp;omega)
 have h2:=R8 g (by omega)
 obtain⟨r,n,es⟩:=g
 unfold Y7 J00
 simp only[h2,hf,oB]at h ⊢
 rw[if_neg (by simp),show(0:Int)=((0:Nat):Int) from rfl,h];simp
theorem Q07{g:j0}(hg:Q0 g=true)(u:Int)(w:List Int)(v:Int):(I4 g u w v).1.2.2.length≤120:=by
 have q:=(A2 hg).2.2.2
 unfold I4
 cases hc:(!w.isEmpty&&decide (g.2.1+(w.length:Int)-1≤40)&&decide (g.2.2.length+w.length≤120))with
 |false=>exact q
 |true =>
  simp only[Bool.and_eq_true,decide_eq_true_eq]at hc
  have h1:=L01 (s02 v w u g.2.1) g.2.2
  have h2:=u08 v w u g.2.1
  simp only[cond_true]
  omega
theorem L0k(g:Nat):∀(d k:Nat) (x:Int),x∈wo g d k→∃ j:Nat,x=(j:Int)∧k≤j∧j<k+d
 |0,k,x,h=>nomatch h
 |d+1,k,x,h=>by
  unfold wo at h
  split at h
  ·obtain⟨j,h1,h2,h3⟩:=L0k g d (k+1) x h
   exact⟨j,h1,by omega,by omega⟩
  ·rcases List.mem_cons.1 h with rfl|h
   ·exact⟨k,rfl,Nat.le_refl _,by omega⟩
   ·obtain⟨j,h1,h2,h3⟩:=L0k g d (k+1) x h
    exact⟨j,h1,by omega,by omega⟩
theorem R07(g:Nat):∀(d k:Nat),(wo g d k).Nodup
 |0,k=>List.nodup_nil
 |d+1,k=>by
  unfold wo
  split
  ·exact R07 g d (k+1)
  ·refine List.nodup_cons.2 ⟨fun h=>?_,R07 g d (k+1)⟩
   obtain⟨j,h1,h2,h3⟩:=L0k g d (k+1) _ h
   omega
theorem P0h(P:List Int):∀(es:List H0),∀ e∈pE P es,∃ a∈es,e=(getI P a.1,a.2.1,getI P a.2.2)∧0≤getI P a.1∧0≤getI P a.2.2
 | [],e,h=>nomatch h
 |b::r,e,h=>by
  unfold pE at h
  cases hb:decide (0≤getI P b.1)&&decide (0≤getI P b.2.2)
  ·rw[hb]at h
   obtain⟨a,h1,h2⟩:=P0h P r e h
   exact⟨a,mC _ h1,h2⟩
  ·rw[hb]at h
   simp only[Bool.and_eq_true,decide_eq_true_eq]at hb
   rcases List.mem_cons.1 h with rfl|h
   ·exact⟨b,mS,rfl,hb.1,hb.2⟩
   ·obtain⟨a,h1,h2⟩:=P0h P r e h
    exact⟨a,mC _ h1,h2⟩
theorem y09{g:j0}{o:List Int}(hg:Q0 g=true)(ho:inV g.2.1.toNat o)(h1:1≤o.length)(h2:o.length≤40):Q0 (n8 g o)=true:=by
 obtain⟨q1,q2,q3,q4⟩:=A2 hg
 have hl:=F0h (plc g.2.1.toNat o) g.2.2
 refine B0a q2 ⟨by omega,by omega⟩ (by omega) fun e he=>?_
 obtain⟨a,ha,rfl,k1,k2⟩:=P0h _ _ e he
 have hq:=q1 a ha
 have r1:=(g06 ho (x:=a.1) (by omega)).2
 have r2:=(g06 ho (x:=a.2.2) (by omega)).2
 exact⟨⟨k1,r1⟩,⟨k2,r2⟩,hq.2.2⟩
theorem F0e{n:Nat}:∀(o:List Int) (k:Nat) (A:List Int),A.length=n→inV n o→o.Nodup→(∀ x,0≤x→getI A x<(k:Int))→(∀ x y,0≤x→0≤y→0≤getI A x→getI A x=getI A y→x=y) →
  ∀ x y,0≤x→0≤y→0≤getI (U00 A k o) x→getI (U00 A k o) x=getI (U00 A k o) y→x=y
 | [],k,A,hA,ho,hd,hr,hi=>hi
 |v::r,k,A,hA,ho,hd,hr,hi=>by
  have hv:=ho v mS
  refine F0e r (k+1) (A.set v.toNat (k:Int)) (by simp[hA]) (fun w hw=>ho w (mC _ hw)) (List.nodup_cons.1 hd).2 (fun x hx=>?_) (fun x y hx hy h0 he=>?_)
  ·rw[R03 hv.1 (by omega) hx]
   have:=hr x hx
   split<;>omega
  ·rw[R03 hv.1 (by omega) hx]at h0 he
   rw[R03 hv.1 (by omega) hy]at he
   have h1:=hr x hx
   have h2:=hr y hy
   by_cases c1:x=v
   ·by_cases c2:y=v
    ·rw[c1,c2]
    ·rw[if_pos c1,if_neg c2]at he;omega
   ·by_cases c2:y=v
    ·rw[if_neg c1,if_pos c2]at he;omega
    ·rw[if_neg c1]at h0;rw[if_neg c1,if_neg c2]at he
     exact hi x y hx hy h0 he
theorem Q0h{n:Nat}{o:List Int}(ho:inV n o)(hd:o.Nodup){x y:Int}(hx:0≤x)(hy:0≤y)(h0:0≤getI (plc n o) x)(he:getI (plc n o) x=getI (plc n o) y):x=y:=by
 refine F0e o 0 (List.replicate n (-1)) (by simp) ho hd (fun x hx=>by rw[I07];omega) (fun x y _ _ h _=>by rw[I07]at h;omega) x y hx hy h0 he
theorem L0o{es:List H0}(h:es.Pairwise fun a b=>O04 a b=false){a b:H0}(ha:a∈es)(hb:b∈es)(hne:a≠b):O04 a b=false:=by
 induction es with
 |nil=>cases ha
 |cons c r ih =>
  obtain⟨h1,h2⟩:=List.pairwise_cons.1 h
  rcases List.mem_cons.1 ha with rfl|ha'
  ·rcases List.mem_cons.1 hb with rfl|hb'
   ·exact absurd rfl hne
   ·exact h1 b hb'
  ·rcases List.mem_cons.1 hb with rfl|hb'
   ·rw[C0b];exact h1 a ha'
   ·exact ih h2 ha' hb'
theorem Q0p{es:List H0}(hA:Asc O0 es)(h:∀ a∈es,∀ b∈es,a≠b→O04 a b=false):es.Pairwise fun a b=>O04 a b=false:=by
 induction es with
 |nil=>exact .nil
 |cons c r ih =>
  obtain⟨h1,h2⟩:=List.pairwise_cons.1 hA
  refine List.pairwise_cons.2 ⟨fun b hb=>h c mS b (mC _ hb) fun e=>?_,ih h2 fun a ha b hb=>h a (mC _ ha) b (mC _ hb)⟩
  have:=h1 b hb
  rw[e,E6.refl]at this;omega
theorem L0b{g:j0}(hg:Q0 g=true):K0 g=true↔∀ a∈g.2.2,∀ b∈g.2.2,a≠b→O04 a b=false:=by
 rw[R04,J0b]
 exact⟨fun h a ha b hb hne=>L0o h.2 ha hb hne,fun h=>⟨hg,Q0p (graph_asc' hg) h⟩⟩
where graph_asc' {g:j0} (h:Q0 g=true):Asc O0 g.2.2:=((p01 g).1 h).2.2.2.2
theorem S07{g:j0}{o:List Int}(hf:K0 g=true)(ho:inV g.2.1.toNat o)(hd:o.Nodup)(h1:1≤o.length)(h2:o.length≤40):K0 (n8 g o)=true:=by
 have hg:=P3 hf
 obtain⟨q1,q2,q3,q4⟩:=A2 hg
 refine(L0b (y09 hg ho h1 h2)).2 fun a ha b hb hne=>?_
 have mem:∀ e∈(n8 g o).2.2,∃ a∈g.2.2,e=(getI (plc g.2.1.toNat o) a.1,a.2.1,getI (plc g.2.1.toNat o) a.2.2)∧0≤getI (plc g.2.1.toNat o) a.1∧0≤getI (plc g.2.1.toNat o) a.2.2:=fun e he=>by
  rcases(j9 E6 e _ _).1 he with h|h
  ·cases h
  ·exact P0h _ _ e h
 obtain⟨a',ha',rfl,k1,k2⟩:=mem a ha
 obtain⟨b',hb',rfl,k3,k4⟩:=mem b hb
 have hne':a'≠b':=fun e=>hne (by rw[e])
 have hc:=(L0b hg).1 hf a' ha' b' hb' hne'
 have ra:=q1 a' ha'
 have rb:=q1 b' hb'
 unfold O04 at hc ⊢
 simp only[Bool.and_eq_false_iff,Bool.or_eq_false_iff,decide_eq_false_iff_not]at hc ⊢
 rcases hc with hc|⟨hc1,hc2⟩
 ·exact .inl hc
 ·exact .inr ⟨fun e=>hc1 (Q0h ho hd ra.1.1 rb.1.1 k1 e),fun e=>hc2 (Q0h ho hd ra.2.1.1 rb.2.1.1 k2 e)⟩
def S04:Nat→j0→j0
 |0,g=>g
 |d+1,g=>match A9 g with
  |none=>g
  |some k=>S04 d (n8 g (wo k g.2.1.toNat 0))
theorem R0h{g:j0}{k:Nat}(h:A9 g=some k):1≤k∧k<g.2.1.toNat:=by
 have:=L07 _ _ _ h
 omega
theorem M0b{g:j0}(hg:Q0 g=true){k:Nat}(h:A9 g=some k):inV g.2.1.toNat (wo k g.2.1.toNat 0)∧(wo k g.2.1.toNat 0).length=g.2.1.toNat-1∧1≤(wo k g.2.1.toNat 0).length∧(wo k g.2.1.toNat 0).length≤40:=by
 obtain⟨q1,q2,q3,q4⟩:=A2 hg
 have hk:=R0h h
 have hlen:=C0e k g.2.1.toNat 0
 rw[if_pos (by omega)]at hlen
 exact⟨k0j k _ _ 0 (by omega),hlen,by omega,by omega⟩
theorem e02:∀(d:Nat) {g:j0},K0 g=true→K0 (S04 d g)=true
 |0,g,h=>h
 |d+1,g,h=>by
  unfold S04
  cases e:A9 g with
  |none=>exact h
  |some k =>
   obtain⟨h1,h2,h3,h4⟩:=M0b (P3 h) e
   exact e02 d (S07 h h1 (R07 _ _ _) h3 h4)
theorem G0e(n g:Nat)(hn:n≤1000)(u:List Int)(hu:u.length=n):∀(d k fuel:Nat) (acc bcc:List Int),k+d=n→d<fuel→acc.length≤k→bcc.length≤k →
  ∃ v,E5 (n:Int) (g:Int) u fuel (k:Int) acc bcc=some (acc++wo g d k,v)∧v.length+acc.length=bcc.length+(acc++wo g d k).length
 |d,k,0,acc,bcc,hd,hf,ha,hb=>by omega
 |0,k,fuel+1,acc,bcc,hd,hf,ha,hb=>by
  rw[E5.eq_2,if_neg (by simp;omega)];exact⟨bcc,by simp[wo],by simp[wo]⟩
 |d+1,k,fuel+1,acc,bcc,hd,hf,ha,hb=>by
  have hx:=p5 (show k<u.length by omega)
  generalize u[k]=x at hx
  rw[E5.eq_2,if_pos (by simp;omega),V1 (show k<10000 by omega) (by omega)]
  unfold wo
  by_cases c:k=g
  ·have e:decide ((k:Int)=(g:Int))=true:=decide_eq_true (by omega)
   rw[e,if_neg (by simp),if_pos c]
   exact G0e n g hn u hu d (k+1) fuel acc bcc (by omega) (by omega) (by omega) (by omega)
  ·have e:decide ((k:Int)=(g:Int))=false:=decide_eq_false (by omega)
   rw[e,if_pos (show(!false)=true from rfl),if_neg c,D0 (by simp;omega),oB,j2 hx,oB,D0 (by simp;omega),oB]
   obtain⟨v,h1,h2⟩:=G0e n g hn u hu d (k+1) fuel (acc ++ [(k:Int)]) (bcc ++ [x]) (by omega) (by omega) (by simp;omega) (by simp;omega)
   refine⟨v,by rw[h1];simp,?_⟩
   simp only[List.length_append,List.length_cons,List.length_nil]at h2 ⊢
   omega
theorem z0j(g:j0)(hg:Q0 g=true):∀(d k fuel:Nat) (acc:List Int),k+d=g.2.1.toNat→d<fuel→acc.length=k →
  ∃ u,l6 g.2.1 g.1 g.2.2 fuel (k:Int) acc=some u∧u.length=g.2.1.toNat
 |d,k,0,acc,hd,hf,ha=>by omega
 |0,k,fuel+1,acc,hd,hf,ha=>by
  obtain⟨q1,q2,q3,q4⟩:=A2 hg
  rw[l6.eq_2,show decide (((k:Nat):Int)<g.2.1)=false by simp;omega]
  exact⟨acc,by simp[chk],by omega⟩
 |d+1,k,fuel+1,acc,hd,hf,ha=>by
  obtain⟨q1,q2,q3,q4⟩:=A2 hg
  obtain⟨u,h1,h2⟩:=z0j g hg d (k+1) fuel (acc ++ [(k:Int)]) (by omega) (by omega) (by simp;omega)
  rw[l6.eq_2,show decide (((k:Nat):Int)<g.2.1)=true by simp;omega,C1,show(g.1,g.2.1,g.2.2)=g from rfl,L7 g (by omega),oB,hg]
  rw[if_pos (show(bif true then true else false)=true from rfl),D0 (by simp;omega),oB,V1 (show k<1000 by omega) (by omega),h1]
  exact⟨u,rfl,h2⟩
theorem A0j(g0:j0)(hg0:Q0 g0=true):∀(d k fuel:Nat) (g:j0) (u:List Int),k+d=40→d<fuel→Q0 g=true→u.length=g.2.1.toNat→g.2.1.toNat≤d+1 →
  ∃ v,(j6 g0.1 g0.2.1 g0.2.2 fuel u (k:Int) g.1 g.2.1 g.2.2).bind (fun X=>Z7 X (fun S=>match S with|(a,b,c,e)=>some ((b,c,e),a)))=some (S04 d g,v)
 |d,k,0,g,u,hd,hf,hg,hu,hn=>by omega
 |0,k,fuel+1,g,u,hd,hf,hg,hu,hn=>by
  rw[j6.eq_2,show decide (((k:Nat):Int)<40)=false by simp;omega]
  exact⟨u,by simp[chk,Z7,S04]⟩
 |d+1,k,fuel+1,g,u,hd,hf,hg,hu,hn=>by
  obtain⟨p1,p2,p3,p4⟩:=A2 hg0
  obtain⟨q1,q2,q3,q4⟩:=A2 hg
  have hl:=H0o g hg
  rw[j6.eq_2,show decide (((k:Nat):Int)<40)=true by simp;omega,C1,show(g0.1,g0.2.1,g0.2.2)=g0 from rfl,L7 g0 (by omega),oB,hg0]
  rw[if_pos (show(bif true then true else false)=true from rfl),show(g.1,g.2.1,g.2.2)=g from rfl,hl]
  unfold S04
  cases e:A9 g with
  |none =>
   simp only[oB]
   rw[D0 (show M0 (-1) from⟨by omega,by omega⟩),oB,if_pos (by simp)]
   exact⟨u,rfl⟩
  |some j =>
   obtain⟨h1,h2,h3,h4⟩:=M0b hg e
   have hj:=R0h e
   obtain⟨N,hN⟩:∃ N:Nat,g.2.1=(N:Int):=⟨g.2.1.toNat,by omega⟩
   have hNt:g.2.1.toNat=N:=by omega
   obtain⟨v,w1,w2⟩:=G0e N j (by omega) u (by omega) N 0 S0 [] [] (by omega) (Y0 (by omega)) (Nat.le_refl _) (Nat.le_refl _)
   have hr:=w09 g.1 N g.2.2 (wo j N 0) (by rw[←hN];exact hg) (by rw[←hNt];exact h1) (R07 _ _ _) (by rw[←hNt];exact h3) (by rw[←hNt];omega)
   rw[←hN,show(g.1,g.2.1,g.2.2)=g from rfl]at hr
   have hG:=y09 hg h1 h3 h4
   rw[hNt]at hG h2 h3
   obtain⟨v2,z⟩:=A0j g0 hg0 d (k+1) fuel (n8 g (wo j N 0)) v (by omega) (by omega) hG (by simp only[List.nil_append,List.length_nil]at w2;show v.length=((wo j N 0).length:Int).toNat;omega) (by show((wo j N 0).length:Int).toNat≤d+1;omega)
   simp only[oB]
   rw[D0 (show M0 ((j:Nat):Int) from⟨by omega,by omega⟩),oB,if_neg (by simp),hN,show(0:Int)=((0:Nat):Int) from rfl,w1]
   simp only[oB,List.nil_append]
   rw[←hN,hr]
   simp only[oB]
   rw[V1 (show k<1000 by omega) (by omega),hNt]
   exact⟨v2,z⟩
def C05(g:j0):j0:=S04 40 g
theorem H0e{g:j0}(hg:Q0 g=true):∃ v,K00 g=some (C05 g,v):=by
 obtain⟨q1,q2,q3,q4⟩:=A2 hg
 have hc:=K01 g (by omega)
 obtain⟨u,h1,h2⟩:=z0j g hg g.2.1.toNat 0 S0 [] (by omega) (Y0 (by omega)) rfl
 obtain⟨v,h3⟩:=A0j g hg 40 0 S0 g u rfl (Y0 (by omega)) hg h2 (by omega)
 refine⟨v,?_⟩
 obtain⟨r,n,es⟩:=g
 unfold K00
 simp only[hc,oB]
 simp only at h1 h3
 rw[show(0:Int)=((0:Nat):Int) from rfl,h1,oB]
 exact h3
theorem B0j:∀(n fuel d:Nat) (left:List Int) (r:Int) (es:List H0),1≤n→n≤40→inN n es→es.length≤120→left.length=n→n<fuel→n≤d+1 →
  ∃ l',D5 fuel left r (n:Int) es=some (.inl (S04 d (r,(n:Int),es),l'))
 |n,0,d,left,r,es,h1,h2,hn,hes,hl,hf,hd=>by omega
 |n,fuel+1,d,left,r,es,h1,h2,hn,hes,hl,hf,hd=>by
  obtain⟨S,eS,lS,hS⟩:=f0j r n es hn (by omega) h1 (by omega)
  have ht1:=J0h r n es (by omega) S lS h2 (n-1) 1 S0 (Nat.le_refl _) (by omega) (by omega) (Y0 (by omega))
  have hcg:lf (fun v=>decide (Z02 (v:Int) es<2) || !H9 S (v:Int)) (n-1) 1=lf (H0b es) (n-1) 1:=B0e _ _ fun k k1 k2=>by
   unfold H0b
   have:=hS (k:Int) (by omega) (by omega)
   have h3:=z0a es 0 (k:Int)
   congr 2
   cases hb:H9 S (k:Int)
   ·symm;exact decide_eq_false fun h=>by rw[this.2 (h3.1 h)]at hb;cases hb
   ·symm;exact decide_eq_true (h3.2 (this.1 hb))
  rw[hcg]at ht1
  have hleaf:A9 (r,(n:Int),es)=lf (H0b es) (n-1) 1:=by simp only[A9,Int.toNat_natCast]
  rw[D5.eq_2,eS,oB,show(1:Int)=((1:Nat):Int) from rfl,ht1,oB]
  cases hlf:lf (H0b es) (n-1) 1 with
  |none =>
   have e2:S04 d (r,(n:Int),es)=(r,(n:Int),es):=by
    cases d with
    |zero=>rfl
    |succ d=>unfold S04;rw[hleaf,hlf]
   rw[e2]
   exact⟨left,by rw[if_pos (by rfl)]⟩
  |some k =>
   have hk:=L07 _ _ _ hlf
   have e0:decide ((k:Int)=0)=false:=decide_eq_false (by omega)
   have ho:=k0j k n n 0 (by omega)
   have hlen:=C0e k n 0
   rw[if_pos (by omega)]at hlen
   have ht0:=K0h n k (by omega) n 0 S0 [] (by omega) (Y0 (by omega)) (Nat.le_refl _)
   rw[show((0:Nat):Int)=0 from rfl,List.nil_append]at ht0
   have hp:=G0h r n es (wo k n 0) hn ho (by omega) (by omega) (by omega)
   have hpl:=v09 (r,(n:Int),es) (wo k n 0)
   have hpi:=p0g (r:=r) ho hn
   have hw:IntKind.i64.wrap ((k:Int)+((1:Nat):Int))=((k+1:Nat):Int):=by rw[w64 (by omega) (by omega)];rfl
   obtain⟨d',rfl⟩:∃ d',d=d'+1:=⟨d-1,by omega⟩
   have hF:n8 (r,(n:Int),es) (wo k n 0)=(r,((n-1:Nat):Int),(n8 (r,(n:Int),es) (wo k n 0)).2.2):=by rw[←hlen];rfl
   obtain⟨l',q1⟩:=B0j (n-1) fuel d' (left.take k++left.drop (k+1)) r (n8 (r,(n:Int),es) (wo k n 0)).2.2 (by omega) (by omega) (by rw[hlen]at hpi;exact hpi) (by simp only at hpl;omega) (by simp only[List.length_append,List.length_take,List.length_drop];omega) (by omega) (by omega)
   refine⟨l',?_⟩
   rw[←hF]at q1
   have e2:S04 (d'+1) (r,(n:Int),es)=S04 d' (n8 (r,(n:Int),es) (wo k n 0)):=by
    show(match A9 (r,(n:Int),es)with|none=>(r,(n:Int),es)|some k=>S04 d' (n8 (r,(n:Int),es) (wo k ((n:Int)).toNat 0)))=_
    rw[hleaf,hlf,Int.toNat_natCast]
   rw[e2]
   simp only[e0,Bool.false_eq_true,if_false,ht0,oB,hp]
   generalize n8 (r,(n:Int),es) (wo k n 0)=gp at *
   rw[hF]
   simp only[hw]
   rw[M07 (by omega),oB,D02 (by omega),oB,D0 (by simp only[List.length_take,List.length_drop];omega),oB,q1,←hF]
theorem z0c{g:j0}(hg:Q0 g=true):∃ v,z7 g=some (C05 g,v):=by
 obtain⟨h1,h2,h3,h4⟩:=A2 hg
 have hq:=z00 g (by omega)
 have hc:=T00 g (by omega)
 obtain⟨r,n,es⟩:=g
 simp only at h2 h3 h4
 obtain⟨N,rfl⟩:∃ N:Nat,n=(N:Int):=⟨n.toNat,by omega⟩
 have hn:inN N es:=fun e he=>⟨(h1 e he).1,(h1 e he).2.1⟩
 obtain⟨u,e1,e2⟩:=L0h N (by omega) N 0 S0 [] (by omega) (Y0 (by omega)) rfl
 obtain⟨l',q1⟩:=B0j N S0 40 u r es (by omega) (by omega) hn h4 e2 (Y0 (by omega)) (by omega)
 refine⟨l',?_⟩
 unfold z7
 rw[show((0:Nat):Int)=0 from rfl]at e1
 simp only[hc,oB,hq,hg,Bool.not_true,Bool.false_eq_true,if_false,e1,q1,Z7]
 rfl
def N0b(g:j0):j0:=Y2 (C05 g)
theorem E0a{g:j0}(hf:K0 g=true):I9 g=(g,[]):=by
 obtain⟨h1,h2⟩:=(R04 g).1 hf
 unfold I9
 rw[h1]
 show y01 40 g=_
 unfold y01
 rw[h2]
theorem M0k{g:j0}(hf:K0 g=true):E7 g=some (N0b g):=by
 have hg:=P3 hf
 obtain⟨h1,h2,h3,h4⟩:=A2 hg
 have e1:=T08 g (by omega)
 rw[E0a hf]at e1
 obtain⟨v,e2⟩:=H0e hg
 have e3:=K07 (C05 g) (e02 40 hf)
 obtain⟨r,n,es⟩:=g
 unfold E7 N0b
 simp only[e1,oB,e2]
 simp only[e3,oB]
theorem N0k{g:j0}(hf:K0 g=true):F7 g=some (N0b g):=by
 have hg:=P3 hf
 obtain⟨h1,h2,h3,h4⟩:=A2 hg
 have e1:=U08 g (by omega)
 rw[E0a hf]at e1
 obtain⟨v,e2⟩:=z0c hg
 have e3:=J07 (C05 g) (e02 40 hf)
 obtain⟨r,n,es⟩:=g
 unfold F7 N0b
 simp only[e1,oB,e2]
 simp only[e3,oB]
theorem M0o{N r u x v:Int}(hu:0≤u∧u<N)(hv:0≤v∧v<N)(hx:x≠0 ∧ -r≤x∧x≤r):(0≤(stp u x v).1∧(stp u x v).1<N)∧(0≤(stp u x v).2.2∧(stp u x v).2.2<N)∧1≤(stp u x v).2.1∧(stp u x v).2.1≤r:=by
 unfold stp
 split<;>(simp only;omega)
theorem C0j{N r v:Int}(hv:0≤v∧v<N):∀(w:List Int) (u n:Int),(0≤u∧u<N)→0≤n→n+((w.length-1:Nat):Int)≤N→(∀ x∈w,x≠0 ∧ -r≤x∧x≤r) →
  ∀ e∈s02 v w u n,(0≤e.1∧e.1<N)∧(0≤e.2.2∧e.2.2<N)∧1≤e.2.1∧e.2.1≤r
 | [],u,n,hu,h0,hn,hw,e,he=>nomatch he
 | [x],u,n,hu,h0,hn,hw,e,he=>by
  simp only[s02,List.mem_singleton]at he
  subst he
  exact M0o hu hv (hw x mS)
 |x::y::l,u,n,hu,h0,hn,hw,e,he=>by
  simp only[List.length_cons]at hn
  simp only[s02]at he
  rcases List.mem_cons.1 he with rfl|he
  ·exact M0o hu ⟨h0,by omega⟩ (hw x mS)
  ·exact C0j hv (y::l) n (n+1) ⟨h0,by omega⟩ (by omega) (by simp only[List.length_cons];omega) (fun z hz=>hw z (mC _ hz)) e he
theorem D05{g:j0}{u v:Int}{w:List Int}(hg:Q0 g=true)(hu:0≤u∧u<g.2.1)(hv:0≤v∧v<g.2.1)(hw:I2 g.1 w=true):Q0 (I4 g u w v).1=true:=by
 obtain⟨q1,q2,q3,q4,q5⟩:=(p01 g).1 hg
 obtain⟨wl,wx⟩:=C03 hw
 unfold I4
 cases hc:(!w.isEmpty&&decide (g.2.1+(w.length:Int)-1≤40)&&decide (g.2.2.length+w.length≤120))with
 |false=>exact hg
 |true =>
  simp only[Bool.and_eq_true,decide_eq_true_eq,Bool.not_eq_true',List.isEmpty_eq_false_iff]at hc
  have hne:1≤w.length:=by
   have:=List.length_pos_iff.2 hc.1.1;omega
  have h1:=L01 (s02 v w u g.2.1) g.2.2
  have h2:=u08 v w u g.2.1
  simp only[cond_true]
  refine(p01 _).2 ⟨fun e he=>?_,q2,⟨by simp only;omega,by simp only;omega⟩,by simp only;omega,A02 E6 _ _ q5⟩
  simp only at he ⊢
  rcases(j9 E6 e _ _).1 he with h|h
  ·have:=q1 e h
   omega
  ·exact C0j ⟨by omega,by omega⟩ w u g.2.1 ⟨by omega,by omega⟩ (by omega) (iR _) (fun x hx=>(wx x hx).2) e h
theorem N06(g:j0)(u:Int)(w:List Int)(v:Int):(I4 g u w v).1.1=g.1:=by
 unfold I4
 cases (!w.isEmpty&&decide (g.2.1+(w.length:Int)-1≤40)&&decide (g.2.2.length+w.length≤120))<;>rfl
def Y08:List (List Int)→j0→j0
 | [],g=>g
 |w::r,g=>Y08 r (I4 g 0 w 0).1
theorem A0c:∀(ws:List (List Int)) {g:j0},Q0 g=true→(∀ w∈ws,I2 g.1 w=true)→Q0 (Y08 ws g)=true
 | [],g,hg,hw=>hg
 |w::r,g,hg,hw=>by
  obtain⟨q1,q2,q3,q4⟩:=A2 hg
  exact A0c r (D05 hg ⟨iR _,by omega⟩ ⟨iR _,by omega⟩ (hw w mS)) fun w' hw'=>by
   rw[N06];exact hw w' (mC _ hw')
theorem D0j{g:j0}{w:List Int}(hg:Q0 g=true)(hw:I2 g.1 w=true):b01 g w=some (I4 g 0 w 0):=by
 obtain⟨q1,q2,q3,q4⟩:=A2 hg
 have h:=V08 hg (u:=0) (v:=0) ⟨iR _,by omega⟩ ⟨iR _,by omega⟩ hw
 obtain⟨r,n,es⟩:=g
 unfold b01
 simp only[h,oB]
theorem E0j{g:j0}{w:List Int}(hg:Q0 g=true)(hw:I2 g.1 w=true):f01 g w=some (I4 g 0 w 0):=by
 obtain⟨q1,q2,q3,q4⟩:=A2 hg
 have h:=W08 hg (u:=0) (v:=0) ⟨iR _,by omega⟩ ⟨iR _,by omega⟩ hw
 obtain⟨r,n,es⟩:=g
 unfold f01
 simp only[h,oB]
theorem w0g(ws:List (List Int))(hl:ws.length≤1000):∀(d k fuel:Nat) (g:j0),k+d=ws.length→d<fuel→Q0 g=true→(∀ w∈ws,I2 g.1 w=true) →
  Q6 ws fuel (k:Int) g.1 g.2.1 g.2.2=some (Y08 (ws.drop k) g)
 |d,k,0,g,hd,hf,hg,hw=>by omega
 |0,k,fuel+1,g,hd,hf,hg,hw=>by
  rw[Q6.eq_2,if_neg (by simp;omega),E1 (by omega)];rfl
 |d+1,k,fuel+1,g,hd,hf,hg,hw=>by
  have hk:k<ws.length:=by omega
  have hx:=p5 hk
  have hwk:=hw _ (List.getElem_mem hk)
  generalize ws[k]=w at hx hwk
  obtain⟨q1,q2,q3,q4⟩:=A2 hg
  have ih:=w0g ws hl d (k+1) fuel (I4 g 0 w 0).1 (by omega) (by omega) (D05 hg ⟨iR _,by omega⟩ ⟨iR _,by omega⟩ hwk) (by rw[N06];exact hw)
  rw[Q6.eq_2,if_pos (by simp;omega),j2 hx,oB,show(g.1,g.2.1,g.2.2)=g from rfl,D0j hg hwk,oB,V1 hk (by omega),J1 hx]
  exact ih
theorem x0g(ws:List (List Int))(hl:ws.length≤1000):∀(d k fuel:Nat) (g:j0),k+d=ws.length→d<fuel→Q0 g=true→(∀ w∈ws,I2 g.1 w=true) →
  U5 ws fuel (k:Int) g.1 g.2.1 g.2.2=some (Y08 (ws.drop k) g)
 |d,k,0,g,hd,hf,hg,hw=>by omega
 |0,k,fuel+1,g,hd,hf,hg,hw=>by
  rw[U5.eq_2,if_neg (by simp;omega),E1 (by omega)];rfl
 |d+1,k,fuel+1,g,hd,hf,hg,hw=>by
  have hk:k<ws.length:=by omega
  have hx:=p5 hk
  have hwk:=hw _ (List.getElem_mem hk)
  generalize ws[k]=w at hx hwk
  obtain⟨q1,q2,q3,q4⟩:=A2 hg
  have ih:=x0g ws hl d (k+1) fuel (I4 g 0 w 0).1 (by omega) (by omega) (D05 hg ⟨iR _,by omega⟩ ⟨iR _,by omega⟩ hwk) (by rw[N06];exact hw)
  rw[U5.eq_2,if_pos (by simp;omega),j2 hx,oB,V1 hk (by omega),J1 hx]
  by_cases c:w = []
  ·subst c
   rw[if_neg (by simp)]
   have e:(I4 g 0 [] 0).1=g:=rfl
   rw[e]at ih
   rw[ih]
   show _=some (Y08 (ws.drop (k+1)) (I4 g 0 [] 0).1)
   rw[e]
  ·have:0<w.length:=List.length_pos_iff.2 c
   rw[if_pos (by simp;omega),show(g.1,g.2.1,g.2.2)=g from rfl,E0j hg hwk,oB]
   exact ih
def h06(r:Int)(ws:List (List Int)):j0×Bool:=bif R5 r ws then(Y08 ws (r,1,[]),true)else((0,0,[]),false)
theorem i06{r:Int}{ws:List (List Int)}(h:R5 r ws=true):(1≤r∧r≤3)∧ws.length≤6∧∀ w∈ws,I2 r w=true:=by
 simp only[R5,inR,Bool.and_eq_true,decide_eq_true_eq]at h
 refine⟨h.1.1.1,h.1.1.2,?_⟩
 have hw:∀ {ws:List (List Int)},K0c r ws=true→∀ w∈ws,I2 r w=true:=by
  intro ws
  induction ws with
  |nil=>intro _ w hw;cases hw
  |cons v l ih =>
   intro h w hw
   simp only[K0c,Bool.and_eq_true]at h
   rcases List.mem_cons.1 hw with rfl|hw
   ·exact h.1
   ·exact ih h.2 w hw
 exact hw h.1.2
theorem O0b{r:Int}(hr:1≤r∧r≤3):Q0 (r,1,[])=true:=(p01 _).2 ⟨(fun e he=>by cases he),hr,⟨by simp,by simp⟩,by simp,List.Pairwise.nil⟩
theorem S0h(r:Int)(ws:List (List Int))(hl:ws.length≤140737488355328)(hs:P7 ws):c01 r ws=some (h06 r ws):=by
 have h1:=E07 r ws hl hs
 unfold c01 h06
 rw[h1,oB]
 cases hA:R5 r ws with
 |false=>rfl
 |true =>
  obtain⟨hr,hn,hw⟩:=i06 hA
  have h:=w0g ws (by omega) ws.length 0 S0 (r,1,[]) (by omega) (Y0 (by omega)) (O0b hr) hw
  have h2:a01 r=some ((r,1,[]),true):=by
   unfold a01
   rw[v01,oB,if_neg (by simp[inR];omega)]
  rw[if_neg (by simp),h2,oB]
  simp only[]at h ⊢
  rw[show(0:Int)=((0:Nat):Int) from rfl,h]
  rfl
theorem T0h(r:Int)(ws:List (List Int))(hl:ws.length≤140737488355328)(hs:P7 ws):g01 r ws=some (h06 r ws):=by
 have h1:=F07 r ws hl hs
 unfold g01 h06
 rw[h1,oB]
 cases hA:R5 r ws with
 |false=>rfl
 |true =>
  obtain⟨hr,hn,hw⟩:=i06 hA
  have h:=x0g ws (by omega) ws.length 0 S0 (r,1,[]) (by omega) (Y0 (by omega)) (O0b hr) hw
  have h2:e01 r=some ((r,1,[]),true):=by
   unfold e01
   rw[q02,oB,if_neg (by simp[inR];omega)]
  rw[if_neg (by simp),h2,oB]
  simp only[]at h ⊢
  rw[show(0:Int)=((0:Nat):Int) from rfl,h]
  rfl
theorem I0e:∀(d:Nat) {g:j0},Q0 g=true→g.2.1.toNat≤d+1→A9 (S04 d g)=none
 |0,g,hg,hn=>by
  cases e:A9 g with
  |none=>exact e
  |some k=>have:=R0h e;omega
 |d+1,g,hg,hn=>by
  unfold S04
  cases e:A9 g with
  |none=>exact e
  |some k =>
   obtain⟨h1,h2,h3,h4⟩:=M0b hg e
   exact I0e d (y09 hg h1 h3 h4) (by show(((wo k g.2.1.toNat 0).length:Nat):Int).toNat≤d+1;omega)
theorem U0m{g:j0}(hf:K0 g=true){v x y z:Int}(hy:y∈S9 v x g.2.2)(hz:z∈S9 v x g.2.2):y=z:=by
 obtain⟨e,he,h1⟩:=Q7.1 hy
 obtain⟨e',he',h2⟩:=Q7.1 hz
 by_cases hne:e=e'
 ·subst hne
  rcases h1 with⟨a,b,c,rfl⟩|⟨a,b,c,rfl⟩<;>rcases h2 with⟨a',b',c',rfl⟩|⟨a',b',c',rfl⟩<;>first|rfl|omega
 ·have hc:=(L0b (P3 hf)).1 hf e he e' he' hne
  unfold O04 at hc
  simp only[Bool.and_eq_false_iff,Bool.or_eq_false_iff,decide_eq_false_iff_not]at hc
  rcases h1 with⟨a,b,c,d⟩|⟨a,b,c,d⟩<;>rcases h2 with⟨a',b',c',d'⟩|⟨a',b',c',d'⟩<;>first|omega|(exfalso;rcases hc with hc|⟨hc1,hc2⟩<;>omega)
theorem O06(g:j0)(v x:Int):(U0 g v x = -1∧S9 v x g.2.2 = [])∨U0 g v x∈S9 v x g.2.2:=by
 unfold U0
 cases e:u02 g v x with
 |nil =>
  left
  refine⟨rfl,List.eq_nil_iff_forall_not_mem.2 fun y hy=>?_⟩
  have:y∈u02 g v x:=(j9 o02 y _ _).2 (.inr hy)
  rw[e]at this;cases this
 |cons a l=>exact .inr (e0g (by rw[e];exact mS))
theorem F0a{g:j0}(hf:K0 g=true){v x y:Int}(hy:y∈S9 v x g.2.2):U0 g v x=y:=by
 rcases O06 g v x with⟨_,h⟩|h
 ·rw[h]at hy;cases hy
 ·exact U0m hf h hy
theorem F0j:∀(d i j:Nat),i≤j→j<i+d→(j:Int)∈F5 d i ∧ -(j:Int)∈F5 d i
 |0,i,j,h1,h2=>by omega
 |d+1,i,j,h1,h2=>by
  simp only[F5,List.mem_cons]
  by_cases c:j=i
  ·subst c;simp
  ·obtain⟨a,b⟩:=F0j d (i+1) j (by omega) (by omega)
   exact⟨.inr (.inr a),.inr (.inr b)⟩
theorem y0g(g:j0)(v:Int):∀(ls u:List Int) (x:Int),x∈ls→0≤U0 g v x→U0 g v x∈r02 g v ls u
 |y::r,u,x,hx,h0=>by
  rw[r02]
  rcases List.mem_cons.1 hx with rfl|hx
  ·obtain⟨t,e⟩:=J02 g v r (b07 u (U0 g v x))
   rw[e]
   refine List.mem_append_left _ ?_
   unfold b07
   split
   ·exact List.mem_append_right _ (List.mem_singleton.2 rfl)
   ·rename_i h
    by_cases hm:U0 g v x∈u
    ·exact hm
    ·exact absurd ⟨h0,hm⟩ h
  ·exact y0g g v r _ x hx h0
theorem z09(g:j0)(ls:List Int):∀(f i:Nat) (u:List Int),∃ t,S8 g ls f i u=u++t
 |0,i,u=>⟨[],by simp[S8]⟩
 |f+1,i,u=>by
  unfold S8
  split
  ·rename_i v _
   obtain⟨t1,e1⟩:=J02 g v ls u
   obtain⟨t2,e2⟩:=z09 g ls f (i+1) (r02 g v ls u)
   exact⟨t1++t2,by rw[e2,e1,List.append_assoc]⟩
  ·exact⟨[],by simp⟩
theorem J0e{r:Int}{n:Nat}{es:List H0}(hg:inG (r,(n:Int),es))(ls:List Int):∀(f i:Nat) (u:List Int),gud n u→n+1≤f+i→i≤u.length →
  (∀ j,j<i→∀ v,u[j]?=some v→∀ x∈ls,0≤U0 (r,(n:Int),es) v x→U0 (r,(n:Int),es) v x∈u) →
  ∀ v∈S8 (r,(n:Int),es) ls f i u,∀ x∈ls,0≤U0 (r,(n:Int),es) v x→U0 (r,(n:Int),es) v x∈S8 (r,(n:Int),es) ls f i u
 |0,i,u,hu,hn,hi,hc=>by have:=l9 n u hu.1 hu.2;omega
 |f+1,i,u,hu,hn,hi,hc=>by
  unfold S8
  cases e:u[i]? with
  |none =>
   have:i=u.length:=by have:=List.getElem?_eq_none_iff.1 e;omega
   show ∀ v∈u,∀ x∈ls,0≤U0 (r,(n:Int),es) v x→U0 (r,(n:Int),es) v x∈u
   intro v hv x hx h0
   obtain⟨j,hj⟩:=List.getElem?_of_mem hv
   exact hc j (by have:=(List.getElem?_eq_some_iff.1 hj).1;omega) v hj x hx h0
  |some w =>
   have hil:=(List.getElem?_eq_some_iff.1 e).1
   obtain⟨t,et⟩:=J02 (r,(n:Int),es) w ls u
   refine J0e hg ls f (i+1) _ (s04 hg w ls u hu) (by omega) (by rw[et,List.length_append];omega) fun j hj v hv x hx h0=>?_
   by_cases c:j=i
   ·subst c
    rw[et,List.getElem?_append_left hil,e]at hv
    cases hv
    exact y0g _ _ ls u x hx h0
   ·rw[et,List.getElem?_append_left (by omega)]at hv
    rw[et]
    exact List.mem_append_left _ (hc j (by omega) v hv x hx h0)
theorem K0e(g:j0):∃ t,T5 g=0::t:=by
 obtain⟨t,e⟩:=z09 g (F5 g.1.toNat 1) (g.2.1.toNat+1) 0 [0]
 exact⟨t,e⟩
theorem G0j{g:j0}(hf:K0 g=true){x:Int}(h:Rch g.2.2 0 x):x∈T5 g:=by
 obtain⟨q1,q2,q3,q4⟩:=j1 hf
 have hz:=K0e g
 have hclo:∀ v∈T5 g,∀ x∈F5 g.1.toNat 1,0≤U0 g v x→U0 g v x∈T5 g:=by
  obtain⟨r,n,es⟩:=g
  simp only at q2 q3
  obtain⟨N,rfl⟩:∃ N:Nat,n=(N:Int):=⟨n.toNat,by omega⟩
  exact J0e q1 _ (((N:Int)).toNat+1) 0 [0] ⟨by simp,fun x hx=>by simp at hx;subst hx;omega⟩ (by simp only[Int.toNat_natCast];omega) (Nat.zero_le _) (fun j hj=>by omega)
 refine Rch.sub (P:=fun x=>x∈T5 g) ?_ (fun e he=>?_) h
 ·obtain⟨t,e⟩:=hz
  rw[e];exact mS
 ·have hq:=q1 e he
  obtain⟨j,hj⟩:∃ j:Nat,e.2.1=(j:Int):=⟨e.2.1.toNat,by omega⟩
  obtain⟨l1,l2⟩:=F0j g.1.toNat 1 j (by omega) (by omega)
  have n1:U0 g e.1 (j:Int)=e.2.2:=F0a hf (Q7.2 ⟨e,he,.inl ⟨by omega,hj,rfl,rfl⟩⟩)
  have n2:U0 g e.2.2 (-(j:Int))=e.1:=F0a hf (Q7.2 ⟨e,he,.inr ⟨by omega,by omega,rfl,rfl⟩⟩)
  constructor
  ·intro h1
   have:=hclo e.1 h1 (j:Int) l1 (by rw[n1];omega)
   rwa [n1]at this
  ·intro h1
   have:=hclo e.2.2 h1 (-(j:Int)) l2 (by rw[n2];omega)
   rwa [n2]at this
theorem U0h{bad:Nat→Bool}:∀ {d v:Nat},lf bad d v=none→∀ k,v≤k→k<v+d→bad k=false
 |0,v,h,k,h1,h2=>by omega
 |d+1,v,h,k,h1,h2=>by
  unfold lf at h
  cases hb:bad v with
  |true=>rw[hb]at h;cases h
  |false =>
   rw[hb]at h
   by_cases c:k=v
   ·rw[c];exact hb
   ·exact U0h (d:=d) (v:=v+1) h k (by omega) (by omega)
theorem L0e{bad:Nat→Bool}:∀ {d v:Nat},(∀ k,v≤k→k<v+d→bad k=false)→lf bad d v=none
 |0,v,h=>rfl
 |d+1,v,h=>by
  unfold lf
  rw[h v (Nat.le_refl _) (by omega)]
  exact L0e fun k h1 h2=>h k (by omega) (by omega)
theorem z0g{g:j0}(hf:K0 g=true)(hl:A9 g=none){x:Int}(h0:0≤x)(h1:x<g.2.1):x∈T5 g:=by
 refine G0j hf ?_
 by_cases c:x=0
 ·subst c;exact .base
 ·have:=U0h hl x.toNat (by omega) (by omega)
  unfold H0b at this
  simp only[Bool.or_eq_false_iff,Bool.not_eq_false',decide_eq_true_eq]at this
  have h3:=this.2
  rw[show((x.toNat:Nat):Int)=x by omega]at h3
  exact(z0a _ _ _).1 h3
theorem A0g{n:Nat}:∀(o:List Int) (k:Nat) (A:List Int),A.length=n→inV n o→o.Nodup→∀(i:Nat) (v:Int),o[i]?=some v→getI (U00 A k o) v=((k+i:Nat):Int)
 | [],k,A,hA,ho,hd,i,v,hi=>by simp at hi
 |w::r,k,A,hA,ho,hd,i,v,hi=>by
  have hw:=ho w mS
  obtain⟨hd1,hd2⟩:=List.nodup_cons.1 hd
  cases i with
  |zero =>
   simp at hi;subst hi
   rw[U00,x0e r _ _ w (by simp[hA]) (fun u hu=>ho u (mC _ hu)) hw.1 hd1,R03 hw.1 (by omega) hw.1,if_pos rfl];rfl
  |succ i =>
   rw[U00,A0g r (k+1) _ (by simp[hA]) (fun u hu=>ho u (mC _ hu)) hd2 i v (by simpa using hi)]
   omega
theorem N0o{n:Nat}{o:List Int}(ho:inV n o)(hd:o.Nodup){i:Nat}{v:Int}(hi:o[i]?=some v):getI (plc n o) v=(i:Int):=by
 have:=A0g o 0 (List.replicate n (-1)) (by simp) ho hd i v hi
 rw[Nat.zero_add]at this;exact this
theorem O0k(P:List Int):∀(es:List H0),(∀ e∈es,0≤getI P e.1∧0≤getI P e.2.2)→pE P es=es.map fun e=>(getI P e.1,e.2.1,getI P e.2.2)
 | [],h=>rfl
 |e::r,h=>by
  have h1:=h e mS
  unfold pE
  rw[show(decide (0≤getI P e.1)&&decide (0≤getI P e.2.2))=true by simp[h1.1,h1.2],O0k P r fun e' he'=>h e' (mC _ he')]
  rfl
theorem B0g(e:H0):∀ {l:List H0},e ∉ l→(k00 O0 e l).Perm (e::l)
 | [],_=>List.Perm.refl _
 |y::l,h=>by
  have ih:=B0g e (l:=l) fun hm=>h (mC _ hm)
  unfold k00
  split
  ·exact List.Perm.refl _
  ·split
   ·rename_i c
    exact absurd (E6.eq _ _ c) fun hh=>h (by rw[hh];exact mS)
   ·exact(List.Perm.cons y ih).trans (List.Perm.swap e y l)
theorem B0c:∀(r acc:List H0),(acc++r).Nodup→(o5 O0 acc r).Perm (acc++r)
 | [],acc,h=>by simp[o5]
 |x::r,acc,h=>by
  have hm:(acc++x::r).Perm (x::(acc++r)):=List.perm_middle
  have hn:=hm.nodup_iff.1 h
  have hx:x ∉ acc:=fun h1=>(List.nodup_cons.1 hn).1 (List.mem_append_left _ h1)
  have hp:=B0g x hx
  have hp2:(k00 O0 x acc++r).Perm (x::(acc++r)):=hp.append_right r
  rw[o5]
  exact((B0c r _ (hp2.nodup_iff.2 hn)).trans hp2).trans hm.symm
theorem V0m(v:Int){l l':List H0}(h:l.Perm l'):Z02 v l=Z02 v l':=by
 induction h with
 |nil=>rfl
 |cons x _ ih=>simp only[Z02,ih]
 |swap x y l=>simp only[Z02];omega
 |trans _ _ h1 h2=>rw[h1,h2]
theorem H0j{φ:Int→Int}{v:Int}:∀(es:List H0),(∀ e∈es,(φ e.1=φ v↔e.1=v)∧(φ e.2.2=φ v↔e.2.2=v))→Z02 (φ v) (es.map fun e=>(φ e.1,e.2.1,φ e.2.2))=Z02 v es
 | [],h=>rfl
 |e::r,h=>by
  obtain⟨h1,h2⟩:=h e mS
  have ih:=H0j r fun e' he'=>h e' (mC _ he')
  simp only[List.map_cons,Z02,ih,w0o]
  congr 2
  ·by_cases c:e.1=v
   ·rw[if_pos (h1.2 c),if_pos c]
   ·rw[if_neg fun q=>c (h1.1 q),if_neg c]
  ·by_cases c:e.2.2=v
   ·rw[if_pos (h2.2 c),if_pos c]
   ·rw[if_neg fun q=>c (h2.1 q),if_neg c]
theorem O0o:∀(m:Nat) (o:List Int),(∀ i:Nat,i<m→(i:Int)∈o)→m≤o.length
 |0,o,h=>Nat.zero_le _
 |m+1,o,h=>by
  have hm:=h m (by omega)
  have h1:=O0o m (o.erase (m:Int)) fun i hi=>(List.mem_erase_of_ne (by omega)).2 (h i (by omega))
  rw[List.length_erase_of_mem hm]at h1
  have:=List.length_pos_of_mem hm
  omega
theorem W0m{es:List H0}(hA:Asc O0 es):es.Nodup:=by
 refine List.Pairwise.imp (fun {a b} h e=>?_) hA
 rw[e,E6.refl]at h;omega
theorem I0j{es:List H0}(hA:Asc O0 es):o5 O0 [] es=es :=
 t09 E6 (A02 E6 _ _ .nil) hA fun x=>by rw[j9 E6];simp
theorem P0k{t:j0}(hf:K0 t=true)(hl:A9 t=none):N1 (Y2 t)=true:=by
 have hg:=P3 hf
 obtain⟨q1,q2,q3,q4⟩:=j1 hf
 have hA:=K0b hg
 obtain⟨⟨hd,ho⟩,ho1⟩:=t08 hf
 have hlen:=l9 _ _ hd ho
 have hall:∀ x:Int,0≤x→x<t.2.1→x∈T5 t:=fun x h0 h1=>z0g hf hl h0 h1
 obtain⟨tl,hz⟩:=K0e t
 obtain⟨n,hn⟩:∃ n:Nat,t.2.1=(n:Int):=⟨t.2.1.toNat,by omega⟩
 have hnt:t.2.1.toNat=n:=by omega
 rw[hnt]at ho hlen
 have hol:(T5 t).length=n:=by
  have:=O0o n (T5 t) fun i hi=>hall _ (by omega) (by omega)
  omega
 let P:Int→Int:=getI (plc n (T5 t))
 have hP:∀(i:Nat) (v:Int),(T5 t)[i]?=some v→P v=(i:Int):=fun i v hi=>N0o ho hd hi
 have hPr:∀ x:Int,0≤x→x<t.2.1→0≤P x∧P x<(n:Int):=fun x h0 h1=>by
  obtain⟨i,hi⟩:=List.getElem?_of_mem (hall x h0 h1)
  have:=(List.getElem?_eq_some_iff.1 hi).1
  rw[hP i x hi];omega
 have hPi:∀ x y:Int,0≤x→x<t.2.1→0≤y→y<t.2.1→P x=P y→x=y:=fun x y h0 h1 h2 h3 h=>Q0h ho hd h0 h2 (hPr x h0 h1).1 h
 have hP0:P 0=0:=hP 0 0 (by rw[hz];rfl)
 have hpE:pE (plc n (T5 t)) t.2.2=t.2.2.map fun e=>(P e.1,e.2.1,P e.2.2):=O0k _ _ fun e he=>by
  have:=q1 e he
  exact⟨(hPr e.1 this.1.1 this.1.2).1,(hPr e.2.2 this.2.1.1 this.2.1.2).1⟩
 have hC:Y2 t=(t.1,(n:Int),o5 O0 [] (t.2.2.map fun e=>(P e.1,e.2.1,P e.2.2))):=by
  unfold Y2 n8
  rw[hnt,hpE,hol]
 have hinjE:∀ e∈t.2.2,∀ e'∈t.2.2,((P e.1,e.2.1,P e.2.2):H0)=(P e'.1,e'.2.1,P e'.2.2)→e=e':=fun e he e' he' h=>by
  have a:=q1 e he
  have b:=q1 e' he'
  simp only[Prod.mk.injEq]at h
  have h1:=hPi _ _ a.1.1 a.1.2 b.1.1 b.1.2 h.1
  have h2:=hPi _ _ a.2.1.1 a.2.1.2 b.2.1.1 b.2.1.2 h.2.2
  obtain⟨e0,e1,e2⟩:=e
  obtain⟨f0,f1,f2⟩:=e'
  simp only at h1 h2 h
  rw[h1,h2,h.2.1]
 have hmap:(t.2.2.map fun e=>((P e.1,e.2.1,P e.2.2):H0)).Nodup:=by
  have:=W0m hA
  rw[List.Nodup,List.pairwise_map]
  exact List.Pairwise.imp_of_mem (fun {a b} ha hb h e=>h (hinjE a ha b hb e)) this
 have hmem:∀ e',e'∈(Y2 t).2.2↔∃ e∈t.2.2,e'=(P e.1,e.2.1,P e.2.2):=fun e'=>by
  rw[hC]
  simp only
  rw[j9 E6]
  simp only[List.not_mem_nil,false_or,List.mem_map]
  exact⟨fun⟨e,h1,h2⟩=>⟨e,h1,h2.symm⟩,fun⟨e,h1,h2⟩=>⟨e,h1,h2.symm⟩⟩
 have hcf:K0 (Y2 t)=true:=S07 hf (by rw[hnt];exact ho) hd ho1 (by omega)
 have hcg:=P3 hcf
 have hn1:(Y2 t).2.1=(n:Int):=by rw[hC]
 have hdeg:∀ v:Int,0≤v→v<t.2.1→Z02 (P v) (Y2 t).2.2=Z02 v t.2.2:=fun v h0 h1=>by
  rw[hC]
  simp only
  rw[V0m _ (B0c _ [] (by simpa using hmap)),List.nil_append]
  refine H0j _ fun e he=>?_
  have:=q1 e he
  exact⟨⟨fun h=>hPi _ _ this.1.1 this.1.2 h0 h1 h,fun h=>by rw[h]⟩,⟨fun h=>hPi _ _ this.2.1.1 this.2.1.2 h0 h1 h,fun h=>by rw[h]⟩⟩
 have hrch:∀ x,Rch t.2.2 0 x→Rch (Y2 t).2.2 0 (P x):=fun x hx =>
  Rch.sub (P:=fun x=>Rch (Y2 t).2.2 0 (P x)) (by show Rch _ 0 (P 0);rw[hP0];exact .base) (fun e he=>Rch.closed (P e.1,e.2.1,P e.2.2) ((hmem _).2 ⟨e,he,rfl⟩)) hx
 have hleaf:A9 (Y2 t)=none:=by
  unfold A9
  refine L0e fun k k1 k2=>?_
  rw[hn1,Int.toNat_natCast]at k2
  obtain⟨v,hv⟩:∃ v,(T5 t)[k]?=some v:=⟨_,List.getElem?_eq_getElem (by omega)⟩
  have hvr:=ho v (List.mem_of_getElem? hv)
  have hPv:=hP k v hv
  have hv0:v≠0:=fun h=>by rw[h,hP0]at hPv;omega
  have hb:=U0h hl v.toNat (by omega) (by omega)
  unfold H0b at hb ⊢
  rw[show((v.toNat:Nat):Int)=v by omega]at hb
  simp only[Bool.or_eq_false_iff,Bool.not_eq_false',decide_eq_true_eq,decide_eq_false_iff_not]at hb ⊢
  refine⟨?_,?_⟩
  ·rw[←hPv,hdeg v hvr.1 (by omega)];exact hb.1
  ·rw[←hPv]
   exact(z0a _ _ _).2 (hrch v ((z0a _ _ _).1 hb.2))
 have hnext:∀ v x:Int,0≤v→v<t.2.1→(U0 t v x = -1∧U0 (Y2 t) (P v) x = -1)∨((0≤U0 t v x∧U0 t v x<t.2.1)∧U0 (Y2 t) (P v) x=P (U0 t v x)):=fun v x h0 h1=>by
  rcases O06 t v x with⟨e1,e2⟩|e1
  ·left
   refine⟨e1,?_⟩
   rcases O06 (Y2 t) (P v) x with⟨c1,c2⟩|c1
   ·exact c1
   ·exfalso
    obtain⟨e',he',hh⟩:=Q7.1 c1
    obtain⟨e,he,rfl⟩:=(hmem e').1 he'
    have hq:=q1 e he
    have:∃ y,y∈S9 v x t.2.2:=by
     rcases hh with⟨a,b,c,_⟩|⟨a,b,c,_⟩
     ·exact⟨_,Q7.2 ⟨e,he,.inl ⟨a,b,hPi _ _ hq.1.1 hq.1.2 h0 h1 c,rfl⟩⟩⟩
     ·exact⟨_,Q7.2 ⟨e,he,.inr ⟨a,b,hPi _ _ hq.2.1.1 hq.2.1.2 h0 h1 c,rfl⟩⟩⟩
    obtain⟨y,hy⟩:=this
    rw[e2]at hy;cases hy
  ·right
   generalize U0 t v x=y at e1
   obtain⟨e,he,hh⟩:=Q7.1 e1
   have hq:=q1 e he
   rcases hh with⟨a,b,c,rfl⟩|⟨a,b,c,rfl⟩
   ·exact⟨hq.2.1,F0a hcf (Q7.2 ⟨_,(hmem _).2 ⟨e,he,rfl⟩,.inl ⟨a,b,by show P e.1=P v;rw[c],rfl⟩⟩)⟩
   ·exact⟨hq.1,F0a hcf (Q7.2 ⟨_,(hmem _).2 ⟨e,he,rfl⟩,.inr ⟨a,b,by show P e.2.2=P v;rw[c],rfl⟩⟩)⟩
 have inR':∀ u:List Int,gud n u→∀ x∈u,0≤x∧x<t.2.1:=fun u hu x hx=>by have:=hu.2 x hx;omega
 have hgt:inG (t.1,(n:Int),t.2.2):=by
  have:=q1
  intro e he
  have:=q1 e he
  rw[hn]at this;exact this
 have het:(t.1,(n:Int),t.2.2)=t:=by
  rw[←hn]
 have hS:∀(u:List Int) (y z:Int),gud n u→(y = -1∧z = -1)∨((0≤y∧y<t.2.1)∧z=P y)→b07 (u.map P) z=(b07 u y).map P:=fun u y z hu h=>by
  unfold b07
  rcases h with⟨rfl,rfl⟩|⟨⟨h0,h1⟩,rfl⟩
  ·rw[if_neg (by omega),if_neg (by omega)]
  ·have hm:P y∈u.map P↔y∈u:=by
    constructor
    ·intro h
     obtain⟨x,hx,e⟩:=List.mem_map.1 h
     have:=inR' u hu x hx
     rw[←hPi x y this.1 this.2 h0 h1 e];exact hx
    ·exact fun h=>List.mem_map.2 ⟨y,h,rfl⟩
   by_cases c:y∈u
   ·rw[if_neg fun q=>q.2 (hm.2 c),if_neg fun q=>q.2 c]
   ·rw[if_pos ⟨(hPr y h0 h1).1,fun q=>c (hm.1 q)⟩,if_pos ⟨h0,c⟩];simp
 have hIn:∀(v:Int),0≤v→v<t.2.1→∀(ls u:List Int),gud n u→r02 (Y2 t) (P v) ls (u.map P)=(r02 t v ls u).map P:=fun v h0 h1 ls=>by
  induction ls with
  |nil=>intro u hu;rfl
  |cons x l ih =>
   intro u hu
   have hx:U0 t v x = -1∨(0≤U0 t v x∧U0 t v x<(n:Int)):=by
    rcases hnext v x h0 h1 with⟨a,_⟩|⟨a,_⟩
    ·exact .inl a
    ·exact .inr (by omega)
   rw[r02,r02,hS u _ _ hu (hnext v x h0 h1),ih _ (P0l hu hx)]
 have hOut:∀(f i:Nat) (u:List Int) (ls:List Int),gud n u→S8 (Y2 t) ls f i (u.map P)=(S8 t ls f i u).map P:=fun f=>by
  induction f with
  |zero=>intro i u ls hu;rfl
  |succ f ih =>
   intro i u ls hu
   unfold S8
   rw[List.getElem?_map]
   cases e:u[i]? with
   |none=>rfl
   |some v =>
    have hv:=inR' u hu v (List.mem_of_getElem? e)
    have hgi:gud n (r02 t v ls u):=by
     have:=s04 hgt v ls u hu
     rw[het]at this;exact this
    simp only[Option.map_some]
    rw[hIn v hv.1 hv.2 ls u hu]
    exact ih (i+1) _ ls hgi
 have hord:T5 (Y2 t)=(T5 t).map P:=by
  have h1:(Y2 t).1=t.1:=by rw[hC]
  have h2:=hOut (n+1) 0 [0] (F5 t.1.toNat 1) ⟨by simp,fun x hx=>by simp at hx;subst hx;omega⟩
  rw[List.map_cons,List.map_nil,hP0]at h2
  show S8 (Y2 t) (F5 (Y2 t).1.toNat 1) ((Y2 t).2.1.toNat+1) 0 [0]=(S8 t (F5 t.1.toNat 1) (t.2.1.toNat+1) 0 [0]).map P
  rw[h1,hn1,hnt,Int.toNat_natCast]
  exact h2
 have hiota:∀ i:Nat,i<n→(T5 (Y2 t))[i]?=some (i:Int):=fun i hi=>by
  rw[hord,List.getElem?_map]
  obtain⟨v,hv⟩:∃ v,(T5 t)[i]?=some v:=⟨_,List.getElem?_eq_getElem (by omega)⟩
  rw[hv,Option.map_some,hP i v hv]
 obtain⟨⟨hd2,ho2⟩,_⟩:=t08 hcf
 rw[hn1,Int.toNat_natCast]at ho2
 have hid:∀ x:Int,0≤x→x<(n:Int)→getI (plc n (T5 (Y2 t))) x=x:=fun x h0 h1=>by
  have:=N0o ho2 hd2 (hiota x.toNat (by omega))
  rw[show((x.toNat:Nat):Int)=x by omega]at this;exact this
 have hlen2:(T5 (Y2 t)).length=n:=by rw[hord,List.length_map,hol]
 have hcin:=(A2 hcg).1
 have hcan:Y2 (Y2 t)=Y2 t:=by
  have hpe:pE (plc n (T5 (Y2 t))) (Y2 t).2.2=(Y2 t).2.2:=by
   rw[O0k _ _ fun e he=>by
    have:=hcin e he
    rw[hn1]at this
    exact⟨by rw[hid _ this.1.1 this.1.2];exact this.1.1,by rw[hid _ this.2.1.1 this.2.1.2];exact this.2.1.1⟩]
   refine(List.map_congr_left fun e he=>?_).trans (List.map_id _)
   have:=hcin e he
   rw[hn1]at this
   rw[hid _ this.1.1 this.1.2,hid _ this.2.1.1 this.2.1.2];rfl
  show n8 (Y2 t) (T5 (Y2 t))=Y2 t
  unfold n8
  rw[hn1,Int.toNat_natCast,hpe,I0j (K0b hcg),hlen2]
  rw[←hn1]
 unfold N1
 rw[hcf,hleaf,hcan]
 simp[o0e]
theorem X0m{g:j0}(hf:K0 g=true):N1 (N0b g)=true:=by
 have hg:=P3 hf
 have:=(A2 hg).2.2.1
 exact P0k (e02 40 hf) (I0e 40 hg (by omega))
def ng(x:Int):Int:=IntKind.i64.wrap (0-x)
def inv(w:List Int):List Int:=(w.map ng).reverse
theorem o04(w:List Int):(inv w).length=w.length:=by simp[inv]
def Z08(w:List Int):Prop:=∀ x∈w,M0 x
theorem P0o{w:List Int}{k:Nat}{x:Int}(hx:w[k]?=some x):inv (w.drop k)=inv (w.drop (k+1)) ++ [ng x]:=by
 rw[J1 hx]
 simp[inv]
theorem S03(w:List Int)(hl:w.length≤1099511627776):∀(k fuel:Nat),k≤w.length→k<fuel →
  Q3 w fuel ((k:Int)-1) (inv (w.drop k))=some (inv w)
 |k,0,hk,hf=>by omega
 |0,fuel+1,hk,hf=>by
  rw[Q3.eq_2,if_neg (by simp)]
  rfl
 |k+1,fuel+1,hk,hf=>by
  have hx:=p5 (show k<w.length by omega)
  have next:=S03 w hl k fuel (by omega) (by omega)
  generalize w[k]=x at hx
  rw[P0o hx]at next
  have hlen:=o04 (w.drop (k+1))
  rw[List.length_drop]at hlen
  rw[show(((k+1:Nat):Int)-1)=(k:Int) by omega,Q3.eq_2,if_pos (by simp),j2 hx,oB,D0 (by simp only[List.length_singleton];omega),oB,
   w64 (by omega) (by omega)]
  exact next
theorem f02(w:List Int)(hl:w.length≤1099511627776):R6 w=some (inv w):=by
 unfold R6
 have h:=S03 w hl w.length S0 (Nat.le_refl _) (Y0 (by omega))
 rw[List.drop_length]at h
 rw[w64 (by omega) (by omega),show([]:C0)=inv [] from rfl,h]
 rfl
theorem b03(w:List Int):∀(fuel:Nat) (k:Int) (u:List Int),G6 w fuel k u=Q3 w fuel k u
 |0,k,u=>rfl
 |fuel+1,k,u=>by
  rw[G6.eq_2,Q3.eq_2]
  simp only[b03 w fuel]
theorem u03(w:List Int)(hl:w.length≤1099511627776):R7 w=some (inv w):=by
 rw[←f02 w hl]
 unfold R7 R6
 rw[D0 (by omega),oB,b03]
 rfl
def G0a(l x:Int):Bool := !(l == 0) && !(l == -9223372036854775808)&&(x == ng l)
def F01(s:List Int)(x:Int):List Int:=match s with
 | []=>[x]
 |l::t=>bif G0a l x then t else x::l::t
def E02(s w:List Int):List Int:=w.foldl F01 s
def Red:List Int→Bool
 | []=>true
 | [_]=>true
 |x::l::t => !G0a l x&&Red (l::t)
theorem M0e(s a b:List Int):E02 s (a++b)=E02 (E02 s a) b:=List.foldl_append
theorem P0b(s:List Int)(x:Int):(F01 s x).length≤s.length+1:=by
 cases s with
 |nil=>simp[F01]
 |cons l t =>
  simp only[F01]
  cases G0a l x<;>simp<;>omega
theorem j06:∀(w s:List Int),(E02 s w).length≤s.length+w.length
 | [],s=>by simp[E02]
 |x::w,s=>by
  have:=j06 w (F01 s x)
  have:=P0b s x
  simp only[E02,List.foldl_cons,List.length_cons]at *
  omega
theorem Q0o{s:List Int}{x:Int}(h:Z08 s)(hx:M0 x):Z08 (F01 s x):=by
 cases s with
 |nil=>intro y hy;simp[F01]at hy;subst hy;exact hx
 |cons l t =>
  simp only[F01]
  cases G0a l x with
  |true=>exact fun y hy=>h y (mC _ hy)
  |false =>
   intro y hy
   rcases List.mem_cons.1 hy with rfl|hy
   ·exact hx
   ·exact h y hy
theorem Y0m{l x:Int}(hl:M0 l)(hx:M0 x):(!(x == 0)&&(l == ng x) && !(l == x))=G0a l x:=by
 unfold G0a ng
 have e:∀ {z:Int},M0 z→IntKind.i64.wrap (0-z)=if z = -9223372036854775808 then -9223372036854775808 else -z:=fun {z} hz=>by
  split
  ·rename_i h;subst h;decide
  ·rw[w64 (by have:=hz.1;have:=hz.2;omega) (by have:=hz.1;have:=hz.2;omega)];omega
 rw[e hl,e hx]
 have hl1:=hl.1
 have hl2:=hl.2
 have hx1:=hx.1
 have hx2:=hx.2
 rw[Bool.eq_iff_iff]
 simp only[Bool.and_eq_true,Bool.not_eq_true',beq_iff_eq,beq_eq_false_iff_ne,ne_eq]
 split<;>split<;>omega
theorem N0e{l:Int}{t:List Int}:(l::t).reverse[t.length]?=some l:=by
 rw[List.reverse_cons,List.getElem?_append_right (by simp)]
 simp
theorem C0g(l:Int)(t:List Int):(l::t).reverse.take t.length=t.reverse:=by
 rw[List.reverse_cons,List.take_append_of_le_length (by simp),List.take_of_length_le (by simp)]
theorem M02(w:List Int)(hw:Z08 w)(hl:w.length≤1099511627776):∀(d k fuel:Nat) (s:List Int),k+d=w.length→d<fuel→Z08 s→s.length≤k →
  I3 w fuel (k:Int) s.reverse=some (E02 s (w.drop k)).reverse
 |d,k,0,s,hk,hf,hs,hsl=>by omega
 |0,k,fuel+1,s,hk,hf,hs,hsl=>by
  rw[I3.eq_2,if_neg (by simp;omega),E1 (by omega)]
  rfl
 |d+1,k,fuel+1,s,hk,hf,hs,hsl=>by
  have hkl:k<w.length:=by omega
  have hx:=p5 hkl
  have hx64:=hw _ (List.mem_of_getElem? hx)
  generalize w[k]=x at hx hx64
  have next:=M02 w hw hl d (k+1) fuel (F01 s x) (by omega) (by omega) (Q0o hs hx64) (by have:=P0b s x;omega)
  rw[J1 hx]
  show _=some (E02 (F01 s x) (w.drop (k+1))).reverse
  rw[←next,I3.eq_2,if_pos (by simp;omega),oB,D0 (by rw[List.length_reverse];omega),oB]
  rw[V1 hkl (by omega:w.length≤9223372036854775807)]
  have e0:decide (x=0)=(x == 0):=by rw[Bool.eq_iff_iff];simp
  cases s with
  |nil =>
   have hz:decide ((((([]:List Int).reverse).length:Nat):Int)>0)=false:=rfl
   simp only[hz,H1,oB,cond_false,Bool.false_eq_true,if_false,j2 hx]
   rw[D0 (by simp)]
   rfl
  |cons l t =>
   have hl64:=hs l mS
   have hp:decide ((((l::t).reverse.length:Nat):Int)>0)=true:=by simp
   have hpr:IntKind.i64.wrap ((((l::t).reverse.length:Nat):Int)-1)=((t.length:Nat):Int):=by
    rw[e0e (by simp) (by simp only[List.length_reverse,List.length_cons]at *;omega)];simp
   have hc:=Y0m hl64 hx64
   have e1:decide (l=IntKind.i64.wrap (0-x))=(l == ng x):=by rw[Bool.eq_iff_iff];simp[ng]
   have e2:decide (l=x)=(l == x):=by rw[Bool.eq_iff_iff];simp
   have hpush:(grd (((l::t).reverse.length + [x].length)*8≤140737488355328))=some ():=D0 (by simp only[List.length_cons]at hsl;simp only[List.length_reverse,List.length_cons,List.length_nil];omega)
   simp only[hp,hpr,C1,oB,cond_true,j2 hx,j2 N0e,e0,F01]
   cases h0:(x == 0)with
   |true =>
    rw[h0]at hc
    simp only[Bool.not_true,Bool.false_and]at hc
    simp only[←hc,Bool.not_true,H1,cond_false,oB,Bool.false_eq_true,if_false,hpush]
    exact congrArg _ (List.reverse_cons ..).symm
   |false =>
    rw[h0]at hc
    simp only[Bool.not_false,Bool.true_and]at hc
    simp only[Bool.not_false,C1,cond_true,oB,e1]
    cases h1:(l == ng x)with
    |false =>
     rw[h1]at hc
     simp only[Bool.false_and]at hc
     simp only[←hc,H1,cond_false,oB,Bool.false_eq_true,if_false,hpush]
     exact congrArg _ (List.reverse_cons ..).symm
    |true =>
     rw[h1]at hc
     simp only[Bool.true_and]at hc
     simp only[C1,cond_true,oB,e2]
     cases h2:(l == x)with
     |true =>
      rw[h2]at hc
      simp only[Bool.not_true]at hc
      simp only[←hc,Bool.not_true,Bool.false_eq_true,if_false,cond_false,oB,hpush]
      exact congrArg _ (List.reverse_cons ..).symm
     |false =>
      rw[h2]at hc
      simp only[Bool.not_false]at hc
      simp only[←hc,Bool.not_false,if_true,cond_true]
      rw[D0 (by simp only[List.length_reverse,List.length_cons]at *;omega),oB,Int.toNat_natCast,C0g]
theorem m02(w:List Int)(hw:Z08 w)(hl:w.length≤1099511627776):o6 w=some (E02 [] w).reverse:=by
 unfold o6
 have h:=M02 w hw hl w.length 0 S0 [] (by omega) (Y0 (by omega)) (fun x hx=>by cases hx) (by simp)
 rw[show((0:Nat):Int)=0 from rfl,List.drop_zero,List.reverse_nil]at h
 rw[h,oB,D0 (by have:=j06 w [];simp only[List.length_reverse,List.length_nil]at *;omega),oB,List.nil_append]
theorem J0j{r:Int}{w:List Int}(h:I2 r w=true):∀ k,k≤w.length→E02 [] (w.take k)=(w.take k).reverse
 |0,_=>rfl
 |k+1,hk=>by
  have ih:=J0j h k (by omega)
  have hx:=p5 (show k<w.length by omega)
  generalize w[k]=x at hx
  have ht:w.take (k+1)=w.take k ++ [x]:=G0l hx
  rw[ht,M0e,ih,List.reverse_append]
  show F01 (w.take k).reverse x=x::(w.take k).reverse
  cases k with
  |zero=>rfl
  |succ j =>
   have hy:=p5 (show j<w.length by omega)
   generalize w[j]=y at hy
   rw[G0l hy,List.reverse_append]
   show F01 (y::(w.take j).reverse) x=_
   have h2:=h
   simp only[I2,Bool.and_eq_true,decide_eq_true_eq]at h2
   have hb:=r08 h2.2 (j+1) (Nat.zero_le _) (by omega)
   unfold d04 at hb
   rw[hx]at hb
   simp only[Nat.add_sub_cancel,hy,Bool.or_eq_false_iff,show decide (0<j+1)=true by simp,Bool.true_and]at hb
   have hc:G0a y x=false:=by unfold G0a ng;rw[hb.2,Bool.and_false]
   simp only[F01,hc,cond_false]
   rfl
theorem O0e{r:Int}{w:List Int}(h:I2 r w=true):(E02 [] w).reverse=w:=by
 have:=J0j h w.length (Nat.le_refl _)
 rw[List.take_length]at this
 rw[this,List.reverse_reverse]
def j00(g:j0)(w:List Int):Bool:=decide ((C2 g 0 w).2=w.length)&&decide ((C2 g 0 w).1=0)
theorem P4{g:j0}(h:N1 g=true):K0 g=true:=by
 unfold N1 at h
 simp only[Bool.and_eq_true]at h
 exact h.1
theorem T07{r:Int}{g:j0}{w:List Int}(hc:N1 g=true)(hw:I2 r w=true):n9 g w=some (j00 g w):=by
 have hf:=P4 hc
 obtain⟨q1,q2,q3,q4⟩:=j1 hf
 obtain⟨wl,wx⟩:=C03 hw
 have h1:=m02 w (fun x hx=>(wx x hx).1.1) (by omega)
 rw[O0e hw]at h1
 have h2:=v0o g hf 0 ⟨iR _,by omega⟩ w (fun x hx=>(wx x hx).1) (by omega)
 have h3:=M06 g (by omega)
 have h4:O2 g=some true:=by
  obtain⟨a,b,c⟩:=g
  unfold O2
  simp only[h3,hc,oB]
 have h5:=G07 q1 q3.2 w 0 ⟨by omega,by omega⟩
 have h6:=P04 g w 0
 unfold j00
 obtain⟨a,b,c⟩:=g
 unfold n9
 simp only[h1,oB,h2]
 by_cases d:(C2 (a,b,c) 0 w).2<w.length
 ·simp only[decide_eq_true d,cond_true]
  rw[D0 (show M0 (-1) from⟨by omega,by omega⟩),oB,h4]
  have:decide ((C2 (a,b,c) 0 w).2=w.length)=false:=decide_eq_false (by omega)
  rw[this];rfl
 ·simp only[decide_eq_false d,cond_false]
  rw[D0 h5,oB,h4]
  have:decide ((C2 (a,b,c) 0 w).2=w.length)=true:=decide_eq_true (by omega)
  rw[this]
  simp only[oB,cond_true,Bool.true_and]
def rdw(g:j0):Int→List Int→Option Int
 |v,[]=>some v
 |v,x::w=>if U0 g v x<0 then none else rdw g (U0 g v x) w
theorem D0g(g:j0):∀(w:List Int) (v u:Int),rdw g v w=some u↔((C2 g v w).2=w.length∧(C2 g v w).1=u)
 | [],v,u=>by simp[rdw,C2]
 |x::w,v,u=>by
  have ih:=D0g g w (U0 g v x) u
  unfold rdw C2
  by_cases c:U0 g v x<0
  ·rw[if_pos c,if_pos c];simp
  ·rw[if_neg c,if_neg c,ih];simp
theorem Z0m(g:j0)(w:List Int):j00 g w=true↔rdw g 0 w=some 0:=by
 unfold j00
 rw[D0g];simp
theorem Y0l(g:j0):∀(a b:List Int) (v:Int),rdw g v (a++b)=(rdw g v a).bind fun u=>rdw g u b
 | [],b,v=>rfl
 |x::a,b,v=>by
  have ih:=Y0l g a b (U0 g v x)
  show(if U0 g v x<0 then none else rdw g (U0 g v x) (a++b))=(if U0 g v x<0 then none else rdw g (U0 g v x) a).bind fun u=>rdw g u b
  by_cases c:U0 g v x<0
  ·rw[if_pos c,if_pos c];rfl
  ·rw[if_neg c,if_neg c];exact ih
theorem E0g{g:j0}(hf:K0 g=true){v x u:Int}(h:U0 g v x=u)(h0:0≤u):U0 g u (-x)=v:=by
 rcases O06 g v x with⟨e,_⟩|e
 ·omega
 ·rw[h]at e
  obtain⟨d,hd,h1⟩:=Q7.1 e
  refine F0a hf (Q7.2 ⟨d,hd,?_⟩)
  rcases h1 with⟨a,b,c,rfl⟩|⟨a,b,c,rfl⟩
  ·exact .inr ⟨by omega,by omega,rfl,c.symm⟩
  ·exact .inl ⟨by omega,b,rfl,c.symm⟩
structure Mor (a b:j0) (f:Int→Int):Prop where
 base:f 0=0
 rng:∀ v,0≤v→v<a.2.1→0≤f v∧f v<b.2.1
 step:∀ v x,0≤v→v<a.2.1→0≤U0 a v x→U0 b (f v) x=f (U0 a v x)
theorem Mor.rdw{a b:j0}{f:Int→Int}(m:Mor a b f)(ha:inG a):∀(w:List Int) (v u:Int),0≤v→v<a.2.1→rdw a v w=some u→rdw b (f v) w=some (f u)
 | [],v,u,h0,h1,h=>by
  simp only[Go.Proofs.YtcakocbgbelmeaaGreat.rdw,Option.some.injEq]at h ⊢
  rw[h]
 |x::w,v,u,h0,h1,h=>by
  unfold Go.Proofs.YtcakocbgbelmeaaGreat.rdw at h ⊢
  by_cases c:U0 a v x<0
  ·rw[if_pos c]at h;cases h
  ·rw[if_neg c]at h
   have hs:=m.step v x h0 h1 (by omega)
   have hr:0≤U0 a v x∧U0 a v x<a.2.1:=by
    rcases Y02 ha v x with e|e
    ·omega
    ·exact e
   have hb:=m.rng _ hr.1 hr.2
   rw[hs,if_neg (by omega)]
   exact Mor.rdw m ha w _ u hr.1 hr.2 h
theorem Mor.loop{a b:j0}{f:Int→Int}(m:Mor a b f)(ha:K0 a=true){w:List Int}(h:j00 a w=true):j00 b w=true:=by
 obtain⟨q1,q2,q3,q4⟩:=j1 ha
 rw[Z0m]at h ⊢
 have:=m.rdw q1 w 0 0 (iR _) (by omega) h
 rwa [m.base]at this
abbrev Im:=List Int×List Int
def Q0k(s s':Im):Prop:=(∃ t,s'.2=s.2++t)∧∀ v∈s.2,getI s'.1 v=getI s.1 v
theorem Q0k.refl(s:Im):Q0k s s:=⟨⟨[],by simp⟩,fun _ _=>rfl⟩
theorem Q0k.trans{s s' s'':Im}(h:Q0k s s')(h':Q0k s' s''):Q0k s s'':=by
 obtain⟨⟨t,e⟩,f⟩:=h
 obtain⟨⟨t',e'⟩,f'⟩:=h'
 exact⟨⟨t++t',by rw[e',e,List.append_assoc]⟩,fun v hv=>(f' v (by rw[e];exact List.mem_append_left _ hv)).trans (f v hv)⟩
def N0q(a b:j0)(v x:Int)(s:Im):Prop:=0≤U0 a v x→U0 a v x∈s.2∧U0 b (getI s.1 v) x=getI s.1 (U0 a v x)
theorem N0q.le{a b:j0}{v x:Int}{s s':Im}(hv:v∈s.2)(h:N0q a b v x s)(l:Q0k s s'):N0q a b v x s':=fun h0=>by
 obtain⟨h1,h2⟩:=h h0
 obtain⟨⟨t,e⟩,f⟩:=l
 exact⟨by rw[e];exact List.mem_append_left _ h1,by rw[f v hv,f _ h1];exact h2⟩
theorem a0n{g:j0}(h:N1 g=true):A9 g=none:=by
 unfold N1 at h
 simp only[Bool.and_eq_true,Option.isNone_iff_eq_none]at h
 exact h.2.1
theorem b0n{a b:List Int}(ha:Z08 a)(hb:Z08 b):Z08 (a++b):=fun x hx=>by
 rcases List.mem_append.1 hx with h|h
 ·exact ha x h
 ·exact hb x h
theorem e04(w:List Int)(hl:w.length≤1099511627776)(n0:Nat)(hn:n0≤1099511627776):∀(d k fuel:Nat) (s:List Int),k+d=w.length→d<fuel→s.length≤n0+k →
  D6 w fuel (k:Int) s.reverse=some (E02 s (w.drop k)).reverse
 |d,k,0,s,hk,hf,hsl=>by omega
 |0,k,fuel+1,s,hk,hf,hsl=>by
  rw[D6.eq_2,if_neg (by simp;omega),E1 (by omega)]
  rfl
 |d+1,k,fuel+1,s,hk,hf,hsl=>by
  have hkl:k<w.length:=by omega
  have hx:=p5 hkl
  generalize w[k]=x at hx
  have next:=e04 w hl n0 hn d (k+1) fuel (F01 s x) (by omega) (by omega) (by have:=P0b s x;omega)
  rw[J1 hx]
  show _=some (E02 (F01 s x) (w.drop (k+1))).reverse
  rw[←next,D6.eq_2,if_pos (by simp;omega),j2 hx,oB,oB,D0 (by rw[List.length_reverse];omega),oB,oB,oB]
  rw[V1 hkl (by omega:w.length≤9223372036854775807)]
  cases s with
  |nil =>
   have hz:decide ((((([]:List Int).reverse).length:Nat):Int)>0)=false:=rfl
   simp only[hz,H1,oB,cond_false,Bool.false_eq_true,if_false]
   rw[D0 (by simp)]
   rfl
  |cons l t =>
   have hp:decide ((((l::t).reverse.length:Nat):Int)>0)=true:=by simp
   have hpr:IntKind.i64.wrap ((((l::t).reverse.length:Nat):Int)-1)=((t.length:Nat):Int):=by
    rw[e0e (by simp) (by simp only[List.length_cons]at hsl;simp only[List.length_reverse,List.length_cons];omega)];simp
   have hpush:(grd (((l::t).reverse.length + [x].length)*8≤140737488355328))=some ():=D0 (by simp only[List.length_cons]at hsl;simp only[List.length_reverse,List.length_cons,List.length_nil];omega)
   have hlen:(grd ((l::t).reverse.length≤9223372036854775807))=some ():=D0 (by rw[List.length_reverse];omega)
   simp only[hp,hpr,C1,oB,cond_true,j2 N0e,n0a,F01]
   have hcc:(!(l == 0) && !(l == -9223372036854775808)&&(x == IntKind.i64.wrap (0-l)))=G0a l x:=rfl
   rw[hcc]
   cases hc:G0a l x with
   |true =>
    simp only[if_true,cond_true,hlen,oB]
    rw[D0 (by simp only[List.length_reverse,List.length_cons];omega),oB,Int.toNat_natCast,C0g]
   |false =>
    simp only[Bool.false_eq_true,if_false,cond_false,hpush,hlen,oB]
    exact congrArg _ (List.reverse_cons ..).symm
def K0j:List (List Int)→Nat
 | []=>0
 |w::r=>w.length+K0j r
def R0k(s:List Int):List (List Int)→List Int
 | []=>s
 |w::r=>R0k (E02 s w) r
theorem f04(ws:List (List Int))(hn:ws.length≤1099511627776):∀(d k fuel:Nat) (s:List Int),k+d=ws.length→d<fuel→s.length+K0j (ws.drop k)≤1099511627776 →
  G7 ws fuel (k:Int) s.reverse=some (R0k s (ws.drop k)).reverse
 |d,k,0,s,hk,hf,hsl=>by omega
 |0,k,fuel+1,s,hk,hf,hsl=>by
  rw[G7.eq_2,if_neg (by simp;omega),E1 (by omega)]
  rfl
 |d+1,k,fuel+1,s,hk,hf,hsl=>by
  have hkl:k<ws.length:=by omega
  have hx:=p5 hkl
  generalize ws[k]=w at hx
  rw[J1 hx]at hsl ⊢
  simp only[K0j]at hsl
  have hr:=j06 w s
  have h0:=e04 w (by omega) s.length (by omega) w.length 0 S0 s (by omega) (Y0 (by omega)) (by omega)
  rw[show((0:Nat):Int)=0 from rfl,List.drop_zero]at h0
  rw[G7.eq_2,if_pos (by simp;omega),j2 hx,oB,h0,oB,V1 hkl (by omega:ws.length≤9223372036854775807)]
  exact f04 ws hn d (k+1) fuel (E02 s w) (by omega) (by omega) (by omega)
theorem E05(ws:List (List Int))(hn:ws.length≤1099511627776)(hl:K0j ws≤1099511627776):V8 ws=some (R0k [] ws).reverse:=by
 unfold V8
 have h:=f04 ws hn ws.length 0 S0 [] (by omega) (Y0 (by omega)) (by simpa using hl)
 rw[show((0:Nat):Int)=0 from rfl,List.drop_zero,List.reverse_nil]at h
 rw[h]
 rfl
abbrev Tr8:=List (Option (List Int))×List Int
def trS(g:j0)(v x:Int)(s:Tr8):Tr8:=if 0≤U0 g v x∧U0 g v x ∉ s.2 then(s.1.set (U0 g v x).toNat (some ((F6 s.1 v).getD [] ++ [x])),s.2 ++ [U0 g v x])else s
def A09(g:j0)(v:Int):List Int→Tr8→Tr8
 | [],s=>s
 |x::r,s=>A09 g v r (trS g v x s)
def c03(g:j0)(ls:List Int):Nat→Nat→Tr8→Tr8
 |0,i,s=>s
 |f+1,i,s=>match s.2[i]? with
  |some v=>c03 g ls f (i+1) (A09 g v ls s)
  |none=>s
def P2(g:j0)(p:Int):List Int:=S8 g (F5 g.1.toNat 1) (g.2.1.toNat+1) 0 [p]
def F02(g:j0)(p:Int):Tr8:=c03 g (F5 g.1.toNat 1) (g.2.1.toNat+1) 0 ((List.replicate g.2.1.toNat none).set p.toNat (some []),[p])
theorem Z0l(g:j0)(v x:Int)(s:Tr8):(trS g v x s).2=b07 s.2 (U0 g v x):=by
 unfold trS b07
 split<;>rfl
theorem P0e(g:j0)(v:Int):∀(ls:List Int) (s:Tr8),(A09 g v ls s).2=r02 g v ls s.2
 | [],s=>rfl
 |x::r,s=>by rw[A09,P0e g v r,Z0l];rfl
theorem F0g(g:j0)(ls:List Int):∀(f i:Nat) (s:Tr8),(c03 g ls f i s).2=S8 g ls f i s.2
 |0,i,s=>rfl
 |f+1,i,s=>by
  unfold c03 S8
  cases s.2[i]? with
  |none=>rfl
  |some v=>simp only[F0g g ls f,P0e]
theorem U07(g:j0)(p:Int):(F02 g p).2=P2 g p:=F0g _ _ _ _ _
structure TOk (g:j0) (p:Int) (n:Nat) (s:Tr8):Prop where
 ok:WOk n s.1 s.2
 gd:gud n s.2
 base:p∈s.2
 word:F6 s.1 p=some []
 par:∀ y∈s.2,y≠p→∃ v∈s.2,∃ x,x∈F5 g.1.toNat 1∧U0 g v x=y∧∃ a,F6 s.1 v=some a∧F6 s.1 y=some (a ++ [x])
 red:∀ y∈s.2,∀ a,F6 s.1 y=some a→Red a.reverse=true
theorem WOk.add{n:Nat}{W:List (Option (List Int))}{u:List Int}(hw:WOk n W u){y:Int}(c1:0≤y)(hy:y<(n:Int))(v x:Int):WOk n (W.set y.toNat (some ((F6 W v).getD [] ++ [x]))) (u ++ [y]):=by
 have hs:=hw.short v
 refine⟨by simp[hw.len],fun z h0 h1=>?_,fun z=>?_⟩
 ·rw[E00 c1 (by have:=hw.len;omega) h0]
  by_cases c:z=y
  ·rw[if_pos c];simp[c]
  ·rw[if_neg c,hw.iff z h0 h1];simp[c]
 ·by_cases hz:0≤z
  ·rw[E00 c1 (by have:=hw.len;omega) hz]
   by_cases c:z=y
   ·rw[if_pos c];simp;exact hs
   ·rw[if_neg c];have:=hw.short z;simp only[List.length_append];omega
  ·have hz0:F6 (W.set y.toNat (some ((F6 W v).getD [] ++ [x]))) z=F6 (W.set y.toNat (some ((F6 W v).getD [] ++ [x]))) 0:=by
    unfold F6;rw[show z.toNat=(0:Int).toNat by omega]
   rw[hz0,E00 c1 (by have:=hw.len;omega) (iR 0)]
   by_cases c:(0:Int)=y
   ·rw[if_pos c];simp;exact hs
   ·rw[if_neg c];have:=hw.short 0;simp only[List.length_append];omega
theorem WOk.get{n:Nat}{W:List (Option (List Int))}{u:List Int}(hw:WOk n W u){v:Int}(h0:0≤v)(h1:v<(n:Int))(hv:v∈u):∃ a,F6 W v=some a:=by
 cases e:F6 W v with
 |none=>exact absurd hv ((hw.iff v h0 h1).1 (by rw[e];rfl))
 |some a=>exact⟨a,rfl⟩
theorem v03{R:Nat}(hR:R≤900){x:Int}(hx:x∈F5 R 1):j4 x∧x≠0 ∧ -(R:Int)≤x∧x≤(R:Int):=by
 obtain⟨j,k1,k2,k3⟩:=D0a _ _ _ hx
 exact⟨⟨⟨by omega,by omega⟩,by omega⟩,by omega,by omega,by omega⟩
theorem R0o{l x:Int}(hl:j4 l)(h:G0a l x=true):x = -l:=by
 unfold G0a at h
 simp only[Bool.and_eq_true,beq_iff_eq]at h
 rw[h.2];exact m0a hl.1 hl.2
theorem TOk.add{g:j0}(hf:K0 g=true){p:Int}{n:Nat}(hn:g.2.1=(n:Int)){s:Tr8}(h:TOk g p n s){v x:Int}(hv:v∈s.2)(hx:x∈F5 g.1.toNat 1):TOk g p n (trS g v x s):=by
 obtain⟨q1,q2,q3,q4⟩:=j1 hf
 unfold trS
 split
 ·rename_i c
  obtain⟨c1,c2⟩:=c
  have hyr:U0 g v x<(n:Int):=by
   rcases Y02 q1 v x with e|e<;>omega
  obtain⟨W,u⟩:=s
  obtain⟨ok,gd,base,word,par,red⟩:=h
  simp only at hv c1 c2 ok gd base word par red ⊢
  have hvr:=gd.2 v hv
  obtain⟨a,ha⟩:=ok.get hvr.1 hvr.2 hv
  have hlen:=ok.len
  have keep:∀ z∈u,F6 (W.set (U0 g v x).toNat (some ((F6 W v).getD [] ++ [x]))) z=F6 W z:=fun z hz=>by
   have:=gd.2 z hz
   rw[E00 c1 (by omega) this.1,if_neg fun(e:z=U0 g v x)=>c2 (by rw[←e];exact hz)]
  have new:F6 (W.set (U0 g v x).toNat (some ((F6 W v).getD [] ++ [x]))) (U0 g v x)=some (a ++ [x]):=by
   rw[E00 c1 (by omega) c1,if_pos rfl,ha];rfl
  refine⟨ok.add c1 hyr v x,⟨List.nodup_append.2 ⟨gd.1,by simp,fun a ha b hb=>?_⟩,fun y hy=>?_⟩,List.mem_append_left _ base,?_,fun y hy hyp=>?_,fun y hy b hb=>?_⟩
  ·simp at hb;subst hb;exact fun e=>c2 (e▸ha)
  ·rcases List.mem_append.1 hy with hy|hy
   ·exact gd.2 y hy
   ·simp at hy;subst hy;omega
  ·rw[keep p base];exact word
  ·rcases List.mem_append.1 hy with hy|hy
   ·obtain⟨v',hv',x',hx',e1,b,e2,e3⟩:=par y hy hyp
    exact⟨v',List.mem_append_left _ hv',x',hx',e1,b,by rw[keep v' hv'];exact e2,by rw[keep y hy];exact e3⟩
   ·simp at hy;subst hy
    exact⟨v,List.mem_append_left _ hv,x,hx,rfl,a,by rw[keep v hv];exact ha,new⟩
  ·rcases List.mem_append.1 hy with hy|hy
   ·rw[keep y hy]at hb;exact red y hy b hb
   ·simp at hy;subst hy
    rw[new]at hb;cases hb
    have hra:=red v hv a ha
    rw[List.reverse_append]
    show Red (x::a.reverse)=true
    cases e:a.reverse with
    |nil=>rfl
    |cons l t =>
     rw[e]at hra
     unfold Red
     rw[hra,Bool.and_true]
     cases hc:G0a l x with
     |false=>rfl
     |true =>
      exfalso
      have hvp:v≠p:=fun e2=>by
       subst e2
       rw[word]at ha;cases ha;simp at e
      obtain⟨v',hv',x',hx',e1,b,e2,e3⟩:=par v hv hvp
      rw[ha]at e3
      injection e3 with e3
      rw[e3,List.reverse_append]at e
      simp only[List.reverse_cons,List.reverse_nil,List.nil_append,List.cons_append,List.cons.injEq]at e
      rw[←e.1]at hc
      have:=R0o (v03 (by omega) hx').1 hc
      have hb:=E0g hf e1 hvr.1
      rw[←this]at hb
      exact c2 (hb▸hv')
 ·exact h
theorem p0d(g:j0)(v x:Int)(s:Tr8):∃ t,(trS g v x s).2=s.2++t:=by rw[Z0l];exact y0e _ _
theorem Q0e(g:j0)(v:Int)(ls:List Int)(s:Tr8):∃ t,(A09 g v ls s).2=s.2++t:=by rw[P0e];exact J02 _ _ _ _
theorem TOk.inn{g:j0}(hf:K0 g=true){p:Int}{n:Nat}(hn:g.2.1=(n:Int)){v:Int}:∀(ls:List Int) {s:Tr8},TOk g p n s→v∈s.2→(∀ x∈ls,x∈F5 g.1.toNat 1)→TOk g p n (A09 g v ls s)
 | [],s,h,hv,hl=>h
 |x::r,s,h,hv,hl=>by
  obtain⟨t,e⟩:=p0d g v x s
  exact TOk.inn hf hn r (h.add hf hn hv (hl x mS)) (by rw[e];exact List.mem_append_left _ hv) fun y hy=>hl y (mC _ hy)
theorem TOk.out{g:j0}(hf:K0 g=true){p:Int}{n:Nat}(hn:g.2.1=(n:Int)):∀(f i:Nat) {s:Tr8},TOk g p n s→TOk g p n (c03 g (F5 g.1.toNat 1) f i s)
 |0,i,s,h=>h
 |f+1,i,s,h=>by
  unfold c03
  cases e:s.2[i]? with
  |none=>exact h
  |some v=>exact TOk.out hf hn f (i+1) (h.inn hf hn _ (List.mem_of_getElem? e) fun x hx=>hx)
theorem S0o(N:Nat)(x:Int):F6 (List.replicate N (none:Option (List Int))) x=none:=by
 unfold F6
 rw[List.getD_eq_getElem?_getD,List.getElem?_replicate];split<;>rfl
theorem w08(g:j0){p:Int}{N:Nat}(hp:0≤p∧p<(N:Int)):TOk g p N ((List.replicate N none).set p.toNat (some []),[p]):=by
 have hset:∀ x,0≤x→F6 ((List.replicate N (none:Option (List Int))).set p.toNat (some [])) x=if x=p then some []else none:=fun x h0=>by
  rw[E00 hp.1 (by simp;omega) h0,S0o]
 refine⟨⟨by simp,fun x h0 h1=>?_,fun x=>?_⟩,⟨by simp,fun x hx=>by simp at hx;subst hx;exact hp⟩,by simp,?_,fun y hy h=>?_,fun y hy a ha=>?_⟩
 ·simp only
  rw[hset x h0]
  by_cases c:x=p
  ·rw[if_pos c];simp[c]
  ·rw[if_neg c];simp[c]
 ·have:∀ x,0≤x→((F6 ((List.replicate N (none:Option (List Int))).set p.toNat (some [])) x).getD []).length≤1:=fun x h0=>by
   rw[hset x h0];split<;>simp
  by_cases hz:0≤x
  ·exact this x hz
  ·have e:F6 ((List.replicate N (none:Option (List Int))).set p.toNat (some [])) x=F6 ((List.replicate N (none:Option (List Int))).set p.toNat (some [])) 0:=by
    unfold F6;rw[show x.toNat=(0:Int).toNat by omega]
   simp only
   rw[e];exact this 0 (iR 0)
 ·simp only
  rw[hset p hp.1,if_pos rfl]
 ·simp at hy;exact absurd hy h
 ·simp at hy;subst hy
  simp only at ha
  rw[hset y hp.1,if_pos rfl]at ha
  cases ha;rfl
theorem x08{g:j0}(hf:K0 g=true){p:Int}(hp:0≤p∧p<g.2.1):TOk g p g.2.1.toNat (F02 g p):=by
 obtain⟨q1,q2,q3,q4⟩:=j1 hf
 exact TOk.out hf (by omega) _ _ (w08 g ⟨hp.1,by omega⟩)
theorem l0q{g:j0}(hf:K0 g=true)(p:Int){n:Nat}(hn:g.2.1=(n:Int))(ls:List Int)(hls:∀ x∈ls,x∈F5 g.1.toNat 1)(hl:ls.length≤1000000)(v:Int):∀(d k fuel:Nat) (s:Tr8),TOk g p n s→v∈s.2→k+d=ls.length→d<fuel →
  V2 ls g.1 g.2.1 g.2.2 v fuel (k:Int) s.1 s.2=some (A09 g v (ls.drop k) s)
 |d,k,0,s,hs,hv,hd,hf=>by omega
 |0,k,fuel+1,s,hs,hv,hd,hf=>by
  rw[V2.eq_2,if_neg (by simp;omega),E1 (by omega)];rfl
 |d+1,k,fuel+1,s,hs,hv,hd,hfu=>by
  obtain⟨q1,q2,q3,q4⟩:=j1 hf
  have hk:k<ls.length:=by omega
  have hx:=p5 hk
  have hxl:=hls _ (List.mem_of_getElem? hx)
  have hdr:=J1 hx
  generalize ls[k]=x at hx hxl hdr
  have hxm:=(v03 (by omega) hxl).1
  have hlen:=l9 n s.2 hs.gd.1 hs.gd.2
  have hnx:=Y02 q1 v x
  have hsn:=hs.add hf hn hv hxl
  obtain⟨t,et⟩:=p0d g v x s
  have ih:=l0q hf p hn ls hls hl v d (k+1) fuel (trS g v x s) hsn (by rw[et];exact List.mem_append_left _ hv) (by omega) (by omega)
  have hw:=hs.ok
  have hvr:=hs.gd.2 v hv
  rw[V2.eq_2,if_pos (by simp;omega),hdr,A09,←ih]
  simp only[j2 hx,oB,show(g.1,g.2.1,g.2.2)=g from rfl,N04 g v x hxm (by omega),D0 (v02 q1 q3.2 v x),V1 hk (show ls.length≤9223372036854775807 by omega)]
  unfold trS
  generalize U0 g v x=y at *
  by_cases c1:0≤y
  ·have hy:y<(n:Int):=by omega
   simp only[show decide (y ≥ 0)=true by simpa using c1,C1,giO hw.len c1 hy,oB,cond_true]
   by_cases c2:y∈s.2
   ·have : ¬ ((F6 s.1 y).isNone=true):=fun h=>(hw.iff y c1 hy).1 h c2
    rw[if_neg this,if_neg fun h=>h.2 c2]
   ·have:(F6 s.1 y).isNone=true:=(hw.iff y c1 hy).2 c2
    have hsh:=hw.short v
    rw[if_pos this,if_pos ⟨c1,c2⟩,giO hw.len hvr.1 hvr.2,oB,S0l (by omega),oB,D0 (by simp;omega),oB,D0 (by simp;omega),oB]
  ·simp only[show decide (y ≥ 0)=false by simpa using c1,H1,oB,cond_false]
   rw[if_neg (by simp),if_neg fun h=>c1 h.1]
theorem m0q{g:j0}(hf:K0 g=true)(p:Int){n:Nat}(hn:g.2.1=(n:Int)):∀(f i fuel:Nat) (s:Tr8),TOk g p n s→i≤s.2.length→n+1≤i+f→f<fuel →
  R4 g.1 g.2.1 g.2.2 fuel (i:Int) s.1 s.2=some (c03 g (F5 g.1.toNat 1) f i s)
 |f,i,0,s,hs,hi,hd,hf=>by omega
 |0,i,fuel+1,s,hs,hi,hd,hf=>by have:=l9 n s.2 hs.gd.1 hs.gd.2;omega
 |f+1,i,fuel+1,s,hs,hi,hd,hfu=>by
  obtain⟨q1,q2,q3,q4⟩:=j1 hf
  have hlen:=l9 n s.2 hs.gd.1 hs.gd.2
  rw[R4.eq_2,oB,D0 (by omega),oB]
  by_cases hk:i<s.2.length
  ·have hx:=p5 hk
   generalize s.2[i]=v at hx
   have hv:=List.mem_of_getElem? hx
   have h0:=l0q hf p hn (F5 g.1.toNat 1) (fun x hx=>hx) (by rw[D00];omega) v (F5 g.1.toNat 1).length 0 S0 s hs hv (by omega) (Y0 (by rw[D00];omega))
   rw[show((0:Nat):Int)=0 from rfl,List.drop_zero]at h0
   obtain⟨t,e⟩:=Q0e g v (F5 g.1.toNat 1) s
   have ih:=m0q hf p hn f (i+1) fuel _ (hs.inn hf hn _ hv fun x hx=>hx) (by rw[e,List.length_append];omega) (by omega) (by omega)
   have hm:Q8 g.1=some (F5 g.1.toNat 1):=by
    have:=F0k g.1.toNat (by omega)
    rwa [show((g.1.toNat:Nat):Int)=g.1 by omega]at this
   rw[if_pos (by simpa using hk),j2 hx,oB,hm,oB,h0,oB]
   simp only[V1 hk (show s.2.length≤9223372036854775807 by omega),c03,hx]
   exact ih
  ·have hx:s.2[i]?=none:=List.getElem?_eq_none (by omega)
   rw[if_neg (by simpa using hk)]
   simp only[c03,hx]
def P06(g:j0)(p:Int):List (List Int):=(F02 g p).1.map fun o=>o.getD []
theorem R0e{g:j0}(hf:K0 g=true){p:Int}(hp:0≤p∧p<g.2.1):P6 g p=some (P2 g p,P06 g p):=by
 obtain⟨q1,q2,q3,q4⟩:=j1 hf
 have hN:g.2.1=((g.2.1.toNat:Nat):Int):=by omega
 have h0:=m0q hf p hN (g.2.1.toNat+1) 0 S0 _ (w08 g (N:=g.2.1.toNat) ⟨hp.1,by omega⟩) (by simp) (by omega) (Y0 (by omega))
 have hg0:gi (List.replicate g.2.1.toNat (none:Option (List Int))) p=some none:=by
  have:=j2 (xs:=List.replicate g.2.1.toNat (none:Option (List Int))) (k:=p.toNat) (x:=none) (by rw[List.getElem?_replicate,if_pos (by omega)])
  rwa [show((p.toNat:Nat):Int)=p by omega]at this
 rw[←U07]
 unfold P06 F02
 obtain⟨a,b,c⟩:=g
 simp only at *
 unfold P6
 simp only
 rw[D0 (by omega),oB,hg0,oB]
 rw[show((0:Nat):Int)=0 from rfl]at h0
 rw[h0]
 rfl
def tw(g:j0)(p v:Int):List Int:=(F6 (F02 g p).1 v).getD []
structure v0f (g:j0) (p:Int) (t:Int→List Int):Prop where
 z:t p = []
 par:∀ y∈P2 g p,y≠p→∃ v∈P2 g p,∃ x,x∈F5 g.1.toNat 1∧U0 g v x=y∧t y=t v ++ [x]
 red:∀ y∈P2 g p,Red (t y).reverse=true
 len:∀ y,(t y).length≤40
theorem t04{g:j0}(hf:K0 g=true){p:Int}(hp:0≤p∧p<g.2.1):v0f g p (tw g p):=by
 obtain⟨q1,q2,q3,q4⟩:=j1 hf
 have h:=x08 hf hp
 have e:=U07 g p
 refine⟨by unfold tw;rw[h.word];rfl,fun y hy hyp=>?_,fun y hy=>?_,fun y=>?_⟩
 ·rw[←e]at hy ⊢
  obtain⟨v,hv,x,hx,e1,a,e2,e3⟩:=h.par y hy hyp
  exact⟨v,hv,x,hx,e1,by unfold tw;rw[e2,e3];rfl⟩
 ·rw[←e]at hy
  have hr:=h.gd.2 y hy
  obtain⟨a,ha⟩:=h.ok.get hr.1 hr.2 hy
  unfold tw
  rw[ha]
  exact h.red y hy a ha
 ·have:=h.ok.short y
  have:=l9 _ _ h.gd.1 h.gd.2
  unfold tw
  omega
theorem T03{g:j0}(hf:K0 g=true){p:Int}(hp:0≤p∧p<g.2.1):gud g.2.1.toNat (P2 g p):=by
 rw[←U07];exact(x08 hf hp).gd
theorem H0a(g:j0)(p:Int):∃ t,P2 g p=p::t:=by
 obtain⟨t,e⟩:=z09 g (F5 g.1.toNat 1) (g.2.1.toNat+1) 0 [p]
 exact⟨t,e⟩
theorem v0f.ind{g:j0}{p:Int}{t:Int→List Int}(h:v0f g p t)(P:Int→Prop)(h0:P p)(hs:∀ v∈P2 g p,∀ y∈P2 g p,∀ x,x∈F5 g.1.toNat 1→U0 g v x=y→t y=t v ++ [x]→P v→P y):∀(k:Nat) (y:Int),(t y).length≤k→y∈P2 g p→P y
 |k,y,hk,hy=>by
  by_cases c:y=p
  ·rw[c];exact h0
  ·obtain⟨v,hv,x,hx,e1,e2⟩:=h.par y hy c
   cases k with
   |zero=>rw[e2]at hk;simp at hk
   |succ k=>exact hs v hv y hy x hx e1 e2 (v0f.ind h P h0 hs k v (by rw[e2]at hk;simp at hk;omega) hv)
theorem v0f.induct{g:j0}{p:Int}{t:Int→List Int}(h:v0f g p t){P:Int→Prop}(h0:P p)(hs:∀ v∈P2 g p,∀ y∈P2 g p,∀ x,x∈F5 g.1.toNat 1→U0 g v x=y→t y=t v ++ [x]→P v→P y){y:Int}(hy:y∈P2 g p):P y:=h.ind P h0 hs _ y (Nat.le_refl _) hy
theorem R0p{g:j0}{v x y:Int}(h:U0 g v x=y)(h0:0≤y):rdw g v [x]=some y:=by
 unfold rdw
 rw[if_neg (by omega),h];rfl
theorem v0f.rd{g:j0}(hf:K0 g=true){p:Int}(hp:0≤p∧p<g.2.1){t:Int→List Int}(h:v0f g p t){y:Int}(hy:y∈P2 g p):rdw g p (t y)=some y:=by
 refine h.induct (P:=fun y=>rdw g p (t y)=some y) ?_ (fun v hv y hy x hx e1 e2 ih=>?_) hy
 ·rw[h.z];rfl
 ·rw[e2,Y0l,ih,oB]
  exact R0p e1 ((T03 hf hp).2 y hy).1
theorem v0f.let{g:j0}{p:Int}{t:Int→List Int}(h:v0f g p t){y:Int}(hy:y∈P2 g p):∀ x∈t y,x∈F5 g.1.toNat 1:=by
 refine h.induct (P:=fun y=>∀ x∈t y,x∈F5 g.1.toNat 1) ?_ (fun v hv y hy x hx e1 e2 ih=>?_) hy
 ·rw[h.z];exact fun x hx=>by cases hx
 ·rw[e2]
  intro z hz
  rcases List.mem_append.1 hz with hz|hz
  ·exact ih z hz
  ·simp at hz;rw[hz];exact hx
def C0c(w:List Int):Int:=w.getLastD 0
theorem G0g(a:List Int)(x:Int):C0c (a ++ [x])=x:=by unfold C0c;simp
def tE(g:j0)(v:Int):H0:=stp (U0 g v (-(C0c (tw g 0 v)))) (C0c (tw g 0 v)) v
def d03(g:j0):List H0:=o5 O0 [] ((P2 g 0).tail.map (tE g))
theorem S0e{g:j0}(hf:K0 g=true){p:Int}(hp:0≤p∧p<g.2.1){v:Int}(hv:0≤v∧v<g.2.1):gi (P06 g p) v=some (tw g p v):=by
 have h:=x08 hf hp
 have hl:=h.ok.len
 have hk:v.toNat<(F02 g p).1.length:=by omega
 have:=j2 (xs:=P06 g p) (k:=v.toNat) (x:=tw g p v) (by
  unfold P06 tw F6
  rw[List.getElem?_map,List.getElem?_eq_getElem hk,List.getD_eq_getElem?_getD,List.getElem?_eq_getElem hk];rfl)
 rwa [show((v.toNat:Nat):Int)=v by omega]at this
theorem T0o{g:j0}(hf:K0 g=true){v:Int}:v∈(P2 g 0).tail↔v∈P2 g 0∧v≠0:=by
 obtain⟨q1,q2,q3,q4⟩:=j1 hf
 obtain⟨t,e⟩:=H0a g 0
 have hg:=(T03 hf (p:=0) ⟨by omega,by omega⟩).1
 rw[e]at hg ⊢
 have:=(List.nodup_cons.1 hg).1
 constructor
 ·intro h
  exact⟨mC _ h,fun c=>this (c▸h)⟩
 ·rintro⟨h1,h2⟩
  rcases List.mem_cons.1 h1 with h1|h1
  ·exact absurd h1 h2
  ·exact h1
theorem a0m{g:j0}(hf:K0 g=true):∀(d k fuel:Nat) (acc:List H0),k+d=(P2 g 0).tail.length→d<fuel→acc.length≤k →
  p6 (P2 g 0).tail (P06 g 0) g.1 g.2.1 g.2.2 fuel (k:Int) acc=some (acc++((P2 g 0).tail.drop k).map (tE g))
 |d,k,0,acc,hd,hf',ha=>by omega
 |0,k,fuel+1,acc,hd,hf',ha=>by
  rw[p6.eq_2,if_neg (by simp only[decide_eq_true_eq];omega),E1 (by omega)];simp
 |d+1,k,fuel+1,acc,hd,hfu,ha=>by
  obtain⟨q1,q2,q3,q4⟩:=j1 hf
  have hp:(0:Int)≤0∧(0:Int)<g.2.1:=⟨by omega,by omega⟩
  have hT:=t04 hf hp
  have hG:=T03 hf hp
  have hle:=l9 _ _ hG.1 hG.2
  have hk:k<(P2 g 0).tail.length:=by omega
  have htl:(P2 g 0).tail.length≤40:=by rw[List.length_tail];omega
  have hx:=p5 hk
  have hvm:=List.mem_of_getElem? hx
  have hdr:=J1 hx
  generalize (P2 g 0).tail[k]=v at hx hvm hdr
  obtain⟨hvo,hv0⟩:=(T0o hf).1 hvm
  have hvr:=hG.2 v hvo
  obtain⟨u,hu,x,hx1,e1,e2⟩:=hT.par v hvo hv0
  have hlx:=v03 (by omega) hx1
  have hll:(tw g 0 v).length=(tw g 0 u).length+1:=by rw[e2];simp
  have hlu:=hT.len u
  have g2:gi (tw g 0 v) (IntKind.i64.wrap (((tw g 0 v).length:Nat)-1))=some x:=by
   rw[w64 (by omega) (by omega),show(((tw g 0 v).length:Nat):Int)-1=(((tw g 0 u).length:Nat):Int) by omega]
   refine j2 ?_
   rw[e2,List.getElem?_append_right (Nat.le_refl _)];simp
  have hte:tE g v=stp (U0 g v (-x)) x v:=by unfold tE;rw[e2,G0g]
  have hnm:j4 (-x):=⟨⟨by have:=hlx.2.2;omega,by have:=hlx.2.2;omega⟩,by have:=hlx.2.2;omega⟩
  have ih:=a0m hf d (k+1) fuel (acc ++ [tE g v]) (by omega) (by omega) (by simp;omega)
  rw[p6.eq_2,if_pos (by simp only[decide_eq_true_eq];omega),j2 hx,oB,S0e hf hp ⟨hvr.1,by omega⟩,oB,g2,oB,m0a hlx.1.1 hlx.1.2,show(g.1,g.2.1,g.2.2)=g from rfl,N04 g v (-x) hnm (by omega),oB,D0 (v02 q1 q3.2 v _),oB,I0k _ x v hlx.1,oB,←hte,V1 hk (by omega),hdr,List.map_cons]
  generalize tE g v=t at ih ⊢
  obtain⟨t0,t1,t2⟩:=t
  simp only
  rw[D0 (by simp;omega),oB]
  rw[ih]
  simp
theorem L0j{g:j0}(hf:K0 g=true):L00 g=some (d03 g):=by
 obtain⟨q1,q2,q3,q4⟩:=j1 hf
 have hp:(0:Int)≤0∧(0:Int)<g.2.1:=⟨by omega,by omega⟩
 have hG:=T03 hf hp
 have hle:=l9 _ _ hG.1 hG.2
 have h1:=R0e hf hp
 obtain⟨t,et⟩:=H0a g 0
 have hc:Y04 (P2 g 0) 1 (((P2 g 0).length:Nat):Int)=some (P2 g 0).tail:=by
  have:=D02 (xs:=P2 g 0) (k:=1) (by rw[et];simp)
  rw[show((1:Nat):Int)=1 from rfl]at this
  rw[this,List.drop_one]
 have hL:=a0m hf (P2 g 0).tail.length 0 S0 [] (by omega) (Y0 (by rw[List.length_tail];omega)) (by simp)
 rw[show((0:Nat):Int)=0 from rfl,List.drop_zero,List.nil_append]at hL
 have hs:=x0a ((P2 g 0).tail.map (tE g)) (by rw[List.length_map,List.length_tail];omega)
 unfold d03
 obtain⟨a,b,c⟩:=g
 simp only at *
 unfold L00
 simp only[h1,oB,hc,hL,hs]
def z01(g:j0):List H0:=g.2.2.filter fun e => !decide (e∈d03 g)
theorem H0g{g:j0}(hf:K0 g=true):(d03 g).length≤40:=by
 obtain⟨q1,q2,q3,q4⟩:=j1 hf
 have hG:=T03 hf (p:=0) ⟨by omega,by omega⟩
 have hle:=l9 _ _ hG.1 hG.2
 unfold d03
 have:=L01 ((P2 g 0).tail.map (tE g)) []
 rw[List.length_map,List.length_tail,List.length_nil]at this
 omega
theorem b0m(T:List H0)(hT:T.length≤1000)(es:List H0)(hl:es.length≤1000):∀(d k fuel:Nat) (acc:List H0),k+d=es.length→d<fuel→acc.length≤k →
  S4 es T fuel (k:Int) acc=some (acc++(es.drop k).filter fun e => !decide (e∈T))
 |d,k,0,acc,hd,hf',ha=>by omega
 |0,k,fuel+1,acc,hd,hf',ha=>by
  rw[S4.eq_2,if_neg (by simp only[decide_eq_true_eq];omega),E1 (by omega)];simp
 |d+1,k,fuel+1,acc,hd,hfu,ha=>by
  have hk:k<es.length:=by omega
  have hx:=p5 hk
  have hdr:=J1 hx
  generalize es[k]=e at hx hdr
  have ih:=fun acc' h=>b0m T hT es hl d (k+1) fuel acc' (by omega) (by omega) h
  obtain⟨e0,e1,e2⟩:=e
  rw[S4.eq_2,if_pos (by simp only[decide_eq_true_eq];omega),j2 hx,oB]
  simp only[K0k T (e0,e1,e2) (by omega),oB,V1 hk (show es.length≤9223372036854775807 by omega),hdr,List.filter_cons]
  by_cases c:(e0,e1,e2)∈T
  ·simp only[decide_eq_true c,Bool.not_true,Bool.false_eq_true,if_false]
   exact ih acc (by omega)
  ·simp only[decide_eq_false c,Bool.not_false,if_true]
   rw[D0 (by simp;omega),oB,ih _ (by simp;omega)]
   simp
theorem S0p{g:j0}(hf:K0 g=true):m00 g=some (z01 g):=by
 obtain⟨q1,q2,q3,q4⟩:=j1 hf
 have h1:=R8 g (by omega)
 have h2:=L0j hf
 have h3:=H0g hf
 have hL:=b0m (d03 g) (by omega) g.2.2 (by omega) g.2.2.length 0 S0 [] (by omega) (Y0 (by omega)) (by simp)
 rw[show((0:Nat):Int)=0 from rfl,List.drop_zero,List.nil_append]at hL
 unfold z01
 obtain⟨a,b,c⟩:=g
 simp only at *
 unfold m00
 simp only[h1,hf,oB,h2,Bool.not_true,Bool.false_eq_true,if_false,hL]
theorem Q0b{g:j0}{e:H0}:e∈z01 g↔e∈g.2.2∧e ∉ d03 g:=by
 unfold z01
 rw[List.mem_filter]
 simp
def bw(g:j0)(e:H0):List Int:=tw g 0 e.1 ++ [e.2.1]++inv (tw g 0 e.2.2)
def w02(g:j0):List (List Int):=(z01 g).map fun e=>(E02 [] (bw g e)).reverse
theorem O0q{g:j0}(hf:K0 g=true)(e:H0):(bw g e).length≤81:=by
 obtain⟨q1,q2,q3,q4⟩:=j1 hf
 have hT:=t04 hf (p:=0) ⟨by omega,by omega⟩
 have h1:=hT.len e.1
 have h2:=hT.len e.2.2
 unfold bw
 simp only[List.length_append,o04,List.length_singleton]
 omega
theorem c0m{g:j0}(hf:K0 g=true)(es:List H0)(he:∀ e∈es,e∈g.2.2)(hl:es.length≤1000):∀(d k fuel:Nat) (acc:List (List Int)),k+d=es.length→d<fuel→acc.length≤k →
  I7 es (P06 g 0) fuel (k:Int) acc=some (acc++(es.drop k).map fun e=>(E02 [] (bw g e)).reverse)
 |d,k,0,acc,hd,hf',ha=>by omega
 |0,k,fuel+1,acc,hd,hf',ha=>by
  rw[I7.eq_2,if_neg (by simp only[decide_eq_true_eq];omega),E1 (by omega)];simp
 |d+1,k,fuel+1,acc,hd,hfu,ha=>by
  obtain⟨q1,q2,q3,q4⟩:=j1 hf
  have hp:(0:Int)≤0∧(0:Int)<g.2.1:=⟨by omega,by omega⟩
  have hT:=t04 hf hp
  have hk:k<es.length:=by omega
  have hx:=p5 hk
  have hem:=he _ (List.mem_of_getElem? hx)
  have hdr:=J1 hx
  generalize es[k]=e at hx hdr hem
  have hq:=q1 e hem
  have h1:=hT.len e.1
  have h2:=hT.len e.2.2
  have ih:=fun acc' h=>c0m hf es he hl d (k+1) fuel acc' (by omega) (by omega) h
  have hpr:V8 [tw g 0 e.1,[e.2.1],inv (tw g 0 e.2.2)]=some (E02 [] (bw g e)).reverse:=by
   rw[E05 _ (by simp) (by simp only[K0j,o04,List.length_singleton];omega)]
   unfold bw R0k
   simp only[R0k,M0e]
  obtain⟨e0,e1,e2⟩:=e
  rw[I7.eq_2,if_pos (by simp only[decide_eq_true_eq];omega),j2 hx,oB]
  simp only at hq hpr h1 h2 ⊢
  rw[S0e hf hp hq.1,oB,oB,S0e hf hp hq.2.1,oB,u03 _ (by omega),oB,oB,hpr,oB,oB,D0 (by simp;omega),oB,V1 hk (show es.length≤9223372036854775807 by omega),ih _ (by simp;omega),hdr]
  simp
theorem T0p{g:j0}(hc:N1 g=true):R01 g=some (w02 g):=by
 have hf:=P4 hc
 obtain⟨q1,q2,q3,q4⟩:=j1 hf
 have h1:=l00 g (by omega)
 have h2:=S0p hf
 have h3:=R0e hf (p:=0) ⟨by omega,by omega⟩
 have hle:(z01 g).length≤g.2.2.length:=List.length_filter_le _ _
 have hL:=c0m hf (z01 g) (fun e he=>(Q0b.1 he).1) (by omega) (z01 g).length 0 S0 [] (by omega) (Y0 (by omega)) (by simp)
 rw[show((0:Nat):Int)=0 from rfl,List.drop_zero,List.nil_append]at hL
 unfold w02
 obtain⟨a,b,c⟩:=g
 simp only at *
 unfold R01
 simp only[h1,hc,oB,h2,h3,Bool.not_true,Bool.false_eq_true,if_false,hL]
theorem P0q{x:Int}(h:j4 x):ng x = -x:=m0a h.1 h.2
theorem S0k{x:Int}(h:j4 x):j4 (-x):=⟨⟨by have:=h.1.2;have:=h.2;omega,by have:=h.1.1;have:=h.2;omega⟩,by have:=h.1.2;omega⟩
theorem V0h{w:List Int}(hw:∀ x∈w,j4 x):∀ x∈inv w,j4 x:=fun x hx=>by
 simp only[inv,List.mem_reverse,List.mem_map]at hx
 obtain⟨y,hy,rfl⟩:=hx
 rw[P0q (hw y hy)];exact S0k (hw y hy)
theorem c0n{s:List Int}{x y:Int}(h:y∈F01 s x):y∈s∨y=x:=by
 cases s with
 |nil=>simp[F01]at h;exact .inr h
 |cons l t =>
  simp only[F01]at h
  cases c:G0a l x with
  |true=>rw[c]at h;exact .inl (mC _ h)
  |false =>
   rw[c]at h
   rcases List.mem_cons.1 h with h|h
   ·exact .inr h
   ·exact .inl h
theorem M0j:∀(w s:List Int) {y:Int},y∈E02 s w→y∈s∨y∈w
 | [],s,y,h => .inl h
 |x::w,s,y,h=>by
  rcases M0j w (F01 s x) h with h|h
  ·rcases c0n h with h|rfl
   ·exact .inl h
   ·exact .inr mS
  ·exact .inr (mC _ h)
theorem U0o{g:j0}(h:N1 g=true){v:Int}(h0:0≤v)(h1:v<g.2.1):v∈P2 g 0:=z0g (P4 h) (a0n h) h0 h1
theorem T0e{g:j0}(hc:N1 g=true){v:Int}(h0:0≤v)(h1:v<g.2.1):∀ x∈tw g 0 v,j4 x∧x≠0:=fun x hx=>by
 have hf:=P4 hc
 obtain⟨q1,q2,q3,q4⟩:=j1 hf
 have hT:=t04 hf (p:=0) ⟨by omega,by omega⟩
 have:=v03 (by omega) (hT.let (U0o hc h0 h1) x hx)
 exact⟨this.1,this.2.1⟩
theorem d0n{g:j0}(hc:N1 g=true){e:H0}(he:e∈g.2.2):∀ x∈bw g e,j4 x:=fun x hx=>by
 obtain⟨q1,q2,q3,q4⟩:=j1 (P4 hc)
 have hq:=q1 e he
 unfold bw at hx
 rcases List.mem_append.1 hx with hx|hx
 ·rcases List.mem_append.1 hx with hx|hx
  ·exact(T0e hc hq.1.1 hq.1.2 x hx).1
  ·simp at hx;subst hx
   exact⟨⟨by omega,by omega⟩,by omega⟩
 ·exact V0h (fun y hy=>(T0e hc hq.2.1.1 hq.2.1.2 y hy).1) x hx
def F05(b:j0)(ws:List (List Int)):Bool:=N1 b&&ws.all fun w=>j00 b (E02 [] w).reverse
theorem I0g(g:j0):∀ d k,(X08 g d k).length≤d*(F5 g.1.toNat 1).length
 |0,k=>Nat.zero_le _
 |d+1,k=>by
  have h1:=v08 g (k:Int) (F5 g.1.toNat 1)
  have h2:=I0g g d (k+1)
  rw[X08,List.length_append,Nat.succ_mul]
  omega
theorem D0c{g:j0}(hf:K0 g=true):(J00 g).length≤1000:=by
 obtain⟨q1,q2,q3,q4⟩:=j1 hf
 have h:=I0g g g.2.1.toNat 0
 rw[D00]at h
 unfold J00
 have h2:g.2.1.toNat*(2*g.1.toNat)≤40*(2*3):=Nat.mul_le_mul (by omega) (by omega)
 omega
def D03(g:j0):Bool:=N1 g&&decide ((J00 g).length=0)
theorem l0r(n:Nat):decide (((n:Nat):Int)=0)=decide (n=0):=by
 by_cases c:n=0
 ·rw[decide_eq_true c,decide_eq_true (by omega)]
 ·rw[decide_eq_false c,decide_eq_false (by omega)]
theorem k06{g:j0}(h:N1 g=true):K0 g=true:=by
 unfold N1 at h
 simp only[Bool.and_eq_true]at h
 exact h.1
theorem N0j(g:j0)(hl:g.2.2.length≤140737488355328):W8 g=some (D03 g):=by
 have h1:=M06 g hl
 have h2:N1 g=true→W7 g=some (J00 g):=fun c=>t0f (k06 c)
 have h3:N1 g=true→(J00 g).length≤1000:=fun c=>D0c (k06 c)
 unfold D03
 obtain⟨a,b,c⟩:=g
 unfold W8 O2
 simp only[h1,oB]
 cases e:N1 (a,b,c)with
 |false=>rfl
 |true =>
  have:=h3 e
  simp only[C1,h2 e,oB,cond_true,Bool.true_and]
  rw[D0 (by omega),oB,l0r]
theorem O0j(g:j0)(hl:g.2.2.length≤140737488355328):Y8 g=some (D03 g):=by
 have h1:=l00 g hl
 have h2:N1 g=true→Y7 g=some (J00 g):=fun c=>u0f (k06 c)
 have h3:N1 g=true→(J00 g).length≤1000:=fun c=>D0c (k06 c)
 unfold D03
 obtain⟨a,b,c⟩:=g
 unfold Y8
 simp only[h1,oB]
 cases e:N1 (a,b,c)with
 |false=>rfl
 |true =>
  have:=h3 e
  simp only[C1,h2 e,oB,cond_true,Bool.true_and]
  rw[D0 (by omega),oB,l0r]
theorem V0o{g:j0}(h:D03 g=true):N1 g=true:=by
 unfold D03 at h
 simp only[Bool.and_eq_true]at h
 exact h.1
def U06(g:j0)(v:Int):List Int:=v::wo v.toNat g.2.1.toNat 0
def R0b(g:j0)(v:Int):j0:=N0b (n8 g (U06 g v))
theorem W0o(g:Nat):∀(d k:Nat),(g:Int) ∉ wo g d k
 |0,k,h=>nomatch h
 |d+1,k,h=>by
  unfold wo at h
  split at h
  ·exact W0o g d (k+1) h
  ·rcases List.mem_cons.1 h with h|h
   ·omega
   ·exact W0o g d (k+1) h
theorem U0e{g:j0}(hf:K0 g=true){v:Int}(hv:0≤v∧v<g.2.1):inV g.2.1.toNat (U06 g v)∧(U06 g v).Nodup∧(U06 g v).length=g.2.1.toNat:=by
 obtain⟨q1,q2,q3,q4⟩:=j1 hf
 refine⟨fun x hx=>?_,?_,?_⟩
 ·rcases List.mem_cons.1 hx with rfl|hx
  ·omega
  ·exact k0j _ _ _ _ (by omega) x hx
 ·refine List.nodup_cons.2 ⟨fun h=>?_,R07 _ _ _⟩
  have:=W0o v.toNat g.2.1.toNat 0
  rw[show((v.toNat:Nat):Int)=v by omega]at this
  exact this h
 ·unfold U06
  rw[List.length_cons,C0e,if_pos (by omega)]
  omega
theorem S0b{g:j0}(hf:K0 g=true){v:Int}(hv:0≤v∧v<g.2.1):K0 (n8 g (U06 g v))=true:=by
 obtain⟨q1,q2,q3,q4⟩:=j1 hf
 obtain⟨h1,h2,h3⟩:=U0e hf hv
 exact S07 hf h1 h2 (by omega) (by omega)
theorem e0n{g:j0}(hf:K0 g=true){v:Int}(hv:0≤v∧v<g.2.1):N1 (R0b g v)=true:=X0m (S0b hf hv)
theorem X0o(n:Nat)(v:Int)(h0:0≤v)(hn:n≤1000):∀(d k fuel:Nat) (acc:List Int),k+d=n→d<fuel→acc.length≤k+1 →
  A4 (n:Int) v fuel (k:Int) acc=some (acc++wo v.toNat d k)
 |d,k,0,acc,hd,hf,ha=>by omega
 |0,k,fuel+1,acc,hd,hf,ha=>by
  rw[A4.eq_2,if_neg (by simp only[decide_eq_true_eq];omega)];simp[wo]
 |d+1,k,fuel+1,acc,hd,hf,ha=>by
  have ih:=fun acc' h=>X0o n v h0 hn d (k+1) fuel acc' (by omega) (by omega) h
  rw[A4.eq_2,if_pos (by simp only[decide_eq_true_eq];omega),V1 (show k<10000 by omega) (by omega)]
  unfold wo
  by_cases c:k=v.toNat
  ·have e:decide ((k:Int)=v)=true:=decide_eq_true (by omega)
   rw[e,if_neg (by simp),if_pos c,ih _ (by omega)]
  ·have e:decide ((k:Int)=v)=false:=decide_eq_false (by omega)
   rw[e,if_pos (show(!false)=true from rfl),if_neg c,D0 (by simp;omega),oB,ih _ (by simp;omega)]
   simp
theorem n0q(n:Nat)(v:Int):∀(fuel:Nat) (k:Int) (acc:List Int),S6 (n:Int) v fuel k acc=A4 (n:Int) v fuel k acc
 |0,k,acc=>rfl
 |fuel+1,k,acc=>by
  rw[S6.eq_2,A4.eq_2]
  simp only[n0q n v fuel]
theorem T0k{g:j0}(hf:K0 g=true){v:Int}(hv:0≤v∧v<g.2.1):n7 g v=some (R0b g v,true):=by
 obtain⟨q1,q2,q3,q4⟩:=j1 hf
 obtain⟨h1,h2,h3⟩:=U0e hf hv
 have hfd:=I5 g (by omega)
 rw[hf]at hfd
 have hL:=X0o g.2.1.toNat v hv.1 (by omega) g.2.1.toNat 0 S0 [v] (by omega) (Y0 (by omega)) (by simp)
 have hc:=M0k (S0b hf hv)
 have hr:=w09 g.1 g.2.1.toNat g.2.2 (U06 g v) (by rw[show((g.2.1.toNat:Nat):Int)=g.2.1 by omega];exact P3 hf) h1 h2 (by omega) (by omega)
 rw[show((0:Nat):Int)=0 from rfl]at hL
 rw[show((g.2.1.toNat:Nat):Int)=g.2.1 by omega]at hL hr
 rw[show [v]++wo v.toNat g.2.1.toNat 0=U06 g v from rfl]at hL
 rw[show(g.1,g.2.1,g.2.2)=g from rfl]at hr
 unfold R0b
 generalize U06 g v=o at *
 generalize hpt:n8 g o=q at *
 obtain⟨a,b,c⟩:=g
 obtain⟨qa,qb,qc⟩:=q
 simp only at hL hv q3 ⊢
 unfold n7
 simp only[hfd,oB,Bool.not_true,Bool.not_false,C1,v01,cond_false]
 rw[w64 (by omega) (by omega),show inR 0 (b-1) v=true by simp[inR];omega]
 simp only[Bool.not_true,Bool.false_eq_true,if_false,hL,oB,hr,hc]
theorem U0k{g:j0}(hf:K0 g=true){v:Int}(hv:0≤v∧v<g.2.1):i8 g v=some (R0b g v,true):=by
 obtain⟨q1,q2,q3,q4⟩:=j1 hf
 obtain⟨h1,h2,h3⟩:=U0e hf hv
 have hfd:=R8 g (by omega)
 rw[hf]at hfd
 have hh:=K0o (P3 hf) hv
 have hL:=X0o g.2.1.toNat v hv.1 (by omega) g.2.1.toNat 0 S0 [v] (by omega) (Y0 (by omega)) (by simp)
 rw[←n0q]at hL
 have hc:=N0k (S0b hf hv)
 have hr:=G0h g.1 g.2.1.toNat g.2.2 (U06 g v) (fun e he=>by have:=q1 e he;omega) h1 (by omega) (by omega) (by omega)
 rw[show((0:Nat):Int)=0 from rfl]at hL
 rw[show((g.2.1.toNat:Nat):Int)=g.2.1 by omega]at hL hr
 rw[show [v]++wo v.toNat g.2.1.toNat 0=U06 g v from rfl]at hL
 rw[show(g.1,g.2.1,g.2.2)=g from rfl]at hr
 unfold R0b
 generalize U06 g v=o at *
 generalize hpt:n8 g o=q at *
 obtain⟨a,b,c⟩:=g
 obtain⟨qa,qb,qc⟩:=q
 simp only at hL hv q3 ⊢
 unfold i8
 simp only[hfd,oB,Bool.not_true,Bool.not_false,C1,hh,cond_false]
 simp only[Bool.false_eq_true,if_false,hL,oB,hr,hc]
theorem P0j{g:j0}(h:N1 g=true):g.2.2.length≤120∧(1≤g.2.1∧g.2.1≤40)∧(1≤g.1∧g.1≤3):=by
 obtain⟨q1,q2,q3,q4⟩:=j1 (k06 h)
 exact⟨q4,q3,q2⟩
def isS(o:Option (List Int)):Bool:=o.isSome
def gtD(o:Option (List Int)):List Int:=o.getD []
theorem giM{α β:Type}{f:α→β}{W:List α}{n:Nat}(hl:W.length=n){x:Int}(h0:0≤x)(h1:x<(n:Int)){y:α}(hy:gi W x=some y):gi (W.map f) x=some (f y):=by
 obtain⟨_,h2⟩:=y0h hy
 have:=j2 (xs:=W.map f) (k:=x.toNat) (x:=f y) (by rw[List.getElem?_map,h2];rfl)
 rwa [show((x.toNat:Nat):Int)=x by omega]at this
theorem Y0o{g:j0}(hf:K0 g=true)(p:Int){n:Nat}(hn:g.2.1=(n:Int))(ls:List Int)(hls:∀ x∈ls,x∈F5 g.1.toNat 1)(hl:ls.length≤1000000)(i:Nat)(v:Int):∀(d k fuel:Nat) (s:Tr8),TOk g p n s→s.2[i]?=some v→k+d=ls.length→d<fuel →
  V5 ls (i:Int) g.1 g.2.1 g.2.2 fuel (k:Int) (s.1.map isS) (s.1.map gtD) s.2=some ((A09 g v (ls.drop k) s).1.map isS,(A09 g v (ls.drop k) s).1.map gtD,(A09 g v (ls.drop k) s).2)
 |d,k,0,s,hs,hv,hd,hf=>by omega
 |0,k,fuel+1,s,hs,hv,hd,hf=>by
  rw[V5.eq_2,if_neg (by simp only[decide_eq_true_eq];omega),E1 (by omega)];rfl
 |d+1,k,fuel+1,s,hs,hi,hd,hfu=>by
  obtain⟨q1,q2,q3,q4⟩:=j1 hf
  have hk:k<ls.length:=by omega
  have hx:=p5 hk
  have hxl:=hls _ (List.mem_of_getElem? hx)
  have hdr:=J1 hx
  generalize ls[k]=x at hx hxl hdr
  have hxm:=(v03 (by omega) hxl).1
  have hlen:=l9 n s.2 hs.gd.1 hs.gd.2
  have hnx:=Y02 q1 v x
  have hv:=List.mem_of_getElem? hi
  have hsn:=hs.add hf hn hv hxl
  obtain⟨t,et⟩:=p0d g v x s
  have ih:=Y0o hf p hn ls hls hl i v d (k+1) fuel (trS g v x s) hsn (by rw[et,List.getElem?_append_left (List.getElem?_eq_some_iff.1 hi).1];exact hi) (by omega) (by omega)
  have hw:=hs.ok
  have hvr:=hs.gd.2 v hv
  have hsh:=hw.short v
  obtain⟨a,ha⟩:=hw.get hvr.1 hvr.2 hv
  have hva:gi s.1 v=some (some a):=by rw[giO hw.len hvr.1 hvr.2,ha]
  rw[ha]at hsh
  rw[V5.eq_2,if_pos (by simp only[decide_eq_true_eq];omega),hdr,A09,←ih]
  simp only[j2 hi,j2 hx,oB,show(g.1,g.2.1,g.2.2)=g from rfl,t03 g v x hxm (by omega),D0 (v02 q1 q3.2 v x),V1 hk (show ls.length≤9223372036854775807 by omega),giM (f:=gtD) hw.len hvr.1 hvr.2 hva]
  unfold trS
  generalize U0 g v x=y at *
  by_cases c1:0≤y
  ·have hy:y<(n:Int):=by omega
   have hgy:=giM (f:=isS) hw.len c1 hy (giO hw.len c1 hy)
   have hgw:=giM (f:=gtD) hw.len c1 hy (giO hw.len c1 hy)
   simp only[show decide (y ≥ 0)=true by simpa using c1,C1,hgy,hgw,oB,cond_true]
   by_cases c2:y∈s.2
   ·have:isS (F6 s.1 y)=true:=by
     have h2 : ¬ ((F6 s.1 y).isNone=true):=fun h=>(hw.iff y c1 hy).1 h c2
     unfold isS
     cases e:F6 s.1 y with
     |none=>rw[e]at h2;exact absurd rfl h2
     |some b=>rfl
    rw[this,if_neg (by simp),if_neg fun h=>h.2 c2]
   ·have:isS (F6 s.1 y)=false:=by
     have h2:(F6 s.1 y).isNone=true:=(hw.iff y c1 hy).2 c2
     unfold isS
     cases e:F6 s.1 y with
     |none=>rfl
     |some b=>rw[e]at h2;cases h2
    have hgd:gtD (some a)=a:=rfl
    simp only[Option.getD_some]at hsh
    rw[this,if_pos (by simp),if_pos ⟨c1,c2⟩,hgd,D0 (by omega),oB,D0 (by simp;omega),oB,D0 (by simp;omega),oB,ha]
    simp only[List.map_set,Option.getD_some]
    rfl
  ·simp only[show decide (y ≥ 0)=false by simpa using c1,H1,oB,cond_false]
   rw[if_neg (by simp),if_neg fun h=>c1 h.1]
theorem Z0o{g:j0}(hf:K0 g=true)(p:Int){n:Nat}(hn:g.2.1=(n:Int)):∀(f i fuel:Nat) (s:Tr8),TOk g p n s→i≤s.2.length→n+1≤i+f→f<fuel →
  S7 (F5 g.1.toNat 1) g.1 g.2.1 g.2.2 fuel (i:Int) (s.1.map isS) (s.1.map gtD) s.2=some ((c03 g (F5 g.1.toNat 1) f i s).1.map isS,(c03 g (F5 g.1.toNat 1) f i s).1.map gtD,(c03 g (F5 g.1.toNat 1) f i s).2)
 |f,i,0,s,hs,hi,hd,hf=>by omega
 |0,i,fuel+1,s,hs,hi,hd,hf=>by have:=l9 n s.2 hs.gd.1 hs.gd.2;omega
 |f+1,i,fuel+1,s,hs,hi,hd,hfu=>by
  obtain⟨q1,q2,q3,q4⟩:=j1 hf
  have hlen:=l9 n s.2 hs.gd.1 hs.gd.2
  rw[S7.eq_2,oB,D0 (by omega),oB]
  by_cases hk:i<s.2.length
  ·have hx:=p5 hk
   generalize s.2[i]=v at hx
   have hv:=List.mem_of_getElem? hx
   have h0:=Y0o hf p hn (F5 g.1.toNat 1) (fun x hx=>hx) (by rw[D00];omega) i v (F5 g.1.toNat 1).length 0 S0 s hs hx (by omega) (Y0 (by rw[D00];omega))
   rw[show((0:Nat):Int)=0 from rfl,List.drop_zero]at h0
   obtain⟨t,e⟩:=Q0e g v (F5 g.1.toNat 1) s
   have ih:=Z0o hf p hn f (i+1) fuel _ (hs.inn hf hn _ hv fun x hx=>hx) (by rw[e,List.length_append];omega) (by omega) (by omega)
   rw[if_pos (by simpa using hk),h0,oB]
   simp only[V1 hk (show s.2.length≤9223372036854775807 by omega),c03,hx]
   exact ih
  ·have hx:s.2[i]?=none:=List.getElem?_eq_none (by omega)
   rw[if_neg (by simpa using hk)]
   simp only[c03,hx]
theorem W0h{g:j0}(hf:K0 g=true){p:Int}(hp:0≤p∧p<g.2.1):i01 g p=some ((F02 g p).1.map isS,(F02 g p).1.map gtD):=by
 obtain⟨q1,q2,q3,q4⟩:=j1 hf
 have hN:g.2.1=((g.2.1.toNat:Nat):Int):=by omega
 have h0:=Z0o hf p hN (g.2.1.toNat+1) 0 S0 _ (w08 g (N:=g.2.1.toNat) ⟨hp.1,by omega⟩) (by simp) (by omega) (Y0 (by omega))
 have hlt:=I0h g.1.toNat (by omega)
 rw[show((g.1.toNat:Nat):Int)=g.1 by omega]at hlt
 have rep:∀ {α:Type} (z:α),gi (List.replicate g.2.1.toNat z) p=some z:=fun z=>by
  have:=j2 (xs:=List.replicate g.2.1.toNat z) (k:=p.toNat) (x:=z) (by rw[List.getElem?_replicate,if_pos (by omega)])
  rwa [show((p.toNat:Nat):Int)=p by omega]at this
 have e1:((List.replicate g.2.1.toNat (none:Option (List Int))).set p.toNat (some [])).map isS=(List.replicate g.2.1.toNat false).set p.toNat true:=by
  rw[List.map_set,List.map_replicate];rfl
 have e2:((List.replicate g.2.1.toNat (none:Option (List Int))).set p.toNat (some [])).map gtD=(List.replicate g.2.1.toNat ([]:List Int)).set p.toNat []:=by
  rw[List.map_set,List.map_replicate];rfl
 rw[e1,e2]at h0
 unfold F02
 obtain⟨a,b,c⟩:=g
 simp only at *
 unfold i01
 simp only
 rw[D0 (by omega),oB,D0 (by omega),oB,rep false,oB,rep [],oB,hlt,oB]
 rw[show((0:Nat):Int)=0 from rfl]at h0
 rw[h0]
 rfl
def X0h(g:j0)(u v:Int):List Int×Bool:=bif K0 g&&(inR 0 (g.2.1-1) u&&inR 0 (g.2.1-1) v)then(match F6 (F02 g u).1 v with
 |some w=>(w,true)
 |none=>([],false))else([],false)
theorem a0p{n u:Int}(h:inR 0 (n-1) u=true):0≤u∧u<n:=by
 simp only[inR,Bool.and_eq_true,decide_eq_true_eq]at h
 omega
theorem Q0q(g:j0)(hg:Q0 g=true)(u:Int):T3 g u=some (inR 0 (g.2.1-1) u):=by
 obtain⟨q1,q2,q3,q4⟩:=A2 hg
 obtain⟨r,n,es⟩:=g
 simp only at q3
 unfold T3
 simp only[q02]
 rw[w64 (by omega) (by omega)]
 rfl
theorem f0n{g:j0}(hf:K0 g=true){u v:Int}(hu:0≤u∧u<g.2.1):(gtD (F6 (F02 g u).1 v)).length≤40:=by
 obtain⟨q1,q2,q3,q4⟩:=j1 hf
 have h:=x08 hf hu
 have:=h.ok.short v
 have:=l9 _ _ h.gd.1 h.gd.2
 unfold gtD
 omega
theorem V0k(g:j0)(hl:g.2.2.length≤140737488355328)(u v:Int):j8 g u v=some (X0h g u v):=by
 have h1:=I5 g hl
 unfold X0h
 cases hf:K0 g with
 |false =>
  obtain⟨a,b,c⟩:=g
  unfold j8
  simp only[h1,hf,oB,Bool.not_false,Bool.not_true,H1,cond_true]
  rfl
 |true =>
  obtain⟨q1,q2,q3,q4⟩:=j1 hf
  cases hu:inR 0 (g.2.1-1) u with
  |false =>
   obtain⟨a,b,c⟩:=g
   unfold j8
   simp only at hu q3
   simp only[h1,hf,oB,Bool.not_false,Bool.not_true,C1,cond_false,v01]
   rw[w64 (by omega) (by omega),hu]
   rfl
  |true =>
   cases hv:inR 0 (g.2.1-1) v with
   |false =>
    obtain⟨a,b,c⟩:=g
    unfold j8
    simp only at hu hv q3
    simp only[h1,hf,oB,Bool.not_false,Bool.not_true,C1,cond_false,v01]
    rw[w64 (by omega) (by omega),hu]
    simp only[Bool.not_true,Bool.not_false,oB,cond_false,C1,hv]
    rfl
   |true =>
    have hur:=a0p hu
    have hvr:=a0p hv
    have hs:=W0h hf hur
    have hok:=(x08 hf hur).ok
    have hg1:=giM (f:=isS) hok.len hvr.1 (by omega) (giO hok.len hvr.1 (by omega))
    have hg2:=giM (f:=gtD) hok.len hvr.1 (by omega) (giO hok.len hvr.1 (by omega))
    have hpl:=f0n hf (v:=v) hur
    obtain⟨a,b,c⟩:=g
    unfold j8
    simp only at hu hv q3 hg1 hg2
    simp only[h1,hf,oB,Bool.not_false,Bool.not_true,C1,cond_false,v01]
    rw[w64 (by omega) (by omega),hu]
    simp only[Bool.not_true,Bool.not_false,oB,cond_false,C1,hv,Bool.false_eq_true,if_false,hs,hg1,hg2,Bool.and_self,cond_true]
    cases e:F6 (F02 (a,b,c) u).1 v with
    |none=>rfl
    |some w =>
     rw[e]at hpl
     have hw:gtD (some w)=w:=rfl
     rw[hw]at hpl ⊢
     rw[show isS (some w)=true from rfl,if_neg (by simp),D0 (by simp only[List.length_nil];omega),oB,List.nil_append]
def Q06(g:j0)(v:Int):List Int:=(X0h g 0 v).1
theorem V07(g:j0)(hl:g.2.2.length≤140737488355328)(v:Int):c00 g v=some (Q06 g v):=by
 have h:=V0k g hl 0 v
 unfold Q06
 obtain⟨a,b,c⟩:=g
 unfold c00
 simp only[h,oB]
theorem C08(a b:List Int)(ha:Z08 a)(hb:Z08 b)(hl:a.length+b.length≤1099511627776):U8 a b=some (E02 [] (a++b)).reverse:=by
 unfold U8
 rw[D0 (by simp only[List.length_nil];omega),oB,D0 (by simp only[List.length_append,List.length_nil];omega),oB,List.nil_append,
  m02 _ (b0n ha hb) (by simp only[List.length_append];omega)]
 rfl
theorem E0c{α:Type}(cf:α→α→Int)(x:α):∀(a l:List α),o5 cf l (a ++ [x])=k00 cf x (o5 cf l a)
 | [],l=>rfl
 |y::a,l=>by
  show o5 cf (k00 cf y l) (a ++ [x])=k00 cf x (o5 cf (k00 cf y l) a)
  exact E0c cf x a _
def tEW(g:j0)(W:List (Option (List Int)))(v:Int):H0:=stp (U0 g v (-(C0c (gtD (F6 W v))))) (C0c (gtD (F6 W v))) v
def T0b(g:j0)(s:Tr8):List H0:=o5 O0 [] (s.2.tail.map (tEW g s.1))
theorem g0n{g:j0}(hf:K0 g=true){p:Int}{n:Nat}(hn:g.2.1=(n:Int)){s:Tr8}(h:TOk g p n s){v x:Int}(hv:v∈s.2)(c:0≤U0 g v x∧U0 g v x ∉ s.2):
  T0b g (trS g v x s)=k00 O0 (stp v x (U0 g v x)) (T0b g s)∧(trS g v x s).2=s.2 ++ [U0 g v x]:=by
 obtain⟨q1,q2,q3,q4⟩:=j1 hf
 have hyr:U0 g v x<(n:Int):=by
  rcases Y02 q1 v x with e|e<;>omega
 unfold trS
 rw[if_pos c]
 obtain⟨W,u⟩:=s
 obtain⟨c1,c2⟩:=c
 simp only at c2 hv
 refine⟨?_,rfl⟩
 have hwl:=h.ok.len
 simp only at hwl
 have hb:=fun(z:Int) (hz:0≤z)=>E00 (A:=W) (y:=some ((F6 W v).getD [] ++ [x])) c1 (by omega) hz
 have hu:u≠[]:=fun e=>by rw[e]at hv;cases hv
 have ht:(u ++ [U0 g v x]).tail=u.tail ++ [U0 g v x]:=by
  cases u with
  |nil=>exact absurd rfl hu
  |cons a r=>rfl
 unfold T0b
 simp only
 rw[ht,List.map_append,List.map_singleton,E0c]
 have h1:tEW g (W.set (U0 g v x).toNat (some ((F6 W v).getD [] ++ [x]))) (U0 g v x)=stp v x (U0 g v x):=by
  unfold tEW
  rw[hb _ c1,if_pos rfl]
  show stp (U0 g (U0 g v x) (-(C0c ((F6 W v).getD [] ++ [x])))) (C0c ((F6 W v).getD [] ++ [x])) (U0 g v x)=_
  rw[G0g,E0g hf rfl c1]
 have h2:u.tail.map (tEW g (W.set (U0 g v x).toNat (some ((F6 W v).getD [] ++ [x]))))=u.tail.map (tEW g W):=by
  refine List.map_congr_left fun z hz=>?_
  have hzu:=List.mem_of_mem_tail hz
  have hz0:=h.gd.2 z hzu
  unfold tEW
  rw[hb z hz0.1,if_neg fun e=>c2 (by rw[←e];exact hzu)]
 rw[h1,h2]
theorem b0p(g:j0)(v x:Int)(s:Tr8)(c : ¬ (0≤U0 g v x∧U0 g v x ∉ s.2)):trS g v x s=s:=by
 unfold trS;rw[if_neg c]
theorem c0p(g:j0)(s:Tr8):(T0b g s).length≤s.2.length:=by
 unfold T0b
 have:=L01 (s.2.tail.map (tEW g s.1)) []
 rw[List.length_map,List.length_tail,List.length_nil]at this
 omega
theorem d0m{g:j0}(hf:K0 g=true)(p:Int){n:Nat}(hn:g.2.1=(n:Int))(ls:List Int)(hls:∀ x∈ls,x∈F5 g.1.toNat 1)(hl:ls.length≤1000000)(i:Nat)(v:Int):∀(d k fuel:Nat) (s:Tr8),TOk g p n s→s.2[i]?=some v→k+d=ls.length→d<fuel →
  M5 ls (i:Int) g.1 g.2.1 g.2.2 fuel (T0b g s) (k:Int) s.2=some (T0b g (A09 g v (ls.drop k) s),(A09 g v (ls.drop k) s).2)
 |d,k,0,s,hs,hv,hd,hf=>by omega
 |0,k,fuel+1,s,hs,hv,hd,hf=>by
  rw[M5.eq_2,if_neg (by simp only[decide_eq_true_eq];omega),E1 (by omega)];rfl
 |d+1,k,fuel+1,s,hs,hi,hd,hfu=>by
  obtain⟨q1,q2,q3,q4⟩:=j1 hf
  have hk:k<ls.length:=by omega
  have hx:=p5 hk
  have hxl:=hls _ (List.mem_of_getElem? hx)
  have hdr:=J1 hx
  generalize ls[k]=x at hx hxl hdr
  have hxo:=v03 (by omega) hxl
  have hlen:=l9 n s.2 hs.gd.1 hs.gd.2
  have hnx:=Y02 q1 v x
  have hv:=List.mem_of_getElem? hi
  have hsn:=hs.add hf hn hv hxl
  obtain⟨t,et⟩:=p0d g v x s
  have ih:=d0m hf p hn ls hls hl i v d (k+1) fuel (trS g v x s) hsn (by rw[et,List.getElem?_append_left (List.getElem?_eq_some_iff.1 hi).1];exact hi) (by omega) (by omega)
  have hol:=c0p g s
  rw[M5.eq_2,if_pos (by simp only[decide_eq_true_eq];omega),hdr,A09,←ih]
  simp only[j2 hi,j2 hx,oB,show(g.1,g.2.1,g.2.2)=g from rfl,t03 g v x hxo.1 (by omega),D0 (v02 q1 q3.2 v x),V1 hk (show ls.length≤9223372036854775807 by omega)]
  by_cases c:0≤U0 g v x∧U0 g v x ∉ s.2
  ·obtain⟨e1,e2⟩:=g0n hf hn hs hv c
   rw[e1,e2]
   have e3:decide (U0 g v x<0)=false:=decide_eq_false (by omega)
   have e4:gi (s.2 ++ [U0 g v x]) (i:Int)=some v:=j2 (by rw[List.getElem?_append_left (List.getElem?_eq_some_iff.1 hi).1];exact hi)
   rw[e3]
   simp only[Bool.not_false,C1,s08 s.2 _ (show s.2.length≤9223372036854775807 by omega),decide_eq_false c.2,oB,cond_false,Bool.false_eq_true,if_false,e4]
   rw[D0 (by simp;omega),oB]
   generalize U0 g v x=y at *
   by_cases cx:x>0
   ·rw[if_pos (by simpa using cx),r05 _ _ (by omega),oB]
    unfold stp
    rw[if_neg (by omega)]
   ·rw[if_neg (by simpa using cx),r05 _ _ (by omega),oB,m0a hxo.1.1 hxo.1.2]
    unfold stp
    rw[if_pos (by have:=hxo.2.1;omega)]
  ·rw[b0p g v x s c]
   by_cases c1:0≤U0 g v x
   ·have c2:U0 g v x∈s.2:=Classical.byContradiction fun h=>c ⟨c1,h⟩
    rw[show decide (U0 g v x<0)=false from decide_eq_false (by omega)]
    simp only[Bool.not_false,C1,s08 s.2 _ (show s.2.length≤9223372036854775807 by omega),decide_eq_true c2,oB,cond_false,if_true]
   ·rw[show decide (U0 g v x<0)=true from decide_eq_true (by omega)]
    simp only[Bool.not_true,H1,oB,cond_true,if_true]
theorem e0m{g:j0}(hf:K0 g=true)(p:Int){n:Nat}(hn:g.2.1=(n:Int)):∀(f i fuel:Nat) (s:Tr8),TOk g p n s→i≤s.2.length→n+1≤i+f→f<fuel →
  E8 (F5 g.1.toNat 1) g.1 g.2.1 g.2.2 fuel (T0b g s) (i:Int) s.2=some (T0b g (c03 g (F5 g.1.toNat 1) f i s),(c03 g (F5 g.1.toNat 1) f i s).2)
 |f,i,0,s,hs,hi,hd,hf=>by omega
 |0,i,fuel+1,s,hs,hi,hd,hf=>by have:=l9 n s.2 hs.gd.1 hs.gd.2;omega
 |f+1,i,fuel+1,s,hs,hi,hd,hfu=>by
  obtain⟨q1,q2,q3,q4⟩:=j1 hf
  have hlen:=l9 n s.2 hs.gd.1 hs.gd.2
  rw[E8.eq_2,oB,D0 (by omega),oB]
  by_cases hk:i<s.2.length
  ·have hx:=p5 hk
   generalize s.2[i]=v at hx
   have hv:=List.mem_of_getElem? hx
   have h0:=d0m hf p hn (F5 g.1.toNat 1) (fun x hx=>hx) (by rw[D00];omega) i v (F5 g.1.toNat 1).length 0 S0 s hs hx (by omega) (Y0 (by rw[D00];omega))
   rw[show((0:Nat):Int)=0 from rfl,List.drop_zero]at h0
   obtain⟨t,e⟩:=Q0e g v (F5 g.1.toNat 1) s
   have ih:=e0m hf p hn f (i+1) fuel _ (hs.inn hf hn _ hv fun x hx=>hx) (by rw[e,List.length_append];omega) (by omega) (by omega)
   rw[if_pos (by simpa using hk),h0,oB]
   simp only[V1 hk (show s.2.length≤9223372036854775807 by omega),c03,hx]
   exact ih
  ·have hx:s.2[i]?=none:=List.getElem?_eq_none (by omega)
   rw[if_neg (by simpa using hk)]
   simp only[c03,hx]
theorem h0n{g:j0}(hf:K0 g=true):S01 g=some (d03 g):=by
 obtain⟨q1,q2,q3,q4⟩:=j1 hf
 have hN:g.2.1=((g.2.1.toNat:Nat):Int):=by omega
 have h0:=e0m hf 0 hN (g.2.1.toNat+1) 0 S0 _ (w08 g (N:=g.2.1.toNat) ⟨iR _,by omega⟩) (by simp) (by omega) (Y0 (by omega))
 have hlt:=I0h g.1.toNat (by omega)
 rw[show((g.1.toNat:Nat):Int)=g.1 by omega]at hlt
 have hfd:=I5 g (by omega)
 have e1:T0b g (c03 g (F5 g.1.toNat 1) (g.2.1.toNat+1) 0 ((List.replicate g.2.1.toNat none).set (0:Int).toNat (some []),[0]))=d03 g:=by
  show T0b g (F02 g 0)=_
  unfold T0b d03
  rw[U07]
  rfl
 rw[e1]at h0
 have e2:T0b g ((List.replicate g.2.1.toNat none).set (0:Int).toNat (some []),[0]) = []:=rfl
 rw[e2,show((0:Nat):Int)=0 from rfl]at h0
 obtain⟨a,b,c⟩:=g
 simp only at *
 unfold S01
 simp only[hfd,hf,oB,Bool.not_true,Bool.false_eq_true,if_false,hlt,h0]
theorem o0q(T es:List H0)(j:Nat){e:H0}(he:es[j]?=some e)(hl:T.length≤1000):∀(d k fuel:Nat) (b:Bool),k+d=T.length→d<fuel →
  P5 T es (j:Int) fuel b (k:Int)=some (b || decide (e∈T.drop k))
 |d,k,0,b,hd,hf=>by omega
 |0,k,fuel+1,b,hd,hf=>by
  rw[P5.eq_2,if_neg (by simp only[decide_eq_true_eq];omega),E1 (by omega)];simp
 |d+1,k,fuel+1,b,hd,hfu=>by
  have hk:k<T.length:=by omega
  have hx:=p5 hk
  have hdr:=J1 hx
  generalize T[k]=t at hx hdr
  have ih:=fun b'=>o0q T es j he hl d (k+1) fuel b' (by omega) (by omega)
  obtain⟨t0,t1,t2⟩:=t
  obtain⟨e0,e1,e2⟩:=e
  rw[P5.eq_2,if_pos (by simp only[decide_eq_true_eq];omega),hdr,V1 hk (by omega)]
  cases b with
  |true =>
   simp only[Bool.not_true,H1,oB,cond_true,ih,Bool.true_or]
  |false =>
   simp only[Bool.not_false,C1,j2 hx,j2 he,oB,cond_false,ih,Bool.false_or]
   by_cases c:(t0,t1,t2)=(e0,e1,e2)
   ·rw[c];simp[eqE]
   ·have c' : ¬ (e0,e1,e2)=(t0,t1,t2):=fun h=>c h.symm
    unfold eqE
    rw[decide_eq_false c,Bool.false_or]
    simp only[List.mem_cons,c',false_or]
theorem Q0j{g:j0}(hf:K0 g=true)(T:List H0)(hT:T.length≤1000):∀(d k fuel:Nat) (acc:List H0),k+d=g.2.2.length→d<fuel→acc.length≤k →
  T4 g.2.2 g.1 g.2.1 T fuel (k:Int) acc=some (acc++(g.2.2.drop k).filter fun e => !decide (e∈T))
 |d,k,0,acc,hd,hf',ha=>by omega
 |0,k,fuel+1,acc,hd,hf',ha=>by
  rw[T4.eq_2,show decide ((k:Int)<((g.2.2.length:Nat):Int))=false from decide_eq_false (by omega),E1 (by omega)]
  simp only[H1,oB,cond_false,Bool.false_eq_true,if_false,List.filter_nil,List.append_nil]
 |d+1,k,fuel+1,acc,hd,hfu,ha=>by
  obtain⟨q1,q2,q3,q4⟩:=j1 hf
  have hk:k<g.2.2.length:=by omega
  have hx:=p5 hk
  have hdr:=J1 hx
  generalize g.2.2[k]=e at hx hdr
  have hfd:=I5 g (by omega)
  have ih:=fun acc' h=>Q0j hf T hT d (k+1) fuel acc' (by omega) (by omega) h
  have h0:=o0q T g.2.2 k hx hT T.length 0 S0 false (by omega) (Y0 (by omega))
  rw[show((0:Nat):Int)=0 from rfl,List.drop_zero,Bool.false_or]at h0
  obtain⟨e0,e1,e2⟩:=e
  rw[T4.eq_2,show decide ((k:Int)<((g.2.2.length:Nat):Int))=true from decide_eq_true (by omega)]
  simp only[C1,show(g.1,g.2.1,g.2.2)=g from rfl,hfd,hf,oB,cond_true,if_true,h0,j2 hx,V1 hk (show g.2.2.length≤9223372036854775807 by omega),hdr,List.filter_cons]
  by_cases c:(e0,e1,e2)∈T
  ·simp only[decide_eq_true c,Bool.not_true,Bool.false_eq_true,if_false]
   exact ih acc (by omega)
  ·simp only[decide_eq_false c,Bool.not_false,if_true]
   rw[D0 (by simp;omega),oB,ih _ (by simp;omega)]
   simp
theorem d0p{g:j0}(hf:K0 g=true):n00 g=some (z01 g):=by
 obtain⟨q1,q2,q3,q4⟩:=j1 hf
 have h2:=h0n hf
 have h3:=H0g hf
 have hL:=Q0j hf (d03 g) (by omega) g.2.2.length 0 S0 [] (by omega) (Y0 (by omega)) (by simp)
 rw[show((0:Nat):Int)=0 from rfl,List.drop_zero,List.nil_append]at hL
 unfold z01
 obtain⟨a,b,c⟩:=g
 simp only at *
 unfold n00
 simp only[h2,oB,hL]
theorem p0q(es:List H0)(e:H0)(hl:es.length≤1000):∀(d k fuel:Nat) (b:Bool),k+d=es.length→d<fuel →
  l8 es e.1 e.2.1 e.2.2 fuel b (k:Int)=some (b || decide (e∈es.drop k))
 |d,k,0,b,hd,hf=>by omega
 |0,k,fuel+1,b,hd,hf=>by
  rw[l8.eq_2,if_neg (by simp only[decide_eq_true_eq];omega),E1 (by omega)];simp
 |d+1,k,fuel+1,b,hd,hfu=>by
  have hk:k<es.length:=by omega
  have hx:=p5 hk
  have hdr:=J1 hx
  generalize es[k]=t at hx hdr
  have ih:=fun b'=>p0q es e hl d (k+1) fuel b' (by omega) (by omega)
  obtain⟨t0,t1,t2⟩:=t
  obtain⟨e0,e1,e2⟩:=e
  simp only at ih
  rw[l8.eq_2,if_pos (by simp only[decide_eq_true_eq];omega),hdr,V1 hk (by omega)]
  cases b with
  |true =>
   simp only[Bool.not_true,H1,oB,cond_true,ih,Bool.true_or]
  |false =>
   simp only[Bool.not_false,C1,j2 hx,oB,cond_false,ih,Bool.false_or]
   by_cases c:(t0,t1,t2)=(e0,e1,e2)
   ·rw[c];simp[eqE]
   ·have c' : ¬ (e0,e1,e2)=(t0,t1,t2):=fun h=>c h.symm
    unfold eqE
    rw[decide_eq_false c,Bool.false_or]
    simp only[List.mem_cons,c',false_or]
theorem F0c{g:j0}(hf:K0 g=true){v:Int}(hv:0≤v∧v<g.2.1):Q06 g v=tw g 0 v:=by
 obtain⟨q1,q2,q3,q4⟩:=j1 hf
 unfold Q06 X0h tw
 rw[hf,show inR 0 (g.2.1-1) 0=true by simp[inR];omega,show inR 0 (g.2.1-1) v=true by simp[inR];omega]
 simp only[Bool.and_self,cond_true]
 cases F6 (F02 g 0).1 v with
 |none=>rfl
 |some w=>rfl
theorem e0p{g:j0}(hf:K0 g=true){v:Int}(hv:0≤v∧v<g.2.1):∀ x∈tw g 0 v,j4 x:=by
 obtain⟨q1,q2,q3,q4⟩:=j1 hf
 have hp:(0:Int)≤0∧(0:Int)<g.2.1:=⟨by omega,by omega⟩
 have h:=x08 hf hp
 by_cases hm:v∈P2 g 0
 ·exact fun x hx=>(v03 (by omega) ((t04 hf hp).let hm x hx)).1
 ·have:tw g 0 v = []:=by
   unfold tw
   rw[←U07]at hm
   have:=(h.ok.iff v hv.1 (by omega)).2 hm
   cases e:F6 (F02 g 0).1 v with
   |none=>rfl
   |some a=>rw[e]at this;cases this
  rw[this]
  exact fun x hx=>by cases hx
theorem f0p{g:j0}(hf:K0 g=true){e:H0}(he:e∈g.2.2):t02 g e=some (E02 [] (bw g e)).reverse:=by
 obtain⟨q1,q2,q3,q4⟩:=j1 hf
 have hp:(0:Int)≤0∧(0:Int)<g.2.1:=⟨by omega,by omega⟩
 have hT:=t04 hf hp
 have hq:=q1 e he
 have h1:=hT.len e.1
 have h2:=hT.len e.2.2
 have hfd:=I5 g (by omega)
 have hL:=p0q g.2.2 e (by omega) g.2.2.length 0 S0 false (by omega) (Y0 (by omega))
 rw[show((0:Nat):Int)=0 from rfl,List.drop_zero,Bool.false_or,decide_eq_true he]at hL
 have t1:=V07 g (by omega) e.1
 rw[F0c hf hq.1]at t1
 have t2:=V07 g (by omega) e.2.2
 rw[F0c hf hq.2.1]at t2
 have a1:=e0p hf hq.1
 have a2:=e0p hf hq.2.1
 have hmul:=C08 (tw g 0 e.1 ++ [e.2.1]) (inv (tw g 0 e.2.2)) (fun x hx=>by
  rcases List.mem_append.1 hx with hx|hx
  ·exact(a1 x hx).1
  ·simp at hx;rw[hx];have:=hq.2.2;exact⟨by omega,by omega⟩) (fun x hx=>(V0h a2 x hx).1) (by simp[o04];omega)
 unfold bw
 obtain⟨a,b,c⟩:=g
 obtain⟨e0,e1,e2⟩:=e
 simp only at *
 unfold t02
 simp only[hL,oB,hfd,hf,Bool.not_true,cond_false,Bool.false_eq_true,if_false,t1,t2]
 rw[D0 (by simp;omega),oB,f02 _ (by omega),oB,hmul,oB]
theorem R0j{g:j0}(hf:K0 g=true)(es:List H0)(he:∀ e∈es,e∈g.2.2)(hl:es.length≤1000):∀(d k fuel:Nat) (acc:List (List Int)),k+d=es.length→d<fuel→acc.length≤k →
  J7 es g.1 g.2.1 g.2.2 fuel (k:Int) acc=some (acc++(es.drop k).map fun e=>(E02 [] (bw g e)).reverse)
 |d,k,0,acc,hd,hf',ha=>by omega
 |0,k,fuel+1,acc,hd,hf',ha=>by
  rw[J7.eq_2,if_neg (by simp only[decide_eq_true_eq];omega),E1 (by omega)];simp
 |d+1,k,fuel+1,acc,hd,hfu,ha=>by
  have hk:k<es.length:=by omega
  have hx:=p5 hk
  have hem:=he _ (List.mem_of_getElem? hx)
  have hdr:=J1 hx
  generalize es[k]=e at hx hdr hem
  have hLo:=f0p hf hem
  have ih:=fun acc' h=>R0j hf es he hl d (k+1) fuel acc' (by omega) (by omega) h
  obtain⟨e0,e1,e2⟩:=e
  rw[J7.eq_2,if_pos (by simp only[decide_eq_true_eq];omega),j2 hx,oB]
  simp only[show(g.1,g.2.1,g.2.2)=g from rfl]
  rw[hLo,oB,D0 (by simp;omega),oB,V1 hk (show es.length≤9223372036854775807 by omega),ih _ (by simp;omega),hdr]
  simp
theorem N02(g:j0)(hl:g.2.2.length≤140737488355328):O2 g=some (N1 g):=by
 have:=M06 g hl
 obtain⟨a,b,c⟩:=g
 unfold O2
 show(y00 (a,b,c)).bind (fun x1=>some x1)=_
 rw[this];rfl
theorem g0p{g:j0}(hc:N1 g=true):T01 g=some (w02 g):=by
 have hf:=P4 hc
 obtain⟨q1,q2,q3,q4⟩:=j1 hf
 have h1:=N02 g (by omega)
 have h2:=d0p hf
 have hle:(z01 g).length≤g.2.2.length:=List.length_filter_le _ _
 have hL:=R0j hf (z01 g) (fun e he=>(Q0b.1 he).1) (by omega) (z01 g).length 0 S0 [] (by omega) (Y0 (by omega)) (by simp)
 rw[show((0:Nat):Int)=0 from rfl,List.drop_zero,List.nil_append]at hL
 unfold w02
 obtain⟨a,b,c⟩:=g
 simp only at *
 unfold T01
 simp only[h1,hc,oB,h2,Bool.not_true,Bool.false_eq_true,if_false,hL]
theorem f0m{g:j0}(hf:K0 g=true){w:List Int}(hw:∀ x∈w,j4 x)(hl:w.length≤140737488355328):C8 g w=some (j00 g w):=by
 obtain⟨q1,q2,q3,q4⟩:=j1 hf
 have h2:=u0o g q1 q3.2 (by omega) 0 w hw hl
 have h5:=G07 q1 q3.2 w 0 ⟨by omega,by omega⟩
 have h6:=P04 g w 0
 unfold j00
 obtain⟨a,b,c⟩:=g
 unfold C8
 simp only[h2,oB]
 rw[D0 h5,oB,D0 (show M0 (((C2 (a,b,c) 0 w).2:Nat):Int) from⟨by omega,by omega⟩),oB]
 by_cases d:(C2 (a,b,c) 0 w).2=w.length
 ·rw[decide_eq_true d,show decide ((((C2 (a,b,c) 0 w).2:Nat):Int)=((w.length:Nat):Int))=true from decide_eq_true (by omega)]
  simp
 ·rw[decide_eq_false d,show decide ((((C2 (a,b,c) 0 w).2:Nat):Int)=((w.length:Nat):Int))=false from decide_eq_false (by omega)]
  simp
theorem I0a(w:List Int)(hl:w.length≤1099511627776):H7 w=some (E02 [] w).reverse:=by
 unfold H7
 rw[E05 [w] (by simp) (by simp only[K0j];omega)]
 rfl
theorem V0e{w:List Int}(hw:∀ x∈w,j4 x):∀ x∈(E02 [] w).reverse,j4 x:=fun x hx=>by
 rcases M0j w [] (List.mem_reverse.1 hx)with h|h
 ·cases h
 ·exact hw x h
theorem h0p{g:j0}(hf:K0 g=true)(ws:List (List Int))(hw:∀ w∈ws,(∀ x∈w,j4 x)∧w.length≤1099511627776)(hl:ws.length≤1099511627776):∀(d k fuel:Nat),k+d=ws.length→d<fuel →
  w5 ws g.1 g.2.1 g.2.2 fuel (k:Int)=some (bif(ws.drop k).all fun w=>j00 g (E02 [] w).reverse then .inr ()else .inl false)
 |d,k,0,hd,hfu=>by omega
 |0,k,fuel+1,hd,hfu=>by
  rw[w5.eq_2,if_neg (by simp only[decide_eq_true_eq];omega),E1 (by omega)];rfl
 |d+1,k,fuel+1,hd,hfu=>by
  have hk:k<ws.length:=by omega
  have hx:=p5 hk
  have hm:=hw _ (List.mem_of_getElem? hx)
  have hdr:=J1 hx
  generalize ws[k]=w at hx hm hdr
  have hlr:=j06 w []
  have ih:=h0p hf ws hw hl d (k+1) fuel (by omega) (by omega)
  rw[w5.eq_2,if_pos (by simp only[decide_eq_true_eq];omega),j2 hx,oB,I0a w hm.2,oB,show(g.1,g.2.1,g.2.2)=g from rfl,f0m hf (V0e hm.1) (by rw[List.length_reverse];simp only[List.length_nil]at hlr;omega),oB,V1 hk (by omega),ih,hdr,List.all_cons]
  cases j00 g (E02 [] w).reverse<;>rfl
theorem w0f(b:j0)(hlb:b.2.2.length≤140737488355328)(ws:List (List Int))(hw:∀ w∈ws,(∀ x∈w,j4 x)∧w.length≤1099511627776)(hl:ws.length≤1099511627776):D8 b ws=some (F05 b ws):=by
 have h1:=l00 b hlb
 have hL:N1 b=true→_:=fun c=>h0p (P4 c) ws hw hl ws.length 0 S0 (by omega) (Y0 (by omega))
 rw[show((0:Nat):Int)=0 from rfl,List.drop_zero]at hL
 unfold F05
 obtain⟨a,b,c⟩:=b
 unfold D8
 simp only[h1,oB]
 cases cb:N1 (a,b,c)with
 |false=>rfl
 |true =>
  have:=hL cb
  simp only at this
  simp only[Bool.not_true,Bool.false_eq_true,if_false,this,oB,Bool.true_and]
  cases ws.all fun w=>j00 (a,b,c) (E02 [] w).reverse<;>rfl
theorem i0p{g:j0}(hc:N1 g=true):(∀ w∈w02 g,(∀ x∈w,j4 x)∧w.length≤81)∧(w02 g).length≤120:=by
 obtain⟨q1,q2,q3,q4⟩:=j1 (P4 hc)
 refine⟨fun w hw=>?_,?_⟩
 ·unfold w02 at hw
  obtain⟨e,he,rfl⟩:=List.mem_map.1 hw
  refine⟨V0e (d0n hc (Q0b.1 he).1),?_⟩
  have h1:=j06 (bw g e) []
  have h2:=O0q (P4 hc) e
  rw[List.length_reverse]
  simp only[List.length_nil]at h1
  omega
 ·unfold w02
  rw[List.length_map]
  have:(z01 g).length≤g.2.2.length:=List.length_filter_le _ _
  omega
def J0a(g:j0):j0:=Y2 (C05 (I9 g).1)
theorem S0j{g:j0}(hg:Q0 g=true):E7 g=some (J0a g):=by
 obtain⟨h1,h2,h3,h4⟩:=A2 hg
 have e1:=T08 g (by omega)
 have hf:=N07 hg
 obtain⟨v,e2⟩:=H0e (P3 hf)
 have e3:=K07 (C05 (I9 g).1) (e02 40 hf)
 unfold J0a
 obtain⟨r,n,es⟩:=g
 unfold E7
 generalize I9 (r,n,es)=q at *
 obtain⟨⟨a,b,c⟩,l⟩:=q
 simp only[e1,oB]
 simp only at e2 e3
 generalize C05 (a,b,c)=q2 at *
 obtain⟨a2,b2,c2⟩:=q2
 simp only[e2,oB,e3]
theorem T0j{g:j0}(hg:Q0 g=true):F7 g=some (J0a g):=by
 obtain⟨h1,h2,h3,h4⟩:=A2 hg
 have e1:=U08 g (by omega)
 have hf:=N07 hg
 obtain⟨v,e2⟩:=z0c (P3 hf)
 have e3:=J07 (C05 (I9 g).1) (e02 40 hf)
 unfold J0a
 obtain⟨r,n,es⟩:=g
 unfold F7
 generalize I9 (r,n,es)=q at *
 obtain⟨⟨a,b,c⟩,l⟩:=q
 simp only[e1,oB]
 simp only at e2 e3
 generalize C05 (a,b,c)=q2 at *
 obtain⟨a2,b2,c2⟩:=q2
 simp only[e2,oB,e3]
def a09(r:Int)(ws:List (List Int)):j0×Bool:=bif R5 r ws then(J0a (Y08 ws (r,1,[])),true)else((0,0,[]),false)
theorem W0e{r:Int}{ws:List (List Int)}(h:R5 r ws=true):Q0 (Y08 ws (r,1,[]))=true:=by
 obtain⟨hr,hn,hw⟩:=i06 h
 exact A0c ws (O0b hr) hw
theorem i0n(r:Int)(ws:List (List Int))(hl:ws.length≤140737488355328)(hs:P7 ws):q00 r ws=some (a09 r ws):=by
 have h1:=S0h r ws hl hs
 have h2:R5 r ws=true→_:=fun h=>S0j (W0e h)
 unfold q00 a09
 unfold h06 at h1
 cases hA:R5 r ws with
 |false=>rw[hA]at h1;simp only[cond_false]at h1;simp[h1]
 |true =>
  rw[hA]at h1
  simp only[cond_true]at h1
  have h3:=h2 hA
  generalize Y08 ws (r,1,[])=g at *
  obtain⟨a,b,c⟩:=g
  simp only[h1,oB,h3,Bool.not_true,Bool.false_eq_true,if_false,cond_true]
theorem j0n(r:Int)(ws:List (List Int))(hl:ws.length≤140737488355328)(hs:P7 ws):s00 r ws=some (a09 r ws):=by
 have h1:=T0h r ws hl hs
 have h2:R5 r ws=true→_:=fun h=>T0j (W0e h)
 unfold s00 a09
 unfold h06 at h1
 cases hA:R5 r ws with
 |false=>rw[hA]at h1;simp only[cond_false]at h1;simp[h1]
 |true =>
  rw[hA]at h1
  simp only[cond_true]at h1
  have h3:=h2 hA
  generalize Y08 ws (r,1,[])=g at *
  obtain⟨a,b,c⟩:=g
  simp only[h1,oB,h3,Bool.not_true,Bool.false_eq_true,if_false,cond_true]
def U03(g:j0)(ws:List (List Int)):Bool:=N1 g&&((a09 g.1 ws).2&&o0e g (a09 g.1 ws).1)
theorem J0g(g:j0)(hg:g.2.2.length≤140737488355328)(ws:List (List Int))(hl:ws.length≤140737488355328)(hs:P7 ws):U4 g ws=some (U03 g ws):=by
 have h1:=i0n g.1 ws hl hs
 have h2:=N02 g hg
 have h3:=k0g g (a09 g.1 ws).1 (by omega)
 unfold U03
 obtain⟨a,b,c⟩:=g
 simp only at *
 unfold U4
 generalize a09 a ws=q at *
 obtain⟨⟨x,y,z⟩,ok⟩:=q
 simp only[h1,oB]
 cases ok<;>cases hc:N1 (a,b,c)<;>rw[hc]at h2<;>simp[h2,h3,C1,H1]
theorem K0g(g:j0)(hg:g.2.2.length≤140737488355328)(ws:List (List Int))(hl:ws.length≤140737488355328)(hs:P7 ws):V4 g ws=some (U03 g ws):=by
 have h1:=j0n g.1 ws hl hs
 have h2:=l00 g hg
 have h3:=i0g g (a09 g.1 ws).1 (by omega)
 unfold U03
 obtain⟨a,b,c⟩:=g
 simp only at *
 unfold V4
 generalize a09 a ws=q at *
 obtain⟨⟨x,y,z⟩,ok⟩:=q
 cases ok<;>cases hc:N1 (a,b,c)<;>rw[hc]at h2<;>simp[h1,h2,h3,C1,H1]
theorem X0e{r:Int}{g:j0}{w:List Int}(hc:N1 g=true)(hw:I2 r w=true):d00 g w=some (j00 g w):=by
 have hf:=P4 hc
 obtain⟨q1,q2,q3,q4⟩:=j1 hf
 obtain⟨wl,wx⟩:=C03 hw
 have h1:=I0a w (by omega)
 rw[O0e hw]at h1
 have h2:=f0m hf (fun x hx=>(wx x hx).1) (by omega)
 have h3:=l00 g (by omega)
 obtain⟨a,b,c⟩:=g
 unfold d00
 simp only[h3,hc,oB,C1,h1,h2,cond_true]
theorem g0m{r:Int}{g:j0}(hc:N1 g=true)(ws:List (List Int))(hw:∀ w∈ws,I2 r w=true)(hl:ws.length≤1099511627776):∀(d k fuel:Nat),k+d=ws.length→d<fuel →
  A5 ws g.1 g.2.1 g.2.2 fuel (k:Int)=some (bif(ws.drop k).all fun w=>j00 g w then .inr ()else .inl false)
 |d,k,0,hd,hfu=>by omega
 |0,k,fuel+1,hd,hfu=>by
  rw[A5.eq_2,if_neg (by simp only[decide_eq_true_eq];omega),E1 (by omega)];rfl
 |d+1,k,fuel+1,hd,hfu=>by
  have hk:k<ws.length:=by omega
  have hx:=p5 hk
  have hm:=hw _ (List.mem_of_getElem? hx)
  have hdr:=J1 hx
  generalize ws[k]=w at hx hm hdr
  have ih:=g0m hc ws hw hl d (k+1) fuel (by omega) (by omega)
  rw[A5.eq_2,if_pos (by simp only[decide_eq_true_eq];omega),j2 hx,oB,show(g.1,g.2.1,g.2.2)=g from rfl,T07 hc hm,oB,V1 hk (by omega),ih,hdr,List.all_cons]
  cases j00 g w<;>rfl
theorem W0k{r:Int}{g:j0}(hc:N1 g=true)(ws:List (List Int))(hw:∀ w∈ws,I2 r w=true)(hl:ws.length≤1099511627776):T9 g ws=some (ws.all fun w=>j00 g w):=by
 obtain⟨q1,q2,q3,q4⟩:=j1 (P4 hc)
 have h1:=N02 g (by omega)
 have hL:=g0m hc ws hw hl ws.length 0 S0 (by omega) (Y0 (by omega))
 rw[show((0:Nat):Int)=0 from rfl,List.drop_zero]at hL
 obtain⟨a,b,c⟩:=g
 simp only at *
 unfold T9
 simp only[hL,oB]
 cases ws.all fun w=>j00 (a,b,c) w
 ·rfl
 ·simp[Z7,h1,hc]
theorem X0k{r:Int}{g:j0}(hc:N1 g=true)(ws:List (List Int))(hw:∀ w∈ws,I2 r w=true)(hl:ws.length≤1099511627776):D8 g ws=some (ws.all fun w=>j00 g w):=by
 obtain⟨q1,q2,q3,q4⟩:=j1 (P4 hc)
 rw[w0f g (by omega) ws (fun w h=>by
  obtain⟨wl,wx⟩:=C03 (hw w h)
  exact⟨fun x hx=>(wx x hx).1,by omega⟩) hl]
 unfold F05
 rw[hc,Bool.true_and]
 have:∀ l:List (List Int),(∀ w∈l,I2 r w=true)→(l.all fun w=>j00 g (E02 [] w).reverse)=l.all fun w=>j00 g w:=by
  intro l
  induction l with
  |nil=>intro _;rfl
  |cons w t ih =>
   intro h
   simp only[List.all_cons,O0e (h w mS),ih fun v hv=>h v (mC _ hv)]
 rw[this ws hw]
def t05(g:j0)(v:Int):j0×Bool:=bif K0 g&&inR 0 (g.2.1-1) v then(R0b g v,true)else(g,false)
theorem G0c(g:j0)(hl:g.2.2.length≤1099511627776)(v:Int):n7 g v=some (t05 g v):=by
 unfold t05
 cases hf:K0 g with
 |false =>
  have h1:=I5 g (by omega)
  have h2:=K01 g (by omega)
  rw[hf]at h1
  obtain⟨a,b,c⟩:=g
  unfold n7
  simp only[h1,oB,Bool.not_false,Bool.not_true,H1,cond_true,if_true,h2,Bool.false_and,cond_false]
 |true =>
  cases hv:inR 0 (g.2.1-1) v with
  |true=>exact T0k hf (by simp only[inR,Bool.and_eq_true,decide_eq_true_eq]at hv;omega)
  |false =>
   obtain⟨q1,q2,q3,q4⟩:=j1 hf
   have h1:=I5 g (by omega)
   have h2:=K01 g (by omega)
   rw[hf]at h1
   obtain⟨a,b,c⟩:=g
   simp only at hv q3
   unfold n7
   simp only[h1,oB,Bool.not_false,Bool.not_true,C1,v01,w64 (show -9223372036854775808≤b-1 by omega) (show b-1≤9223372036854775807 by omega),hv,cond_false,if_true,h2,Bool.true_and]
theorem H0c(g:j0)(hl:g.2.2.length≤1099511627776)(v:Int):i8 g v=some (t05 g v):=by
 unfold t05
 cases hf:K0 g with
 |false =>
  have h1:=R8 g (by omega)
  have h2:=T00 g (by omega)
  rw[hf]at h1
  obtain⟨a,b,c⟩:=g
  unfold i8
  simp only[h1,oB,Bool.not_false,Bool.not_true,H1,cond_true,if_true,h2,Bool.false_and,cond_false]
 |true =>
  cases hv:inR 0 (g.2.1-1) v with
  |true=>exact U0k hf (by simp only[inR,Bool.and_eq_true,decide_eq_true_eq]at hv;omega)
  |false =>
   obtain⟨q1,q2,q3,q4⟩:=j1 hf
   have h1:=R8 g (by omega)
   have h2:=T00 g (by omega)
   have h3:=Q0q g (P3 hf) v
   rw[hf]at h1
   rw[hv]at h3
   obtain⟨a,b,c⟩:=g
   simp only at hv q3
   unfold i8
   simp only[h1,oB,Bool.not_false,Bool.not_true,C1,h3,cond_false,if_true,h2,Bool.true_and]
theorem Y0e(g:j0):∀(w:List Int) (v:Int),C2 g v (w.take (C2 g v w).2)=C2 g v w
 | [],v=>rfl
 |x::w,v=>by
  have ih:=Y0e g w (U0 g v x)
  by_cases c:U0 g v x<0
  ·have e:C2 g v (x::w)=(v,0):=by rw[C2,if_pos c]
   rw[e];rfl
  ·have e:C2 g v (x::w)=((C2 g (U0 g v x) w).1,(C2 g (U0 g v x) w).2+1):=by rw[C2,if_neg c]
   rw[e,List.take_succ_cons,C2,if_neg c,ih]
theorem Z0e{g:j0}(hg:inG g):∀(w:List Int) (v:Int),(0≤v∧v<g.2.1)→0≤(C2 g v w).1∧(C2 g v w).1<g.2.1
 | [],v,h=>h
 |x::w,v,h=>by
  unfold C2
  split
  ·exact h
  ·rename_i c
   have hn:=Y02 hg v x
   refine Z0e hg w _ ?_
   rcases hn with e|e<;>omega
theorem L0g{lo hi:Int}{w:List Int}:∀ {d k:Nat},(∀ i,k≤i→i<k+d→d04 lo hi w i=false)→B02 lo hi w d k=true
 |0,k,h=>rfl
 |d+1,k,h=>by
  unfold B02
  rw[h k (Nat.le_refl _) (by omega),L0g fun i h1 h2=>h i (by omega) (by omega)]
  rfl
theorem M0g{r:Int}{w:List Int}(h:I2 r w=true)(n:Nat):I2 r (w.drop n)=true:=by
 simp only[I2,Bool.and_eq_true,decide_eq_true_eq]at h ⊢
 refine⟨⟨h.1.1,by rw[List.length_drop];omega⟩,L0g fun i h1 h2=>?_⟩
 have hb:=r08 h.2 (n+i) (Nat.zero_le _) (by rw[List.length_drop]at h2;omega)
 unfold d04 at hb ⊢
 rw[List.getElem?_drop,List.getElem?_drop]
 cases hw:w[n+i]? with
 |none=>rw[hw]at hb;exact hb
 |some x =>
  rw[hw]at hb
  simp only[Bool.or_eq_false_iff]at hb ⊢
  refine⟨hb.1,?_⟩
  cases i with
  |zero=>rfl
  |succ j =>
   have hb2:=hb.2
   rw[show n+(j+1)-1=n+j by omega]at hb2
   rw[show n+(j+1-1)=n+j by omega]
   rw[show decide (0<n+(j+1))=true from decide_eq_true (by omega)]at hb2
   rw[show decide (0<j+1)=true from decide_eq_true (by omega)]
   exact hb2
def e00(g:j0)(w:List Int):j0×Bool :=
 bif N1 g&&I2 g.1 w then
  (bif decide ((C2 g 0 w).2<w.length)then
   (bif(M2 g).2 then
    (bif(I4 (M2 g).1 (C2 g 0 w).1 (w.drop (C2 g 0 w).2) g.2.1).2 then t05 (I4 (M2 g).1 (C2 g 0 w).1 (w.drop (C2 g 0 w).2) g.2.1).1 g.2.1 else((0,0,[]),false))
   else((0,0,[]),false))
  else t05 g (C2 g 0 w).1)
 else((0,0,[]),false)
theorem N0g{g:j0}(hg:inG g)(hn:g.2.1≤40)(hes:g.2.2.length≤1099511627776)(w:List Int)(hw:∀ x∈w,j4 x)(hl:w.length≤140737488355328):∀(d k fuel:Nat) (v:Int),k+d=w.length→d<fuel →
  Q5 w g.1 g.2.1 g.2.2 fuel v (k:Int)=some (bif decide ((C2 g v (w.drop k)).2<d)then .inl (((k+(C2 g v (w.drop k)).2:Nat):Int))else .inr ())
 |d,k,0,v,hd,hf=>by omega
 |0,k,fuel+1,v,hd,hf=>by
  rw[Q5.eq_2,if_neg (by simp only[decide_eq_true_eq];omega),E1 (by omega)]
  rfl
 |d+1,k,fuel+1,v,hd,hf=>by
  have hk:k<w.length:=by omega
  have hx:=p5 hk
  have hxm:=hw _ (List.mem_of_getElem? hx)
  have hdr:=J1 hx
  generalize w[k]=x at hx hxm hdr
  rw[Q5.eq_2,if_pos (by simp only[decide_eq_true_eq];omega),j2 hx,oB,show(g.1,g.2.1,g.2.2)=g from rfl,t03 g v x hxm hes,oB,D0 (v02 hg hn v x),oB,hdr]
  unfold C2
  by_cases h:U0 g v x<0
  ·rw[if_pos (by simpa using h),if_pos h]
   simp
  ·rw[if_neg (by simpa using h),if_neg h,V1 hk (by omega),N0g hg hn hes w hw hl d (k+1) fuel _ (by omega) (by omega)]
   simp only[Nat.add_lt_add_iff_right]
   rw[show k+1+(C2 g (U0 g v x) (w.drop (k+1))).2=k+((C2 g (U0 g v x) (w.drop (k+1))).2+1) by omega]
theorem k0n{g:j0}(hf:K0 g=true){v:Int}(hv:0≤v∧v<g.2.1){w:List Int}(hw:∀ x∈w,j4 x)(hl:w.length≤140737488355328):o00 g v w=some (((C2 g v w).2:Nat):Int):=by
 obtain⟨q1,q2,q3,q4⟩:=j1 hf
 have hF:=I5 g (by omega)
 have h:=N0g q1 q3.2 (by omega) w hw hl w.length 0 S0 v (by omega) (Y0 hl)
 rw[show((0:Nat):Int)=0 from rfl,List.drop_zero,Nat.zero_add]at h
 have hle:=P04 g w v
 obtain⟨r,n,es⟩:=g
 simp only at hv q3 h
 have hr:inR 0 (n-1) v=true:=by simp only[inR,Bool.and_eq_true,decide_eq_true_eq];omega
 unfold o00
 simp only[hF,hf,oB,Bool.not_true,Bool.not_false,C1,v01,w64 (show -9223372036854775808≤n-1 by omega) (show n-1≤9223372036854775807 by omega),hr,cond_false,Bool.false_eq_true,if_false,h]
 by_cases c:(C2 (r,n,es) v w).2<w.length
 ·rw[decide_eq_true c];rfl
 ·rw[decide_eq_false c,show(C2 (r,n,es) v w).2=w.length by omega];rfl
theorem y08{g:j0}(h:(M2 g).2=true):M2 g=((g.1,g.2.1+1,g.2.2),true)∧g.2.1<40:=by
 unfold M2 at h ⊢
 by_cases c:g.2.1<40
 ·simp[c]
 ·simp[c]at h
theorem Y0k(g:j0)(hl:g.2.2.length≤140737488355328)(w:List Int)(hw:w.length≤140737488355328):E4 g w=some (e00 g w):=by
 have h1:=N02 g hl
 have h2:=m04 g.1 w hw
 unfold e00
 cases hc:N1 g with
 |false =>
  rw[hc]at h1
  obtain⟨a,b,c⟩:=g
  unfold E4
  simp only[h1,oB,Bool.not_false,Bool.not_true,H1,cond_true,if_true,Bool.false_and,cond_false]
 |true =>
  cases hwd:I2 g.1 w with
  |false =>
   rw[hc]at h1
   rw[hwd]at h2
   obtain⟨a,b,c⟩:=g
   simp only at h2
   unfold E4
   simp only[h1,oB,Bool.not_false,Bool.not_true,C1,h2,cond_false,if_true,Bool.true_and]
  |true =>
   have hf:=P4 hc
   have hg:=P3 hf
   obtain⟨q1,q2,q3,q4⟩:=j1 hf
   obtain⟨wl,wx⟩:=C03 hwd
   have hwn:∀ x∈w,j4 x:=fun x hx=>(wx x hx).1
   have z:(0:Int)≤0∧(0:Int)<g.2.1:=⟨iR _,by omega⟩
   have h3:=k0n hf z hwn (by omega)
   have hle:=P04 g w 0
   have h4:=v0o g hf 0 z (w.take (C2 g 0 w).2) (fun x hx=>hwn x (List.mem_of_mem_take hx)) (by rw[List.length_take];omega)
   rw[Y0e,List.length_take,show min (C2 g 0 w).2 w.length=(C2 g 0 w).2 by omega,decide_eq_false (Nat.lt_irrefl _)]at h4
   have h5:=G07 q1 q3.2 w 0 ⟨by omega,by omega⟩
   have h6:=K01 g (by omega)
   have h7:=M07 (xs:=w) (k:=(C2 g 0 w).2) hle
   have h8:=D02 (xs:=w) (k:=(C2 g 0 w).2) hle
   have h9:=O0c hg
   have hin:=Z0e q1 w 0 z
   have hm1:=G0c g (by omega) (C2 g 0 w).1
   have hg1:=a04 hg
   have h10:(M2 g).2=true→_:=fun h=>V08 (g:=(M2 g).1) (u:=(C2 g 0 w).1) (v:=g.2.1) (w:=w.drop (C2 g 0 w).2) hg1 (by rw[(y08 h).1];simp only;omega) (by rw[(y08 h).1];simp only;omega) (by rw[(y08 h).1];exact M0g hwd _)
   have hlen:=Q07 hg1 (C2 g 0 w).1 (w.drop (C2 g 0 w).2) g.2.1
   have hm2:=G0c (I4 (M2 g).1 (C2 g 0 w).1 (w.drop (C2 g 0 w).2) g.2.1).1 (by omega) g.2.1
   rw[hc]at h1
   rw[hwd]at h2
   generalize C2 g 0 w=R at *
   obtain⟨v,n⟩:=R
   obtain⟨a,b,c⟩:=g
   simp only at h2 h3 h4 h5 h7 h8 hle hin hm1 hm2 h10 ⊢
   unfold E4
   simp only[h1,oB,Bool.not_true,Bool.not_false,C1,h2,cond_false,Bool.false_eq_true,if_false,h3,Bool.true_and,cond_true]
   rw[D0 (show M0 ((n:Nat):Int) from⟨by omega,by omega⟩),oB,h7,oB,h4]
   simp only[cond_false,oB]
   rw[D0 h5]
   simp only[oB,h6]
   by_cases c1:n<w.length
   ·rw[if_pos (by simp only[decide_eq_true_eq];omega),decide_eq_true c1,h9]
    simp only[oB,cond_true]
    cases hok:(M2 (a,b,c)).2 with
    |false =>
     generalize M2 (a,b,c)=q at *
     obtain⟨⟨x,y,z⟩,ok⟩:=q
     simp only at hok
     subst hok
     rfl
    |true =>
     have h11:=h10 hok
     generalize M2 (a,b,c)=q at *
     obtain⟨⟨x,y,z⟩,ok⟩:=q
     simp only at hok h11 hm2
     subst hok
     simp only[Bool.not_true,Bool.false_eq_true,if_false,h8,oB,h11,cond_true]
     generalize I4 (x,y,z) v (w.drop n) b=q2 at *
     obtain⟨⟨x2,y2,z2⟩,ok2⟩:=q2
     cases ok2 with
     |false=>rfl
     |true=>simp only[Bool.not_true,Bool.false_eq_true,if_false,cond_true]at hm2 ⊢;rw[hm2];rfl
   ·rw[if_neg (by simp only[decide_eq_true_eq];omega),decide_eq_false c1,hm1];rfl
theorem Z0k(g:j0)(hl:g.2.2.length≤140737488355328)(w:List Int)(hw:w.length≤140737488355328):F4 g w=some (e00 g w):=by
 have h1:=l00 g hl
 have h2:=n04 g.1 w hw
 unfold e00
 cases hc:N1 g with
 |false =>
  rw[hc]at h1
  obtain⟨a,b,c⟩:=g
  unfold F4
  simp only[h1,oB,Bool.not_false,Bool.not_true,H1,cond_true,if_true,Bool.false_and,cond_false]
 |true =>
  cases hwd:I2 g.1 w with
  |false =>
   rw[hc]at h1
   rw[hwd]at h2
   obtain⟨a,b,c⟩:=g
   simp only at h2
   unfold F4
   simp only[h1,oB,Bool.not_false,Bool.not_true,C1,h2,cond_false,if_true,Bool.true_and]
  |true =>
   have hf:=P4 hc
   have hg:=P3 hf
   obtain⟨q1,q2,q3,q4⟩:=j1 hf
   obtain⟨wl,wx⟩:=C03 hwd
   have hwn:∀ x∈w,j4 x:=fun x hx=>(wx x hx).1
   have z:(0:Int)≤0∧(0:Int)<g.2.1:=⟨iR _,by omega⟩
   have h3:=u0o g q1 q3.2 (by omega) 0 w hwn (by omega)
   have hle:=P04 g w 0
   have h5:=G07 q1 q3.2 w 0 ⟨by omega,by omega⟩
   have h8:=D02 (xs:=w) (k:=(C2 g 0 w).2) hle
   have h9:=P0c hg
   have hin:=Z0e q1 w 0 z
   have hm1:=H0c g (by omega) (C2 g 0 w).1
   have hg1:=a04 hg
   have h10:(M2 g).2=true→_:=fun h=>W08 (g:=(M2 g).1) (u:=(C2 g 0 w).1) (v:=g.2.1) (w:=w.drop (C2 g 0 w).2) hg1 (by rw[(y08 h).1];simp only;omega) (by rw[(y08 h).1];simp only;omega) (by rw[(y08 h).1];exact M0g hwd _)
   have hlen:=Q07 hg1 (C2 g 0 w).1 (w.drop (C2 g 0 w).2) g.2.1
   have hm2:=H0c (I4 (M2 g).1 (C2 g 0 w).1 (w.drop (C2 g 0 w).2) g.2.1).1 (by omega) g.2.1
   rw[hc]at h1
   rw[hwd]at h2
   generalize C2 g 0 w=R at *
   obtain⟨v,n⟩:=R
   obtain⟨a,b,c⟩:=g
   simp only at h2 h3 h5 h8 hle hin hm1 hm2 h10 ⊢
   unfold F4 E03
   simp only[h1,oB,Bool.not_true,Bool.not_false,C1,h2,cond_false,Bool.false_eq_true,if_false,h3,Bool.true_and,cond_true]
   rw[D0 h5,oB,D0 (show M0 ((n:Nat):Int) from⟨by omega,by omega⟩),oB]
   by_cases c1:n<w.length
   ·rw[if_neg (by simp only[decide_eq_true_eq];omega),decide_eq_true c1,h9]
    simp only[oB,cond_true]
    cases hok:(M2 (a,b,c)).2 with
    |false =>
     generalize M2 (a,b,c)=q at *
     obtain⟨⟨x,y,z⟩,ok⟩:=q
     simp only at hok
     subst hok
     simp only[Bool.not_false,if_true,oB]
     rw[D0 (show M0 0 from⟨by omega,by omega⟩)]
     rfl
    |true =>
     have h11:=h10 hok
     generalize M2 (a,b,c)=q at *
     obtain⟨⟨x,y,z⟩,ok⟩:=q
     simp only at hok h11 hm2
     subst hok
     simp only[Bool.not_true,Bool.false_eq_true,if_false,h8,oB,h11,cond_true]
     generalize I4 (x,y,z) v (w.drop n) b=q2 at *
     obtain⟨⟨x2,y2,z2⟩,ok2⟩:=q2
     cases ok2 with
     |false =>
      simp only[Bool.not_false,if_true,oB]
      rw[D0 (show M0 0 from⟨by omega,by omega⟩)]
      rfl
     |true =>
      simp only at q3
      simp only[Bool.not_true,Bool.false_eq_true,if_false,cond_true,oB]at hm2 ⊢
      rw[D0 (show M0 b from⟨by omega,by omega⟩),oB,hm2];rfl
   ·rw[if_pos (by simp only[decide_eq_true_eq];omega),decide_eq_false c1]
    simp only[oB,Bool.not_true,Bool.false_eq_true,if_false,cond_false]
    rw[D0 h5,oB,hm1];rfl
def V03(g:j0):Int:=bif N1 g then(g.2.2.length:Int)-g.2.1+1 else -1
theorem a0f(g:j0)(hl:g.2.2.length≤140737488355328):q01 g=some (V03 g)∧M0 (V03 g):=by
 have h1:=N02 g hl
 unfold V03
 cases hc:N1 g with
 |false =>
  rw[hc]at h1
  obtain⟨a,b,c⟩:=g
  unfold q01
  simp only[h1,oB,Bool.not_false,if_true,cond_false]
  exact⟨trivial,⟨by omega,by omega⟩⟩
 |true =>
  obtain⟨q1,q2,q3,q4⟩:=j1 (P4 hc)
  rw[hc]at h1
  obtain⟨a,b,c⟩:=g
  simp only at q3 q4
  unfold q01
  simp only[h1,oB,Bool.not_true,Bool.false_eq_true,if_false,cond_true]
  rw[w64 (x:=((c.length:Nat):Int)-b) (by omega) (by omega),w64 (by omega) (by omega)]
  exact⟨rfl,⟨by omega,by omega⟩⟩
theorem a0l(g:j0)(hl:g.2.2.length≤140737488355328):r01 g=some (V03 g):=by
 have h1:=l00 g hl
 unfold V03
 cases hc:N1 g with
 |false =>
  rw[hc]at h1
  obtain⟨a,b,c⟩:=g
  unfold r01
  simp only[h1,oB,Bool.not_false,if_true,cond_false]
 |true =>
  obtain⟨q1,q2,q3,q4⟩:=j1 (P4 hc)
  rw[hc]at h1
  obtain⟨a,b,c⟩:=g
  simp only at q3 q4
  unfold r01
  simp only[h1,oB,Bool.not_true,Bool.false_eq_true,if_false,cond_true]
  rw[w64 (x:=((c.length:Nat):Int)-b) (by omega) (by omega),w64 (by omega) (by omega)]
def w03(g:j0):Int:=bif D03 g then g.2.1 else -1
theorem b09(g:j0)(hl:g.2.2.length≤140737488355328):U01 g=some (w03 g)∧M0 (w03 g):=by
 have h1:=N0j g hl
 have h2:D03 g=true→_:=fun h=>j1 (P4 (V0o h))
 unfold w03
 obtain⟨a,b,c⟩:=g
 unfold U01
 cases hc:D03 (a,b,c)with
 |false =>
  rw[hc]at h1
  simp only[h1,oB,Bool.not_false,if_true,cond_false]
  exact⟨trivial,⟨by omega,by omega⟩⟩
 |true =>
  rw[hc]at h1
  obtain⟨q1,q2,q3,q4⟩:=h2 hc
  simp only at q3
  simp only[h1,oB,Bool.not_true,Bool.false_eq_true,if_false,cond_true]
  exact⟨trivial,⟨by omega,by omega⟩⟩
theorem x0f(g:j0)(hl:g.2.2.length≤140737488355328):V01 g=some (w03 g):=by
 have h1:=O0j g hl
 unfold w03
 obtain⟨a,b,c⟩:=g
 unfold V01
 cases hc:D03 (a,b,c)with
 |false =>
  rw[hc]at h1
  simp only[h1,oB,Bool.not_false,if_true,cond_false]
 |true =>
  rw[hc]at h1
  simp only[h1,oB,Bool.not_true,Bool.false_eq_true,if_false,cond_true]
end Go.Proofs.YtcakocbgbelmeaaGreat
