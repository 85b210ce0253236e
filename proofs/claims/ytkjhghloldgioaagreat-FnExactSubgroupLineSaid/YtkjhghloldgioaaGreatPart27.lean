/- Texts of the claim, joined: Plain laws: components off the diagonal, being malnormal: th and others. -/
import Derived.Test.YtkjhghloldgioaaGreatPart26
import Derived.Test.YtkjhghloldgioaaGreatPart20
import Derived.Test.YtkjhghloldgioaaGreatPart25
import Derived.Test.YtkjhghloldgioaaGreatPart19
import Derived.Test.YtkjhghloldgioaaGreatH36
namespace Go.Proofs.YtkjhghloldgioaaGreat
open Go.H
set_option linter.unusedVariables false
set_option linter.unusedSimpArgs false
theorem L0p(m:Int)(N:Nat)(qs:Prs)(hq:∀ q∈qs,0<=enP m q/\enP m q<(N:Int))(hl:qs.length<=100000):∀(d k fuel:Nat) (seen:List Bool) (G:Prs),k+d=qs.length->d<fuel->J08 m N seen G ->
  ∃ seen',s5 (qs.map (enP m)) fuel (k:Int) seen=some seen'/\J08 m N seen' (G++qs.drop k)
 |d,k,0,seen,G,hd,hf,h=>by omega
 |0,k,fuel+1,seen,G,hd,hf,h=>by
  rw[s5.eq_2,if_neg (by simp only[decide_eq_true_eq,List.length_map];omega),K1 (by omega),List.append_nil]
  exact⟨seen,rfl,h⟩
 |d+1,k,fuel+1,seen,G,hd,hf,h=>by
  have hk:k<qs.length:=by omega
  have hx:=Y5 hk
  have hr:=hq _ (List.mem_of_getElem? hx)
  have hdr:=O1 hx
  generalize qs[k]=q at hx hr hdr
  have hg:gi (qs.map (enP m)) (k:Int)=some (enP m q):=I2 (by rw[List.getElem?_map,hx];rfl)
  have hg2:∃ z,gi seen (enP m q)=some z:=by
   unfold gi
   rw[if_pos hr.1,h.2 _ (by omega)]
   exact⟨_,rfl⟩
  obtain⟨z,hz⟩:=hg2
  obtain⟨seen',k1,k2⟩:=L0p m N qs hq hl d (k+1) fuel _ (G ++ [q]) (by omega) (by omega) (z0b h hr.1 hr.2)
  rw[s5.eq_2,if_pos (by simp only[decide_eq_true_eq,List.length_map];omega),hg,oB,hz,oB,Z1 (show k<200000 by omega) (by omega),k1,hdr]
  exact⟨seen',rfl,by rw[List.append_assoc]at k2;exact k2⟩
def G0j(e v:Int):Int:=IntKind.i64.wrap (IntKind.i64.wrap (e-v)+1)
def v0c(g:j0)(T:Prs×F0)(q:Int×Int):Prs×F0:=bif decide (q∈T.1) || eqP q then T else(T.1++(pbA g g q).1,T.2 ++ [G0j (((pbA g g q).2.length:Nat):Int) (((pbA g g q).1.length:Nat):Int)])
def j09(m:Nat)(k:Nat):Nat->Prs
 |0=>[]
 |d+1=>(((k / m:Nat):Int),((k % m:Nat):Int))::j09 m (k+1) d
theorem H0j(m:Nat):∀(d e k:Nat),j09 m k (d+e)=j09 m k d++j09 m (k+d) e
 |0,e,k=>by simp[j09]
 |d+1,e,k=>by
  rw[show d+1+e=(d+e)+1 by omega,j09,j09,H0j m d e (k+1),List.cons_append,show k+1+d=k+(d+1) by omega]
theorem I0j(m u:Nat):∀(d v:Nat),v+d<=m->j09 m (u*m+v) d=J0e u v d
 |0,v,h=>rfl
 |d+1,v,h=>by
  have hm:0<m:=by omega
  have e1:(u*m+v) / m=u:=by rw[Nat.add_comm,Nat.add_mul_div_right _ _ hm,Nat.div_eq_of_lt (by omega)];omega
  have e2:(u*m+v) % m=v:=by rw[Nat.add_comm,Nat.add_mul_mod_self_right,Nat.mod_eq_of_lt (by omega)]
  rw[j09,J0e,e1,e2,show u*m+v+1=u*m+(v+1) by omega,I0j m u d (v+1) (by omega)]
theorem J0j(m:Nat):∀(d u:Nat),j09 m (u*m) (d*m)=y05 m u d
 |0,u=>by simp[j09,y05]
 |d+1,u=>by
  have h1:=I0j m u m 0 (by omega)
  rw[Nat.add_zero]at h1
  rw[y05,Nat.add_mul,Nat.one_mul,Nat.add_comm (d*m) m,H0j,h1,show u*m+m=(u+1)*m by rw[Nat.add_mul,Nat.one_mul],J0j m d (u+1)]
theorem K0h(n m:Nat)(hm:0<m):∀(d k:Nat),k+d<=n*m->∀ q∈j09 m k d,(0<=q.1/\q.1<(n:Int))/\(0<=q.2/\q.2<(m:Int))
 |0,k,h,q,hq=>by simp[j09]at hq
 |d+1,k,h,q,hq=>by
  rcases List.mem_cons.1 hq with rfl|hq
  ·have h1:k / m<n:=by rw[Nat.div_lt_iff_lt_mul hm];omega
   have h2:=Nat.mod_lt k hm
   exact⟨⟨Int.natCast_nonneg _,Int.ofNat_lt.2 h1⟩,⟨Int.natCast_nonneg _,Int.ofNat_lt.2 h2⟩⟩
  ·exact K0h n m hm d (k+1) (by omega) q hq
theorem J0q(m k:Nat):enP (m:Int) (((k / m:Nat):Int),((k % m:Nat):Int))=(k:Int):=by
 unfold enP
 have:=Nat.div_add_mod k m
 rw[Nat.mul_comm]at this
 simp only
 rw[←Int.natCast_mul]
 omega
theorem M0p{g:j0}(hg:D0 g=true)(n:Nat)(hn:g.2.1=(n:Int)):∀(d k fuel:Nat) (T:Prs×F0) (seen:List Bool),k+d=n*n->d<fuel->y06 g g T.1->J08 g.2.1 (n*n) seen T.1->T.2.length+d<=1000000 ->
  ∃ seen',W3 g.2.1 g.1 g.2.2 fuel (k:Int) T.2 seen=some (((j09 n k d).foldl (v0c g) T).2,seen')
 |d,k,0,T,seen,hd,hf,h1,h2,hl=>by omega
 |0,k,fuel+1,T,seen,hd,hf,h1,h2,hl=>by
  obtain⟨qg,rg,ng,lg⟩:=F1 (V0 hg)
  have h40:n*n<=40*40:=Nat.mul_le_mul (by omega) (by omega)
  rw[W3.eq_2,oB,h2.1,C0 (by omega),oB,if_neg (by simp only[decide_eq_true_eq];omega)]
  exact⟨seen,rfl⟩
 |d+1,k,fuel+1,T,seen,hd,hf,h1,h2,hl=>by
  obtain⟨qg,rg,ng,lg⟩:=F1 (V0 hg)
  have hn0:0<n:=by omega
  have h40:n*n<=40*40:=Nat.mul_le_mul (by omega) (by omega)
  have hq:=K0h n n hn0 (d+1) k (by omega) _ mS
  have hen:=J0q n k
  have ih:=λT' seen'=>M0p hg n hn d (k+1) fuel T' seen' (by omega) (by omega)
  have hk:gi seen (k:Int)=some (decide ((((k / n:Nat):Int),((k % n:Nat):Int))∈T.1)):=by
   rw[I2 (h2.2 k (by omega))]
   congr 1
   rw[decide_eq_decide,←hen,←hn]
   exact i0m h1 (by rw[hn];exact hq.2)
  have d1:Int.tdiv (k:Int) (n:Int)=((k / n:Nat):Int):=by rw[Int.tdiv_eq_ediv_of_nonneg (by omega)];rfl
  have d2:Int.tmod (k:Int) (n:Int)=((k % n:Nat):Int):=by rw[Int.tmod_eq_emod_of_nonneg (by omega)];rfl
  have dw:IntKind.i64.wrap ((k / n:Nat):Int)=((k / n:Nat):Int):=w64 (by omega) (by have:=Nat.div_le_self k n;omega)
  have hnz:g.2.1≠0:=by omega
  rw[W3.eq_2,oB,h2.1,C0 (by omega),oB,if_pos (by simp only[decide_eq_true_eq];omega),hk,oB,j09,List.foldl_cons,Z1 (show k<2000 by omega) (by omega)]
  simp only[C0 hnz]
  rw[hn,d1,d2,dw,←hn]
  generalize hqq:(((k / n:Nat):Int),((k % n:Nat):Int))=q at *
  have q1:((k / n:Nat):Int)=q.1:=by rw[←hqq]
  have q2:((k % n:Nat):Int)=q.2:=by rw[←hqq]
  rw[q1,q2]
  have hck:∀ z:Bool,chk z (some ()) ()=some ():=λz=>by cases z<;>rfl
  rw[hck,oB,oB]
  have hce:(bif decide (q∈T.1)then true else decide (q.1=q.2))=(decide (q∈T.1) || eqP q):=by unfold eqP;cases decide (q∈T.1)<;>rfl
  rw[hce]
  cases c:decide (q∈T.1) || eqP q with
  |true =>
   have e:v0c g T q=T:=by unfold v0c;rw[c];rfl
   rw[if_pos rfl,e]
   exact ih T seen h1 h2 (by omega)
  |false =>
   have e:v0c g T q=(T.1++(pbA g g q).1,T.2 ++ [G0j (((pbA g g q).2.length:Nat):Int) (((pbA g g q).1.length:Nat):Int)]):=by unfold v0c;rw[c];rfl
   have hq':(0<=q.1/\q.1<g.2.1)/\(0<=q.2/\q.2<g.2.1):=by rw[hn];exact hq
   obtain⟨f1,f2,f3,f4,f5,f6⟩:=A0b hg hg hq'.1 hq'.2
   have hpairs:=V0k hg hg rfl hq'.1 hq'.2
   have hN:((n*n:Nat):Int)=g.2.1*g.2.1:=by rw[hn];simp
   obtain⟨seen',k1,k2⟩:=L0p g.2.1 (n*n) (pbA g g q).1 (λp hp=>by rw[hN];exact g08 (f1 p hp).1 (f1 p hp).2) (by omega) (pbA g g q).1.length 0 Q0 seen T.1 (by omega) (Y0 (by omega)) h2
   rw[List.drop_zero]at k2
   rw[show((0:Nat):Int)=0 from rfl]at k1
   have hE:=t0p hg hg rfl (pbA g g q).1 f1 f3 (pbA g g q).1.length 0 Q0 0 (by omega) (Y0 (by omega)) (by omega)
   rw[List.drop_zero,←f4]at hE
   have hEl:=n0p (a:=g) (b:=g) (ls:=T2 g.1.toNat 1) (ps:=(pbA g g q).1) (pbA g g q).1 0
   rw[←f4,R8]at hEl
   have hEl2:(pbA g g q).2.length<=1600*6:=Nat.le_trans hEl (Nat.mul_le_mul f3 (by omega))
   have hM:i01 g g ((pbA g g q).1.map (enP g.2.1))=some (((pbA g g q).2.length:Nat):Int):=by
    unfold i01
    simp only[Int.natCast_zero,Nat.zero_add]at hE
    simp only[hE,oB]
   have e5:(g.1,g.2.1,g.2.2)=g:=rfl
   rw[if_neg (by simp),e5,oB,oB,show(q.1,q.2)=q from rfl]at *
   rw[hpairs,oB]
   rw[show(pbO g g (T2 g.1.toNat 1) 1601 0 ([q],[]))=pbA g g q from rfl,k1,oB,hM,oB,C0 ⟨by omega,by omega⟩,oB,C0 (by simp;omega),oB,e]
   have:=ih (T.1++(pbA g g q).1,T.2 ++ [G0j (((pbA g g q).2.length:Nat):Int) (((pbA g g q).1.length:Nat):Int)]) seen' (λp hp=>by
    rcases List.mem_append.1 hp with hp|hp
    ·exact h1 p hp
    ·exact f1 p hp) k2 (by simp;omega)
   simp only[List.length_map]at this ⊢
   exact this
def A01:List B9->F0
 | []=>[]
 |p::r=>(bif p.2.2.2.2 then []else [G0j p.2.2.2.1 p.2.2.1])++A01 r
theorem k09:∀(l r:List B9),A01 (l++r)=A01 l++A01 r
 | [],r=>rfl
 |p::l,r=>by rw[List.cons_append,A01,A01,k09 l r,List.append_assoc]
theorem K0q{g:j0}(hg:D0 g=true){q:Int×Int}(h0:0<=q.1/\0<=q.2):∀ p∈(pbA g g q).1,(0<=p.1/\0<=p.2)/\eqP p=eqP q:=by
 refine j0m (P:=λp=>(0<=p.1/\0<=p.2)/\eqP p=eqP q) (λp hp x hx p' hp'=>?_) 1601 0 ([q],[]) (λp hp=>by simp at hp;subst hp;exact⟨h0,rfl⟩)
 obtain⟨qg,_⟩:=F1 (V0 hg)
 have hi:=T0k qg qg hp'
 refine⟨⟨hi.1.1,hi.2.1⟩,?_⟩
 rw[←hp.2]
 have hb:=k0m hg hg hp' hp.1
 have f:∀ {x:Int} {p p':Int×Int},stP g g x p=some p'->p.1=p.2->p'.1=p'.2:=λ{x p p'} h e=>by
  unfold stP at h
  rw[e]at h
  cases c:decide (N0 g p.2 x<0) || decide (N0 g p.2 x<0)with
  |true=>rw[c]at h;cases h
  |false=>rw[c]at h;cases h;rfl
 unfold eqP
 rw[decide_eq_decide]
 exact⟨f hb,f hp'⟩
theorem K0j{g:j0}(hg:D0 g=true):∀(qs:Prs),(∀ q∈qs,(0<=q.1/\q.1<g.2.1)/\(0<=q.2/\q.2<g.2.1))->∀(T:Prs×List B9) (U:Prs×F0),(∀ q,q∈U.1↔q∈T.1/\eqP q=false)->U.2=A01 T.2 ->
  (qs.foldl (v0c g) U).2=A01 (qs.foldl (R04 g g) T).2
 | [],_,T,U,h1,h2=>h2
 |q::r,hq,T,U,h1,h2=>by
  have hqq:=hq q mS
  have ih:=K0j hg r (λp hp=>hq p (mC _ hp))
  have hdi:=K0q hg (q:=q) ⟨hqq.1.1,hqq.2.1⟩
  obtain⟨f1,f2,f3,f4,f5,f6⟩:=A0b hg hg hqq.1 hqq.2
  rw[List.foldl_cons,List.foldl_cons]
  have hany:(pbA g g q).1.any eqP=eqP q:=by
   cases e:eqP q with
   |true=>rw[List.any_eq_true];exact⟨q,f6,e⟩
   |false =>
    rw[List.any_eq_false]
    intro p hp
    rw[(hdi p hp).2,e];simp
  cases e:eqP q with
  |true =>
   have eo:v0c g U q=U:=by unfold v0c;rw[e,Bool.or_true];rfl
   rw[eo]
   by_cases c:q∈T.1
   ·have:R04 g g T q=T:=by unfold R04;rw[decide_eq_true c];rfl
    rw[this];exact ih T U h1 h2
   ·have:R04 g g T q=(T.1++(pbA g g q).1,T.2 ++ [C0j g g q]):=by unfold R04;rw[decide_eq_false c];rfl
    rw[this]
    refine ih _ U (λp=>?_) ?_
    ·rw[h1 p,List.mem_append]
     constructor
     ·exact λh=>⟨.inl h.1,h.2⟩
     ·rintro⟨h|h,h'⟩
      ·exact⟨h,h'⟩
      ·rw[(hdi p h).2,e]at h';cases h'
    ·rw[k09,←h2]
     unfold C0j
     simp only[A01,hany,e,cond_true,List.append_nil]
  |false =>
   by_cases c:q∈T.1
   ·have c2:q∈U.1:=(h1 q).2 ⟨c,e⟩
    have e1:R04 g g T q=T:=by unfold R04;rw[decide_eq_true c];rfl
    have e2:v0c g U q=U:=by unfold v0c;rw[decide_eq_true c2];rfl
    rw[e1,e2];exact ih T U h1 h2
   ·have c2:q ∉ U.1:=λh=>c ((h1 q).1 h).1
    have e1:R04 g g T q=(T.1++(pbA g g q).1,T.2 ++ [C0j g g q]):=by unfold R04;rw[decide_eq_false c];rfl
    have e2:v0c g U q=(U.1++(pbA g g q).1,U.2 ++ [G0j (((pbA g g q).2.length:Nat):Int) (((pbA g g q).1.length:Nat):Int)]):=by unfold v0c;rw[decide_eq_false c2,e];rfl
    rw[e1,e2]
    refine ih _ _ (λp=>?_) ?_
    ·rw[List.mem_append,List.mem_append,h1 p]
     constructor
     ·rintro(h|h)
      ·exact⟨.inl h.1,h.2⟩
      ·exact⟨.inr h,by rw[(hdi p h).2,e]⟩
     ·rintro⟨h|h,h'⟩
      ·exact .inl ⟨h,h'⟩
      ·exact .inr h
    ·rw[k09,←h2]
     unfold C0j
     simp only[A01,hany,e,cond_false,List.append_nil]
def L5(g:j0):F0:=bif V1 g then A01 (p01 g g)else []
theorem A0n(g:j0)(hl:g.2.2.length<=140737488355328):Z9 g=some (L5 g):=by
 have f1:=D03 g hl
 unfold L5
 have main:V1 g=true->∃ seen',W3 g.2.1 g.1 g.2.2 Q0 0 [] (List.replicate (g.2.1*g.2.1).toNat false)=some (A01 (p01 g g),seen'):=λh=>by
  have hg:=o6 h
  obtain⟨qg,rg,ng,lg⟩:=F1 (V0 hg)
  obtain⟨n,hn⟩:∃ n:Nat,g.2.1=(n:Int):=⟨g.2.1.toNat,by omega⟩
  have h40:n*n<=40*40:=Nat.mul_le_mul (by omega) (by omega)
  have hN:(g.2.1*g.2.1).toNat=n*n:=by rw[hn,←Int.natCast_mul,Int.toNat_natCast]
  obtain⟨seen',k⟩:=M0p hg n hn (n*n) 0 Q0 ([],[]) (List.replicate (n*n) false) (by omega) (Y0 (by omega)) (λp hp=>by simp at hp) ⟨by simp,λj hj=>by rw[List.getElem?_replicate,if_pos hj];simp⟩ (by simp;omega)
  have h2:=J0j n n 0
  rw[Nat.zero_mul]at h2
  rw[h2,K0j hg (y05 n 0 n) (λq hq=>by rw[←h2]at hq;have:=K0h n n (by omega) (n*n) 0 (by omega) q hq;rw[hn];exact this) ([],[]) ([],[]) (λq=>by simp) rfl]at k
  refine⟨seen',?_⟩
  rw[hN]
  unfold p01
  rw[show g.2.1.toNat=n by omega]
  exact k
 have hw:V1 g=true->IntKind.i64.wrap (g.2.1*g.2.1)=g.2.1*g.2.1/\0<=g.2.1*g.2.1/\g.2.1*g.2.1<=1600:=λh=>by
  obtain⟨qg,rg,ng,lg⟩:=F1 (V0 (o6 h))
  have h40:g.2.1*g.2.1<=40*40:=Int.mul_le_mul ng.2 ng.2 (by omega) (by omega)
  have h0:0<=g.2.1*g.2.1:=Int.mul_nonneg (by omega) (by omega)
  exact⟨w64 (by omega) (by omega),h0,by omega⟩
 obtain⟨g0,g1,g2⟩:=g
 unfold Z9
 simp only at f1 main hw ⊢
 rw[f1,oB]
 cases h:V1 (g0,g1,g2)with
 |false=>rfl
 |true =>
  obtain⟨seen',k⟩:=main h
  obtain⟨w1,w2,w3⟩:=hw h
  rw[if_neg (by simp),w1,C0 ⟨by omega,by omega,by omega,by omega⟩,oB,k]
  rfl
theorem N0p(l:f05)(hl:l.length<=100000):∀(d k fuel:Nat) (acc:F0),k+d=l.length->d<fuel->acc.length+d<=1000000->Y3 l fuel (k:Int) acc=some (acc++A01 (l.drop k))
 |d,k,0,acc,hd,hf,ha=>by omega
 |0,k,fuel+1,acc,hd,hf,ha=>by
  rw[Y3.eq_2,if_neg (by simp only[decide_eq_true_eq];omega),K1 (by omega)];simp[A01]
 |d+1,k,fuel+1,acc,hd,hf,ha=>by
  have hk:k<l.length:=by omega
  have hx:=Y5 hk
  have hdr:=O1 hx
  generalize l[k]=p at hx hdr
  have ih:=λacc'=>N0p l hl d (k+1) fuel acc' (by omega) (by omega)
  rw[Y3.eq_2,if_pos (by simp only[decide_eq_true_eq];omega),I2 hx,oB,hdr,A01,Z1 (show k<200000 by omega) (by omega)]
  obtain⟨p0,p1,p2,p3,p4⟩:=p
  simp only
  cases p4 with
  |true=>rw[if_neg (by simp),ih acc (by omega)];rfl
  |false =>
   rw[if_pos (show(!false)=true from rfl),C0 (by simp;omega),oB,ih _ (by simp;omega),List.append_assoc];rfl
theorem z0g(m:Nat):∀ d u,(y05 m u d).length=d*m
 |0,u=>by simp[y05]
 |d+1,u=>by rw[y05,List.length_append,M0e,z0g m d (u+1),Nat.add_mul];omega
theorem O0e{g:j0}(hg:D0 g=true):(p01 g g).length<=1600:=by
 obtain⟨qg,rg,ng,lg⟩:=F1 (V0 hg)
 have:=L0e (a:=g) (b:=g) (y05 g.2.1.toNat 0 g.2.1.toNat) ([],[])
 rw[z0g]at this
 have h40:g.2.1.toNat*g.2.1.toNat<=40*40:=Nat.mul_le_mul (by omega) (by omega)
 unfold p01
 simp only[List.length_nil]at this
 omega
theorem B0n(g:j0)(hl:g.2.2.length<=140737488355328):a00 g=some (L5 g):=by
 have f1:=a01 g hl
 have f2:V1 g=true->∃ M',u01 g g=some (p01 g g,M'):=λh=>D0p (o6 h) (o6 h) rfl
 have f3:V1 g=true->Y3 (p01 g g) Q0 0 []=some (A01 (p01 g g)):=λh=>by
  have hp:=O0e (o6 h)
  have:=N0p (p01 g g) (by omega) (p01 g g).length 0 Q0 [] (by omega) (Y0 (by omega)) (by simp;omega)
  simpa using this
 unfold L5
 obtain⟨g0,g1,g2⟩:=g
 unfold a00
 simp only at f1 f2 f3 ⊢
 rw[f1,oB]
 cases h:V1 (g0,g1,g2)with
 |false=>rfl
 |true =>
  obtain⟨M',k⟩:=f2 h
  rw[if_neg (by simp),k,oB]
  simp only
  rw[f3 h]
  rfl
def M5(g:j0):Bool:=V1 g && !(L5 g).any λr=>decide (r>0)
theorem f0r(l:F0)(hl:l.length<=1000000):∀(d k fuel:Nat),k+d=l.length->d<fuel->w5 l fuel (k:Int)=some (bif(l.drop k).any λr=>decide (r>0)then .inl false else .inr ())
 |d,k,0,hd,hf=>by omega
 |0,k,fuel+1,hd,hf=>by
  rw[w5.eq_2,if_neg (by simp only[decide_eq_true_eq];omega),K1 (by omega)];rfl
 |d+1,k,fuel+1,hd,hf=>by
  have hk:k<l.length:=by omega
  have hx:=Y5 hk
  have hdr:=O1 hx
  generalize l[k]=r at hx hdr
  rw[w5.eq_2,if_pos (by simp only[decide_eq_true_eq];omega),I2 hx,oB,hdr,List.any_cons,Z1 (show k<2000000 by omega) (by omega),f0r l hl d (k+1) fuel (by omega) (by omega)]
  cases decide (r>0)<;>simp
theorem g0r(l:F0)(hl:l.length<=1000000):∀(d k fuel:Nat),k+d=l.length->d<fuel->A5 l fuel (k:Int)=some (bif(l.drop k).any λr=>decide (r>0)then .inl false else .inr ())
 |d,k,0,hd,hf=>by omega
 |0,k,fuel+1,hd,hf=>by
  rw[A5.eq_2,if_neg (by simp only[decide_eq_true_eq];omega),K1 (by omega)];rfl
 |d+1,k,fuel+1,hd,hf=>by
  have hk:k<l.length:=by omega
  have hx:=Y5 hk
  have hdr:=O1 hx
  generalize l[k]=r at hx hdr
  rw[A5.eq_2,if_pos (by simp only[decide_eq_true_eq];omega),I2 hx,oB,hdr,List.any_cons,Z1 (show k<2000000 by omega) (by omega),g0r l hl d (k+1) fuel (by omega) (by omega)]
  cases decide (r>0)<;>simp
theorem P0e:∀(l:List B9),(A01 l).length<=l.length
 | []=>Nat.le_refl _
 |p::r=>by
  have:=P0e r
  rw[A01,List.length_append,List.length_cons]
  cases p.2.2.2.2<;>simp<;>omega
theorem q0m(g:j0):(L5 g).length<=1600:=by
 unfold L5
 cases h:V1 g with
 |false=>simp
 |true=>exact Nat.le_trans (P0e _) (O0e (o6 h))
theorem C0n(g:j0)(hl:g.2.2.length<=140737488355328):A8 g=some (M5 g):=by
 have f1:=D03 g hl
 have f2:=A0n g hl
 have f3:=q0m g
 have f4:=f0r (L5 g) (by omega) (L5 g).length 0 Q0 (by omega) (Y0 (by omega))
 rw[List.drop_zero,show((0:Nat):Int)=0 from rfl]at f4
 unfold M5
 obtain⟨g0,g1,g2⟩:=g
 unfold A8
 simp only at *
 rw[f2,oB,f4,oB]
 cases h:(L5 (g0,g1,g2)).any λr=>decide (r>0)with
 |true=>simp[R9]
 |false=>simp[R9,f1]
theorem D0n(g:j0)(hl:g.2.2.length<=140737488355328):w6 g=some (M5 g):=by
 have f1:=a01 g hl
 have f2:=B0n g hl
 have f3:=q0m g
 have f4:=g0r (L5 g) (by omega) (L5 g).length 0 Q0 (by omega) (Y0 (by omega))
 rw[List.drop_zero,show((0:Nat):Int)=0 from rfl]at f4
 unfold M5
 obtain⟨g0,g1,g2⟩:=g
 unfold w6
 simp only at *
 rw[f1,oB]
 cases hc:V1 (g0,g1,g2)with
 |false=>simp
 |true =>
  rw[if_neg (by simp),f2,oB,f4,oB]
  cases h:(L5 (g0,g1,g2)).any λr=>decide (r>0)with
  |true=>simp[R9]
  |false=>simp[R9]
def N0j(n:Int):ByteArray:=if n=0 then⟨#[48]⟩else if n<0 then⟨(45::k08 20 n.natAbs []).toArray⟩else⟨(k08 20 n.natAbs []).toArray⟩
def E01(n:Int)(m:Nat):Int:=if n<0 then -(m:Int)else m
theorem s0m(n:Int)(m:Nat):(E01 n m).tmod 10=E01 n (m % 10):=by
 unfold E01
 split
 ·rw[Int.neg_tmod,show(10:Int)=((10:Nat):Int) from rfl,←Int.ofNat_tmod]
 ·rw[show(10:Int)=((10:Nat):Int) from rfl,←Int.ofNat_tmod]
theorem t0m(n:Int)(m:Nat):(E01 n m).tdiv 10=E01 n (m / 10):=by
 unfold E01
 split
 ·rw[Int.neg_tdiv,show(10:Int)=((10:Nat):Int) from rfl,←Int.ofNat_tdiv]
 ·rw[show(10:Int)=((10:Nat):Int) from rfl,←Int.ofNat_tdiv]
theorem O0j{n:Int}{m:Nat}:E01 n m=0↔m=0:=by
 unfold E01
 split<;>omega
theorem y0s{X:Int}{m:Nat}(acc:List UInt8)(e:X=((m % 10:Nat):Int)):strOfNums [IntKind.u8.wrap (IntKind.i64.wrap (48+X))]++⟨acc.toArray⟩=⟨(UInt8.ofNat (48+m % 10)::acc).toArray⟩:=by
 have hX:IntKind.u8.wrap (IntKind.i64.wrap (48+X))=((48+m % 10:Nat):Int):=by
  rw[e]
  simp[IntKind.wrap,IntKind.signed,IntKind.bits]
  omega
 rw[hX,show strOfNums [((48+m % 10:Nat):Int)]=⟨#[UInt8.ofNat (48+m % 10)]⟩ from by simp only[strOfNums,List.map_cons,List.map_nil,Int.toNat_natCast]]
 generalize UInt8.ofNat (48+m % 10)=d
 apply ByteArray.ext
 rw[ByteArray.data_append]
 simp
theorem N0h(a b:List UInt8):(⟨a.toArray⟩:ByteArray)++⟨b.toArray⟩=⟨(a++b).toArray⟩:=by
 apply ByteArray.ext
 rw[ByteArray.data_append]
 simp
theorem z9(a:List UInt8):(⟨a.toArray⟩:ByteArray).size=a.length:=by simp[ByteArray.size]
theorem j0r{n:Int}{m:Nat}(h:m<=9223372036854775808)(hn:n<0∨m<=9223372036854775807):P0 (E01 n m):=by
 unfold E01
 split<;>constructor<;>omega
theorem N03(n:Int):∀(f m fuel:Nat) (acc:List UInt8),m<10 ^ f->f<fuel->m<=9223372036854775808->acc.length+f<=100->(n<0∨m<=9223372036854775807) ->
  K4 fuel (E01 n m) ⟨acc.toArray⟩=some ⟨(k08 f m acc).toArray⟩
 |f,m,0,acc,h1,h2,h3,h4,h5=>by omega
 |0,m,fuel+1,acc,h1,h2,h3,h4,h5=>by
  have:m=0:=by simp at h1;exact h1
  subst this
  rw[K4.eq_2,show E01 n 0=0 by unfold E01;split<;>simp]
  rfl
 |f+1,m,fuel+1,acc,h1,h2,h3,h4,h5=>by
  rw[K4.eq_2]
  by_cases h0:m=0
  ·subst h0
   rw[show E01 n 0=0 by unfold E01;split<;>simp]
   simp[k08]
  ·have hs:E01 n m≠0:=λe=>h0 (O0j.1 e)
   have next:=N03 n f (m / 10) fuel (UInt8.ofNat (48+m % 10)::acc) (by rw[Nat.pow_succ]at h1;omega) (by omega) (by omega) (by simp only[List.length_cons];omega) (by omega)
   have hq:IntKind.i64.wrap ((E01 n m).tdiv 10)=E01 n (m / 10):=by
    rw[t0m]
    have:=j0r (n:=n) (m:=m / 10) (by omega) (by omega)
    exact w64 this.1 this.2
   rw[if_pos (by simpa using hs),hq,s0m]
   simp only[show ∀ k:Unit->Option ByteArray,(grd (10≠0)).bind k=k () from λk=>rfl]
   have key:∀ X:Int,X=((m % 10:Nat):Int)->((grd ([IntKind.u8.wrap (IntKind.i64.wrap (48+X))].length<=9223372036854775807)).bind λ_=>(grd ((strOfNums [IntKind.u8.wrap (IntKind.i64.wrap (48+X))]).size+(⟨acc.toArray⟩:ByteArray).size<=9223372036854775807)).bind λ_ =>
     K4 fuel (E01 n (m / 10)) (strOfNums [IntKind.u8.wrap (IntKind.i64.wrap (48+X))]++⟨acc.toArray⟩))=some ⟨(k08 (f+1) m acc).toArray⟩:=λX hX=>by
    rw[C0 (by simp),oB,C0 (by rw[strOfNums_size,z9];simp only[List.length_singleton];omega),oB,y0s acc hX,next]
    simp[k08,h0]
   by_cases hneg:E01 n (m % 10)<0
   ·rw[if_pos (by simpa using hneg)]
    refine key _ ?_
    unfold E01 at hneg ⊢
    split at hneg
    ·rename_i hn
     rw[if_pos hn,w64 (by omega) (by omega)];omega
    ·omega
   ·rw[if_neg (by simpa using hneg)]
    refine key _ ?_
    unfold E01 at hneg ⊢
    split at hneg
    ·rename_i hn
     rw[if_pos hn];omega
    ·rename_i hn
     rw[if_neg hn]
theorem P0j(n:Int):E01 n n.natAbs=n:=by unfold E01;split<;>omega
theorem I03(n:Int)(hn:P0 n):t8 n=some (N0j n):=by
 unfold t8 N0j
 by_cases h0:n=0
 ·rw[if_pos (by simpa using h0),if_pos h0]
 ·rw[if_neg (by simpa using h0),if_neg h0]
  have h:=N03 n 20 n.natAbs Q0 [] (by have:=hn.1;have:=hn.2;omega) (by unfold Q0;omega) (by have:=hn.1;have:=hn.2;omega) (by simp) (by have:=hn.2;omega)
  rw[P0j]at h
  rw[h,oB]
  have hl:=L0d 20 n.natAbs []
  simp only[List.length_nil]at hl
  by_cases hneg:n<0
  ·rw[if_pos (by simpa using hneg),if_pos hneg,C0 (by have e:=z9 (k08 20 n.natAbs []);have e1:(⟨#[45]⟩:ByteArray).size=1:=rfl;omega),oB]
   exact congrArg some (N0h [45] _)
  ·rw[if_neg (by simpa using hneg),if_neg hneg]
def p0a:Nat->Nat->List Int
 |0,_=>[]
 |f+1,m=>if m=0 then []else((48+m % 10:Nat):Int)::p0a f (m / 10)
theorem Q0j:∀(f m:Nat),(p0a f m).length<=f
 |0,m=>by simp[p0a]
 |f+1,m=>by
  simp only[p0a]
  split
  ·simp
  ·have:=Q0j f (m / 10)
   simp only[List.length_cons];omega
theorem C0b:∀(f m:Nat) (acc:List UInt8),k08 f m acc=(p0a f m).reverse.map (λx=>UInt8.ofNat x.toNat)++acc
 |0,m,acc=>by simp[k08,p0a]
 |f+1,m,acc=>by
  simp only[k08,p0a]
  split
  ·simp
  ·rw[C0b f (m / 10)]
   simp only[List.reverse_cons,List.map_append,List.map_cons,List.map_nil,Int.toNat_natCast,List.append_assoc,List.singleton_append]
theorem O03(n:Int):∀(f m fuel:Nat) (acc:List Int),m<10 ^ f->f<fuel->m<=9223372036854775808->acc.length+f<=100->(n<0∨m<=9223372036854775807) ->
  L4 fuel (E01 n m) acc=some (acc++p0a f m)
 |f,m,0,acc,h1,h2,h3,h4,h5=>by omega
 |0,m,fuel+1,acc,h1,h2,h3,h4,h5=>by
  have:m=0:=by simp at h1;exact h1
  subst this
  rw[L4.eq_2,show E01 n 0=0 by unfold E01;split<;>simp]
  simp[p0a]
 |f+1,m,fuel+1,acc,h1,h2,h3,h4,h5=>by
  rw[L4.eq_2]
  by_cases h0:m=0
  ·subst h0
   rw[show E01 n 0=0 by unfold E01;split<;>simp]
   simp[p0a]
  ·have hs:E01 n m≠0:=λe=>h0 (O0j.1 e)
   have next:=O03 n f (m / 10) fuel (acc ++ [((48+m % 10:Nat):Int)]) (by rw[Nat.pow_succ]at h1;omega) (by omega) (by omega) (by simp only[List.length_append,List.length_singleton];omega) (by omega)
   have hq:IntKind.i64.wrap ((E01 n m).tdiv 10)=E01 n (m / 10):=by
    rw[t0m]
    have:=j0r (n:=n) (m:=m / 10) (by omega) (by omega)
    exact w64 this.1 this.2
   rw[if_pos (by simpa using hs),hq,s0m]
   simp only[show ∀ k:Unit->Option (List Int),(grd (10≠0)).bind k=k () from λk=>rfl]
   have key:∀ X:Int,X=((m % 10:Nat):Int)->((grd ((acc.length + [IntKind.u8.wrap (IntKind.i64.wrap (48+X))].length)*1<=140737488355328)).bind λ_ =>
     L4 fuel (E01 n (m / 10)) (acc ++ [IntKind.u8.wrap (IntKind.i64.wrap (48+X))]))=some (acc++p0a (f+1) m):=λX hX=>by
    have hX':IntKind.u8.wrap (IntKind.i64.wrap (48+X))=((48+m % 10:Nat):Int):=by
     rw[hX]
     simp[IntKind.wrap,IntKind.signed,IntKind.bits]
     omega
    rw[hX',C0 (by simp only[List.length_singleton];omega),oB,next]
    simp[p0a,h0]
   by_cases hneg:E01 n (m % 10)<0
   ·rw[if_pos (by simpa using hneg)]
    refine key _ ?_
    unfold E01 at hneg ⊢
    split at hneg
    ·rename_i hn
     rw[if_pos hn,w64 (by omega) (by omega)];omega
    ·omega
   ·rw[if_neg (by simpa using hneg)]
    refine key _ ?_
    unfold E01 at hneg ⊢
    split at hneg
    ·rename_i hn
     rw[if_pos hn];omega
    ·rename_i hn
     rw[if_neg hn]
theorem k0r(xs:List Int)(hn:xs.length<=140737488355328):∀(fuel i j:Nat) (ys:List Int),i+j+1=xs.length->j+1-i<fuel->ys.length=xs.length->(∀ t,t<xs.length->ys[t]?=if t<i∨j<t then xs[xs.length-1-t]? else xs[t]?) ->
  Q3 fuel (i:Int) (j:Int) ys=some xs.reverse
 |0,i,j,ys,h1,h2,h3,h4=>by omega
 |fuel+1,i,j,ys,h1,h2,h3,h4=>by
  rw[Q3.eq_2]
  by_cases hij:i<j
  ·have gi1:=Y5 (show i<ys.length by omega)
   have gj1:=Y5 (show j<ys.length by omega)
   generalize hxi:ys[i]=xi at gi1
   generalize hxj:ys[j]=xj at gj1
   rw[if_pos (by simp;omega),I2 gj1,oB,I2 gi1,oB,oB]
   rw[I2 (k:=j) (x:=xj) (by rw[List.getElem?_set];simp;rw[if_neg (by omega)];exact gj1),oB,Z1 hij (by omega),Q0f (by omega) (by omega)]
   refine k0r xs hn fuel (i+1) (j-1) _ (by omega) (by omega) (by simpa using h3) (λt ht=>?_)
   have e1:=h4 i (by omega)
   have e2:=h4 j (by omega)
   rw[if_neg (by omega)]at e1 e2
   rw[gi1]at e1
   rw[gj1]at e2
   simp only[Int.toNat_natCast]
   by_cases t1:j=t
   ·subst t1
    rw[List.getElem?_set_self (by simp only[List.length_set];omega),if_pos (Or.inr (by omega)),show xs.length-1-j=i by omega]
    exact e1
   ·rw[List.getElem?_set_ne t1]
    by_cases t2:i=t
    ·subst t2
     rw[List.getElem?_set_self (by omega),if_pos (Or.inl (by omega)),show xs.length-1-i=j by omega]
     exact e2
    ·rw[List.getElem?_set_ne t2,h4 t ht]
     by_cases c:t<i∨j<t
     ·rw[if_pos c,if_pos (by omega)]
     ·rw[if_neg c,if_neg (by omega)]
  ·rw[if_neg (by simp;omega)]
   refine congrArg some (List.ext_getElem? λt=>?_)
   rcases Nat.lt_or_ge t xs.length with ht|ht
   ·rw[h4 t ht,List.getElem?_reverse ht]
    by_cases c:t<i∨j<t
    ·rw[if_pos c]
    ·rw[if_neg c,show xs.length-1-t=t by omega]
   ·rw[List.getElem?_eq_none (by omega),List.getElem?_eq_none (by simpa using ht)]
theorem O0p(xs:List Int)(h0:0<xs.length)(hn:xs.length<=1000):Q3 Q0 0 (IntKind.i64.wrap (((xs.length:Nat):Int)-1)) xs=some xs.reverse:=by
 rw[Q0f h0 (by omega)]
 exact k0r xs (by omega) Q0 0 (xs.length-1) xs (by omega) (by unfold Q0;omega) rfl (λt ht=>by rw[if_neg (by omega)])
theorem J03(n:Int)(hn:P0 n):I6 n=some (N0j n):=by
 unfold I6 N0j
 by_cases h0:n=0
 ·rw[if_pos (by simpa using h0),if_pos h0]
 ·rw[if_neg (by simpa using h0),if_neg h0]
  have h:=O03 n 20 n.natAbs Q0 [] (by have:=hn.1;have:=hn.2;omega) (by unfold Q0;omega) (by have:=hn.1;have:=hn.2;omega) (by simp) (by have:=hn.2;omega)
  rw[P0j,List.nil_append]at h
  have hl:=Q0j 20 n.natAbs
  have hp:0<(p0a 20 n.natAbs).length:=by simp only[p0a];rw[if_neg (by omega)];simp
  rw[h,oB]
  simp only[oB]
  by_cases hneg:n<0
  ·rw[if_pos (by simpa using hneg),if_pos hneg,C0 (by simp only[List.length_singleton];omega),oB,C0 (by simp only[List.length_append,List.length_singleton];omega),oB,
    O0p _ (by simp) (by simp only[List.length_append,List.length_singleton];omega),oB,C0 (by simp only[List.length_reverse,List.length_append,List.length_singleton];omega),oB,C0b]
   simp[strOfNums]
  ·rw[if_neg (by simpa using hneg),if_neg hneg,C0 (by omega),oB,
    O0p _ hp (by omega),oB,C0 (by simp only[List.length_reverse];omega),oB,C0b]
   simp[strOfNums]
set_option maxRecDepth 10000
abbrev B(l:List UInt8):ByteArray:=⟨l.toArray⟩
theorem W05(l:List UInt8):f0b (B l) ⟨#[]⟩=l.isEmpty:=by
 rw[A0o]
 cases l with
 |nil=>rfl
 |cons x r =>
  rw[decide_eq_false (λe=>by have:=congrArg ByteArray.size e;simp[B,ByteArray.size]at this)]
  rfl
def J06(x:Int):Bool := !(x == 0)&&inR (-3) 3 x
def chL(x:Int):UInt8:=if x<0 then UInt8.ofNat (64+x.natAbs)else UInt8.ofNat (96+x.natAbs)
theorem p0c{x:Int}(hx:J06 x=true):x = -3∨x = -2∨x = -1∨x=1∨x=2∨x=3:=by
 simp only[J06,inR,Bool.and_eq_true,Bool.not_eq_true',beq_eq_false_iff_ne,decide_eq_true_eq]at hx
 omega
theorem Y0k(x:Int):q01 x=some (J06 x):=by
 unfold q01 J06
 rw[D04]
 by_cases h:x=0<;>simp[h,chk]
theorem P0p(x:Int)(hx:J06 x=true):o03 x=some (B [chL x]):=by
 rcases p0c hx with rfl|rfl|rfl|rfl|rfl|rfl<;>rfl
theorem O0h(x:Int):p00 x=some (bif J06 x then B [chL x]else B []):=by
 cases hx:J06 x with
 |true=>rcases p0c hx with rfl|rfl|rfl|rfl|rfl|rfl<;>rfl
 |false =>
  unfold p00
  rw[E04,E04]
  have h1:inR 1 3 x=false:=by
   simp only[J06,inR,Bool.and_eq_false_iff,Bool.not_eq_false',beq_iff_eq,decide_eq_false_iff_not]at hx ⊢
   omega
  have h2:inR (-3) (-1) x=false:=by
   simp only[J06,inR,Bool.and_eq_false_iff,Bool.not_eq_false',beq_iff_eq,decide_eq_false_iff_not]at hx ⊢
   omega
  rw[h1,h2]
  rfl
def S01:List Int->Bool
 | []=>true
 |x::r=>J06 x&&S01 r
def wl(w:List Int):List UInt8:=match w with
 | []=>[49]
 |x::r=>(x::r).map chL
def T02(w:List Int):ByteArray:=bif S01 w then B (wl w)else B []
theorem k0s(w:List Int):(wl w).isEmpty=false:=by cases w<;>rfl
theorem D0b(w:List Int):(wl w).length<=w.length+1:=by cases w<;>simp[wl]
theorem D07(w:List Int):(T02 w).size<=w.length+1:=by
 unfold T02
 cases S01 w with
 |false=>show 0<=_;omega
 |true=>rw[cond_true,z9];exact D0b w
theorem l09(w:List Int):f0b (T02 w) ⟨#[]⟩ = !S01 w:=by
 unfold T02
 cases S01 w with
 |false=>rw[cond_false,W05];rfl
 |true=>rw[cond_true,W05,k0s];rfl
theorem E03(w:List Int)(hl:w.length<=140737488355328):∀(d k fuel:Nat) (acc:List UInt8),k+d=w.length->d<fuel->acc.length+d<=140737488355328 ->
  O5 w fuel (B acc) (k:Int)=some (bif S01 (w.drop k)then .inr (B (acc++(w.drop k).map chL))else .inl (B []))
 |d,k,0,acc,hk,hf,ha=>by omega
 |0,k,fuel+1,acc,hk,hf,ha=>by
  rw[O5.eq_2,if_neg (by simp;omega),K1 (by omega)]
  simp[S01]
 |d+1,k,fuel+1,acc,hk,hf,ha=>by
  have hkl:k<w.length:=by omega
  have hx:=Y5 hkl
  generalize w[k]=x at hx
  have next:=E03 w hl d (k+1) fuel (acc ++ [chL x]) (by omega) (by omega) (by simp only[List.length_append,List.length_singleton];omega)
  rw[O1 hx,O5.eq_2,if_pos (by simp;omega),I2 hx,oB,Y0k,oB]
  simp only[S01]
  cases hlx:J06 x with
  |false=>rfl
  |true =>
   rw[if_neg (by simp),oB,P0p x hlx,oB,C0 (by rw[z9];simp),oB,C0 (by rw[z9,z9];simp only[List.length_singleton];omega),oB,
    N0h,Z1 hkl (by omega:w.length<=9223372036854775807),next]
   simp
theorem X05(w:List Int)(hl:w.length<=140737488355):g9 w=some (T02 w):=by
 unfold g9
 have h:=E03 w (by omega) w.length 0 Q0 [] (by omega) (Y0 (by omega)) (by simp only[List.length_nil];omega)
 rw[show((0:Nat):Int)=0 from rfl,List.drop_zero,List.nil_append]at h
 rw[show(⟨#[]⟩:ByteArray)=B [] from rfl,h,oB]
 unfold T02
 cases S01 w with
 |false=>rfl
 |true =>
  rw[cond_true,S0,show(B []:ByteArray)=⟨#[]⟩ from rfl,W05]
  cases w<;>rfl
theorem F03(w:List Int)(hl:w.length<=140737488355328):∀(d k fuel:Nat) (acc:List UInt8),k+d=w.length->d<fuel->acc.length+d<=140737488355328 ->
  P5 w fuel (B acc) (k:Int)=some (bif S01 (w.drop k)then .inr (B (acc++(w.drop k).map chL))else .inl (B []))
 |d,k,0,acc,hk,hf,ha=>by omega
 |0,k,fuel+1,acc,hk,hf,ha=>by
  rw[P5.eq_2,if_neg (by simp;omega),K1 (by omega)]
  simp[S01]
 |d+1,k,fuel+1,acc,hk,hf,ha=>by
  have hkl:k<w.length:=by omega
  have hx:=Y5 hkl
  generalize w[k]=x at hx
  have next:=F03 w hl d (k+1) fuel (acc ++ [chL x]) (by omega) (by omega) (by simp only[List.length_append,List.length_singleton];omega)
  rw[O1 hx,P5.eq_2,if_pos (by simp;omega),I2 hx,oB,O0h,oB]
  simp only[S01]
  cases hlx:J06 x with
  |false=>rw[cond_false,C0 (by rw[z9];simp),oB,W05];rfl
  |true =>
   rw[cond_true,C0 (by rw[z9];simp),oB,W05,if_neg (by simp),C0 (by rw[z9,z9];simp only[List.length_singleton];omega),oB,
    N0h,Z1 hkl (by omega:w.length<=9223372036854775807),next]
   simp
theorem E0b(w:List Int)(hl:w.length<=140737488355):q00 w=some (T02 w):=by
 unfold q00
 by_cases h0:w.length=0
 ·have:w = []:=List.length_eq_zero_iff.1 h0
  subst this
  rfl
 ·have h:=F03 w (by omega) w.length 0 Q0 [] (by omega) (Y0 (by omega)) (by simp only[List.length_nil];omega)
  rw[show((0:Nat):Int)=0 from rfl,List.drop_zero,List.nil_append]at h
  rw[if_neg (by simp;exact λe=>h0 (by rw[e];rfl)),show(⟨#[]⟩:ByteArray)=B [] from rfl,h,oB]
  unfold T02
  cases S01 w with
  |false=>rfl
  |true =>
   cases w with
   |nil=>simp at h0
   |cons x r=>rfl
def G03(sep:UInt8):List (List UInt8)->List UInt8
 | []=>[]
 |x::r=>sep::x++G03 sep r
def q0a(sep:UInt8):List (List UInt8)->List UInt8
 | []=>[]
 |x::r=>x++G03 sep r
def v02:List (List Int)->Bool
 | []=>true
 |w::r=>S01 w&&v02 r
def c01(ws:List (List Int)):ByteArray:=bif v02 ws then(match ws with
 | []=>B [110,111,110,101]
 |w::r=>B (q0a 44 ((w::r).map wl)))else B []
def wsz:List (List Int)->Nat
 | []=>0
 |w::r=>w.length+2+wsz r
theorem B0g:∀ ws:List (List Int),(G03 44 (ws.map wl)).length<=wsz ws
 | []=>by simp[G03,wsz]
 |w::r=>by
  have:=B0g r
  have:=D0b w
  simp only[List.map_cons,G03,wsz,List.length_cons,List.length_append]
  omega
theorem P0h{w:List Int}:∀ {ws:List (List Int)},w∈ws->w.length<=wsz ws
 |x::r,h=>by
  rcases List.mem_cons.1 h with rfl|h
  ·simp only[wsz];omega
  ·have:=P0h h;simp only[wsz];omega
theorem r0a:∀ ws:List (List Int),ws.length<=wsz ws
 | []=>by simp
 |w::r=>by have:=r0a r;simp only[wsz,List.length_cons];omega
theorem a03(ws:List (List Int))(hl:wsz ws<=140737488):∀(d k fuel:Nat) (acc:List UInt8),k+d=ws.length->d<fuel->0<k->acc.length+wsz (ws.drop k)<=140737488355328 ->
  I3 ws fuel (B acc) (k:Int)=some (bif v02 (ws.drop k)then .inr (B (acc++G03 44 ((ws.drop k).map wl)))else .inl (B []))
 |d,k,0,acc,hk,hf,h0,ha=>by omega
 |0,k,fuel+1,acc,hk,hf,h0,ha=>by
  rw[I3.eq_2,if_neg (by simp;omega),K1 (by omega)]
  simp[v02,G03]
 |d+1,k,fuel+1,acc,hk,hf,h0,ha=>by
  have hkl:k<ws.length:=by omega
  have hx:=Y5 hkl
  have hlen:=r0a ws
  have hxl:=P0h (List.mem_of_getElem? hx)
  generalize ws[k]=x at hx hxl
  rw[O1 hx]at ha ⊢
  simp only[wsz]at ha
  have hwl:=D0b x
  have next:=a03 ws hl d (k+1) fuel (acc ++ [44]++wl x) (by omega) (by omega) (by omega) (by simp only[List.length_append,List.length_singleton];omega)
  rw[I3.eq_2,if_pos (by simp;omega),if_pos (by simp;omega),C0 (by rw[z9];show _+1<=_;omega),oB,I2 hx,oB,X05 x (by omega),oB,
   C0 (by have:=D07 x;omega),oB,l09]
  simp only[v02]
  cases hlx:S01 x with
  |false=>rfl
  |true =>
   have hF:T02 x=B (wl x):=by unfold T02;rw[hlx];rfl
   rw[if_neg (by simp),hF,show(⟨#[44]⟩:ByteArray)=B [44] from rfl,N0h,C0 (by rw[z9,z9];simp only[List.length_append,List.length_singleton];omega),oB,N0h,
    Z1 hkl (by omega:ws.length<=9223372036854775807),next]
   simp[G03]
theorem s0a(ws:List (List Int))(hl:wsz ws<=140737488):w8 ws=some (c01 ws):=by
 unfold w8 c01
 cases ws with
 |nil=>rw[show Q0=(Q0-1)+1 from rfl,I3.eq_2,if_neg (by simp),oB,S0,if_pos (h0b.2 rfl)];rfl
 |cons x r =>
  have hwl:=D0b x
  have hdr:wsz r<=140737488:=by simp only[wsz]at hl;omega
  have hxl:x.length<=140737488:=by simp only[wsz]at hl;omega
  have next:=a03 (x::r) hl r.length 1 (Q0-1) (wl x) (by simp only[List.length_cons];omega) (by have:=r0a r;unfold Q0;omega) (by omega) (by simp only[List.drop_succ_cons,List.drop_zero];omega)
  rw[show Q0=(Q0-1)+1 from rfl,I3.eq_2,if_pos (by simp),if_neg (by simp),c09 (x:=x) rfl,oB,X05 x (by omega),oB,
   C0 (by have:=D07 x;omega),oB,l09]
  simp only[v02]
  cases hlx:S01 x with
  |false=>rfl
  |true =>
   have hF:T02 x=B (wl x):=by unfold T02;rw[hlx];rfl
   rw[if_neg (by simp),hF,show(⟨#[]⟩:ByteArray)=B [] from rfl,N0h,List.nil_append,C0 (by rw[z9,z9];simp only[List.length_nil];omega),oB,
    show IntKind.i64.wrap (0+1)=((1:Nat):Int) by decide,next]
   simp only[List.drop_succ_cons,List.drop_zero,Bool.true_and,oB]
   cases v02 r with
   |false=>rfl
   |true =>
    rw[cond_true,S0,show(B []:ByteArray)=⟨#[]⟩ from rfl,W05]
    have:(wl x++G03 44 (List.map wl r)).isEmpty=false:=by cases x<;>rfl
    rw[this]
    rfl
theorem b03(ws:List (List Int))(hl:wsz ws<=140737488):∀(d k fuel:Nat) (acc:List ByteArray),k+d=ws.length->d<fuel->acc.length=k ->
  p5 ws fuel (k:Int) acc=some (bif v02 (ws.drop k)then .inr (acc++(ws.drop k).map λw=>B (wl w))else .inl (B []))
 |d,k,0,acc,hk,hf,ha=>by omega
 |0,k,fuel+1,acc,hk,hf,ha=>by
  rw[p5.eq_2,if_neg (by simp;omega),K1 (by omega)]
  simp[v02]
 |d+1,k,fuel+1,acc,hk,hf,ha=>by
  have hkl:k<ws.length:=by omega
  have hx:=Y5 hkl
  have hlen:=r0a ws
  have hxl:=P0h (List.mem_of_getElem? hx)
  generalize ws[k]=x at hx hxl
  have next:=b03 ws hl d (k+1) fuel (acc ++ [B (wl x)]) (by omega) (by omega) (by simp only[List.length_append,List.length_singleton];omega)
  rw[O1 hx,p5.eq_2,if_pos (by simp;omega),I2 hx,oB,E0b x (by omega),oB,
   C0 (by have:=D07 x;omega),oB,l09]
  simp only[v02]
  cases hlx:S01 x with
  |false=>rfl
  |true =>
   have hF:T02 x=B (wl x):=by unfold T02;rw[hlx];rfl
   rw[if_neg (by simp),hF,C0 (by simp only[List.length_singleton];omega),oB,Z1 hkl (by omega:ws.length<=9223372036854775807),next]
   simp
def bsz:List (List UInt8)->Nat
 | []=>0
 |x::r=>x.length+1+bsz r
theorem Q0h:∀ xs:List (List UInt8),xs.length<=bsz xs
 | []=>by simp
 |w::r=>by have:=Q0h r;simp only[bsz,List.length_cons];omega
theorem K06(sep:UInt8)(xs:List (List UInt8))(hl:bsz xs<=140737488355328):∀(d k fuel:Nat) (acc:List UInt8),k+d=xs.length->d<fuel->acc.length+bsz (xs.drop k)<=140737488355328 ->
  Y8 (xs.map B) (B [sep]) fuel (B acc) (k:Int)=some (B (acc++G03 sep (xs.drop k)))
 |d,k,0,acc,hk,hf,ha=>by omega
 |0,k,fuel+1,acc,hk,hf,ha=>by
  rw[Y8.eq_2,if_neg (by simp;omega),K1 (by omega)]
  simp[G03]
 |d+1,k,fuel+1,acc,hk,hf,ha=>by
  have hkl:k<xs.length:=by omega
  have hx:=Y5 hkl
  have hlen:=Q0h xs
  generalize xs[k]=x at hx
  rw[O1 hx]at ha ⊢
  simp only[bsz]at ha
  have next:=K06 sep xs hl d (k+1) fuel (acc ++ [sep]++x) (by omega) (by omega) (by simp only[List.length_append,List.length_singleton];omega)
  rw[Y8.eq_2,if_pos (by simp;omega),I2 (x:=B x) (by rw[List.getElem?_map,hx];rfl),oB,C0 (by rw[z9,z9];simp only[List.length_singleton];omega),oB,N0h,
   C0 (by rw[z9,z9];simp only[List.length_append,List.length_singleton];omega),oB,N0h,Z1 hkl (by omega:xs.length<=9223372036854775807),next]
  simp[G03]
def R0h(sep:UInt8)(e:ByteArray):List (List UInt8)->ByteArray
 | []=>e
 |x::r=>B (q0a sep (x::r))
theorem u0m(sep:UInt8)(e:ByteArray)(xs:List (List UInt8))(hl:bsz xs<=140737488355328):c02 (xs.map B) (B [sep]) e=some (R0h sep e xs):=by
 unfold c02
 cases xs with
 |nil=>rfl
 |cons x r =>
  simp only[bsz]at hl
  have hlen:=Q0h r
  have h:=K06 sep r (by omega) r.length 0 Q0 x (by omega) (Y0 (by omega)) (by rw[List.drop_zero];omega)
  rw[show((0:Nat):Int)=0 from rfl,List.drop_zero]at h
  rw[if_neg (by simp;omega),c09 (x:=B x) rfl,oB,p06,if_pos (by simp;omega),oB]
  have e1:(List.drop (1:Int).toNat (List.take ((((x::r).map B).length:Nat):Int).toNat ((x::r).map B)))=r.map B:=by
   rw[Int.toNat_natCast,List.take_length];rfl
  rw[e1,h]
  rfl
theorem Q0p:∀ ws:List (List Int),bsz (ws.map wl)<=wsz ws
 | []=>by simp[bsz,wsz]
 |w::r=>by
  have:=Q0p r
  have:=D0b w
  simp only[List.map_cons,bsz,wsz]
  omega
theorem A06(ws:List (List Int)):(c01 ws).size<=wsz ws+4:=by
 unfold c01
 cases v02 ws with
 |false=>show 0<=_;omega
 |true =>
  cases ws with
  |nil=>show 4<=_;omega
  |cons w r =>
   simp only[cond_true]
   rw[z9]
   have:=B0g r
   have:=D0b w
   simp only[List.map_cons,q0a,wsz,List.length_append]
   omega
theorem t0a(ws:List (List Int))(hl:wsz ws<=140737488):R3 ws=some (c01 ws):=by
 unfold R3
 have hlen:=r0a ws
 have h:=b03 ws hl ws.length 0 Q0 [] (by omega) (Y0 (by omega)) rfl
 rw[show((0:Nat):Int)=0 from rfl,List.drop_zero,List.nil_append]at h
 rw[h,oB]
 have hsz:=A06 ws
 unfold c01 at hsz ⊢
 cases hall:v02 ws with
 |false=>rfl
 |true =>
  rw[hall]at hsz
  rw[cond_true,S0,show(ws.map λw=>B (wl w))=(ws.map wl).map B by simp,show(⟨#[44]⟩:ByteArray)=B [44] from rfl,u0m 44 _ _ (by have:=Q0p ws;omega),oB]
  cases ws with
  |nil=>rfl
  |cons w r =>
   simp only[cond_true,List.map_cons,R0h]at hsz ⊢
   rw[C0 (by omega),oB]
theorem F0n(n:Int):(N0j n).size<=21:=by
 unfold N0j
 have:=L0d 20 n.natAbs []
 simp only[List.length_nil]at this
 split
 ·show 1<=_;omega
 ·split
  ·rw[z9];simp only[List.length_cons];omega
  ·rw[z9];omega
def fI(n:Int):List UInt8:=if n=0 then [48]else if n<0 then 45::k08 20 n.natAbs []else k08 20 n.natAbs []
theorem Z0k(n:Int):N0j n=B (fI n):=by
 unfold N0j fI
 split
 ·rfl
 ·split<;>rfl
theorem m09(n:Int):(fI n).length<=21:=by
 have:=F0n n
 rw[Z0k,z9]at this
 exact this
theorem R0j:∀ xs:List (List UInt8),(G03 32 xs).length=bsz xs
 | []=>rfl
 |x::r=>by
  have:=R0j r
  simp only[G03,bsz,List.length_cons,List.length_append]
  omega
theorem a0l(xs:List (List UInt8))(hx:xs≠[])(hl:bsz xs<=1000000000):J3 (xs.map B)=some (B (q0a 32 xs)):=by
 unfold J3
 rw[show(⟨#[32]⟩:ByteArray)=B [32] from rfl,u0m 32 _ xs (by omega),oB]
 cases xs with
 |nil=>exact absurd rfl hx
 |cons x r =>
  have h1:=R0j r
  simp only[bsz]at hl
  rw[show ∀ e,R0h 32 e (x::r)=B (q0a 32 (x::r)) from λe=>rfl,C0 (by rw[z9];simp only[q0a,List.length_append];omega)]
  rfl
def blS(b:ByteArray):List UInt8:=b.data.toList
theorem l0r(b:ByteArray):b=B (blS b):=by
 obtain⟨d⟩:=b
 simp[blS,B]
theorem v0m(b:ByteArray):(blS b).length=b.size:=by
 obtain⟨d⟩:=b
 simp[blS,ByteArray.size]
theorem w0m{α:Type}(f:α->List Int)(n:Nat)(h:∀ x,(f x).length<=n):∀ l:List α,wsz (l.map f)<=(n+2)*l.length
 | []=>by simp[wsz]
 |x::r=>by
  have:=w0m f n h r
  have:=h x
  simp only[List.map_cons,wsz,List.length_cons,Nat.mul_add]
  omega
theorem C0g{g:j0}(hc:V1 g=true):wsz (G8 g)<=10000:=by
 have hf:=o6 hc
 obtain⟨q1,q2,q3,q4⟩:=D1 hf
 have h1:=w0m (λe=>(S05 [] (bw g e)).reverse) 81 (λe=>by
  have a1:=n0a (bw g e) []
  have a2:=O0r hf e
  simp only[List.length_reverse,List.length_nil]at a1 ⊢
  omega) (b01 g)
 have hle:(b01 g).length<=g.2.2.length:=List.length_filter_le _ _
 obtain⟨_,_,_,q5⟩:=F1 (V0 hf)
 unfold G8
 omega
theorem ln2(s t:List UInt8)(h:s.length<=100000)(h2:t.length<=100000):J3 [B s,B t]=some (B (s++32::t)):=by
 have:=a0l [s,t] (by simp) (by simp only[bsz];omega)
 simpa [q0a,G03] using this
theorem ln3(s t u:List UInt8)(h:s.length<=100000)(h2:t.length<=100000)(h3:u.length<=100000):J3 [B s,B t,B u]=some (B (s++32::(t++32::u))):=by
 have:=a0l [s,t,u] (by simp) (by simp only[bsz];omega)
 simpa [q0a,G03] using this
theorem ln6(s t u v w x:List UInt8)(h:s.length<=100000)(h2:t.length<=100000)(h3:u.length<=100000)(h4:v.length<=100000)(h5:w.length<=100000)(h6:x.length<=100000):
  J3 [B s,B t,B u,B v,B w,B x]=some (B (s++32::(t++32::(u++32::(v++32::(w++32::x)))))):=by
 have:=a0l [s,t,u,v,w,x] (by simp) (by simp only[bsz];omega)
 simpa [q0a,G03] using this
theorem l0s(b:Bool)(s:List UInt8):H9 b (B s)=some (B (bif b then s else [])):=by
 unfold H9
 cases b<;>rfl
def b0l(g:j0):List UInt8:=if 0<U7 g then fI (U7 g)else([105,110,102,105,110,105,116,101]:List UInt8)
def sbH(g:j0):List UInt8:=([114,97,110,107]:List UInt8)++32::(fI (r02 g)++32::(([118,101,114,116,105,99,101,115]:List UInt8)++32::(fI g.2.1++32::(([105,110,100,101,120]:List UInt8)++32::b0l g))))
def O00(g:j0):ByteArray:=bif V1 g then B (sbH g++((bif B8 g then 32::([110,111,114,109,97,108]:List UInt8)else [])++((bif M5 g then 32::([109,97,108,110,111,114,109,97,108]:List UInt8)else [])++32::(([98,97,115,105,115]:List UInt8)++32::blS (c01 (G8 g))))))else B []
theorem R0p(g:j0):(b0l g).length<=21:=by
 unfold b0l
 split
 ·exact m09 _
 ·simp
theorem S0p{g:j0}(hc:V1 g=true):U7 g = -1∨0<U7 g:=by
 obtain⟨_,_,q,_⟩:=F1 (V0 (o6 hc))
 unfold U7
 cases D9 g
 ·exact .inl rfl
 ·right;show 0<g.2.1;omega
theorem n09(g:j0)(hl:g.2.2.length<=140737488355328):w9 g=some (O00 g):=by
 have h1:=D03 g hl
 obtain⟨h2,r64⟩:=S0e g hl
 obtain⟨h3,i64⟩:=K08 g hl
 have h4:=Q0e g hl
 have h5:=C0n g hl
 have h6:V1 g=true->Y9 g=some (G8 g):=λh=>K0p h
 have n1:=m09 (r02 g)
 have n2:=m09 (U7 g)
 have n3:=m09 g.2.1
 unfold O00
 cases hc:V1 g with
 |false =>
  obtain⟨a,b,c⟩:=g
  unfold w9
  simp only[h1,hc,oB]
  rfl
 |true =>
  have h6:=h6 hc
  have hw:=C0g hc
  have h7:=s0a (G8 g) (by omega)
  have h8:=A06 (G8 g)
  rw[l0r (c01 (G8 g))]at h7
  rw[←v0m]at h8
  have s64:P0 g.2.1:=by
   obtain⟨_,_,q,_⟩:=F1 (V0 (o6 hc))
   exact⟨by omega,by omega⟩
  have f1:=I03 _ r64
  have f2:=I03 _ i64
  have f3:=I03 _ s64
  unfold sbH b0l
  obtain⟨a,b,c⟩:=g
  unfold w9
  generalize blS (c01 (G8 (a,b,c)))=W at *
  simp only at f3 n3 s64
  simp only[h1,hc,oB,Bool.not_true,Bool.false_eq_true,if_false,h2,h3,h4,h5,h6,h7,cond_true,C0 r64,C0 i64,f1,f2,f3,Z0k,l0s,N0h,show(⟨#[114,97,110,107,32]⟩:ByteArray)=B [114,97,110,107,32] from rfl,show(⟨#[32,118,101,114,116,105,99,101,115,32]⟩:ByteArray)=B [32,118,101,114,116,105,99,101,115,32] from rfl,show(⟨#[32,105,110,100,101,120,32]⟩:ByteArray)=B [32,105,110,100,101,120,32] from rfl,show(⟨#[105,110,102,105,110,105,116,101]⟩:ByteArray)=B [105,110,102,105,110,105,116,101] from rfl,show(⟨#[32,110,111,114,109,97,108]⟩:ByteArray)=B [32,110,111,114,109,97,108] from rfl,show(⟨#[32,109,97,108,110,111,114,109,97,108]⟩:ByteArray)=B [32,109,97,108,110,111,114,109,97,108] from rfl,show(⟨#[32,98,97,115,105,115,32]⟩:ByteArray)=B [32,98,97,115,105,115,32] from rfl,show(⟨#[114,97,110,107]⟩:ByteArray)=B [114,97,110,107] from rfl,show(⟨#[118,101,114,116,105,99,101,115]⟩:ByteArray)=B [118,101,114,116,105,99,101,115] from rfl,show(⟨#[105,110,100,101,120]⟩:ByteArray)=B [105,110,100,101,120] from rfl,show(⟨#[110,111,114,109,97,108]⟩:ByteArray)=B [110,111,114,109,97,108] from rfl,show(⟨#[109,97,108,110,111,114,109,97,108]⟩:ByteArray)=B [109,97,108,110,111,114,109,97,108] from rfl,show(⟨#[98,97,115,105,115]⟩:ByteArray)=B [98,97,115,105,115] from rfl,show(⟨#[]⟩:ByteArray)=B [] from rfl]
  have y1:(bif B8 (a,b,c)then([32,110,111,114,109,97,108]:List UInt8)else []).length<=7:=by cases B8 (a,b,c)<;>simp
  have y2:(bif M5 (a,b,c)then([32,109,97,108,110,111,114,109,97,108]:List UInt8)else []).length<=10:=by cases M5 (a,b,c)<;>simp
  have e1:(bif B8 (a,b,c)then([32,110,111,114,109,97,108]:List UInt8)else [])=(bif B8 (a,b,c)then 32::([110,111,114,109,97,108]:List UInt8)else []):=by cases B8 (a,b,c)<;>rfl
  have e2:(bif M5 (a,b,c)then([32,109,97,108,110,111,114,109,97,108]:List UInt8)else [])=(bif M5 (a,b,c)then 32::([109,97,108,110,111,114,109,97,108]:List UInt8)else []):=by cases M5 (a,b,c)<;>rfl
  rw[←e1,←e2]
  generalize (bif B8 (a,b,c)then([32,110,111,114,109,97,108]:List UInt8)else [])=Y1 at *
  generalize (bif M5 (a,b,c)then([32,109,97,108,110,111,114,109,97,108]:List UInt8)else [])=Y2 at *
  repeat (rw[C0 (by simp only[z9,List.length_append,List.length_cons,List.length_nil];omega),oB])
  by_cases ci:0<U7 (a,b,c)
  ·rw[if_pos (by simpa using ci),if_pos ci]
   repeat (rw[C0 (by simp only[z9,List.length_append,List.length_cons,List.length_nil];omega),oB])
   simp[List.append_assoc]
  ·rw[if_neg (by simpa using ci),if_neg ci]
   repeat (rw[C0 (by simp only[z9,List.length_append,List.length_cons,List.length_nil];omega),oB])
   simp[List.append_assoc]
theorem o09(g:j0)(hl:g.2.2.length<=140737488355328):y9 g=some (O00 g):=by
 have h1:=a01 g hl
 have h2:=X0k g hl
 have r64:=(S0e g hl).2
 have h3:=l0f g hl
 have i64:=(K08 g hl).2
 have h4:=R0e g hl
 have h5:=D0n g hl
 have h6:V1 g=true->c5 g=some (G8 g):=λh=>H0q h
 have n1:=m09 (r02 g)
 have n2:=m09 (U7 g)
 have n3:=m09 g.2.1
 unfold O00
 cases hc:V1 g with
 |false =>
  obtain⟨a,b,c⟩:=g
  unfold y9
  simp only[h1,hc,oB]
  rfl
 |true =>
  have h6:=h6 hc
  have hio:=S0p hc
  have hw:=C0g hc
  have h7:=t0a (G8 g) (by omega)
  have h8:=A06 (G8 g)
  rw[l0r (c01 (G8 g))]at h7
  rw[←v0m]at h8
  have s64:P0 g.2.1:=by
   obtain⟨_,_,q,_⟩:=F1 (V0 (o6 hc))
   exact⟨by omega,by omega⟩
  have f1:=J03 _ r64
  have f2:=J03 _ i64
  have f3:=J03 _ s64
  have ni:=R0p g
  have hH:=ln6 ([114,97,110,107]:List UInt8) (fI (r02 g)) ([118,101,114,116,105,99,101,115]:List UInt8) (fI g.2.1) ([105,110,100,101,120]:List UInt8) (b0l g) (by simp) (by omega) (by simp) (by omega) (by simp) (by omega)
  rw[show([114,97,110,107]:List UInt8)++32::(fI (r02 g)++32::(([118,101,114,116,105,99,101,115]:List UInt8)++32::(fI g.2.1++32::(([105,110,100,101,120]:List UInt8)++32::b0l g))))=sbH g from rfl]at hH
  have hHl:(sbH g).length<=200:=by
   unfold sbH
   simp only[List.length_append,List.length_cons,List.length_nil]
   omega
  have hsz:b0l g=if 0<U7 g then fI (U7 g)else([105,110,102,105,110,105,116,101]:List UInt8):=rfl
  generalize sbH g=HH at *
  have g1:=ln2 HH ([110,111,114,109,97,108]:List UInt8) (by omega) (by simp)
  have g2:=ln2 (HH++32::([110,111,114,109,97,108]:List UInt8)) ([109,97,108,110,111,114,109,97,108]:List UInt8) (by simp only[List.length_append,List.length_cons,List.length_nil];omega) (by simp)
  have g3:=ln2 HH ([109,97,108,110,111,114,109,97,108]:List UInt8) (by omega) (by simp)
  have g4:=ln3 HH ([98,97,115,105,115]:List UInt8) (blS (c01 (G8 g))) (by omega) (by simp) (by omega)
  have g5:=ln3 (HH++32::([110,111,114,109,97,108]:List UInt8)) ([98,97,115,105,115]:List UInt8) (blS (c01 (G8 g))) (by simp only[List.length_append,List.length_cons,List.length_nil];omega) (by simp) (by omega)
  have g6:=ln3 (HH++32::([109,97,108,110,111,114,109,97,108]:List UInt8)) ([98,97,115,105,115]:List UInt8) (blS (c01 (G8 g))) (by simp only[List.length_append,List.length_cons,List.length_nil];omega) (by simp) (by omega)
  have g7:=ln3 ((HH++32::([110,111,114,109,97,108]:List UInt8))++32::([109,97,108,110,111,114,109,97,108]:List UInt8)) ([98,97,115,105,115]:List UInt8) (blS (c01 (G8 g))) (by simp only[List.length_append,List.length_cons,List.length_nil];omega) (by simp) (by omega)
  obtain⟨a,b,c⟩:=g
  unfold y9
  generalize blS (c01 (G8 (a,b,c)))=W at *
  simp only at f3 n3 s64 hH
  simp only[h1,hc,oB,Bool.not_true,Bool.false_eq_true,if_false,h2,h3,h4,h5,h6,h7,cond_true,C0 r64,C0 i64,f1,f2,f3,Z0k,show(⟨#[114,97,110,107,32]⟩:ByteArray)=B [114,97,110,107,32] from rfl,show(⟨#[32,118,101,114,116,105,99,101,115,32]⟩:ByteArray)=B [32,118,101,114,116,105,99,101,115,32] from rfl,show(⟨#[32,105,110,100,101,120,32]⟩:ByteArray)=B [32,105,110,100,101,120,32] from rfl,show(⟨#[105,110,102,105,110,105,116,101]⟩:ByteArray)=B [105,110,102,105,110,105,116,101] from rfl,show(⟨#[32,110,111,114,109,97,108]⟩:ByteArray)=B [32,110,111,114,109,97,108] from rfl,show(⟨#[32,109,97,108,110,111,114,109,97,108]⟩:ByteArray)=B [32,109,97,108,110,111,114,109,97,108] from rfl,show(⟨#[32,98,97,115,105,115,32]⟩:ByteArray)=B [32,98,97,115,105,115,32] from rfl,show(⟨#[114,97,110,107]⟩:ByteArray)=B [114,97,110,107] from rfl,show(⟨#[118,101,114,116,105,99,101,115]⟩:ByteArray)=B [118,101,114,116,105,99,101,115] from rfl,show(⟨#[105,110,100,101,120]⟩:ByteArray)=B [105,110,100,101,120] from rfl,show(⟨#[110,111,114,109,97,108]⟩:ByteArray)=B [110,111,114,109,97,108] from rfl,show(⟨#[109,97,108,110,111,114,109,97,108]⟩:ByteArray)=B [109,97,108,110,111,114,109,97,108] from rfl,show(⟨#[98,97,115,105,115]⟩:ByteArray)=B [98,97,115,105,115] from rfl,show(⟨#[]⟩:ByteArray)=B [] from rfl]
  by_cases ci:0<U7 (a,b,c)
  ·rw[if_pos ci]at hsz
   rw[hsz]at hH
   rw[if_pos (by simp only[decide_eq_true_eq];omega)]
   repeat (rw[C0 (by simp only[z9,List.length_append,List.length_cons,List.length_nil];omega),oB])
   rw[hH,oB,C0 (by simp only[z9,List.length_append,List.length_cons,List.length_nil];omega),oB]
   cases B8 (a,b,c)<;>cases M5 (a,b,c)<;>simp only[cond_true,cond_false,if_true,if_false,Bool.false_eq_true,g1,g2,g3,g4,g5,g6,g7,oB]
   all_goals (repeat (rw[C0 (by simp only[z9,List.length_append,List.length_cons,List.length_nil];omega),oB]))
   all_goals simp[List.append_assoc]
  ·rw[if_neg ci]at hsz
   rw[hsz]at hH
   rw[if_neg (by simp only[decide_eq_true_eq];omega)]
   repeat (rw[C0 (by simp only[z9,List.length_append,List.length_cons,List.length_nil];omega),oB])
   rw[hH,oB,C0 (by simp only[z9,List.length_append,List.length_cons,List.length_nil];omega),oB]
   cases B8 (a,b,c)<;>cases M5 (a,b,c)<;>simp only[cond_true,cond_false,if_true,if_false,Bool.false_eq_true,g1,g2,g3,g4,g5,g6,g7,oB]
   all_goals (repeat (rw[C0 (by simp only[z9,List.length_append,List.length_cons,List.length_nil];omega),oB]))
   all_goals simp[List.append_assoc]
end Go.Proofs.YtkjhghloldgioaaGreat
