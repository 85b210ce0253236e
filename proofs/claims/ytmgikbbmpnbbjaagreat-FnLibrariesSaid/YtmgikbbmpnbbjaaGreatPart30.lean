/- Texts of the claim, joined: Plain laws: the pairs of vertices that are reached at once i and others. -/
import Derived.Test.YtmgikbbmpnbbjaaGreatPart23
import Derived.Test.YtmgikbbmpnbbjaaGreatPart29
import Derived.Test.YtmgikbbmpnbbjaaGreatPart28
namespace Go.Proofs.YtmgikbbmpnbbjaaGreat
open Go.H
set_option linter.unusedVariables false
set_option linter.unusedSimpArgs false
abbrev Prs:=List (Int×Int)
theorem I0g(q:Int×Int):∀(ps:Prs) (i:Nat),match lkP q ps i with
  |some k=>i<=k/\ps[k-i]?=some q
  |none=>q ∉ ps
 | [],i=>by simp[lkP]
 |p::r,i=>by
  have a:=I0g q r (i+1)
  unfold lkP
  by_cases c:q=p
  ·subst c;simp
  ·have b:(decide (q.1=p.1)&&decide (q.2=p.2))=false:=by
    cases e:decide (q.1=p.1)&&decide (q.2=p.2)
    ·rfl
    ·simp only[Bool.and_eq_true,decide_eq_true_eq]at e
     exact absurd (Prod.ext e.1 e.2) c
   rw[b,cond_false]
   cases e:lkP q r (i+1)with
   |none=>rw[e]at a;simpa [c] using a
   |some k =>
    rw[e]at a
    simp only at a ⊢
    refine⟨by omega,?_⟩
    have:k-i=(k-(i+1))+1:=by omega
    rw[this,List.getElem?_cons_succ]
    exact a.2
theorem n0p{q:Int×Int}{k:Nat}:∀ {ps:Prs} {i:Nat} (t:Prs),lkP q ps i=some k->lkP q (ps++t) i=some k
 | [],i,t,h=>by simp[lkP]at h
 |p::r,i,t,h=>by
  rw[List.cons_append]
  unfold lkP at h ⊢
  cases c:decide (q.1=p.1)&&decide (q.2=p.2)
  ·rw[c,cond_false]at h;rw[cond_false];exact n0p t h
  ·rw[c,cond_true]at h;rw[cond_true];exact h
theorem o0p{q:Int×Int}:∀ {ps:Prs} {i:Nat},q ∉ ps->lkP q (ps ++ [q]) i=some (i+ps.length)
 | [],i,h=>by simp[lkP]
 |p::r,i,h=>by
  have c:(decide (q.1=p.1)&&decide (q.2=p.2))=false:=by
   cases e:decide (q.1=p.1)&&decide (q.2=p.2)
   ·rfl
   ·simp only[Bool.and_eq_true,decide_eq_true_eq]at e
    exact absurd (List.mem_cons.2 (.inl (Prod.ext e.1 e.2))) h
  rw[List.cons_append,lkP,c,cond_false,o0p (λe=>h (mC _ e))]
  simp;omega
theorem k0c{q:Int×Int}{ps:Prs}:lkP q ps 0=none↔q ∉ ps:=by
 have:=I0g q ps 0
 constructor
 ·intro h;rw[h]at this;exact this
 ·intro h
  cases e:lkP q ps 0 with
  |none=>rfl
  |some k=>rw[e]at this;exact absurd (List.mem_of_getElem? this.2) h
theorem R09{q:Int×Int}{ps:Prs}{k:Nat}(h:lkP q ps 0=some k):ps[k]?=some q:=by
 have:=I0g q ps 0
 rw[h]at this
 simpa using this.2
theorem N0j{q:Int×Int}{ps:Prs}(h:q∈ps):∃ k,lkP q ps 0=some k:=by
 cases e:lkP q ps 0 with
 |none=>exact absurd h (k0c.1 e)
 |some k=>exact⟨k,rfl⟩
theorem p0p{q:Int×Int}{ps:Prs}(t:Prs)(h:q∈ps):lkZ q (ps++t)=lkZ q ps:=by
 obtain⟨k,e⟩:=N0j h
 unfold lkZ
 rw[e,n0p t e]
def stP(a b:j0)(x:Int)(p:Int×Int):Option (Int×Int):=bif decide (P0 a p.1 x<0) || decide (P0 b p.2 x<0)then none else some (P0 a p.1 x,P0 b p.2 x)
abbrev PSt:=Prs×List Q0
def pbS(i:Nat)(x:Int)(q:Option (Int×Int))(S:PSt):PSt:=match q with
 |none=>S
 |some q=>match lkP q S.1 0 with
  |some k=>(S.1,bif decide (0<x)then S.2 ++ [((i:Int),x,(k:Int))]else S.2)
  |none=>(S.1 ++ [q],bif decide (0<x)then S.2 ++ [((i:Int),x,(S.1.length:Int))]else S.2)
def pbI(a b:j0)(i:Nat)(p:Int×Int):List Int->PSt->PSt
 | [],S=>S
 |x::r,S=>pbI a b i p r (pbS i x (stP a b x p) S)
def pbO(a b:j0)(ls:List Int):Nat->Nat->PSt->PSt
 |0,_,S=>S
 |f+1,i,S=>match S.1[i]? with
  |none=>S
  |some p=>pbO a b ls f (i+1) (pbI a b i p ls S)
def m08(a b:j0)(ps:Prs):Prop:=∀ q∈ps,(0<=q.1/\q.1<a.2.1)/\(0<=q.2/\q.2<b.2.1)
theorem J0u{a b:j0}(d:inG a)(e:inG b){x:Int}{p q:Int×Int}(h:stP a b x p=some q):(0<=q.1/\q.1<a.2.1)/\(0<=q.2/\q.2<b.2.1):=by
 unfold stP at h
 cases c:decide (P0 a p.1 x<0) || decide (P0 b p.2 x<0)with
 |true=>rw[c]at h;cases h
 |false =>
  rw[c,cond_false]at h
  cases h
  simp only[Bool.or_eq_false_iff,decide_eq_false_iff_not]at c
  have f:=E00 d p.1 x
  have g:=E00 e p.2 x
  exact⟨by omega,by omega⟩
theorem l0c{q:Int×Int}{S:PSt}{k:Nat}(h:lkP q S.1 0=some k)(i:Nat)(x:Int):pbS i x (some q) S=(S.1,bif decide (0<x)then S.2 ++ [((i:Int),x,(k:Int))]else S.2):=by
 simp only[pbS,h]
theorem m0c{q:Int×Int}{S:PSt}(h:lkP q S.1 0=none)(i:Nat)(x:Int):pbS i x (some q) S=(S.1 ++ [q],bif decide (0<x)then S.2 ++ [((i:Int),x,(S.1.length:Int))]else S.2):=by
 simp only[pbS,h]
theorem O0j(i:Nat)(x:Int)(q:Option (Int×Int))(S:PSt):∃ t,(pbS i x q S).1=S.1++t:=by
 cases q with
 |none=>exact⟨[],by simp[pbS]⟩
 |some q =>
  cases e:lkP q S.1 0 with
  |none=>exact⟨[q],by rw[m0c e]⟩
  |some k=>exact⟨[],by rw[l0c e];simp⟩
theorem S09(a b:j0)(i:Nat)(p:Int×Int):∀(ls:List Int) (c:PSt),∃ t,(pbI a b i p ls c).1=c.1++t
 | [],c=>⟨[],by simp[pbI]⟩
 |x::r,c=>by
  obtain⟨f,d⟩:=O0j i x (stP a b x p) c
  obtain⟨g,e⟩:=S09 a b i p r (pbS i x (stP a b x p) c)
  exact⟨f++g,by rw[pbI,e,d,List.append_assoc]⟩
theorem x0n{a b:j0}(l:inG a)(m:inG b)(i:Nat)(x:Int)(p:Int×Int)(c:PSt)(d:m08 a b c.1)(f:c.1.Nodup):m08 a b (pbS i x (stP a b x p) c).1/\(pbS i x (stP a b x p) c).1.Nodup:=by
 cases e:stP a b x p with
 |none=>exact⟨d,f⟩
 |some q =>
  have n:=J0u l m e
  cases e2:lkP q c.1 0 with
  |none =>
   rw[m0c e2]
   refine⟨λt o=>?_,?_⟩
   ·rcases List.mem_append.1 o with h|h
    ·exact d t h
    ·simp at h;subst h;exact n
   ·show(c.1 ++ [q]).Nodup
    rw[List.nodup_append]
    refine⟨f,by simp,λu s v g j=>?_⟩
    simp at g
    subst g
    subst j
    exact k0c.1 e2 s
  |some k=>rw[l0c e2];exact⟨d,f⟩
theorem P0j{a b:j0}(f:inG a)(g:inG b)(i:Nat)(p:Int×Int):∀(ls:List Int) (c:PSt),m08 a b c.1->c.1.Nodup->m08 a b (pbI a b i p ls c).1/\(pbI a b i p ls c).1.Nodup
 | [],c,d,e=>⟨d,e⟩
 |x::r,c,d,e=>by
  obtain⟨h,j⟩:=x0n f g i x p c d e
  exact P0j f g i p r _ h j
def enP(m:Int)(p:Int×Int):Int:=p.1*m+p.2
theorem Q0j{m:Int}{p q:Int×Int}(b:0<=p.2/\p.2<m)(d:0<=q.2/\q.2<m)(h:enP m p=enP m q):p=q:=by
 unfold enP at h
 have a:p.1=q.1:=by
  rcases Int.lt_trichotomy p.1 q.1 with c|c|c
  ·exfalso
   have:(p.1+1)*m<=q.1*m:=Int.mul_le_mul_of_nonneg_right (by omega) (by omega)
   rw[Int.add_mul,Int.one_mul]at this
   omega
  ·exact c
  ·exfalso
   have:(q.1+1)*m<=p.1*m:=Int.mul_le_mul_of_nonneg_right (by omega) (by omega)
   rw[Int.add_mul,Int.one_mul]at this
   omega
 rw[a]at h
 exact Prod.ext a (by omega)
theorem T09{n m:Int}{p:Int×Int}(b:0<=p.1/\p.1<n)(d:0<=p.2/\p.2<m):0<=enP m p/\enP m p<n*m:=by
 unfold enP
 have c:0<=p.1*m:=Int.mul_nonneg b.1 (by omega)
 have a:(p.1+1)*m<=n*m:=Int.mul_le_mul_of_nonneg_right (by omega) (by omega)
 rw[Int.add_mul,Int.one_mul]at a
 omega
theorem R0j{m:Int}{p:Int×Int}(b:0<=p.1)(a:0<=p.2/\p.2<m):Int.tdiv (enP m p) m=p.1/\Int.tmod (enP m p) m=p.2:=by
 have h0:0<=enP m p:=by
  unfold enP
  have:0<=p.1*m:=Int.mul_nonneg b (by omega)
  omega
 rw[Int.tdiv_eq_ediv_of_nonneg h0,Int.tmod_eq_emod_of_nonneg h0]
 unfold enP
 refine⟨?_,?_⟩
 ·rw[Int.add_comm,Int.add_mul_ediv_right _ _ (by omega),Int.ediv_eq_zero_of_lt a.1 a.2];omega
 ·rw[Int.add_comm,Int.add_mul_emod_self_right,Int.emod_eq_of_lt a.1 a.2]
theorem n08{a b:j0}(i:1<=a.2.1/\a.2.1<=40)(j:1<=b.2.1/\b.2.1<=40){ps:Prs}(c:m08 a b ps)(f:ps.Nodup):ps.length<=1600:=by
 have g:(ps.map (enP b.2.1)).Nodup:=by
  rw[List.Nodup,List.pairwise_map]
  exact List.Pairwise.imp_of_mem (λ{x y} m n k e=>k (Q0j (c x m).2 (c y n).2 e)) f
 have h:inV 1600 (ps.map (enP b.2.1)):=by
  intro v l
  obtain⟨p,d,rfl⟩:=List.mem_map.1 l
  have:=T09 (c p d).1 (c p d).2
  have o:a.2.1*b.2.1<=40*40:=Int.mul_le_mul i.2 j.2 (by omega) (by omega)
  exact⟨this.1,by omega⟩
 have:=f01 1600 _ g h
 simpa using this
def eL(a b:j0)(ps:Prs)(i:Nat)(p:Int×Int):List Int->List Q0
 | []=>[]
 |x::r=>(match stP a b x p with
  |some q=>bif decide (0<x)then [((i:Int),x,lkZ q ps)]else []
  |none=>[])++eL a b ps i p r
def eB(a b:j0)(ls:List Int)(ps:Prs):Prs->Nat->List Q0
 | [],_=>[]
 |p::r,i=>eL a b ps i p ls++eB a b ls ps r (i+1)
theorem p0s{a b:j0}{ps:Prs}(t:Prs){i:Nat}{p:Int×Int}:∀ {ls:List Int},(∀ x∈ls,∀ q,stP a b x p=some q->q∈ps)->eL a b (ps++t) i p ls=eL a b ps i p ls
 | [],_=>rfl
 |x::r,h=>by
  rw[eL,eL,p0s t λy c=>h y (mC _ c)]
  cases e:stP a b x p with
  |none=>rfl
  |some q=>simp only[p0p t (h x mS q e)]
theorem w0d{a b:j0}{i:Nat}{p:Int×Int}:∀(ls:List Int) (c:PSt),(pbI a b i p ls c).2=c.2++eL a b (pbI a b i p ls c).1 i p ls/\∀ x∈ls,∀ q,stP a b x p=some q->q∈(pbI a b i p ls c).1
 | [],c=>⟨by simp[pbI,eL],λx n=>nomatch n⟩
 |x::r,c=>by
  obtain⟨l,m⟩:=w0d r (pbS i x (stP a b x p) c)
  obtain⟨t,d⟩:=S09 a b i p r (pbS i x (stP a b x p) c)
  have key:∀ q,stP a b x p=some q->q∈(pbS i x (stP a b x p) c).1/\(pbS i x (stP a b x p) c).2=c.2++(bif decide (0<x)then [((i:Int),x,lkZ q (pbS i x (stP a b x p) c).1)]else []):=λq e=>by
   rw[e]
   cases e2:lkP q c.1 0 with
   |none =>
    rw[m0c e2]
    refine⟨by simp,?_⟩
    have j:=o0p (i:=0) (k0c.1 e2)
    simp only[lkZ,j,Nat.zero_add]
    cases decide (0<x)<;>simp
   |some k =>
    rw[l0c e2]
    refine⟨List.mem_of_getElem? (R09 e2),?_⟩
    simp only[lkZ,e2]
    cases decide (0<x)<;>simp
  refine⟨?_,λy f q e=>?_⟩
  ·rw[pbI,l,eL,←List.append_assoc]
   congr 1
   cases e:stP a b x p with
   |none=>simp[pbS]
   |some q =>
    obtain⟨g,h⟩:=key q e
    rw[e]at g h d
    rw[h]
    congr 1
    rw[d]
    simp only[p0p t g]
  ·rw[pbI]
   rcases List.mem_cons.1 f with rfl|f
   ·rw[d];exact List.mem_append_left _ (key q e).1
   ·exact m y f q e
theorem C0t{a b:j0}{i:Nat}{p:Int×Int}{ls:List Int}{S:PSt}{j:Nat}{q:Int×Int}(h:S.1[j]?=some q):(pbI a b i p ls S).1[j]?=some q:=by
 obtain⟨t,e⟩:=S09 a b i p ls S
 rw[e,List.getElem?_append_left (List.getElem?_eq_some_iff.1 h).1];exact h
theorem S0j{a b:j0}(n:inG a)(o:inG b)(w:1<=a.2.1/\a.2.1<=40)(y:1<=b.2.1/\b.2.1<=40)(ls:List Int):∀(f i:Nat) (d:PSt),m08 a b d.1->d.1.Nodup->i<=d.1.length->1601<=i+f ->
  ∃ t,(pbO a b ls f i d).1=d.1++t/\m08 a b (d.1++t)/\(d.1++t).Nodup/\(pbO a b ls f i d).2=d.2++eB a b ls (d.1++t) ((d.1++t).drop i) i /\
   ∀ j p,i<=j->(d.1++t)[j]?=some p->∀ x∈ls,∀ q,stP a b x p=some q->q∈d.1++t
 |0,i,d,g,h,C,D=>by
  have:=n08 w y g h
  omega
 |f+1,i,d,g,h,C,D=>by
  cases e:d.1[i]? with
  |none =>
   have E:i=d.1.length:=by have:=List.getElem?_eq_none_iff.1 e;omega
   refine⟨[],?_⟩
   rw[List.append_nil]
   refine⟨by simp[pbO,e],g,h,?_,λj p F k=>?_⟩
   ·rw[pbO,e,E,List.drop_length];simp[eB]
   ·have:=(List.getElem?_eq_some_iff.1 k).1
    omega
  |some p =>
   obtain⟨A,B⟩:=P0j n o i p ls d g h
   obtain⟨z,m⟩:=w0d (a:=a) (b:=b) (i:=i) (p:=p) ls d
   obtain⟨M,u⟩:=S09 a b i p ls d
   have N:=(List.getElem?_eq_some_iff.1 e).1
   obtain⟨t,G,H,I,J,K⟩:=S0j n o w y ls f (i+1) (pbI a b i p ls d) A B (by rw[u];simp;omega) (by omega)
   refine⟨M++t,?_⟩
   rw[←List.append_assoc,←u]
   have k:((pbI a b i p ls d).1++t)[i]?=some p:=by
    have:=C0t (a:=a) (b:=b) (i:=i) (p:=p) (ls:=ls) e
    rw[List.getElem?_append_left (List.getElem?_eq_some_iff.1 this).1];exact this
   refine⟨by rw[pbO,e];exact G,H,I,?_,λj L F l x v q s=>?_⟩
   ·rw[pbO,e]
    show(pbO a b ls f (i+1) (pbI a b i p ls d)).2=_
    rw[J,z,C2 k,eB,p0s t m,List.append_assoc]
   ·rcases Nat.lt_or_ge i j with c|c
    ·exact K j L c l x v q s
    ·have:j=i:=by omega
     subst this
     rw[k]at l;cases l
     exact List.mem_append_left _ (m x v q s)
theorem q0p{R:Nat}(a:R<=900):∀ x∈w4 R 1,N4 x:=H0e R 1 (by omega)
theorem D0t(u x v:Int)(a:N4 x)(h:0<x):t01 u x v=some (u,x,v):=by
 rw[S0r u x v a]
 unfold stp
 simp[h]
 omega
theorem K0u(q:Int×Int)(ps:Prs)(b:ps.length<=1000000):lkM q ps=some (lkZ q ps):=by
 have h:J0 (lkI (lkZ q ps)):=by
  unfold lkI lkZ lkB
  cases e:lkP q ps 0 with
  |none=>exact⟨by decide,by decide⟩
  |some k =>
   have a:=(List.getElem?_eq_some_iff.1 (R09 e)).1
   simp only[Int.natCast_nonneg,decide_true,cond_true]
   exact⟨by omega,by omega⟩
 unfold lkM
 rw[H0 h];rfl
theorem q0s{a b:j0}(P:M0 a=true)(Q:M0 b=true)(ae:a.1=b.1)(ls:List Int)(U:∀ x∈ls,N4 x)(ad:ls.length<=1000)(i:Nat)(p:Int×Int)(u v:Int):∀(d k fuel:Nat) (f:PSt),k+d=ls.length->d<fuel ->
  m08 a b f.1->f.1.Nodup->f.1[i]?=some p->f.2.length<=i*1000+k->i<=2000 ->
  Z3 ls (i:Int) a.1 a.2.1 a.2.2 b.1 b.2.1 b.2.2 fuel (k:Int) u v f.1 f.2=some (u,v,(pbI a b i p (ls.drop k) f).1,(pbI a b i p (ls.drop k) f).2)
 |d,k,0,f,R,hf,E,F,C,O,A=>by omega
 |0,k,fuel+1,f,R,hf,E,F,C,O,A=>by
  rw[Z3.eq_2,if_neg (by simp only[decide_eq_true_eq];omega),V1 (by omega)];rfl
 |d+1,k,fuel+1,f,R,hf,E,F,C,O,A=>by
  have T:k<ls.length:=by omega
  have J:=P4 T
  have I:=U _ (List.mem_of_getElem? J)
  have S:=C2 J
  generalize ls[k]=x at J I S
  obtain⟨Y,al,ag,aj⟩:=Q1 (Z1 P)
  obtain⟨Z,am,ah,ak⟩:=Q1 (Z1 Q)
  have D:=λaa=>q0s P Q ae ls U ad i p u v d (k+1) fuel aa (by omega) (by omega)
  have L:=N04 a p.1 x I (by omega)
  have M:=N04 b p.2 x I (by omega)
  have W:=q01 Y (by omega) p.1 x
  have X:=q01 Z (by omega) p.2 x
  have ai:=n08 ag ah E F
  obtain⟨m,n⟩:=x0n Y Z i x p f E F
  obtain⟨t,af⟩:=O0j i x (stP a b x p) f
  have o:(pbS i x (stP a b x p) f).1[i]?=some p:=by rw[af,List.getElem?_append_left (List.getElem?_eq_some_iff.1 C).1];exact C
  have V:∀ v,0<x->t01 (i:Int) x v=some ((i:Int),x,v):=λv h=>D0t _ _ _ I h
  rw[Z3.eq_2,if_pos (by simp only[decide_eq_true_eq];omega),B3 J,oB,B3 C,oB,A3 T (by omega),S,pbI]
  obtain⟨s,B⟩:=p
  obtain⟨g,j,l⟩:=a
  obtain⟨w,y,z⟩:=b
  simp only at L M W X D m n o ⊢
  rw[L,oB,H0 W,oB,oB,M,oB,H0 X,oB]
  have H:stP (g,j,l) (w,y,z) x (s,B)=(bif decide (P0 (g,j,l) s x<0) || decide (P0 (w,y,z) B x<0)then none else some (P0 (g,j,l) s x,P0 (w,y,z) B x)):=rfl
  have ac:(bif decide (P0 (g,j,l) s x<0)then true else decide (P0 (w,y,z) B x<0))=(decide (P0 (g,j,l) s x<0) || decide (P0 (w,y,z) B x<0)):=by
   cases decide (P0 (g,j,l) s x<0)<;>rfl
  rw[ac]
  cases c:decide (P0 (g,j,l) s x<0) || decide (P0 (w,y,z) B x<0)with
  |true =>
   rw[c,cond_true]at H
   rw[if_pos rfl,H]
   exact D f E F C (by omega) A
  |false =>
   rw[c,cond_false]at H
   rw[H]at m n o ⊢
   rw[if_neg (by simp),K0u _ _ (by omega),oB]
   generalize (P0 (g,j,l) s x,P0 (w,y,z) B x)=q at *
   cases e:lkP q f.1 0 with
   |none =>
    rw[m0c e]at m n o ⊢
    have K:lkZ q f.1 = -1:=by unfold lkZ;rw[e]
    rw[K,if_pos (by decide),oB,H0 (by omega),oB,H0 (by simp;omega),oB]
    by_cases c2:0<x
    ·have:=D (f.1 ++ [q],f.2 ++ [((i:Int),x,(f.1.length:Int))]) m n o (by simp;omega) A
     rw[if_pos (by simpa using c2),V _ c2,oB]
     simp only[c2,decide_true,cond_true]at this ⊢
     rw[H0 (by simp;omega),oB]
     exact this
    ·have:=D (f.1 ++ [q],f.2) m n o (by simp;omega) A
     rw[if_neg (by simpa using c2)]
     simp only[c2,decide_false,cond_false]at this ⊢
     exact this
   |some G =>
    rw[l0c e]at m n o ⊢
    have K:lkZ q f.1=(G:Int):=by unfold lkZ;rw[e]
    have N:lkB (G:Int)=true:=by unfold lkB;simp
    have ab:lkI (G:Int)=(G:Int):=by unfold lkI;rw[N];rfl
    rw[K,N,if_neg (by simp),ab]
    by_cases c2:0<x
    ·have:=D (f.1,f.2 ++ [((i:Int),x,(G:Int))]) m n o (by simp;omega) A
     rw[if_pos (by simpa using c2),V _ c2,oB]
     simp only[c2,decide_true,cond_true]at this ⊢
     rw[H0 (by simp;omega),oB]
     exact this
    ·have:=D (f.1,f.2) m n o (by simp;omega) A
     rw[if_neg (by simpa using c2)]
     simp only[c2,decide_false,cond_false]at this ⊢
     exact this
theorem J0g{a b:j0}{ps:Prs}{i:Nat}{p:Int×Int}:∀(ls:List Int),(eL a b ps i p ls).length<=ls.length
 | []=>by simp[eL]
 |x::r=>by
  have:=J0g (a:=a) (b:=b) (ps:=ps) (i:=i) (p:=p) r
  rw[eL,List.length_append,List.length_cons]
  have h:(match stP a b x p with
   |some q=>bif decide (0<x)then [((i:Int),x,lkZ q ps)]else []
   |none=>[]).length<=1:=by
   cases stP a b x p with
   |none=>simp
   |some q=>cases decide (0<x)<;>simp
  exact Nat.le_trans (Nat.add_le_add h this) (by omega)
theorem y0n{a b:j0}{ls:List Int}{ps:Prs}:∀(r:Prs) (i:Nat),(eB a b ls ps r i).length<=r.length*ls.length
 | [],i=>by simp[eB]
 |p::r,i=>by
  have c:=J0g (a:=a) (b:=b) (ps:=ps) (i:=i) (p:=p) ls
  have d:=y0n (a:=a) (b:=b) (ls:=ls) (ps:=ps) r (i+1)
  rw[eB,List.length_append,List.length_cons,Nat.add_mul,Nat.one_mul]
  omega
theorem r0s{a b:j0}(h:M0 a=true)(j:M0 b=true)(q:a.1=b.1)(u v:Int):∀(d i fuel:Nat) (c:PSt),i+d=1601->d<fuel->m08 a b c.1->c.1.Nodup->i<=c.1.length->c.2.length<=i*1000 ->
  J7 a.1 a.2.1 a.2.2 b.1 b.2.1 b.2.2 fuel (i:Int) u v c.1 c.2=some (u,v,(pbO a b (w4 a.1.toNat 1) d i c).1,(pbO a b (w4 a.1.toNat 1) d i c).2)
 |d,i,0,c,o,hf,f,g,n,k=>by omega
 |0,i,fuel+1,c,o,hf,f,g,n,k=>by
  obtain⟨s,G,l,E⟩:=Q1 (Z1 h)
  obtain⟨t,H,m,F⟩:=Q1 (Z1 j)
  have:=n08 l m f g
  omega
 |d+1,i,fuel+1,c,o,hf,f,g,n,k=>by
  obtain⟨s,G,l,E⟩:=Q1 (Z1 h)
  obtain⟨t,H,m,F⟩:=Q1 (Z1 j)
  have L:=n08 l m f g
  obtain⟨R,z⟩:∃ R:Nat,a.1=(R:Int):=⟨a.1.toNat,by omega⟩
  have B:i<=2000:=by omega
  rw[J7.eq_2,oB,H0 (by omega),oB]
  cases e:c.1[i]? with
  |none =>
   have:=List.getElem?_eq_none_iff.1 e
   rw[if_neg (by simp only[decide_eq_true_eq];omega)]
   simp only[pbO,e]
  |some p =>
   have M:=(List.getElem?_eq_some_iff.1 e).1
   have A:a.1.toNat=R:=by omega
   obtain⟨x,y⟩:=P0j s t i p (w4 R 1) c f g
   obtain⟨w,I⟩:=w0d (a:=a) (b:=b) (i:=i) (p:=p) (w4 R 1) c
   obtain⟨N,C⟩:=S09 a b i p (w4 R 1) c
   have K:=Z01 R 1
   have J:=J0g (a:=a) (b:=b) (ps:=(pbI a b i p (w4 R 1) c).1) (i:=i) (p:=p) (w4 R 1)
   have h0:=q0s h j q (w4 R 1) (q0p (by omega)) (by omega) i p u v (w4 R 1).length 0 Y0 c (by omega) (M1 (by omega)) f g e (Nat.le_trans k (Nat.le_add_right _ _)) B
   have D:=r0s h j q u v d (i+1) fuel (pbI a b i p (w4 R 1) c) (by omega) (by omega) x y (by rw[C];simp;omega) (by rw[w,List.length_append];omega)
   rw[if_pos (by simp only[decide_eq_true_eq];omega)]
   rw[List.drop_zero,show((0:Nat):Int)=0 from rfl]at h0
   rw[show l00 a.1=some (w4 R 1) by rw[z];exact b0n R (by omega),oB,h0,oB]
   simp only
   rw[A3 (show i<2000 by omega) (by omega),D]
   rw[A]
   simp only[pbO,e]
def n0c(a b:j0)(u v:Int):j0×Bool:=bif M0 a&&(M0 b&&(decide (a.1=b.1)&&(inR 0 (a.2.1-1) u&&inR 0 (b.2.1-1) v)))then
    (bif decide (40<(pbO a b (w4 a.1.toNat 1) 1601 0 ([(u,v)],[])).1.length) || decide (120<(pbO a b (w4 a.1.toNat 1) 1601 0 ([(u,v)],[])).2.length)then((0,0,[]),false)
     else((a.1,((pbO a b (w4 a.1.toNat 1) 1601 0 ([(u,v)],[])).1.length:Int),B5 S0 [] (pbO a b (w4 a.1.toNat 1) 1601 0 ([(u,v)],[])).2),true))else((0,0,[]),false)
theorem K0g{a b:j0}{u v:Int}(d:inR 0 (a.2.1-1) u=true)(e:inR 0 (b.2.1-1) v=true):m08 a b [(u,v)]:=by
 intro q c
 simp at c
 subst c
 simp only[inR,Bool.and_eq_true,decide_eq_true_eq]at d e
 exact⟨by omega,by omega⟩
theorem s0s{a b:j0}(z:a.2.2.length<=140737488355328)(A:b.2.2.length<=140737488355328)(u v:Int):x01 a b u v=some (n0c a b u v):=by
 have p:=X01 a z
 have f2:=X01 b A
 have f3:M0 a=true->Q5 a u=some (inR 0 (a.2.1-1) u):=λh=>o0s a (Z1 h) u
 have q:M0 b=true->Q5 b v=some (inR 0 (b.2.1-1) v):=λh=>o0s b (Z1 h) v
 have m:M0 a=true->M0 b=true->a.1=b.1->inR 0 (a.2.1-1) u=true->inR 0 (b.2.1-1) v=true->_:=λc d e g i=>r0s c d e a.1 0 1601 0 Y0 ([(u,v)],[]) (by omega) (M1 (by omega)) (K0g g i) (by simp) (by simp) (by simp)
 have s:M0 a=true->M0 b=true->inR 0 (a.2.1-1) u=true->inR 0 (b.2.1-1) v=true->∀ ls,ls.length<=1000->(pbO a b ls 1601 0 ([(u,v)],[])).1.length<=1600/\(pbO a b ls 1601 0 ([(u,v)],[])).2.length<=1600000:=λc d g i ls I=>by
  obtain⟨O,Q,B,z⟩:=Q1 (Z1 c)
  obtain⟨P,R,C,A⟩:=Q1 (Z1 d)
  obtain⟨t,K,L,M,N,_⟩:=S0j O P B C ls 1601 0 ([(u,v)],[]) (K0g g i) (by simp) (by simp) (by omega)
  have y:=n08 B C L M
  refine⟨by rw[K];exact y,?_⟩
  rw[N,List.drop_zero,List.nil_append]
  exact Nat.le_trans (y0n _ _) (Nat.mul_le_mul y I)
 unfold n0c
 obtain⟨f,k,n⟩:=a
 obtain⟨j,l,o⟩:=b
 unfold x01
 simp only at p f2 f3 q m ⊢
 rw[p,oB]
 cases c:M0 (f,k,n)with
 |false=>simp[chk]
 |true =>
  rw[show(!!true)=true from rfl,Y1,f2,oB]
  cases d:M0 (j,l,o)with
  |false=>simp[chk]
  |true =>
   by_cases e:f=j
   ·have F:=f3 c
    rw[show(!(bif(bif(!true)then true else(!true))then true else(!decide (f=j))))=true by simp[e],Y1,F,oB]
    cases g:inR 0 (k-1) u with
    |false=>simp[chk]
    |true =>
     rw[show(!(bif(bif(bif(!true)then true else(!true))then true else(!decide (f=j)))then true else(!true)))=true by simp[e],Y1,q d,oB]
     cases i:inR 0 (l-1) v with
     |false=>simp
     |true =>
      have w:=m c d e g i
      have x:=s c d g i
      rw[if_neg (by simp[e])]
      rw[show((0:Nat):Int)=0 from rfl]at w
      rw[w,oB]
      have J:=(Q1 (Z1 c)).2.1
      simp only at J
      obtain⟨G,H⟩:=x (w4 f.toNat 1) (by rw[Z01];omega)
      clear m s x
      generalize pbO (f,k,n) (j,l,o) (w4 f.toNat 1) 1601 0 ([(u,v)],[])=S at *
      obtain⟨ps,es⟩:=S
      simp only at G H ⊢
      rw[oB,H0 (by omega),oB,oB,H0 (by omega),oB]
      have D:decide (((ps.length:Nat):Int)>40)=decide (40<ps.length):=by rw[decide_eq_decide];omega
      have E:decide (((es.length:Nat):Int)>120)=decide (120<es.length):=by rw[decide_eq_decide];omega
      rw[D,E]
      cases decide (40<ps.length)<;>cases decide (120<es.length)<;>simp[e09 es (by omega),c,d,e,g,i]
   ·simp[chk,e]
def L0g(m:Int)(N:Nat)(a:List Bool)(ps:Prs):Prop:=a.length=N/\∀ j:Nat,j<N->a[j]?=some (decide ((j:Int)∈ps.map (enP m)))
theorem E0t{a b:j0}{ps:Prs}(h:m08 a b ps){q:Int×Int}(f:0<=q.2/\q.2<b.2.1):enP b.2.1 q∈ps.map (enP b.2.1)↔q∈ps:=by
 constructor
 ·intro e
  obtain⟨p,c,d⟩:=List.mem_map.1 e
  have:=Q0j (h p c).2 f d
  rw[←this];exact c
 ·exact λe=>List.mem_map.2 ⟨q,e,rfl⟩
theorem B0i{m:Int}{N:Nat}{a:List Bool}{ps:Prs}(h:L0g m N a ps){q:Int×Int}(f:0<=enP m q)(g:enP m q<(N:Int)):L0g m N (a.set (enP m q).toNat true) (ps ++ [q]):=by
 refine⟨by simp[h.1],λj b=>?_⟩
 rw[List.getElem?_set]
 by_cases c:(enP m q).toNat=j
 ·have d:(j:Int)∈(ps ++ [q]).map (enP m):=List.mem_map.2 ⟨q,by simp,by omega⟩
  rw[if_pos c,if_pos (by rw[h.1];omega),decide_eq_true d]
 ·rw[if_neg c,h.2 j b]
  have:((j:Int)∈(ps ++ [q]).map (enP m))↔(j:Int)∈ps.map (enP m):=by
   rw[List.map_append,List.mem_append]
   constructor
   ·rintro(e|e)
    ·exact e
    ·simp at e;omega
   ·exact .inl
  simp only[this]
theorem t0s{a b:j0}(E:M0 a=true)(F:M0 b=true)(ls:List Int)(J:∀ x∈ls,N4 x)(ab:ls.length<=1000)(i:Nat)(p:Int×Int):∀(d k fuel:Nat) (f:PSt) (g:List Bool),k+d=ls.length->d<fuel ->
  m08 a b f.1->f.1.Nodup->f.1[i]?=some p->L0g b.2.1 (a.2.1*b.2.1).toNat g f.1 ->
  ∃ o,J6 ls (i:Int) b.2.1 a.1 a.2.1 a.2.2 b.1 b.2.2 fuel (k:Int) g (f.1.map (enP b.2.1))=some (o,(pbI a b i p (ls.drop k) f).1.map (enP b.2.1))/\L0g b.2.1 (a.2.1*b.2.1).toNat o (pbI a b i p (ls.drop k) f).1
 |d,k,0,f,g,G,hf,h,n,j,l=>by omega
 |0,k,fuel+1,f,g,G,hf,h,n,j,l=>by
  rw[J6.eq_2,if_neg (by simp only[decide_eq_true_eq];omega),V1 (by omega)]
  exact⟨g,rfl,l⟩
 |d+1,k,fuel+1,f,g,G,hf,h,n,j,l=>by
  have I:k<ls.length:=by omega
  have z:=P4 I
  have A:=J _ (List.mem_of_getElem? z)
  have H:=C2 z
  generalize ls[k]=x at z A H
  obtain⟨C,az,O,av⟩:=Q1 (Z1 E)
  obtain⟨D,aA,P,aw⟩:=Q1 (Z1 F)
  have B:=λQ o=>t0s E F ls J ab i p d (k+1) fuel Q o (by omega) (by omega)
  have V:=n02 a p.1 x A (by omega)
  have W:=n02 b p.2 x A (by omega)
  have ah:=q01 C (by omega) p.1 x
  have ai:=q01 D (by omega) p.2 x
  have ar:=n08 O P h n
  have K:=h p (List.mem_of_getElem? j)
  obtain⟨R,S⟩:=R0j (m:=b.2.1) K.1.1 K.2
  obtain⟨v,w⟩:=x0n C D i x p f h n
  obtain⟨t,ae⟩:=O0j i x (stP a b x p) f
  have y:(pbS i x (stP a b x p) f).1[i]?=some p:=by rw[ae,List.getElem?_append_left (List.getElem?_eq_some_iff.1 j).1];exact j
  have Y:gi (f.1.map (enP b.2.1)) (i:Int)=some (enP b.2.1 p):=B3 (by rw[List.getElem?_map,j];rfl)
  rw[J6.eq_2,if_pos (by simp only[decide_eq_true_eq];omega)]
  simp only[Y,oB,H0 (show b.2.1≠0 by omega),B3 z,R,S]
  rw[w64 (by omega) (by omega),H,pbI]
  have u:stP a b x p=(bif decide (P0 a p.1 x<0) || decide (P0 b p.2 x<0)then none else some (P0 a p.1 x,P0 b p.2 x)):=rfl
  have ax:=E00 C p.1 x
  have ay:=E00 D p.2 x
  have T:(a.1,a.2.1,a.2.2)=a:=rfl
  have U:(b.1,b.2.1,b.2.2)=b:=rfl
  simp only[T,U]
  rw[V,oB,H0 ah,oB,W,oB,H0 ai,oB,A3 I (by omega)]
  have X:(bif decide (P0 a p.1 x ≥ 0)then decide (P0 b p.2 x ≥ 0)else false) = !(decide (P0 a p.1 x<0) || decide (P0 b p.2 x<0)):=by
   have am:decide (P0 a p.1 x ≥ 0) = !decide (P0 a p.1 x<0):=by rw[←decide_not,decide_eq_decide];omega
   have an:decide (P0 b p.2 x ≥ 0) = !decide (P0 b p.2 x<0):=by rw[←decide_not,decide_eq_decide];omega
   rw[am,an]
   cases decide (P0 a p.1 x<0)<;>cases decide (P0 b p.2 x<0)<;>rfl
  rw[X]
  cases c:decide (P0 a p.1 x<0) || decide (P0 b p.2 x<0)with
  |true =>
   rw[c,cond_true]at u
   rw[u]
   rw[show(!true)=false from rfl,T2,oB,if_neg (by simp)]
   exact B f g h n j l
  |false =>
   rw[c,cond_false]at u
   simp only[Bool.or_eq_false_iff,decide_eq_false_iff_not]at c
   rw[u]at v w y ⊢
   have L:0<=P0 a p.1 x/\P0 a p.1 x<a.2.1:=by omega
   have M:0<=P0 b p.2 x/\P0 b p.2 x<b.2.1:=by omega
   generalize P0 a p.1 x=s at *
   generalize P0 b p.2 x=r at *
   have N:=T09 (p:=(s,r)) L M
   have ao:a.2.1*b.2.1<=40*40:=Int.mul_le_mul O.2 P.2 (by omega) (by omega)
   have au:0<=s*b.2.1:=Int.mul_nonneg L.1 (by omega)
   have aq:enP b.2.1 (s,r)=s*b.2.1+r:=rfl
   have af:IntKind.i64.wrap (IntKind.i64.wrap (s*b.2.1)+r)=enP b.2.1 (s,r):=by
    rw[w64 (x:=s*b.2.1) (by omega) (by omega),w64 (by omega) (by omega)];rfl
   rw[af]
   have ag:((enP b.2.1 (s,r)).toNat:Int)=enP b.2.1 (s,r):=by omega
   have ap:((a.2.1*b.2.1).toNat:Int)=a.2.1*b.2.1:=by omega
   have Z:gi g (enP b.2.1 (s,r))=some (decide ((s,r)∈f.1)):=by
    unfold gi
    rw[if_pos N.1,l.2 _ (by omega),ag]
    simp only[E0t h (q:=(s,r)) M]
   rw[show(!false)=true from rfl,Y1,Z,oB]
   cases e:lkP (s,r) f.1 0 with
   |none =>
    have ac:=k0c.1 e
    rw[m0c e]at v w y ⊢
    have ad:=B0i l N.1 (by omega)
    obtain⟨o,ak,al⟩:=B (f.1 ++ [(s,r)],_) _ v w y ad
    rw[if_pos (by simp[ac]),oB,H0 (by simp;omega),oB]
    refine⟨o,?_,al⟩
    rw[←ak]
    simp only[List.map_append,List.map_cons,List.map_nil]
   |some aj =>
    have aa:(s,r)∈f.1:=List.mem_of_getElem? (R09 e)
    rw[l0c e]at v w y ⊢
    rw[if_neg (by simp[aa])]
    exact B (f.1,bif decide (0<x)then f.2 ++ [((i:Int),x,(aj:Int))]else f.2) g h n j l
theorem u0s{a b:j0}(j:M0 a=true)(k:M0 b=true)(ls:List Int)(t:∀ x∈ls,N4 x)(s:ls.length<=1000):∀(d i fuel:Nat) (c:PSt) (f:List Bool),i+d=1601->d<fuel->m08 a b c.1->c.1.Nodup->i<=c.1.length->L0g b.2.1 (a.2.1*b.2.1).toNat f c.1 ->
  ∃ H,d9 ls b.2.1 a.1 a.2.1 a.2.2 b.1 b.2.2 fuel (i:Int) f (c.1.map (enP b.2.1))=some (H,(pbO a b ls d i c).1.map (enP b.2.1))
 |d,i,0,c,f,q,hf,g,h,o,l=>by omega
 |0,i,fuel+1,c,f,q,hf,g,h,o,l=>by
  obtain⟨w,F,m,D⟩:=Q1 (Z1 j)
  obtain⟨y,G,n,E⟩:=Q1 (Z1 k)
  have:=n08 m n g h
  omega
 |d+1,i,fuel+1,c,f,q,hf,g,h,o,l=>by
  obtain⟨w,F,m,D⟩:=Q1 (Z1 j)
  obtain⟨y,G,n,E⟩:=Q1 (Z1 k)
  have K:=n08 m n g h
  rw[d9.eq_2,oB,List.length_map,H0 (by omega),oB]
  cases e:c.1[i]? with
  |none =>
   have:=List.getElem?_eq_none_iff.1 e
   rw[if_neg (by simp only[decide_eq_true_eq];omega)]
   simp only[pbO,e]
   exact⟨f,rfl⟩
  |some p =>
   have L:=(List.getElem?_eq_some_iff.1 e).1
   obtain⟨z,A⟩:=P0j w y i p ls c g h
   obtain⟨M,B⟩:=S09 a b i p ls c
   obtain⟨I,u,v⟩:=t0s j k ls t s i p ls.length 0 Y0 c f (by omega) (M1 (by omega)) g h e l
   rw[List.drop_zero,show((0:Nat):Int)=0 from rfl]at u
   rw[List.drop_zero]at v
   obtain⟨J,C⟩:=u0s j k ls t s d (i+1) fuel (pbI a b i p ls c) I (by omega) (by omega) z A (by rw[B];simp;omega) v
   rw[if_pos (by simp only[decide_eq_true_eq];omega),u,oB]
   simp only
   rw[A3 (show i<2000 by omega) (by omega),C]
   simp only[pbO,e]
   exact⟨J,rfl⟩
theorem z0n{a b:j0}(e:M0 a=true)(f:M0 b=true)(J:a.1=b.1){u v:Int}(c:0<=u/\u<a.2.1)(i:0<=v/\v<b.2.1):
  j01 a b u v=some ((pbO a b (w4 a.1.toNat 1) 1601 0 ([(u,v)],[])).1.map (enP b.2.1)):=by
 obtain⟨O,Q,z,M⟩:=Q1 (Z1 e)
 obtain⟨P,S,A,N⟩:=Q1 (Z1 f)
 obtain⟨R,m⟩:∃ R:Nat,a.1=(R:Int):=⟨a.1.toNat,by omega⟩
 have n:a.1.toNat=R:=by omega
 have h0:m08 a b [(u,v)]:=λq g=>by simp at g;subst g;exact⟨c,i⟩
 have k:=T09 (p:=(u,v)) c i
 have G:a.2.1*b.2.1<=40*40:=Int.mul_le_mul z.2 A.2 (by omega) (by omega)
 have I:enP b.2.1 (u,v)=u*b.2.1+v:=rfl
 have K:0<=u*b.2.1:=Int.mul_nonneg c.1 (by omega)
 have L:((enP b.2.1 (u,v)).toNat:Int)=enP b.2.1 (u,v):=by omega
 have H:((a.2.1*b.2.1).toNat:Int)=a.2.1*b.2.1:=by omega
 have t:L0g b.2.1 (a.2.1*b.2.1).toNat ((List.replicate (a.2.1*b.2.1).toNat false).set (enP b.2.1 (u,v)).toNat true) [(u,v)]:=by
  have:L0g b.2.1 (a.2.1*b.2.1).toNat (List.replicate (a.2.1*b.2.1).toNat false) []:=⟨by simp,λj s=>by rw[List.getElem?_replicate,if_pos s];simp⟩
  have:=B0i this (q:=(u,v)) k.1 (by omega)
  simpa using this
 obtain⟨T,h⟩:=u0s e f (w4 R 1) (q0p (by omega)) (by rw[Z01];omega) 1601 0 Y0 ([(u,v)],[]) _ (by omega) (M1 (by omega)) h0 (by simp) (by simp) t
 rw[show((0:Nat):Int)=0 from rfl]at h
 rw[n]
 have w:IntKind.i64.wrap (IntKind.i64.wrap (u*b.2.1)+v)=enP b.2.1 (u,v):=by
  rw[w64 (x:=u*b.2.1) (by omega) (by omega),w64 (by omega) (by omega)];rfl
 have y:IntKind.i64.wrap (a.2.1*b.2.1)=a.2.1*b.2.1:=w64 (by omega) (by omega)
 have o:gi (List.replicate (a.2.1*b.2.1).toNat (false:Bool)) (enP b.2.1 (u,v))=some false:=by
  unfold gi
  rw[if_pos k.1,List.getElem?_replicate,if_pos (by omega)]
 have l:o7 (if b.1<a.1 then b.1 else a.1)=some (w4 R 1):=by
  rw[if_neg (by omega),m];exact c0n R (by omega)
 obtain⟨B,C,D⟩:=a
 obtain⟨E,d,F⟩:=b
 unfold j01
 simp only at *
 rw[w,y,H0 ⟨by omega,by omega,by omega,by omega⟩,oB,show gi [enP d (u,v)] 0=some (enP d (u,v)) from F0f rfl,oB,o,oB,l,oB]
 simp only[List.map_cons,List.map_nil]at h
 rw[h];rfl
theorem F0t{f:Type}{l:List f}(h:l.Nodup){i j:Nat}{x:f}(g:l[i]?=some x)(k:l[j]?=some x):i=j:=by
 obtain⟨a,b⟩:=List.getElem?_eq_some_iff.1 g
 obtain⟨d,e⟩:=List.getElem?_eq_some_iff.1 k
 rcases Nat.lt_trichotomy i j with c|c|c
 ·exact absurd (b.trans e.symm) (List.pairwise_iff_getElem.1 h i j a d c)
 ·exact c
 ·exact absurd (e.trans b.symm) (List.pairwise_iff_getElem.1 h j i d a c)
theorem r0p{a b:j0}{ps:Prs}{i:Nat}{p:Int×Int}(d x:Nat)(f:1<=x):eL a b ps i p (w4 (d+1) x)=(match stP a b (x:Int) p with
  |some q=>[((i:Int),(x:Int),lkZ q ps)]
  |none=>[])++eL a b ps i p (w4 d (x+1)):=by
 have c:decide (0<(x:Int))=true:=decide_eq_true (by omega)
 have e:decide (0 < -(x:Int))=false:=decide_eq_false (by omega)
 rw[w4,eL,eL,c,e]
 cases stP a b (x:Int) p<;>cases stP a b (-(x:Int)) p<;>simp
theorem f0m{a b:j0}{x:Int}{p:Int×Int}:(stP a b x p=none/\(bif decide (P0 a p.1 x ≥ 0)then decide (P0 b p.2 x ≥ 0)else false)=false) ∨
  (stP a b x p=some (P0 a p.1 x,P0 b p.2 x)/\0<=P0 a p.1 x/\0<=P0 b p.2 x):=by
 unfold stP
 cases c:decide (P0 a p.1 x<0) || decide (P0 b p.2 x<0)with
 |true =>
  refine .inl ⟨rfl,?_⟩
  simp only[Bool.or_eq_true,decide_eq_true_eq]at c
  by_cases c1:P0 a p.1 x<0
  ·rw[decide_eq_false (by omega)];rfl
  ·rw[decide_eq_true (by omega),cond_true,decide_eq_false (by omega)]
 |false =>
  simp only[Bool.or_eq_false_iff,decide_eq_false_iff_not]at c
  exact .inr ⟨rfl,by omega,by omega⟩
theorem v0s{a b:j0}(f:M0 a=true)(q:M0 b=true)(G:a.1=b.1)(ps:Prs)(o:m08 a b ps)(i:Nat)(p:Int×Int)(g:ps[i]?=some p)(z:Prs):∀(d x fuel c:Nat),x+d=a.1.toNat+1->1<=x->d<fuel->c+d<=1000000 ->
  K6 b.1 a.1 (ps.map (enP b.2.1)) (i:Int) b.2.1 a.2.1 a.2.2 b.2.2 fuel (c:Int) (x:Int)=some (((c+(eL a b z i p (w4 d x)).length:Nat):Int))
 |d,x,0,c,t,h,hf,s=>by omega
 |0,x,fuel+1,c,t,h,hf,s=>by
  obtain⟨y,M,K,J⟩:=Q1 (Z1 f)
  rw[K6.eq_2,if_neg (by rw[if_neg (show ¬ b.1<a.1 by omega)];simp only[decide_eq_true_eq];omega)]
  simp[w4,eL]
 |d+1,x,fuel+1,c,t,h,hf,s=>by
  obtain⟨y,M,K,J⟩:=Q1 (Z1 f)
  obtain⟨L,P,O,N⟩:=Q1 (Z1 q)
  have u:N4 (x:Int):=⟨⟨by omega,by omega⟩,by omega⟩
  have j:=λA=>v0s f q G ps o i p g z d (x+1) fuel A (by omega) (by omega) (by omega)
  have E:=n02 a p.1 (x:Int) u (by omega)
  have n:=n02 b p.2 (x:Int) u (by omega)
  have H:=q01 y (by omega) p.1 (x:Int)
  have w:=q01 L (by omega) p.2 (x:Int)
  have v:=o p (List.mem_of_getElem? g)
  obtain⟨B,l⟩:=R0j (m:=b.2.1) v.1.1 v.2
  have F:gi (ps.map (enP b.2.1)) (i:Int)=some (enP b.2.1 p):=B3 (by rw[List.getElem?_map,g];rfl)
  have C:(a.1,a.2.1,a.2.2)=a:=rfl
  have D:(b.1,b.2.1,b.2.2)=b:=rfl
  rw[K6.eq_2,if_pos (by rw[if_neg (show ¬ b.1<a.1 by omega)];simp only[decide_eq_true_eq];omega)]
  simp only[F,oB,H0 (show b.2.1≠0 by omega),B,C,D]
  rw[w64 (by omega) (by omega),E,oB,H0 H,oB,A3 (show x<2000 by omega) (by omega),r0p d x h]
  rcases f0m (a:=a) (b:=b) (x:=(x:Int)) (p:=p)with⟨k,e⟩|⟨k,e,I⟩
  ·rw[k]
   cases hA:decide (P0 a p.1 (x:Int) ≥ 0)with
   |false =>
    simp only[T2,oB]
    rw[H0 (show J0 0 from⟨by omega,by omega⟩),oB,if_neg (by simp),j c (by omega)]
    simp
   |true =>
    rw[hA,cond_true]at e
    simp only[Y1,oB,l]
    rw[n,oB,H0 w,oB,e,if_neg (by simp),j c (by omega)]
    simp
  ·rw[k,decide_eq_true e]
   simp only[Y1,oB,l]
   rw[n,oB,H0 w,oB,decide_eq_true I,if_pos (show(bif true then true else false)=true from rfl),A3 (show c<2000000 by omega) (by omega),j (c+1) (by omega)]
   simp only[List.length_append,List.length_cons,List.length_nil]
   congr 2
   omega
theorem w0s{a b:j0}(e:M0 a=true)(h:M0 b=true)(m:a.1=b.1)(ps:Prs)(g:m08 a b ps)(q:ps.length<=1600):∀(d i fuel c:Nat),i+d=ps.length->d<fuel->c+10*d<=100000 ->
  U7 (ps.map (enP b.2.1)) b.1 a.1 b.2.1 a.2.1 a.2.2 b.2.2 fuel (c:Int) (i:Int)=some (((c+(eB a b (w4 a.1.toNat 1) ps (ps.drop i) i).length:Nat):Int))
 |d,i,0,c,k,hf,j=>by omega
 |0,i,fuel+1,c,k,hf,j=>by
  rw[U7.eq_2,if_neg (by simp only[decide_eq_true_eq,List.length_map];omega),V1 (by omega)]
  simp[eB]
 |d+1,i,fuel+1,c,k,hf,j=>by
  obtain⟨u,v,t,s⟩:=Q1 (Z1 e)
  have o:i<ps.length:=by omega
  have f:=P4 o
  have l:=C2 f
  generalize ps[i]=p at f l
  have h0:=v0s e h m ps g i p f ps a.1.toNat 1 Y0 c (by omega) (by omega) (M1 (by omega)) (by omega)
  have n:=J0g (a:=a) (b:=b) (ps:=ps) (i:=i) (p:=p) (w4 a.1.toNat 1)
  rw[Z01]at n
  rw[U7.eq_2,if_pos (by simp only[decide_eq_true_eq,List.length_map];omega),show(1:Int)=((1:Nat):Int) from rfl,h0,oB,l,eB,show((1:Nat):Int)=1 from rfl,A3 (show i<2000 by omega) (by omega),w0s e h m ps g q d (i+1) fuel _ (by omega) (by omega) (by omega),List.length_append]
  congr 2
  omega
theorem x0s(m:Int)(ps:Prs)(B:ps.length<=1600)(s r:Int)(i x u v:Int)(o:∀ p∈ps,enP m p=enP m (s,r)->p=(s,r))(t:IntKind.i64.wrap (IntKind.i64.wrap (s*m)+r)=enP m (s,r))(D:0<=s)(C:0<=r)(l:ps.Nodup){a:Nat}(g:lkP (s,r) ps 0=some a):
  ∀(d k fuel:Nat) (es:List Q0),k+d=ps.length->d<fuel->es.length+d<=1000000->U4 (ps.map (enP m)) s r m i x fuel (k:Int) u v es=some (u,v,if k<=a then H01 S0 (i,x,(a:Int)) es else es)
 |d,k,0,es,j,hf,n=>by omega
 |0,k,fuel+1,es,j,hf,n=>by
  have:=(List.getElem?_eq_some_iff.1 (R09 g)).1
  rw[U4.eq_2,if_neg (by simp only[List.length_map];rw[decide_eq_false (by omega)];simp),if_neg (by omega)]
 |d+1,k,fuel+1,es,j,hf,n=>by
  have q:k<ps.length:=by omega
  have b:=P4 q
  have z:gi (ps.map (enP m)) (k:Int)=some (enP m ps[k]):=B3 (by rw[List.getElem?_map,b];rfl)
  have f:=R09 g
  have w:=λy h=>x0s m ps B s r i x u v o t D C l g d (k+1) fuel y (by omega) (by omega) h
  rw[U4.eq_2,if_pos (by simp only[List.length_map];rw[decide_eq_true (show((k:Nat):Int)<((ps.length:Nat):Int) by omega),decide_eq_true (show s ≥ 0 by omega),decide_eq_true (show r ≥ 0 by omega)];rfl),z,oB,t,A3 q (by omega)]
  by_cases c:ps[k]=(s,r)
  ·have A:k=a:=by
    rw[c]at b
    exact F0t l b f
   subst A
   have:=c04 (i,x,(k:Int)) es
   rw[if_pos (by simp[c]),G05 _ _ (by omega),oB,w _ (by omega),if_neg (by omega),if_pos (Nat.le_refl _)]
  ·have E:k≠a:=λe=>by
    subst e
    rw[b]at f
    exact c (oJ f)
   rw[if_neg (by simp only[decide_eq_true_eq];exact λe=>c (o _ (List.getElem_mem _) e)),w _ (by omega)]
   by_cases c2:k<=a
   ·rw[if_pos (by omega),if_pos c2]
   ·rw[if_neg (by omega),if_neg c2]
theorem M0g{d:Type}(c:d->d->Int):∀(a b l:List d),B5 c l (a++b)=B5 c (B5 c l a) b
 | [],b,l=>rfl
 |x::a,b,l=>M0g c a b (H01 c x l)
theorem y0s{a b:j0}(j:M0 a=true)(t:M0 b=true)(X:a.1=b.1)(ps:Prs)(g:m08 a b ps)(o:ps.Nodup)(C:ps.length<=1600)(i:Nat)(p:Int×Int)(k:ps[i]?=some p)(u v:Int)
  (w:∀ x∈w4 a.1.toNat 1,∀ q,stP a b x p=some q->q∈ps):∀(d x fuel:Nat) (es:List Q0),x+d=a.1.toNat+1->1<=x->d<fuel->es.length+d<=900000 ->
  F6 a.1 (ps.map (enP b.2.1)) (i:Int) b.2.1 a.2.1 a.2.2 b.1 b.2.2 fuel (x:Int) u v es=some (u,v,B5 S0 es (eL a b ps i p (w4 d x)))
 |d,x,0,es,y,c,hf,A=>by omega
 |0,x,fuel+1,es,y,c,hf,A=>by
  obtain⟨n,af,J,ac⟩:=Q1 (Z1 j)
  rw[F6.eq_2,if_neg (by simp only[decide_eq_true_eq];omega)]
  simp[w4,eL,B5]
 |d+1,x,fuel+1,es,y,c,hf,A=>by
  obtain⟨n,af,J,ac⟩:=Q1 (Z1 j)
  obtain⟨K,ao,ad,al⟩:=Q1 (Z1 t)
  have D:N4 (x:Int):=⟨⟨by omega,by omega⟩,by omega⟩
  have H:=λR h=>y0s j t X ps g o C i p k u v w d (x+1) fuel R (by omega) (by omega) (by omega) h
  have P:=n02 a p.1 (x:Int) D (by omega)
  have Q:=n02 b p.2 (x:Int) D (by omega)
  have Z:=q01 n (by omega) p.1 (x:Int)
  have aa:=q01 K (by omega) p.2 (x:Int)
  have E:=g p (List.mem_of_getElem? k)
  obtain⟨L,M⟩:=R0j (m:=b.2.1) E.1.1 E.2
  have U:gi (ps.map (enP b.2.1)) (i:Int)=some (enP b.2.1 p):=B3 (by rw[List.getElem?_map,k];rfl)
  have N:(a.1,a.2.1,a.2.2)=a:=rfl
  have O:(b.1,b.2.1,b.2.2)=b:=rfl
  have am:=E00 n p.1 (x:Int)
  have an:=E00 K p.2 (x:Int)
  rw[F6.eq_2,if_pos (by simp only[decide_eq_true_eq];omega)]
  simp only[U,oB,H0 (show b.2.1≠0 by omega),L,M,N,O]
  rw[w64 (by omega) (by omega),P,oB,H0 Z,oB,Q,oB,H0 aa,oB,A3 (show x<2000 by omega) (by omega),r0p d x c]
  rcases f0m (a:=a) (b:=b) (x:=(x:Int)) (p:=p)with⟨f,l⟩|⟨f,l,ab⟩
  ·rw[f]
   have T:Y0=(Y0-1)+1:=by unfold Y0;omega
   rw[T,U4.eq_2,if_neg (by
    rw[Bool.not_eq_true]
    generalize decide ((0:Int)<_)=z
    cases z
    ·rfl
    ·rw[cond_true];exact l),oB]
   simp only
   rw[H es (by omega)]
   rfl
  ·rw[f]
   generalize P0 a p.1 (x:Int)=s at *
   generalize P0 b p.2 (x:Int)=r at *
   have F:0<=s/\s<a.2.1:=by omega
   have G:0<=r/\r<b.2.1:=by omega
   have aj:=T09 (p:=(s,r)) F G
   have ag:a.2.1*b.2.1<=40*40:=Int.mul_le_mul J.2 ad.2 (by omega) (by omega)
   have ak:0<=s*b.2.1:=Int.mul_nonneg F.1 (by omega)
   have ah:enP b.2.1 (s,r)=s*b.2.1+r:=rfl
   have Y:IntKind.i64.wrap (IntKind.i64.wrap (s*b.2.1)+r)=enP b.2.1 (s,r):=by
    rw[w64 (x:=s*b.2.1) (by omega) (by omega),w64 (by omega) (by omega)];rfl
   have V:(s,r)∈ps:=w (x:Int) (C07 a.1.toNat 1 x c (by omega)).1 _ f
   obtain⟨I,B⟩:=N0j V
   have h0:=x0s b.2.1 ps C s r (i:Int) (x:Int) u v (λae W e=>Q0j (g ae W).2 G e) Y l ab o B ps.length 0 Y0 es (by omega) (M1 (by omega)) (by omega)
   rw[if_pos (Nat.zero_le _),show((0:Nat):Int)=0 from rfl]at h0
   have ai:=c04 ((i:Int),(x:Int),(I:Int)) es
   rw[h0,oB]
   simp only
   rw[H _ (by omega)]
   have S:lkZ (s,r) ps=(I:Int):=by unfold lkZ;rw[B]
   rw[S]
   rfl
theorem z0s{a b:j0}(e:M0 a=true)(h:M0 b=true)(s:a.1=b.1)(ps:Prs)(f:m08 a b ps)(g:ps.Nodup)(o:ps.length<=1600)(u v:Int)
  (k:∀(j:Nat) (p:Int×Int),ps[j]?=some p->∀ x∈w4 a.1.toNat 1,∀ q,stP a b x p=some q->q∈ps):∀(d i fuel:Nat) (es:List Q0),i+d=ps.length->d<fuel->es.length+10*d<=800000 ->
  O5 (ps.map (enP b.2.1)) a.1 b.2.1 a.2.1 a.2.2 b.1 b.2.2 fuel (i:Int) u v es=some (u,v,B5 S0 es (eB a b (w4 a.1.toNat 1) ps (ps.drop i) i))
 |d,i,0,es,l,hf,n=>by omega
 |0,i,fuel+1,es,l,hf,n=>by
  rw[O5.eq_2,if_neg (by simp only[decide_eq_true_eq,List.length_map];omega),V1 (by omega)]
  rfl
 |d+1,i,fuel+1,es,l,hf,n=>by
  obtain⟨B,C,A,z⟩:=Q1 (Z1 e)
  have w:i<ps.length:=by omega
  have c:=P4 w
  have m:=C2 c
  generalize ps[i]=p at c m
  have h0:=y0s e h s ps f g o i p c u v (k i p c) a.1.toNat 1 Y0 es (by omega) (by omega) (M1 (by omega)) (by omega)
  have t:=J0g (a:=a) (b:=b) (ps:=ps) (i:=i) (p:=p) (w4 a.1.toNat 1)
  have y:=d04 (eL a b ps i p (w4 a.1.toNat 1)) es
  rw[Z01]at t
  rw[O5.eq_2,if_pos (by simp only[decide_eq_true_eq,List.length_map];omega),show(1:Int)=((1:Nat):Int) from rfl,h0,oB,m,eB,M0g]
  simp only
  rw[show((1:Nat):Int)=1 from rfl,A3 (show i<2000 by omega) (by omega),z0s e h s ps f g o u v k d (i+1) fuel _ (by omega) (by omega) (by omega)]
theorem g0m{a b:j0}(g:M0 a=true)(h:M0 b=true){u v:Int}(k:inR 0 (a.2.1-1) u=true)(l:inR 0 (b.2.1-1) v=true)(ls:List Int):
  ∃ ps:Prs,(pbO a b ls 1601 0 ([(u,v)],[]))=(ps,eB a b ls ps ps 0)/\m08 a b ps/\ps.Nodup/\1<=ps.length/\ps.length<=1600/\∀(j:Nat) (p:Int×Int),ps[j]?=some p->∀ x∈ls,∀ q,stP a b x p=some q->q∈ps:=by
 obtain⟨s,A,e,y⟩:=Q1 (Z1 g)
 obtain⟨w,B,f,z⟩:=Q1 (Z1 h)
 obtain⟨t,m,c,d,n,o⟩:=S0j s w e f ls 1601 0 ([(u,v)],[]) (K0g k l) (by simp) (by simp) (by omega)
 refine⟨[(u,v)]++t,Prod.ext m (by rw[n];simp),c,d,by simp,n08 e f c d,λj p i=>o j p (Nat.zero_le _) i⟩
theorem A0s{a b:j0}(z:a.2.2.length<=140737488355328)(K:b.2.2.length<=140737488355328)(u v:Int):w01 a b u v=some (n0c a b u v):=by
 have s:=q04 a z
 have f2:=q04 b K
 unfold n0c
 have A:M0 a=true->M0 b=true->a.1=b.1->inR 0 (a.2.1-1) u=true->inR 0 (b.2.1-1) v=true->∃ ps:Prs,j01 a b u v=some (ps.map (enP b.2.1)) /\
   (pbO a b (w4 a.1.toNat 1) 1601 0 ([(u,v)],[]))=(ps,eB a b (w4 a.1.toNat 1) ps ps 0)/\ps.length<=1600/\C02 a b (ps.map (enP b.2.1))=some (((eB a b (w4 a.1.toNat 1) ps ps 0).length:Nat):Int)/\(eB a b (w4 a.1.toNat 1) ps ps 0).length<=1600000 /\
   O5 (ps.map (enP b.2.1)) a.1 b.2.1 a.2.1 a.2.2 b.1 b.2.2 Y0 0 a.1 (((ps.map (enP b.2.1)).length:Nat):Int) []=some (a.1,((ps.length:Nat):Int),B5 S0 [] (eB a b (w4 a.1.toNat 1) ps ps 0)):=λd e c i j=>by
  obtain⟨ps,w,y,I,_,n,J⟩:=g0m d e i j (w4 a.1.toNat 1)
  obtain⟨O,P,N,z⟩:=Q1 (Z1 d)
  have m:=z0n d e c (n0s i) (n0s j)
  rw[w]at m
  have h:=w0s d e c ps y n ps.length 0 Y0 0 (by omega) (M1 (by omega)) (by omega)
  have q:=z0s d e c ps y I n a.1 ((ps.length:Nat):Int) J ps.length 0 Y0 [] (by omega) (M1 (by omega)) (by simp;omega)
  rw[List.drop_zero]at h q
  have B:=y0n (a:=a) (b:=b) (ls:=w4 a.1.toNat 1) (ps:=ps) ps 0
  have C:(w4 a.1.toNat 1).length<=1000:=by rw[Z01];omega
  refine⟨ps,m,w,n,?_,Nat.le_trans B (Nat.mul_le_mul n C),?_⟩
  ·unfold C02
   simp only[Int.natCast_zero,Nat.zero_add]at h
   simp only[h,oB]
  ·rw[List.length_map];exact q
 obtain⟨f,k,o⟩:=a
 obtain⟨g,l,p⟩:=b
 unfold w01
 simp only at s f2 A ⊢
 rw[s,oB]
 cases d:M0 (f,k,o)with
 |false=>simp[chk]
 |true =>
  have G:=(Q1 (Z1 d)).2.2.1
  simp only at G
  rw[show(!!true)=true from rfl,Y1,f2,oB]
  cases e:M0 (g,l,p)with
  |false=>simp[chk]
  |true =>
   have H:=(Q1 (Z1 e)).2.2.1
   simp only at H
   by_cases c:f=g
   ·rw[show(!(bif(bif(!true)then true else(!true))then true else(!decide (f=g))))=true by simp[c],Y1,A03,w64 (x:=k-1) (by omega) (by omega),oB]
    cases i:inR 0 (k-1) u with
    |false=>simp[chk]
    |true =>
     rw[show(!(bif(bif(bif(!true)then true else(!true))then true else(!decide (f=g)))then true else(!true)))=true by simp[c],Y1,A03,w64 (x:=l-1) (by omega) (by omega),oB]
     cases j:inR 0 (l-1) v with
     |false=>simp
     |true =>
      obtain⟨ps,D,E,L,F,M,t⟩:=A d e c i j
      rw[if_neg (by simp[c]),D,oB,F,oB,H0 ⟨by omega,by omega⟩,oB,E]
      simp only[List.length_map]at t ⊢
      generalize eB (f,k,o) (g,l,p) (w4 f.toNat 1) ps ps 0=es at *
      have m:decide (((ps.length:Nat):Int)>40)=decide (40<ps.length):=by rw[decide_eq_decide];omega
      have h:decide (((es.length:Nat):Int)>120)=decide (120<es.length):=by rw[decide_eq_decide];omega
      rw[m,h]
      subst c
      cases decide (40<ps.length)<;>cases decide (120<es.length)<;>simp[t,d,e,i,j]
   ·simp[chk,c]
theorem B0s{a b:j0}{ps:Prs}{i:Nat}{p:Int×Int}{e:Q0}:∀ {ls:List Int},e∈eL a b ps i p ls->∃ x∈ls,∃ q,0<x/\stP a b x p=some q/\e=((i:Int),x,lkZ q ps)
 | [],h=>by simp[eL]at h
 |x::r,h=>by
  rw[eL]at h
  rcases List.mem_append.1 h with h|h
  ·cases e2:stP a b x p with
   |none=>rw[e2]at h;simp at h
   |some q =>
    rw[e2]at h
    by_cases c:0<x
    ·simp only[c,decide_true,cond_true,List.mem_singleton]at h
     exact⟨x,mS,q,c,e2,h⟩
    ·simp only[c,decide_false,cond_false]at h
     cases h
  ·obtain⟨y,j,q,d,f,g⟩:=B0s h
   exact⟨y,mC _ j,q,d,f,g⟩
theorem C0s{a b:j0}{ls:List Int}{ps:Prs}{e:Q0}:∀ {r:Prs} {i:Nat},e∈eB a b ls ps r i->∃ j p,r[j]?=some p/\∃ x∈ls,∃ q,0<x/\stP a b x p=some q/\e=(((i+j:Nat):Int),x,lkZ q ps)
 | [],i,h=>by simp[eB]at h
 |p::r,i,h=>by
  rw[eB]at h
  rcases List.mem_append.1 h with h|h
  ·obtain⟨x,g,q,c,d,f⟩:=B0s h
   exact⟨0,p,rfl,x,g,q,c,d,f⟩
  ·obtain⟨j,l,k,x,g,q,c,d,f⟩:=C0s h
   exact⟨j+1,l,by simpa using k,x,g,q,c,d,by rw[f];congr 1;omega⟩
theorem h0m:∀(d i:Nat) (x:Int),x∈w4 d i->1<=i->0<x->1<=x/\x<(i+d:Int)
 |0,i,x,h,a,h0=>by simp[w4]at h
 |d+1,i,x,h,a,h0=>by
  simp only[w4,List.mem_cons]at h
  rcases h with rfl|rfl|h
  ·omega
  ·omega
  ·have:=h0m d (i+1) x h (by omega) h0
   omega
theorem L0u{q:Int×Int}{ps:Prs}(h:q∈ps):0<=lkZ q ps/\lkZ q ps<(ps.length:Int):=by
 obtain⟨k,e⟩:=N0j h
 have:=(List.getElem?_eq_some_iff.1 (R09 e)).1
 unfold lkZ
 rw[e]
 exact⟨by simp,by simp only;omega⟩
theorem O0g{a b:j0}{u v:Int}(h:(n0c a b u v).2=true):T0 (n0c a b u v).1=true:=by
 unfold n0c at h ⊢
 cases c:M0 a&&(M0 b&&(decide (a.1=b.1)&&(inR 0 (a.2.1-1) u&&inR 0 (b.2.1-1) v)))with
 |false=>rw[c]at h;cases h
 |true =>
  rw[c,cond_true]at h
  rw[cond_true]
  simp only[Bool.and_eq_true,decide_eq_true_eq]at c
  obtain⟨d,i,z,k,l⟩:=c
  obtain⟨ps,s,D,E,C,F,t⟩:=g0m d i k l (w4 a.1.toNat 1)
  rw[s]at h ⊢
  simp only at h ⊢
  cases c2:decide (40<ps.length) || decide (120<(eB a b (w4 a.1.toNat 1) ps ps 0).length)with
  |true=>rw[c2]at h;cases h
  |false =>
   rw[cond_false]
   simp only[Bool.or_eq_false_iff,decide_eq_false_iff_not]at c2
   have o:=(Q1 (Z1 d)).2.1
   refine H05 o ⟨by omega,by omega⟩ (by omega) λe m=>?_
   obtain⟨j,p,f,x,g,q,w,y,rfl⟩:=C0s m
   have A:=(List.getElem?_eq_some_iff.1 f).1
   have n:=L0u (t j p f x g q y)
   have B:=h0m _ _ _ g (Nat.le_refl _) w
   simp only
   exact⟨by omega,n,by omega,by omega⟩
theorem x0d{g:j0}(a:T0 g=true):(P06 g).2.2.length<=120:=m0d (I05 40 (p06 a))
def o08(a b:j0):j0×Bool:=bif T1 a&&(T1 b&&(n0c a b 0 0).2)then(P06 (n0c a b 0 0).1,true)else((0,0,[]),false)
theorem A0n{a b:j0}(k:a.2.2.length<=140737488355328)(l:b.2.2.length<=140737488355328):H9 a b=some (o08 a b):=by
 have m:=O06 a k
 have f2:=O06 b l
 have f3:=A0s k l 0 0
 have j:(n0c a b 0 0).2=true->_:=λh=>o09 (O0g h)
 unfold o08
 obtain⟨c,d,e⟩:=a
 obtain⟨f,g,i⟩:=b
 unfold H9
 simp only[m,f2,f3,oB]
 generalize n0c (c,d,e) (f,g,i) 0 0=r at *
 obtain⟨⟨n,o,p⟩,t⟩:=r
 cases h1:T1 (c,d,e)
 ·simp[chk]
 ·cases h2:T1 (f,g,i)
  ·simp[chk]
  ·cases t
   ·simp[chk]
   ·simp only at j
    simp[chk,j]
theorem B0n{a b:j0}(k:a.2.2.length<=140737488355328)(l:b.2.2.length<=140737488355328):J9 a b=some (o08 a b):=by
 have m:=d00 a k
 have f2:=d00 b l
 have f3:=s0s k l 0 0
 have j:(n0c a b 0 0).2=true->_:=λh=>d0e (O0g h)
 unfold o08
 obtain⟨c,d,e⟩:=a
 obtain⟨f,g,i⟩:=b
 unfold J9
 simp only[m,f2,f3,oB]
 generalize n0c (c,d,e) (f,g,i) 0 0=r at *
 obtain⟨⟨n,o,p⟩,t⟩:=r
 cases h1:T1 (c,d,e)
 ·simp[chk]
 ·cases h2:T1 (f,g,i)
  ·simp[chk]
  ·cases t
   ·simp[chk]
   ·simp only at j
    simp[chk,j]
theorem D0s{a b:j0}:(o08 a b).1.2.2.length<=120:=by
 unfold o08
 cases c:T1 a&&(T1 b&&(n0c a b 0 0).2)with
 |false=>simp
 |true =>
  simp only[Bool.and_eq_true]at c
  exact x0d (O0g c.2.2)
def glV(n v:Int):Int:=if v=0 then 0 else n+v-1
def glE(n:Int)(e:Q0):Q0:=(glV n e.1,e.2.1,glV n e.2.2)
def n0e(a b:j0):Bool:=T0 a&&(T0 b&&(decide (a.1=b.1)&&(decide (a.2.1+b.2.1-1<=40)&&decide (a.2.2.length+b.2.2.length<=120))))
def g03(a b:j0):j0×Bool:=bif n0e a b then((a.1,a.2.1+b.2.1-1,B5 S0 [] (a.2.2++b.2.2.map (glE a.2.1))),true)else((0,0,[]),false)
theorem T0j{n m v:Int}(a:1<=n)(b:0<=v/\v<m):0<=glV n v/\glV n v<n+m-1:=by
 unfold glV
 split<;>omega
theorem C0n{a b:j0}(h:n0e a b=true):T0 (a.1,a.2.1+b.2.1-1,B5 S0 [] (a.2.2++b.2.2.map (glE a.2.1)))=true:=by
 unfold n0e at h
 simp only[Bool.and_eq_true,decide_eq_true_eq]at h
 obtain⟨f,g,o,p,q⟩:=h
 obtain⟨j,l,w,u⟩:=Q1 f
 obtain⟨k,y,x,v⟩:=Q1 g
 refine H05 l ⟨by omega,by omega⟩ (by simp;omega) λe c=>?_
 rcases List.mem_append.1 c with c|c
 ·have:=j e c
  simp only
  omega
 ·obtain⟨d,i,rfl⟩:=List.mem_map.1 c
  have:=k d i
  have s:=T0j (n:=a.2.1) (m:=b.2.1) (by omega) this.1
  have t:=T0j (n:=a.2.1) (m:=b.2.1) (by omega) this.2.1
  simp only[glE]
  omega
theorem s0p{a b:j0}(s:T0 a=true)(t:T0 b=true)(r n:Int):∀(d k fuel:Nat) (es:List Q0),k+d=b.2.2.length->d<fuel->es.length+d<=1000 ->
  d4 b.2.2 a.2.1 fuel (k:Int) r n es=some (r,n,B5 S0 es ((b.2.2.drop k).map (glE a.2.1)))
 |d,k,0,es,u,hf,w=>by omega
 |0,k,fuel+1,es,u,hf,w=>by
  rw[d4.eq_2,if_neg (by simp only[decide_eq_true_eq];omega),V1 (by omega)];rfl
 |d+1,k,fuel+1,es,u,hf,w=>by
  obtain⟨N,O,L,J⟩:=Q1 s
  obtain⟨H,P,M,K⟩:=Q1 t
  have A:k<b.2.2.length:=by omega
  have f:=P4 A
  have c:=H _ (List.mem_of_getElem? f)
  have v:=C2 f
  generalize b.2.2[k]=e at f c v
  obtain⟨g,j,i⟩:=e
  have G:=λC h=>s0p s t r n d (k+1) fuel C (by omega) (by omega) h
  have E:=λe=>G05 es e (by omega)
  have D:=λe=>c04 e es
  simp only at c
  have B:∀ z:Int,0<=z->z<b.2.1->IntKind.i64.wrap (IntKind.i64.wrap (z+a.2.1)-1)=a.2.1+z-1:=λz Q R=>by
   rw[w64 (x:=z+a.2.1) (by omega) (by omega),w64 (by omega) (by omega)];omega
  rw[d4.eq_2,if_pos (by simp only[decide_eq_true_eq];omega),B3 f,oB,A3 A (by omega),v,List.map_cons]
  simp only[B g c.1.1 c.1.2,B i c.2.1.1 c.2.1.2,E,oB]
  have q:∀ z:Int,0<=z->(decide (z>0)=true->glV a.2.1 z=a.2.1+z-1)/\(decide (z>0)=false->glV a.2.1 z=z):=λz I=>by
   unfold glV
   simp only[decide_eq_true_eq,decide_eq_false_iff_not]
   exact⟨λh=>by rw[if_neg (by omega)],λh=>by rw[if_pos (by omega)];omega⟩
  obtain⟨l,m⟩:=q g c.1.1
  obtain⟨o,p⟩:=q i c.2.1.1
  have fin:∀ x y,x=glV a.2.1 g->y=glV a.2.1 i->d4 b.2.2 a.2.1 fuel ((k+1:Nat):Int) r n (H01 S0 (x,j,y) es)=some (r,n,B5 S0 es (glE a.2.1 (g,j,i)::(b.2.2.drop (k+1)).map (glE a.2.1))):=λx y f F=>by
   have:=D (x,j,y)
   rw[G _ (by omega),f,F];rfl
  cases c1:decide (g>0)<;>cases c2:decide (i>0)
  ·simp only[Bool.false_eq_true,if_false];exact fin _ _ (m c1).symm (p c2).symm
  ·simp only[Bool.false_eq_true,if_false,if_true];exact fin _ _ (m c1).symm (o c2).symm
  ·simp only[Bool.false_eq_true,if_false,if_true];exact fin _ _ (l c1).symm (p c2).symm
  ·simp only[if_true];exact fin _ _ (l c1).symm (o c2).symm
theorem b0u{a:j0}{z m:Int}(d:1<=a.2.1/\a.2.1<=40)(h:0<=z/\z<m)(g:m<=40):o9 z a=some (glV a.2.1 z):=by
 obtain⟨e,b,f⟩:=a
 simp only at d
 unfold o9 glV
 simp only
 rw[w64 (x:=b+z) (by omega) (by omega),w64 (by omega) (by omega)]
 by_cases c:z=0<;>simp[c]
theorem t0p{a b:j0}(g:T0 a=true)(i:T0 b=true)(r n:Int):∀(d k fuel:Nat) (es:List Q0),k+d=b.2.2.length->d<fuel->es.length+d<=1000 ->
  G6 b.2.2 a.1 a.2.1 a.2.2 fuel (k:Int) r n es=some (r,n,es++(b.2.2.drop k).map (glE a.2.1))
 |d,k,0,es,j,hf,o=>by omega
 |0,k,fuel+1,es,j,hf,o=>by
  rw[G6.eq_2,if_neg (by simp only[decide_eq_true_eq];omega),V1 (by omega)];simp
 |d+1,k,fuel+1,es,j,hf,o=>by
  obtain⟨E,F,q,B⟩:=Q1 g
  obtain⟨v,G,D,C⟩:=Q1 i
  have p:k<b.2.2.length:=by omega
  have f:=P4 p
  have c:=v _ (List.mem_of_getElem? f)
  have l:=C2 f
  generalize b.2.2[k]=e at f c l
  obtain⟨w,x,y⟩:=e
  have u:=λt h=>t0p g i r n d (k+1) fuel t (by omega) (by omega) h
  simp only at c
  have z:=T0j (n:=a.2.1) (m:=b.2.1) (by omega) c.1
  have A:=T0j (n:=a.2.1) (m:=b.2.1) (by omega) c.2.1
  have s:(a.1,a.2.1,a.2.2)=a:=rfl
  rw[G6.eq_2,if_pos (by simp only[decide_eq_true_eq];omega),B3 f,oB,A3 p (by omega),l,List.map_cons]
  simp only[s]
  rw[b0u q c.1 (by omega),oB,H0 ⟨by omega,by omega⟩,oB,b0u q c.2.1 (by omega),oB,H0 ⟨by omega,by omega⟩,oB,H0 (by simp;omega),oB,u _ (by simp;omega)]
  simp[glE]
theorem D0n{a b:j0}(q:a.2.2.length<=1099511627776)(v:b.2.2.length<=1099511627776):y01 a b=some (g03 a b):=by
 have u:=j7 a (by omega)
 have f2:=j7 b (by omega)
 have f3:=v00 a q
 have m:T0 a=true->T0 b=true->_:=λe j=>s0p e j a.1 (a.2.1+b.2.1-1) b.2.2.length 0 Y0 a.2.2 (by omega) (M1 (by omega)) (by have:=(Q1 e).2.2.2;have:=(Q1 j).2.2.2;omega)
 have n:T0 a=true->Asc S0 a.2.2:=λh=>((r00 a).1 h).2.2.2.2
 have o:T0 a=true->(1<=a.2.1/\a.2.1<=40):=λh=>(Q1 h).2.2.1
 have p:T0 b=true->(1<=b.2.1/\b.2.1<=40):=λh=>(Q1 h).2.2.1
 unfold g03 n0e
 obtain⟨k,c,f⟩:=a
 obtain⟨l,d,i⟩:=b
 unfold y01
 simp only at q v m n o p
 simp only[u,f2,f3,oB]
 cases e:T0 (k,c,f)
 ·simp[chk]
 ·cases j:T0 (l,d,i)
  ·simp[chk]
  ·have w:=o e
   have y:=p j
   have g:=m e j
   rw[List.drop_zero,show((0:Nat):Int)=0 from rfl,←i0n (n e)]at g
   rw[w64 (x:=c+d) (by omega) (by omega),w64 (x:=c+d-1) (by omega) (by omega),w64 (x:=((f.length:Nat):Int)+((i.length:Nat):Int)) (by omega) (by omega)]
   have s:decide (c+d-1>40) = !decide (c+d-1<=40):=by rw[←decide_not,decide_eq_decide];omega
   have t:decide (((f.length:Nat):Int)+((i.length:Nat):Int)>120) = !decide (f.length+i.length<=120):=by rw[←decide_not,decide_eq_decide];omega
   simp only[chk,Bool.not_true,Bool.not_false,s,t,oB,g]
   cases decide (k=l)<;>cases decide (c+d-1<=40)<;>cases decide (f.length+i.length<=120)<;>simp
theorem E0n{a b:j0}(q:a.2.2.length<=1099511627776)(v:b.2.2.length<=1099511627776):z01 a b=some (g03 a b):=by
 have u:=M01 a (by omega)
 have f2:=M01 b (by omega)
 have f3:=o02 a q
 have m:T0 a=true->T0 b=true->_:=λc d=>t0p c d a.1 (a.2.1+b.2.1-1) b.2.2.length 0 Y0 a.2.2 (by omega) (M1 (by omega)) (by have:=(Q1 c).2.2.2;have:=(Q1 d).2.2.2;omega)
 have n:T0 a=true->(1<=a.2.1/\a.2.1<=40):=λh=>(Q1 h).2.2.1
 have o:T0 b=true->(1<=b.2.1/\b.2.1<=40):=λh=>(Q1 h).2.2.1
 have p:T0 a=true->T0 b=true->U8 (a.2.2++b.2.2.map (glE a.2.1))=some (B5 S0 [] (a.2.2++b.2.2.map (glE a.2.1))):=λc d=>e09 _ (by have:=(Q1 c).2.2.2;have:=(Q1 d).2.2.2;simp;omega)
 unfold g03 n0e
 obtain⟨k,e,i⟩:=a
 obtain⟨l,f,j⟩:=b
 unfold z01
 simp only at q v m n o p
 simp only[u,f2,f3,oB]
 cases c:T0 (k,e,i)
 ·simp[chk]
 ·cases d:T0 (l,f,j)
  ·simp[chk]
  ·have w:=n c
   have y:=o d
   have g:=m c d
   rw[List.drop_zero,show((0:Nat):Int)=0 from rfl]at g
   rw[w64 (x:=e+f) (by omega) (by omega),w64 (x:=e+f-1) (by omega) (by omega),w64 (x:=((i.length:Nat):Int)+((j.length:Nat):Int)) (by omega) (by omega)]
   have s:decide (e+f-1>40) = !decide (e+f-1<=40):=by rw[←decide_not,decide_eq_decide];omega
   have t:decide (((i.length:Nat):Int)+((j.length:Nat):Int)>120) = !decide (i.length+j.length<=120):=by rw[←decide_not,decide_eq_decide];omega
   simp only[chk,Bool.not_true,Bool.not_false,s,t,oB,g,p c d]
   cases decide (k=l)<;>cases decide (e+f-1<=40)<;>cases decide (i.length+j.length<=120)<;>simp
def p08(a b:j0):j0×Bool:=bif n0e a b&&(T1 a&&T1 b)then(P06 (g03 a b).1,true)else((0,0,[]),false)
theorem U0j{a b:j0}(h:(g03 a b).2=true):T0 (g03 a b).1=true:=by
 unfold g03 at h ⊢
 cases c:n0e a b with
 |false=>rw[c]at h;cases h
 |true=>exact C0n c
theorem E0s{a b:j0}:(p08 a b).1.2.2.length<=120:=by
 unfold p08
 cases c:n0e a b&&(T1 a&&T1 b)with
 |false=>simp
 |true =>
  simp only[Bool.and_eq_true]at c
  refine x0d (U0j ?_)
  unfold g03
  rw[c.1];rfl
theorem F0n{a b:j0}(m:a.2.2.length<=1099511627776)(n:b.2.2.length<=1099511627776):G03 a b=some (p08 a b):=by
 have l:=O06 a (by omega)
 have f2:=O06 b (by omega)
 have f3:=D0n m n
 have j:(g03 a b).2=true->_:=λh=>o09 (U0j h)
 have k:(g03 a b).2=n0e a b:=by unfold g03;cases n0e a b<;>rfl
 unfold p08
 obtain⟨c,d,e⟩:=a
 obtain⟨f,g,i⟩:=b
 unfold G03
 simp only[l,f2,f3,oB]
 generalize g03 (c,d,e) (f,g,i)=r at *
 obtain⟨⟨o,p,q⟩,t⟩:=r
 simp only at k
 rw[←k]
 cases t
 ·simp[chk]
 ·simp only at j
  cases T1 (c,d,e)<;>cases T1 (f,g,i)<;>simp[chk,j]
theorem G0n{a b:j0}(m:a.2.2.length<=1099511627776)(n:b.2.2.length<=1099511627776):H03 a b=some (p08 a b):=by
 have l:=d00 a (by omega)
 have f2:=d00 b (by omega)
 have f3:=E0n m n
 have j:(g03 a b).2=true->_:=λh=>d0e (U0j h)
 have k:(g03 a b).2=n0e a b:=by unfold g03;cases n0e a b<;>rfl
 unfold p08
 obtain⟨c,d,e⟩:=a
 obtain⟨f,g,i⟩:=b
 unfold H03
 simp only[l,f2,f3,oB]
 generalize g03 (c,d,e) (f,g,i)=r at *
 obtain⟨⟨o,p,q⟩,t⟩:=r
 simp only at k
 rw[←k]
 cases t
 ·simp[chk]
 ·simp only at j
  cases T1 (c,d,e)<;>cases T1 (f,g,i)<;>simp[chk,j]
theorem H0n{g:j0}{e:Q0}(f:T0 g=true)(h:T0r g e):T0 (P04 g e).1=true/\(P04 g e).1.1=g.1/\(P04 g e).1.2.1=g.2.1:=by
 obtain⟨i,j,k,t,l⟩:=(r00 g).1 f
 unfold P04
 cases c:decide (g.2.2.length<120) && !decide (e∈g.2.2)
 ·exact⟨f,rfl,rfl⟩
 ·simp only[Bool.and_eq_true,decide_eq_true_eq,Bool.not_eq_true',decide_eq_false_iff_not]at c
  refine⟨(r00 _).2 ⟨λx a=>?_,j,k,?_,I0b P6 _ _ l⟩,rfl,rfl⟩
  ·rcases(i06 P6 _ _ _).1 a with rfl|a
   ·obtain⟨b,d,q,s⟩:=h
    have m:=b.1;have n:=b.2;have o:=d.1;have p:=d.2
    simp only[cond_true]
    refine⟨?_,?_,?_⟩<;>constructor<;>omega
   ·exact i x a
  ·simp only[cond_true]
   rw[m0g e c.2];omega
theorem m0v{bs:List Int}:∀(d fuel:Nat) (g:j0) (q:Int×Int),d<fuel->d<=1000->T0 g=true->okQ bs q ->
  ∃ h i,w7 bs fuel (d:Int) g.1 g.2.1 g.2.2 q=some (h.1,h.2.1,h.2.2,i)/\T0 h=true/\okQ bs i
 |d,0,g,q,hf,_,_,_=>by omega
 |0,fuel+1,g,q,hf,p,a,b=>by
  rw[w7.eq_2,if_neg (by simp)]
  exact⟨g,q,rfl,a,b⟩
 |d+1,fuel+1,g,q,hf,p,a,b=>by
  obtain⟨_,B,C,_⟩:=(r00 g).1 a
  rw[w7.eq_2,if_pos (by simp only[decide_eq_true_eq];omega)]
  obtain⟨x,D,j,e,s⟩:=o01 b (n:=g.2.1) (by omega) (by omega)
  obtain⟨y,E,k,A,t⟩:=o01 s (n:=g.1) (by omega) (by omega)
  obtain⟨z,w,l,f,u⟩:=o01 t (n:=g.2.1) (by omega) (by omega)
  have v:IntKind.i64.wrap (1+y)=1+y:=w64 (by omega) (by omega)
  have c:T0r g (x,1+y,z):=⟨⟨e.1,e.2⟩,⟨f.1,f.2⟩,by simp only;omega,by simp only;omega⟩
  have o:=j0h a c
  obtain⟨m,_,_⟩:=H0n a c
  simp only[j,k,l,oB,v,H0 (show J0 x from⟨by omega,by omega⟩),H0 (show J0 y from⟨by omega,by omega⟩),H0 (show J0 z from⟨by omega,by omega⟩),show(g.1,g.2.1,g.2.2)=g from rfl,o,n0t d (by omega)]
  exact m0v d fuel (P04 g (x,1+y,z)).1 w (by omega) (by omega) m u
theorem G0t{bs:List Int}{q:Int×Int}(k:okQ bs q):Drw bs (h03 bs q) λg=>g.2.2.length<=120:=by
 unfold h03
 refine(w07 k (by decide) (by decide)).bind λr v a l=>?_
 have a:1<=r/\r<=3:=(by decide:∀ x∈([1,2,2,2,3]:List Int),1<=x/\x<=3) r a
 refine .grd ⟨by omega,by omega⟩ ((o01 l (by decide) (by decide)).bind λn w u o => .grd ⟨by omega,by omega⟩ ((o01 o (by decide) (by decide)).bind λm b j p => .grd ⟨by omega,by omega⟩ ?_))
 obtain⟨d,rfl⟩:=Int.eq_ofNat_of_zero_le j.1
 rw[w64 (x:=1+n) (by omega) (by omega)]
 have f:T0 (r,1+n,[])=true:=(r00 _).2 ⟨(λe c=>by cases c),a,⟨by simp only;omega,by simp only;omega⟩,by simp,List.Pairwise.nil⟩
 obtain⟨h,t,e,i,s⟩:=m0v d Y0 (r,1+n,[]) b (by unfold Y0;omega) (by omega) f p
 have e:w7 bs Y0 (d:Int) r (1+n) [] b=some (h.1,h.2.1,h.2.2,t):=e
 rw[e]
 exact⟨_,_,rfl,((r00 h).1 i).2.2.2.1,s⟩
theorem F0s{bs:List Int}{q:Int×Int}(f:okQ bs q):Drw bs (s03 bs q) λg=>g.2.2.length<=121:=by
 unfold s03
 refine(G0t f).bind λg j e h=>(o01 h (by decide) (by decide)).bind λx k i b => .grd ⟨by omega,by omega⟩ ?_
 obtain⟨r,n,es⟩:=g
 simp only at e ⊢
 split
 ·refine(w07 b (by decide) (by decide)).bind λy d c a => .grd ((by decide:∀ x∈([(-1),0,1,41]:List Int),J0 x) y c) ⟨_,_,rfl,by simp only;omega,a⟩
 ·split
  ·refine(w07 b (by decide) (by decide)).bind λy d c a => .grd ((by decide:∀ x∈([0,1,4]:List Int),J0 x) y c) ⟨_,_,rfl,by simp only;omega,a⟩
  ·split
   ·refine(o01 b (by decide) (by decide)).bind λy d c a => .grd ⟨by omega,by omega⟩ (.grd (by simp only[List.length_singleton];omega) ⟨_,_,rfl,by simp;omega,a⟩)
   ·exact⟨_,_,rfl,by simp only;omega,b⟩
theorem i0m{r:Int}{a:List (List Int)}:(C0i r a).1.2.2.length<=120:=by
 unfold C0i
 cases h:U00 r a
 ·simp
 ·exact x0d (N0g h)
theorem J0f.sh{a:List (List Int)}(h:J0f a):k06 a:=λw b=>by have:=(h w b).2;omega
theorem M0u{bs:List Int}{q:Int×Int}(c:okQ bs q):Drw bs (v04 bs q) λg=>g.2.2.length<=120:=by
 unfold v04
 refine(w07 c (by decide) (by decide)).bind λr i a d=>?_
 have a:1<=r/\r<=3:=(by decide:∀ x∈([1,2,2,2,2,3]:List Int),1<=x/\x<=3) r a
 refine .grd ⟨by omega,by omega⟩ ((q0o d (by omega) (by omega)).bind λf j b e=>?_)
 have h:=b.2
 simp only[D0i r f (by omega) b.1.sh,oB]
 exact⟨_,_,rfl,i0m,e⟩
theorem N0u{bs:List Int}{q:Int×Int}(h:okQ bs q):Drw bs (w04 bs q) λg=>g.2.2.length<=121:=by
 unfold w04
 refine(U0m h (by decide) (by decide)).bind λb j _ f=>?_
 simp only
 split
 ·exact(F0s f).bind λg i d e=>⟨_,_,rfl,d,e⟩
 ·exact(M0u f).bind λg i d e=>by
   obtain⟨a,b,c⟩:=g
   exact⟨_,_,rfl,by simp only at d ⊢;omega,e⟩
def smL(l:N1):Prop:=l.length<=17/\∀ e∈l,e.1.size<=16/\e.2.2.2.length<=121
theorem smL.sm{l:N1}(h:smL l):r8 l:=⟨by have:=h.1;omega,λe a=>by have:=h.2 e a;omega⟩
theorem O0u{x:N0}{s:ByteArray}{g:j0}(b:x.2.length<=16/\∀ e∈x.2,e.1.size<=16/\e.2.2.2.length<=121)(f:s.size<=16)(d:g.2.2.length<=121):(W6 x s g).1.2.length<=16/\∀ e∈(W6 x s g).1.2,e.1.size<=16/\e.2.2.2.length<=121:=by
 unfold W6
 cases G2 x&&(m00 s&&(decide (g.1=x.1)&&T1 g))
 ·exact b
 cases c:decide (16<(p05 (s,g) x.2).length)
 ·have c:=of_decide_eq_false c
  refine⟨by simp only[cond_true,cond_false];omega,λe a=>?_⟩
  rcases n09 _ _ _ a with rfl|a
  ·exact⟨f,d⟩
  ·exact b.2 e a
 ·exact b
theorem c0u{bs:List Int}{a:Int}(E:1<=a/\a<=3):∀(d fuel:Nat) (x:N0) (q:Int×Int),d<fuel->d<=1000->(x.2.length<=16/\∀ e∈x.2,e.1.size<=16/\e.2.2.2.length<=121)->okQ bs q ->
  ∃(y:N0) (t:Int×Int),P5 bs a fuel (d:Int) x.1 x.2 q=some (y.1,y.2,t)/\(y.2.length<=16/\∀ e∈y.2,e.1.size<=16/\e.2.2.2.length<=121)/\okQ bs t
 |d,0,x,q,hf,_,_,_=>by omega
 |0,fuel+1,x,q,hf,B,c,k=>by
  rw[P5.eq_2,if_neg (by simp)]
  exact⟨x,q,rfl,c,k⟩
 |d+1,fuel+1,x,q,hf,B,c,k=>by
  rw[P5.eq_2,if_pos (by simp only[decide_eq_true_eq];omega)]
  obtain⟨n,I,u,p,C⟩:=q0o k (rank:=a) (by omega) (by omega)
  have H:=p.2
  have o:=D0i a n (by omega) p.1.sh
  have f:(C0i a n).1.2.2.length<=120:=i0m
  obtain⟨s,F,v,m,D⟩:=t0j C (l:=[(⟨#[104]⟩:ByteArray),(⟨#[107]⟩:ByteArray),(⟨#[109]⟩:ByteArray),(⟨#[110,50]⟩:ByteArray)]) (by decide) (by decide)
  have m:s.size<=16:=(by decide:∀ x∈[(⟨#[104]⟩:ByteArray),(⟨#[107]⟩:ByteArray),(⟨#[109]⟩:ByteArray),(⟨#[110,50]⟩:ByteArray)],x.size<=16) s m
  generalize C0i a n=G at o f
  obtain⟨⟨h,i,j⟩,b⟩:=G
  have w:=p0d x s (h,i,j) ⟨by have:=c.1;omega,λe A=>by have:=c.2 e A;omega⟩ (by omega) (by simp only at f ⊢;omega)
  have z:=O0u (s:=s) (g:=(h,i,j)) c m (by simp only at f ⊢;omega)
  simp only[u,o,v,oB,H0 (show s.size<=9223372036854775807 by omega),show(x.1,x.2)=x from rfl,w,n0t d (by omega)]
  exact c0u E d fuel (W6 x s (h,i,j)).1 F (by omega) (by omega) z D
theorem o0c(n:Int):t00 n=some (bif inR 1 3 n then((n,[]),true)else((0,[]),false)):=by
 unfold t00
 rw[A03,oB]
 cases inR 1 3 n<;>rfl
def K05(a:ByteArray)(x y:j0):j0×Bool:=bif b9 a (⟨#[109,101,101,116]⟩:ByteArray)then o08 x y else bif b9 a (⟨#[106,111,105,110]⟩:ByteArray)then p08 x y else((0,0,[]),false)
def S04(l:N0)(name c a b:ByteArray):N0×Bool :=
 bif G2 l&&((I2 l a).2&&((I2 l b).2&&(K05 c (I2 l a).1 (I2 l b).1).2))then W6 l name (K05 c (I2 l a).1 (I2 l b).1).1 else(l,false)
theorem y0d(a:ByteArray)(x y:j0):(K05 a x y).1.2.2.length<=120:=by
 unfold K05
 cases b9 a (⟨#[109,101,101,116]⟩:ByteArray)
 ·cases b9 a (⟨#[106,111,105,110]⟩:ByteArray)
  ·simp
  ·exact E0s
 ·exact D0s
theorem r06{l:N0}(b:r8 l.2)(s:ByteArray):(I2 l s).1.2.2.length<=1048576:=by
 unfold I2
 cases a02 l s with
 |none=>simp[zG]
 |some i =>
  simp only
  cases e:l.2[i]? with
  |none=>simp[zG]
  |some a=>exact(b.2 a (List.mem_of_getElem? e)).2
theorem n0h(l:N0)(name e a b:ByteArray)(d:r8 l.2)(q:name.size<=1048576):I9 l name e a b=some (S04 l name e a b):=by
 have y:=r06 d a
 have A:=r06 d b
 have o:=r03 l a d
 have f2:=r03 l b d
 have f3:=h01 l d.ok
 have p:=I0e l d
 have f:=A0n (a:=(I2 l a).1) (b:=(I2 l b).1) (by omega) (by omega)
 have g:=F0n (a:=(I2 l a).1) (b:=(I2 l b).1) (by omega) (by omega)
 have c:=p0d l name (K05 e (I2 l a).1 (I2 l b).1).1 d q (by have:=y0d e (I2 l a).1 (I2 l b).1;omega)
 unfold S04
 unfold K05 at c ⊢
 obtain⟨r,es⟩:=l
 unfold I9
 simp only[o,f2,f3,p,oB]
 generalize I2 (r,es) a=q1 at *
 generalize I2 (r,es) b=q2 at *
 obtain⟨⟨h,i,j⟩,s⟩:=q1
 obtain⟨⟨k,m,n⟩,u⟩:=q2
 simp only at f g c ⊢
 cases h1:G2 (r,es)
 ·simp
 ·cases s
  ·simp
  ·cases u
   ·simp
   ·rw[if_neg (by simp)]
    cases h2:b9 e (⟨#[109,101,101,116]⟩:ByteArray)
    ·rw[if_neg (by simp)]
     rw[h2]at c
     cases h3:b9 e (⟨#[106,111,105,110]⟩:ByteArray)
     ·rw[if_neg (by simp)]
      simp
     ·rw[if_pos rfl,g,oB]
      rw[h3]at c
      simp only[cond_false,cond_true]at c ⊢
      generalize p08 (h,i,j) (k,m,n)=z at *
      obtain⟨⟨v,w,x⟩,t⟩:=z
      cases t
      ·simp
      ·simp only at c
       simp[c]
    ·rw[if_pos rfl,f,oB]
     rw[h2]at c
     simp only[cond_false,cond_true]at c ⊢
     generalize o08 (h,i,j) (k,m,n)=z at *
     obtain⟨⟨v,w,x⟩,t⟩:=z
     cases t
     ·simp
     ·simp only at c
      simp[c]
theorem o0h(l:N0)(name e a b:ByteArray)(d:r8 l.2)(q:name.size<=1048576):K9 l name e a b=some (S04 l name e a b):=by
 have y:=r06 d a
 have A:=r06 d b
 have o:=q03 l a d
 have f2:=q03 l b d
 have f3:=w00 l d.ok
 have p:=C0j l d
 have f:=B0n (a:=(I2 l a).1) (b:=(I2 l b).1) (by omega) (by omega)
 have g:=G0n (a:=(I2 l a).1) (b:=(I2 l b).1) (by omega) (by omega)
 have c:=h0i l name (K05 e (I2 l a).1 (I2 l b).1).1 d q (by have:=y0d e (I2 l a).1 (I2 l b).1;omega)
 unfold S04
 unfold K05 at c ⊢
 obtain⟨r,es⟩:=l
 unfold K9
 simp only[o,f2,f3,p,oB]
 generalize I2 (r,es) a=q1 at *
 generalize I2 (r,es) b=q2 at *
 obtain⟨⟨h,i,j⟩,s⟩:=q1
 obtain⟨⟨k,m,n⟩,u⟩:=q2
 simp only at f g c ⊢
 cases h1:G2 (r,es)
 ·simp
 ·cases s
  ·simp
  ·cases u
   ·simp
   ·rw[if_neg (by simp)]
    cases h2:b9 e (⟨#[109,101,101,116]⟩:ByteArray)
    ·rw[if_neg (by simp)]
     rw[h2]at c
     cases h3:b9 e (⟨#[106,111,105,110]⟩:ByteArray)
     ·rw[if_neg (by simp)]
      simp
     ·rw[if_pos rfl,g,oB]
      rw[h3]at c
      simp only[cond_false,cond_true]at c ⊢
      generalize p08 (h,i,j) (k,m,n)=z at *
      obtain⟨⟨v,w,x⟩,t⟩:=z
      cases t
      ·simp
      ·simp only at c
       simp[c]
    ·rw[if_pos rfl,f,oB]
     rw[h2]at c
     simp only[cond_false,cond_true]at c ⊢
     generalize o08 (h,i,j) (k,m,n)=z at *
     obtain⟨⟨v,w,x⟩,t⟩:=z
     cases t
     ·simp
     ·simp only at c
      simp[c]
theorem V0j(n:Int):C01 n=some (bif inR 1 3 n then((n,[]),true)else((0,[]),false)):=by
 unfold C01
 rw[j06,oB]
 cases inR 1 3 n<;>rfl
theorem n0v{bs:List Int}{q:Int×Int}(g:okQ bs q):Drw bs (A01 bs q) λx=>x.2.length<=16/\∀ e∈x.2,e.1.size<=16/\e.2.2.2.length<=121:=by
 unfold A01
 refine(w07 g (by decide) (by decide)).bind λr n a h=>?_
 have a:1<=r/\r<=3:=(by decide:∀ x∈([2,2,2,3]:List Int),1<=x/\x<=3) r a
 refine .grd ⟨by omega,by omega⟩ ?_
 rw[o0c,show inR 1 3 r=true from by simp only[inR,Bool.and_eq_true,decide_eq_true_eq];omega,oB]
 refine(o01 h (by decide) (by decide)).bind λm b f i => .grd ⟨by omega,by omega⟩ ?_
 obtain⟨d,rfl⟩:=Int.eq_ofNat_of_zero_le f.1
 obtain⟨y,l,e,k,j⟩:=c0u a d Y0 (r,[]) b (by unfold Y0;omega) (by omega) ⟨by simp,λe c=>nomatch c⟩ i
 have e:P5 bs r Y0 (d:Int) r [] b=some (y.1,y.2,l):=e
 rw[e]
 exact⟨_,_,rfl,k,j⟩
theorem P0g{bs:List Int}{q:Int×Int}(m:okQ bs q):Drw bs (e00 bs q) λx=>smL x.2:=by
 unfold e00
 refine(n0v m).bind λx A b n=>?_
 obtain⟨r,l⟩:=x
 refine(o01 n (by decide) (by decide)).bind λk B w c => .grd ⟨by omega,by omega⟩ ?_
 have i:smL l:=⟨by have:=b.1;simp only at this;omega,b.2⟩
 simp only
 split
 ·exact(o01 c (by decide) (by decide)).bind λy p z d => .grd ⟨by omega,by omega⟩ ⟨_,_,rfl,i,d⟩
 ·split
  ·refine(t0j c (l:=[(⟨#[]⟩:ByteArray),(⟨#[104]⟩:ByteArray),(⟨#[90]⟩:ByteArray),(⟨#[122,122]⟩:ByteArray)]) (by decide) (by decide)).bind λs p f d=>?_
   have f:s.size<=16:=(by decide:∀ x∈[(⟨#[]⟩:ByteArray),(⟨#[104]⟩:ByteArray),(⟨#[90]⟩:ByteArray),(⟨#[122,122]⟩:ByteArray)],x.size<=16) s f
   refine .grd (show s.size<=9223372036854775807 by omega) ((F0s d).bind λg C j o=>?_)
   obtain⟨t,u,v⟩:=g
   have h:=b.1
   refine .grd (by simp only at h ⊢;simp;omega) ⟨_,_,rfl,⟨by simp only at h ⊢;simp;omega,λe a=>?_⟩,o⟩
   rcases List.mem_append.1 a with a|a
   ·exact b.2 e a
   ·rw[List.mem_singleton.1 a];exact⟨f,j⟩
  ·exact⟨_,_,rfl,i,c⟩
theorem Q0g{bs:List Int}{q:Int×Int}(b:okQ bs q):Drw bs (g9 bs q) λs=>s.size<=16:=by
 unfold g9
 refine(t0j b (by decide) (by decide)).bind λs d a c=>?_
 have a:s.size<=16:=(by decide:∀ x∈[(⟨#[104]⟩:ByteArray),(⟨#[104]⟩:ByteArray),(⟨#[107]⟩:ByteArray),(⟨#[109]⟩:ByteArray),(⟨#[110,50]⟩:ByteArray),(⟨#[122]⟩:ByteArray),(⟨#[]⟩:ByteArray),(⟨#[72]⟩:ByteArray),(⟨#[50,97]⟩:ByteArray),(⟨#[116,111,111,108,111,110,103,110,97,109,101]⟩:ByteArray)],x.size<=16) s a
 exact .grd (by omega) ⟨_,_,rfl,a,c⟩
theorem P0u{bs:List Int}(d:bs.length<=1048576):∃ x s g,A00 bs=some (x,s,g)/\smL x.2/\s.size<=16/\g.2.2.length<=121:=by
 obtain⟨q,e,h⟩:=f0l d
 obtain⟨x,n,a,l,i⟩:=P0g h
 obtain⟨s,o,b,k,j⟩:=Q0g i
 obtain⟨g,p,c,f,m⟩:=N0u j
 refine⟨x,s,g,?_,l,k,f⟩
 unfold A00
 simp only[e,a,b,c,oB,H0 (show s.size<=9223372036854775807 by omega)]
theorem H0t{bs:List Int}(k:bs.length<=1048576):∃ x n o a b,D7 bs=some (x,n,o,a,b)/\smL x.2/\n.size<=16/\o.size<=16/\a.size<=16/\b.size<=16:=by
 obtain⟨q,e,s⟩:=f0l k
 obtain⟨x,A,d,y,t⟩:=P0g s
 obtain⟨a,B,f,j,u⟩:=Q0g t
 obtain⟨b,C,g,m,v⟩:=Q0g u
 obtain⟨n,D,h,p,w⟩:=Q0g v
 obtain⟨o,E,i,c,z⟩:=t0j w (l:=[(⟨#[109,101,101,116]⟩:ByteArray),(⟨#[106,111,105,110]⟩:ByteArray),(⟨#[109,101,101,116]⟩:ByteArray),(⟨#[106,111,105,110]⟩:ByteArray),(⟨#[115,117,109]⟩:ByteArray)]) (by decide) (by decide)
 have c:o.size<=16:=(by decide:∀ x∈[(⟨#[109,101,101,116]⟩:ByteArray),(⟨#[106,111,105,110]⟩:ByteArray),(⟨#[109,101,101,116]⟩:ByteArray),(⟨#[106,111,105,110]⟩:ByteArray),(⟨#[115,117,109]⟩:ByteArray)],x.size<=16) o c
 refine⟨x,n,o,a,b,?_,y,p,c,j,m⟩
 unfold D7
 simp only[e,d,f,g,h,i,oB,H0 (show a.size<=9223372036854775807 by omega),H0 (show b.size<=9223372036854775807 by omega),H0 (show n.size<=9223372036854775807 by omega),H0 (show o.size<=9223372036854775807 by omega)]
theorem W0j{bs:List Int}(c:bs.length<=1048576):∃ x s,Y00 bs=some (x,s)/\smL x.2/\s.size<=16:=by
 obtain⟨q,e,d⟩:=f0l c
 obtain⟨x,j,a,h,f⟩:=P0g d
 obtain⟨s,k,b,g,i⟩:=Q0g f
 refine⟨x,s,?_,h,g⟩
 unfold Y00
 simp only[e,a,b,oB,H0 (show s.size<=9223372036854775807 by omega)]
theorem I0t{bs:List Int}(a:bs.length<=1048576):∃ x s,B01 bs=some (x,s)/\smL x.2/\s.size<=16:=by
 obtain⟨x,s,e,c,b⟩:=W0j a
 refine⟨x,s,?_,c,b⟩
 unfold B01
 simp only[e,oB,H0 (show s.size<=9223372036854775807 by omega)]
theorem J0t{bs:List Int}(a:bs.length<=1048576):∃ x s,p00 bs=some (x,s)/\smL x.2/\s.size<=16:=by
 obtain⟨x,s,e,c,b⟩:=W0j a
 refine⟨x,s,?_,c,b⟩
 unfold p00
 simp only[e,oB,H0 (show s.size<=9223372036854775807 by omega)]
theorem G0s{bs:List Int}(a:bs.length<=1048576):∃ x s,h9 bs=some (x,s)/\smL x.2/\s.size<=16:=by
 obtain⟨x,s,e,c,b⟩:=W0j a
 refine⟨x,s,?_,c,b⟩
 unfold h9
 simp only[e,oB,H0 (show s.size<=9223372036854775807 by omega)]
theorem Q0u{bs:List Int}(b:bs.length<=1048576):∃ n,L9 bs=some n/\J0 n:=by
 obtain⟨q,e,c⟩:=f0l b
 obtain⟨x,g,a,f,d⟩:=o01 c (n:=6) (by decide) (by decide)
 refine⟨IntKind.i64.wrap (x-1),?_,I0 _⟩
 unfold L9
 simp only[e,a,oB,H0 (show J0 x from⟨by omega,by omega⟩)]
theorem o0v{bs:List Int}(g:bs.length<=1048576):∃ x y,E7 bs=some (x,y)/\smL x.2/\smL y.2:=by
 obtain⟨q,e,h⟩:=f0l g
 obtain⟨x,m,c,a,i⟩:=P0g h
 obtain⟨b,o,d,_,j⟩:=U0m i (n:=2) (by decide) (by decide)
 obtain⟨y,p,f,k,l⟩:=P0g j
 unfold E7
 cases b
 ·refine⟨x,y,?_,a,k⟩
  simp only[e,c,d,f,oB];rfl
 ·refine⟨x,x,?_,a,a⟩
  simp only[e,c,d,oB,if_true,show(x.1,x.2)=x from rfl,I0e x a.sm]
theorem E0i(x y:N1)(w:x.length=y.length)(g:r8 x):∀(d k fuel:Nat),k+d=x.length->d<fuel->R4 x y fuel (k:Int)=some (if x.drop k=y.drop k then .inr ()else .inl false)
 |d,k,0,p,hf=>by omega
 |0,k,fuel+1,p,hf=>by
  rw[R4.eq_2,if_neg (by simp only[decide_eq_true_eq];omega),V1 (by omega),V1 (by omega),if_pos rfl]
 |d+1,k,fuel+1,p,hf=>by
  have f:k<x.length:=by omega
  have t:k<y.length:=by omega
  have a:=P4 f
  have b:=P4 t
  have q:=g.2 _ (List.getElem_mem f)
  have z:=g.1
  rw[C2 a,C2 b]
  generalize x[k]=e at a q
  generalize y[k]=e' at b
  obtain⟨s,i,j,l⟩:=e
  obtain⟨s',m,n,o⟩:=e'
  have u:=K09 (i,j,l) (m,n,o) (by simp only at q ⊢;omega)
  rw[R4.eq_2,if_pos (by simp only[decide_eq_true_eq];omega)]
  simp only[B3 a,B3 b,oB]
  by_cases c:s=s'
  ·subst c
   simp only[N6.2 rfl,Bool.not_true,Bool.not_false,Y1,oB,u,T0b,cond_false]
   by_cases c2:((i,j,l):j0)=(m,n,o)
   ·rw[decide_eq_true c2,if_neg (by simp),A3 f (by omega),E0i x y w g d (k+1) fuel (by omega) (by omega),c2]
    simp only[List.cons.injEq,true_and]
   ·rw[decide_eq_false c2,if_pos (by simp),if_neg (by simp only[List.cons.injEq,Prod.mk.injEq]at c2 ⊢;simp only[true_and];exact λh=>c2 h.1)]
  ·have v:b9 s s'=false:=Bool.eq_false_iff.2 λh=>c (N6.1 h)
   simp only[v,Bool.not_false,Bool.not_true,T2,oB,cond_true,if_true]
   rw[if_neg (by simp only[List.cons.injEq,Prod.mk.injEq];exact λh=>c h.1.1)]
theorem F0i(x y:N0)(a:r8 x.2):V3 x y=some (decide (x=y)):=by
 obtain⟨r,l⟩:=x
 obtain⟨d,b⟩:=y
 unfold V3
 simp only at a ⊢
 by_cases c:r=d
 ·subst c
  by_cases c2:l.length=b.length
  ·have h:=E0i l b c2 a l.length 0 Y0 (by omega) (by have:=a.1;unfold Y0;omega)
   rw[if_neg (by simp[c2]),show(0:Int)=((0:Nat):Int) from rfl,h]
   by_cases c3:l=b
   ·simp[c3,h8]
   ·simp[c3,h8]
  ·rw[if_pos (by simp;omega),decide_eq_false λe=>c2 (by cases e;rfl)]
 ·rw[if_pos (by simp[c]),decide_eq_false λe=>c (by cases e;rfl)]
theorem G0i(x y:N1)(w:x.length=y.length)(g:r8 x):∀(d k fuel:Nat),k+d=x.length->d<fuel->T4 x y fuel (k:Int)=some (if x.drop k=y.drop k then .inr ()else .inl false)
 |d,k,0,p,hf=>by omega
 |0,k,fuel+1,p,hf=>by
  rw[T4.eq_2,if_neg (by simp only[decide_eq_true_eq];omega),V1 (by omega),V1 (by omega),if_pos rfl]
 |d+1,k,fuel+1,p,hf=>by
  have f:k<x.length:=by omega
  have t:k<y.length:=by omega
  have a:=P4 f
  have b:=P4 t
  have q:=g.2 _ (List.getElem_mem f)
  have z:=g.1
  rw[C2 a,C2 b]
  generalize x[k]=e at a q
  generalize y[k]=e' at b
  obtain⟨s,i,j,l⟩:=e
  obtain⟨s',m,n,o⟩:=e'
  have u:=Z0h (i,j,l) (m,n,o) (by simp only at q ⊢;omega)
  rw[T4.eq_2,if_pos (by simp only[decide_eq_true_eq];omega)]
  simp only[B3 a,B3 b,oB]
  by_cases c:s=s'
  ·subst c
   simp only[N6.2 rfl,Bool.not_true,Bool.not_false,Y1,oB,u,T0b,cond_false]
   by_cases c2:((i,j,l):j0)=(m,n,o)
   ·rw[decide_eq_true c2,if_neg (by simp),A3 f (by omega),G0i x y w g d (k+1) fuel (by omega) (by omega),c2]
    simp only[List.cons.injEq,true_and]
   ·rw[decide_eq_false c2,if_pos (by simp),if_neg (by simp only[List.cons.injEq,Prod.mk.injEq]at c2 ⊢;simp only[true_and];exact λh=>c2 h.1)]
  ·have v:b9 s s'=false:=Bool.eq_false_iff.2 λh=>c (N6.1 h)
   simp only[v,Bool.not_false,Bool.not_true,T2,oB,cond_true,if_true]
   rw[if_neg (by simp only[List.cons.injEq,Prod.mk.injEq];exact λh=>c h.1.1)]
theorem y0q(x y:N0)(a:r8 x.2):M9 x y=some (decide (x=y)):=by
 obtain⟨r,l⟩:=x
 obtain⟨d,b⟩:=y
 unfold M9
 simp only at a ⊢
 by_cases c:r=d
 ·subst c
  by_cases c2:l.length=b.length
  ·have h:=G0i l b c2 a l.length 0 Y0 (by omega) (by have:=a.1;unfold Y0;omega)
   rw[if_neg (by simp[c2]),show(0:Int)=((0:Nat):Int) from rfl,h]
   by_cases c3:l=b
   ·simp[c3,h8]
   ·simp[c3,h8]
  ·rw[if_pos (by simp;omega),decide_eq_false λe=>c2 (by cases e;rfl)]
 ·rw[if_pos (by simp[c]),decide_eq_false λe=>c (by cases e;rfl)]
theorem p0c{x:N0}(a:r8 x.2):V3 x x=some true:=by rw[F0i x x a,decide_eq_true rfl]
theorem H0s(l:List ByteArray)(c:l.length<=1000):∀(d k fuel:Nat),k+d=l.length->d<fuel->d7 l l fuel (k:Int)=some (.inr ())
 |d,k,0,a,hf=>by omega
 |0,k,fuel+1,a,hf=>by rw[d7.eq_2,if_neg (by simp only[decide_eq_true_eq];omega)]
 |d+1,k,fuel+1,a,hf=>by
  have b:k<l.length:=by omega
  rw[d7.eq_2,if_pos (by simp only[decide_eq_true_eq];omega)]
  simp only[B3 (P4 b),oB,N6.2 rfl,A3 b (show l.length<=9223372036854775807 by omega)]
  rw[if_neg (by simp)]
  exact H0s l c d (k+1) fuel (by omega) (by omega)
theorem R0u(l:List ByteArray)(a:l.length<=1000):f02 l l=some true:=by
 have h:=H0s l a l.length 0 Y0 (by omega) (by unfold Y0;omega)
 unfold f02
 rw[if_neg (by simp),show(0:Int)=((0:Nat):Int) from rfl,h];rfl
theorem u0p{x:N0}{s:ByteArray}{g:j0}(b:smL x.2)(f:s.size<=16)(d:g.2.2.length<=121):smL (W6 x s g).1.2:=by
 unfold W6
 cases G2 x&&(m00 s&&(decide (g.1=x.1)&&T1 g))
 ·exact b
 cases c:decide (16<(p05 (s,g) x.2).length)
 ·have c:=of_decide_eq_false c
  refine⟨by simp only[cond_true,cond_false];omega,λe a=>?_⟩
  rcases n09 _ _ _ a with rfl|a
  ·exact⟨f,d⟩
  ·exact b.2 e a
 ·exact b
theorem I0s{x:N0}{n o a b:ByteArray}(c:smL x.2)(d:n.size<=16):smL (S04 x n o a b).1.2:=by
 unfold S04
 cases G2 x&&((I2 x a).2&&((I2 x b).2&&(K05 o (I2 x a).1 (I2 x b).1).2))
 ·exact c
 ·exact u0p c d (by have:=y0d o (I2 x a).1 (I2 x b).1;omega)
theorem j0m{x:N0}{s:ByteArray}(a:smL x.2):smL (r01 x s).1.2:=by
 unfold r01
 cases G2 x
 ·exact a
 cases a02 x s with
 |none=>exact a
 |some i =>
  have b:=b0m x.2 i
  exact⟨by have:=b.length_le;have:=a.1;simp only[cond_true];omega,λe c=>a.2 e (b.mem c)⟩
theorem H0i(g:j0):∀ l:N1,(R04 g l).length<=l.length
 | []=>Nat.le_refl _
 |e::l=>by
  have:=H0i g l
  unfold R04
  cases a7 e.2 g<;>simp only[cond_true,cond_false,List.length_cons]<;>omega
theorem v0p{x:N0}{s:ByteArray}(a:smL x.2):(l7 x s).length<=17:=by
 unfold l7
 have:=H0i (I2 x s).1 x.2
 have:=a.1
 cases (I2 x s).2&&G2 x
 ·simp
 ·simp only[cond_true];omega
theorem p0v(c:N0)(a:r8 c.2)(n:ByteArray)(l:List ByteArray)(q:l.length<=1000)(i:∀ s∈l,a7 (I2 c s).1 (I2 c n).1=true):∀(d k fuel:Nat),k+d=l.length->d<fuel ->
  w5 l c.1 c.2 n fuel (k:Int)=some (.inr ())
 |d,k,0,h,hf=>by omega
 |0,k,fuel+1,h,hf=>by rw[w5.eq_2,if_neg (by simp only[decide_eq_true_eq];omega)]
 |d+1,k,fuel+1,h,hf=>by
  have e:k<l.length:=by omega
  have b:=i _ (List.getElem_mem e)
  have j:=r06 a l[k]
  have m:=r06 a n
  have f:=r03 c l[k] a
  have g:=r03 c n a
  generalize I2 c l[k]=p at b j f
  generalize I2 c n=r at b m g
  obtain⟨⟨t,u,v⟩,z⟩:=p
  obtain⟨⟨w,x,y⟩,A⟩:=r
  have o:=l09 (t,u,v) (w,x,y) (by simp only at j ⊢;omega) (by simp only at m ⊢;omega)
  rw[w5.eq_2,if_pos (by simp only[decide_eq_true_eq];omega)]
  simp only[B3 (P4 e),oB,show(c.1,c.2)=c from rfl,f,g,o,b,A3 e (show l.length<=9223372036854775807 by omega)]
  rw[if_neg (by simp)]
  exact p0v c a n l q i d (k+1) fuel (by omega) (by omega)
theorem K0t(bs:List Int):Z00 bs=some true:=by
 rcases Nat.lt_or_ge 1048576 bs.length with k|k
 ·have H:a8 bs=some (.inl true):=by
   unfold a8 T04
   rw[oB,if_pos (by simp only[decide_eq_true_eq];omega)]
  unfold Z00
  rw[H];rfl
 have aA:T04 bs=some false:=by unfold T04;rw[decide_eq_false (by omega)]
 obtain⟨x,s,g,aB,C,L,Z⟩:=P0u k
 have ah:=h0i x s g C.sm (by omega) (by omega)
 have ai:=p0d x s g C.sm (by omega) (by omega)
 have aP:=w00 x C.sm.ok
 have aQ:=h01 x C.sm.ok
 have aU:=i08 s (by omega)
 have aV:=h08 s (by omega)
 have p:=u0p C L Z
 have aa:(W6 x s g).2=true->_:=λh=>z0t (y:=(W6 x s g).1) (by rw[←h])
 generalize W6 x s g=y at ah ai p aa
 obtain⟨⟨E,F⟩,ba⟩:=y
 have aY:=p0c (x:=(E,F)) p.sm
 obtain⟨bI,bJ⟩:=x
 obtain⟨S,T,U⟩:=g
 obtain⟨m,n,o,a,b,aC,J,aO,bx,br,bt⟩:=H0t k
 have N:=o0h m n o a b J.sm (by omega)
 have O:=n0h m n o a b J.sm (by omega)
 have q:=I0s (o:=o) (a:=a) (b:=b) J aO
 generalize S04 m n o a b=c at N O q
 obtain⟨⟨l,d⟩,aS⟩:=c
 have aZ:=p0c (x:=(l,d)) q.sm
 have aW:=c0e (l,d) n q.sm
 have bv:(l7 (l,d) n).length<=17:=v0p (x:=(l,d)) q
 have aX:w5 (l7 (l,d) n) l d n Y0 0=some (.inr ()):=p0v (l,d) q.sm n _ (by omega) (λs L=>u0n L) (l7 (l,d) n).length 0 Y0 (by omega) (by unfold Y0;omega)
 obtain⟨bB,bC⟩:=m
 obtain⟨u,v,aD,M,bA⟩:=I0t k
 have ae:=q03 u v M.sm
 have af:=r03 u v M.sm
 have ag:=r06 M.sm v
 generalize I2 u v=w at ae af ag
 obtain⟨⟨w0,ao,ap⟩,bH⟩:=w
 have a0:D5 (w0,ao,ap) (w0,ao,ap)=some true:=by rw[K09 _ _ (by simp only at ag ⊢;omega)];simp[T0b]
 obtain⟨bF,bG⟩:=u
 obtain⟨f,t,aE,hf,bz⟩:=J0t k
 have P:=i0g f t hf.sm
 have Q:=g0n f t hf.sm
 have R:=j0m (s:=t) hf
 generalize r01 f t=z at P Q R
 obtain⟨⟨bb,bc⟩,bM⟩:=z
 have a1:=p0c (x:=(bb,bc)) R.sm
 obtain⟨bo,bp⟩:=f
 obtain⟨r,i,aF,K,bu⟩:=G0s k
 have a2:=c0e r i K.sm
 have a3:=Y0l r i K.sm
 have a4:=R0u (l7 r i) (by have:=v0p (s:=i) K;omega)
 obtain⟨bD,bE⟩:=r
 obtain⟨j,aG,aN⟩:=Q0u k
 have ac:=V0j j
 have ad:=o0c j
 have D:∀ G:N0×Bool,G=(bif inR 1 3 j then((j,[]),true)else((0,[]),false))->V3 G.1 G.1=some true:=λG Y=>by
  refine p0c ⟨?_,?_⟩
  ·rw[Y];cases inR 1 3 j<;>simp
  ·rw[Y];cases inR 1 3 j<;>exact λe aM=>nomatch aM
 generalize (bif inR 1 3 j then(((j,[]),true):N0×Bool)else((0,[]),false))=G at ac ad D
 obtain⟨⟨bh,bi⟩,bj⟩:=G
 have D:=D _ rfl
 obtain⟨A,B,aH,X,bq⟩:=o0v k
 have d:=F0i A B X.sm
 have aR:=y0q A B X.sm
 obtain⟨bd,be⟩:=A
 obtain⟨bf,bg⟩:=B
 simp only at D
 have S1:(grd (s.size<=9223372036854775807))=some ():=H0 (by omega)
 have S2:(grd (n.size<=9223372036854775807))=some ():=H0 (by omega)
 have ar:(grd (o.size<=9223372036854775807))=some ():=H0 (by omega)
 have au:(grd (a.size<=9223372036854775807))=some ():=H0 (by omega)
 have av:(grd (b.size<=9223372036854775807))=some ():=H0 (by omega)
 have aw:(grd (v.size<=9223372036854775807))=some ():=H0 (by omega)
 have ax:(grd (t.size<=9223372036854775807))=some ():=H0 (by omega)
 have ay:(grd (i.size<=9223372036854775807))=some ():=H0 (by omega)
 have az:(grd (J0 j))=some ():=H0 aN
 have H:a8 bs=some (.inr ()):=by
  unfold a8
  simp only[aA,aB,S1,ah,ai,aY,aP,aQ,aU,aV,oB,Bool.false_eq_true,if_false,beq_self_eq_true,Bool.not_true,Bool.not_false,Y1,cond_true,cond_false]
  cases ba
  ·rfl
  obtain⟨aJ,aK,z,V,aL,I⟩:=aa rfl
  have aj:=q03 (E,F) s p.sm
  rw[aK]at aj
  have ak:=i0g (E,F) s p.sm
  rw[V]at ak
  have ab:smL z.2:=by have:=j0m (s:=s) p;rw[V]at this;exact this
  have al:=q03 z s ab.sm
  have am:=w00 (E,F) p.sm.ok
  rw[aJ]at am
  have an:=w00 z ab.sm.ok
  rw[aL]at an
  have a5:D5 (S,T,U) (S,T,U)=some true:=by rw[K09 _ _ (by simp only at Z ⊢;omega)];simp[T0b]
  generalize I2 z s=W at al I
  obtain⟨⟨bk,bl,bm⟩,bn⟩:=W
  simp only at I
  subst I
  obtain⟨bK,bL⟩:=z
  simp only[aj,ak,al,am,an,a5,oB,Bool.false_eq_true,if_false,if_true,beq_self_eq_true,Bool.not_true,Bool.not_false,Y1,cond_true,cond_false]
 have aq:c01 bs=some (.inr ()):=by
  unfold c01
  simp only[aC,S2,ar,au,av,N,O,aZ,oB,Bool.false_eq_true,if_false,beq_self_eq_true,Bool.not_true,Bool.not_false,Y1,cond_true,cond_false]
  cases aS<;>simp only[aW,aX,Z0,I1,oB,Bool.false_eq_true,if_false,if_true]
 unfold Z00
 simp only[H,aq,Z0,aD,aw,ae,af,a0,aE,ax,P,Q,a1,aF,ay,a2,a3,a4,aG,az,ac,ad,D,aH,d,aR,oB,Bool.false_eq_true,if_false,if_true,beq_self_eq_true,Bool.not_true,Bool.not_false,Y1,cond_true,cond_false]
end Go.Proofs.YtmgikbbmpnbbjaaGreat
