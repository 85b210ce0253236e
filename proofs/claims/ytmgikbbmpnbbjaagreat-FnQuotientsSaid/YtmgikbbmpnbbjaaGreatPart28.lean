/- Texts of the claim, joined: Plain laws: vertices and edges added; the steps that are mis and others. -/
import Derived.Test.YtmgikbbmpnbbjaaGreatPart27
import Derived.Test.YtmgikbbmpnbbjaaGreatPart22
import Derived.Test.YtmgikbbmpnbbjaaGreatPart21
import Derived.Test.YtmgikbbmpnbbjaaGreatH36
namespace Go.Proofs.YtmgikbbmpnbbjaaGreat
open Go.H
set_option linter.unusedVariables false
set_option linter.unusedSimpArgs false
def A2(g:j0):j0×Bool:=bif decide (g.2.1<40)then((g.1,g.2.1+1,g.2.2),true)else(g,false)
theorem U0e{g:j0}(a:U0 g=true):u00 g=some (A2 g):=by
 obtain⟨f,h,e,i⟩:=J2 a
 have b:=L7 g (by omega)
 have d:=n03 g (by omega)
 obtain⟨r,n,es⟩:=g
 simp only at e
 unfold u00 A2
 simp only[b,d,a,oB,Bool.not_true,cond_false]
 by_cases c:n<40
 ·rw[if_neg (by simp;omega),w64 (by omega) (by omega)];simp[c]
 ·rw[if_pos (by simp;omega)];simp[c]
theorem V0e{g:j0}(a:U0 g=true):w00 g=some (A2 g):=by
 obtain⟨f,h,e,i⟩:=J2 a
 have b:=o00 g (by omega)
 have d:=Q01 g (by omega)
 obtain⟨r,n,es⟩:=g
 simp only at e
 unfold w00 A2
 simp only[b,d,a,oB,Bool.not_true,cond_false]
 by_cases c:n<40
 ·rw[if_neg (by simp;omega),w64 (by omega) (by omega)];simp[c]
 ·rw[if_pos (by simp;omega)];simp[c]
theorem J08{g:j0}(a:U0 g=true):U0 (A2 g).1=true:=by
 unfold A2
 by_cases c:g.2.1<40
 ·simp only[c,decide_true,cond_true]
  obtain⟨d,f,j,h,i⟩:=(r9 g).1 a
  refine(r9 _).2 ⟨λe b=>?_,f,?_,h,i⟩
  ·have:=d e b
   simp only
   omega
  ·simp only;omega
 ·simp only[c,decide_false,cond_false];exact a
theorem l0t{es:List N0}{e:N0}(a:Asc P0 es)(b:e∈es):X00 P0 e es=es :=
 i08 R3 (o0c R3 _ _ a) a λx=>by
  rw[Q04 R3]
  constructor
  ·rintro(rfl|h)
   ·exact b
   ·exact h
  ·exact .inr
theorem R0g(e:N0):∀ {es:List N0},e ∉ es->(X00 P0 e es).length=es.length+1
 | [],_=>rfl
 |y::l,h=>by
  have d:=R0g e (es:=l) λb=>h (mC _ b)
  unfold X00
  split
  ·rfl
  ·split
   ·rename_i c
    exact absurd (R3.eq _ _ c) λa=>h (by rw[a];exact mS)
   ·simp only[List.length_cons,d]
def K5(g:j0)(e:N0):j0×Bool:=bif decide (g.2.2.length<120) && !decide (e∈g.2.2)then((g.1,g.2.1,X00 P0 e g.2.2),true)else(g,false)
def Z0l(g:j0)(e:N0):Prop:=(0<=e.1/\e.1<g.2.1)/\(0<=e.2.2/\e.2.2<g.2.1)/\1<=e.2.1/\e.2.1<=g.1
theorem K0r{g:j0}(b:U0 g=true){e:N0}(a:Z0l g e):e05 g.1 (IntKind.i64.wrap (g.2.1-1)) e=true:=by
 obtain⟨c,d,f,h⟩:=J2 b
 rw[w64 (by omega) (by omega)]
 unfold Z0l at a
 simp only[e05,inR,Bool.and_eq_true,decide_eq_true_eq]
 omega
theorem M0a{g:j0}{e:N0}(a:U0 g=true)(o:Z0l g e):R9 g e=some (K5 g e):=by
 obtain⟨q,s,t,p⟩:=J2 a
 have l:=L7 g (by omega)
 have m:=n03 g (by omega)
 have i:=F0l g e
 rw[K0r a o]at i
 have j:=q08 g.2.2 e (by omega)
 have k:=u04 a
 obtain⟨r,n,es⟩:=g
 obtain⟨b,f,h⟩:=e
 simp only at p k j
 unfold R9 K5
 simp only[l,m,a,oB,Bool.not_true,Bool.not_false,cond_false,Y1,i]
 by_cases c:es.length<120
 ·rw[if_neg (by simp;omega),j,oB]
  by_cases d:(b,f,h)∈es
  ·rw[l0t k d]
   simp[c,d]
  ·have:=R0g (b,f,h) d
   simp only[this,c,d,decide_true,decide_false,Bool.not_false,Bool.and_true,cond_true]
   simp
   omega
 ·rw[if_pos (by simp;omega)]
  simp[c]
theorem g0p(es:List N0)(e:N0)(o:es.length<=140737488355328):∀(d k fuel:Nat),k+d=es.length->d<fuel ->
  ∃ X,Z1 es e.1 e.2.1 e.2.2 fuel (k:Int)=some X/\((∃ i:Nat,X = .inl (i:Int)/\i<es.length/\e∈es.drop k)∨(X = .inr ()/\e ∉ es.drop k))
 |d,k,0,l,hf=>by omega
 |0,k,fuel+1,l,hf=>by
  rw[Z1.eq_2,if_neg (by simp;omega),P1 (by omega)]
  exact⟨_,rfl,.inr ⟨rfl,by simp⟩⟩
 |d+1,k,fuel+1,l,hf=>by
  have a:k<es.length:=by omega
  have f:=A5 a
  generalize es[k]=b at f
  rw[Z1.eq_2,if_pos (by simp;omega),Z2 f,oB,V1 f]
  simp only[]
  by_cases c:eqE e b=true
  ·rw[if_pos c]
   refine⟨_,rfl,.inl ⟨k,rfl,a,?_⟩⟩
   rw[(t0f _ _).1 c]
   exact mS
  ·rw[if_neg c,V2 a (by omega)]
   obtain⟨X,m,n⟩:=g0p es e o d (k+1) fuel (by omega) (by omega)
   refine⟨X,m,?_⟩
   have p:e≠b:=λh=>c ((t0f _ _).2 h)
   rcases n with⟨i,g,j,q⟩|⟨g,j⟩
   ·exact .inl ⟨i,g,j,mC _ q⟩
   ·refine .inr ⟨g,λh=>?_⟩
    rcases List.mem_cons.1 h with h|h
    ·exact p h
    ·exact j h
theorem I0n(es:List N0)(e:N0)(b:es.length<=140737488355328):O3 es e=some (decide (e∈es)):=by
 obtain⟨X,d,a⟩:=g0p es e b es.length 0 V0 (by omega) (E1 b)
 obtain⟨g,h,j⟩:=e
 unfold O3 w5
 simp only
 simp only[List.drop_zero]at a
 rw[show(0:Int)=((0:Nat):Int) from rfl,d]
 rcases a with⟨i,rfl,c,f⟩|⟨rfl,c⟩
 ·simp only[oB,M2]
  rw[F0 (show H0 ((i:Nat):Int) from⟨by omega,by omega⟩)]
  simp[f]
 ·simp only[oB,Y0]
  rw[F0 (show H0 (-1) from⟨by omega,by omega⟩)]
  simp[c]
theorem J0h{g:j0}{e:N0}(a:U0 g=true)(o:Z0l g e):A01 g e=some (K5 g e):=by
 obtain⟨q,s,t,p⟩:=J2 a
 have l:=o00 g (by omega)
 have m:=Q01 g (by omega)
 have b:=I08 g e
 rw[K0r a o]at b
 have f:=I0n g.2.2 e (by omega)
 have h:=u04 a
 obtain⟨r,n,es⟩:=g
 obtain⟨i,j,k⟩:=e
 simp only at p h f
 unfold A01 K5
 simp only[l,m,a,oB,Bool.not_true,Bool.not_false,cond_false,Y1,b,f]
 by_cases d:(i,j,k)∈es
 ·simp[d]
 ·by_cases c:es.length<120
  ·rw[if_neg (by simp[d];omega),F0 (by simp;omega),oB,z0c _ (by simp;omega),Q0g h]
   simp[c,d,o6]
  ·have:es.length=120:=by omega
   rw[if_pos (by simp[this])]
   simp[c]
def S03(g:j0)(v:Int):List Int->List N0
 | []=>[]
 |x::r=>(bif decide (T0 g v x<0)then [(v,x,-1)]else [])++S03 g v r
def i05(g:j0):Nat->Nat->List N0
 |0,_=>[]
 |d+1,v=>S03 g (v:Int) (i8 g.1.toNat 1)++i05 g d (v+1)
theorem g0a(g:j0)(v:Int):∀ l,(S03 g v l).length<=l.length
 | []=>Nat.le_refl _
 |x::r=>by
  have:=g0a g v r
  simp only[S03,List.length_append,List.length_cons]
  cases decide (T0 g v x<0)<;>simp<;>omega
theorem a0m(g:j0)(j:U0 g=true)(v:Int)(a:List Int)(l:∀ x∈a,Y4 x)(o:a.length<=1000):∀(d k fuel:Nat) (acc:List N0),k+d=a.length->d<fuel->acc.length+d<=100000 ->
  j4 a g.1 g.2.1 g.2.2 v fuel (k:Int) acc=some (acc++S03 g v (a.drop k))
 |d,k,0,acc,i,hf,f=>by omega
 |0,k,fuel+1,acc,i,hf,f=>by
  rw[j4.eq_2,if_neg (by simp;omega),P1 (by omega)]
  simp[S03]
 |d+1,k,fuel+1,acc,i,hf,f=>by
  obtain⟨p,s,q,t⟩:=J2 j
  have c:k<a.length:=by omega
  have e:=A5 c
  have m:=l _ (List.getElem_mem c)
  generalize a[k]=x at e m
  have n:∀ b:List N0,b.length+d<=100000->j4 a g.1 g.2.1 g.2.2 v fuel ((k+1:Nat):Int) b=some (b++S03 g v (a.drop (k+1))):=λb h=>a0m g j v a l o d (k+1) fuel b (by omega) (by omega) h
  rw[j4.eq_2,if_pos (by simp;omega),Z2 e,oB,show(g.1,g.2.1,g.2.2)=g from rfl,f0b g v x m (by omega),oB,F0 (o08 p q.2 v x),oB,V2 c (by omega),V1 e,S03]
  cases decide (T0 g v x<0)with
  |true =>
   rw[if_pos rfl,oB,F0 (by simp;omega),oB,n _ (by simp;omega)]
   simp
  |false =>
   rw[if_neg (by simp),n _ (by omega)]
   simp
theorem b0m(g:j0)(j:U0 g=true)(v:Int)(a:List Int)(l:∀ x∈a,Y4 x)(o:a.length<=1000):∀(d k fuel:Nat) (acc:List N0),k+d=a.length->d<fuel->acc.length+d<=100000 ->
  l4 a g.1 g.2.1 g.2.2 v fuel (k:Int) acc=some (acc++S03 g v (a.drop k))
 |d,k,0,acc,i,hf,f=>by omega
 |0,k,fuel+1,acc,i,hf,f=>by
  rw[l4.eq_2,if_neg (by simp;omega),P1 (by omega)]
  simp[S03]
 |d+1,k,fuel+1,acc,i,hf,f=>by
  obtain⟨p,s,q,t⟩:=J2 j
  have c:k<a.length:=by omega
  have e:=A5 c
  have m:=l _ (List.getElem_mem c)
  generalize a[k]=x at e m
  have n:∀ b:List N0,b.length+d<=100000->l4 a g.1 g.2.1 g.2.2 v fuel ((k+1:Nat):Int) b=some (b++S03 g v (a.drop (k+1))):=λb h=>b0m g j v a l o d (k+1) fuel b (by omega) (by omega) h
  rw[l4.eq_2,if_pos (by simp;omega),Z2 e,oB,show(g.1,g.2.1,g.2.2)=g from rfl,g0b g v x m (by omega),oB,F0 (o08 p q.2 v x),oB,V2 c (by omega),V1 e,S03]
  cases decide (T0 g v x<0)with
  |true =>
   rw[if_pos rfl,F0 (by simp;omega),oB,n _ (by simp;omega)]
   simp
  |false =>
   rw[if_neg (by simp),n _ (by omega)]
   simp
theorem T04:∀(d i:Nat) (x:Int),x∈i8 d i->∃ j:Nat,i<=j/\j<i+d/\(x=(j:Int)∨x = -(j:Int))
 |0,i,x,h=>by simp[i8]at h
 |d+1,i,x,h=>by
  simp only[i8,List.mem_cons]at h
  rcases h with rfl|rfl|h
  ·exact⟨i,Nat.le_refl _,by omega,.inl rfl⟩
  ·exact⟨i,Nat.le_refl _,by omega,.inr rfl⟩
  ·obtain⟨j,b,c,a⟩:=T04 d (i+1) x h
   exact⟨j,by omega,by omega,a⟩
theorem c0m(g:j0)(a:I0 g=true):∀(d k fuel:Nat) (acc:List N0),k+d=g.2.1.toNat->d<fuel->acc.length+100*d<=10000 ->
  C5 g.2.1 g.1 g.2.2 fuel (k:Int) acc=some (acc++i05 g d k)
 |d,k,0,acc,c,hf,b=>by omega
 |0,k,fuel+1,acc,c,hf,b=>by
  obtain⟨l,m,n,o⟩:=G1 a
  rw[C5.eq_2,show decide (((k:Nat):Int)<g.2.1)=false by simp;omega]
  simp[chk,i05]
 |d+1,k,fuel+1,acc,c,hf,b=>by
  obtain⟨l,m,n,o⟩:=G1 a
  have f:=((d00 g).1 a).1
  obtain⟨R,e⟩:∃ R:Nat,g.1=(R:Int):=⟨g.1.toNat,by omega⟩
  have h:∀ x∈i8 g.1.toNat 1,Y4 x:=λx i=>by
   obtain⟨j,p,q,s⟩:=T04 _ _ _ i
   refine⟨⟨by omega,by omega⟩,by omega⟩
  have t:=e06 g.1.toNat 1
  have u:=g0a g (k:Int) (i8 g.1.toNat 1)
  have h0:=a0m g f (k:Int) (i8 g.1.toNat 1) h (by omega) (i8 g.1.toNat 1).length 0 V0 acc (by omega) (E1 (by omega)) (by omega)
  rw[C5.eq_2,show decide (((k:Nat):Int)<g.2.1)=true by simp;omega,Y1,show(g.1,g.2.1,g.2.2)=g from rfl,I00 g (by omega),oB,a]
  rw[if_pos (show(bif true then true else false)=true from rfl),show p9 g.1=some (i8 g.1.toNat 1) by rw[e,F0r R (by omega)];rfl,oB,show(0:Int)=((0:Nat):Int) from rfl,h0,oB,V2 (show k<1000 by omega) (by omega),c0m g a d (k+1) fuel _ (by omega) (by omega) (by simp;omega),i05]
  simp
theorem d0m(g:j0)(a:I0 g=true):∀(d k fuel:Nat) (acc:List N0),k+d=g.2.1.toNat->d<fuel->acc.length+100*d<=10000 ->
  D5 g.2.1 g.1 g.2.2 fuel (k:Int) acc=some (acc++i05 g d k)
 |d,k,0,acc,c,hf,b=>by omega
 |0,k,fuel+1,acc,c,hf,b=>by
  obtain⟨l,m,n,o⟩:=G1 a
  rw[D5.eq_2,if_neg (by simp;omega)]
  simp[i05]
 |d+1,k,fuel+1,acc,c,hf,b=>by
  obtain⟨l,m,n,o⟩:=G1 a
  have f:=((d00 g).1 a).1
  obtain⟨R,e⟩:∃ R:Nat,g.1=(R:Int):=⟨g.1.toNat,by omega⟩
  have h:∀ x∈i8 g.1.toNat 1,Y4 x:=λx i=>by
   obtain⟨j,p,q,s⟩:=T04 _ _ _ i
   refine⟨⟨by omega,by omega⟩,by omega⟩
  have t:=e06 g.1.toNat 1
  have u:=g0a g (k:Int) (i8 g.1.toNat 1)
  have h0:=b0m g f (k:Int) (i8 g.1.toNat 1) h (by omega) (i8 g.1.toNat 1).length 0 V0 acc (by omega) (E1 (by omega)) (by omega)
  rw[D5.eq_2,if_pos (by simp;omega),show H00 g.1=some (i8 g.1.toNat 1) by rw[e,E0r R (by omega)];rfl,oB,show(0:Int)=((0:Nat):Int) from rfl,h0,oB,V2 (show k<1000 by omega) (by omega),d0m g a d (k+1) fuel _ (by omega) (by omega) (by simp;omega),i05]
  simp
def D4(g:j0):List N0:=i05 g g.2.1.toNat 0
theorem K0h{g:j0}(hf:I0 g=true):U8 g=some (D4 g):=by
 obtain⟨a,b,c,d⟩:=G1 hf
 have h:=c0m g hf g.2.1.toNat 0 V0 [] (by omega) (E1 (by omega)) (by simp;omega)
 obtain⟨r,n,es⟩:=g
 unfold U8 D4
 simp only at h ⊢
 rw[show(0:Int)=((0:Nat):Int) from rfl,h];simp
theorem N0a{g:j0}(hf:I0 g=true):w6 g=some (D4 g):=by
 obtain⟨b,c,d,e⟩:=G1 hf
 have h:=d0m g hf g.2.1.toNat 0 V0 [] (by omega) (E1 (by omega)) (by simp;omega)
 have a:=z01 g (by omega)
 obtain⟨r,n,es⟩:=g
 unfold w6 D4
 simp only[a,hf,oB]at h ⊢
 rw[if_neg (by simp),show(0:Int)=((0:Nat):Int) from rfl,h];simp
theorem H0i{g:j0}{v:Int}{e:N0}:∀ {l:List Int},e∈S03 g v l->e.1=v/\e.2.1∈l/\e.2.2 = -1
 | [],h=>nomatch h
 |x::r,h=>by
  simp only[S03,List.mem_append]at h
  rcases h with h|h
  ·cases hd:decide (T0 g v x<0)with
   |true =>
    rw[hd]at h
    simp at h
    subst h
    exact⟨rfl,mS,rfl⟩
   |false=>rw[hd]at h;simp at h
  ·obtain⟨a,b,c⟩:=H0i h
   exact⟨a,mC _ b,c⟩
theorem I0i{g:j0}{e:N0}:∀ {d k:Nat},e∈i05 g d k->((k:Int)<=e.1/\e.1<(k:Int)+d)/\e.2.1∈i8 g.1.toNat 1
 |0,k,h=>nomatch h
 |d+1,k,h=>by
  rcases List.mem_append.1 (show e∈S03 g (k:Int) (i8 g.1.toNat 1)++i05 g d (k+1) from h)with h|h
  ·obtain⟨b,a,_⟩:=H0i h
   exact⟨by omega,a⟩
  ·obtain⟨b,a⟩:=I0i h
   exact⟨by omega,a⟩
theorem M06{g:j0}(hf:I0 g=true){e:N0}(h:e∈D4 g):(0<=e.1/\e.1<g.2.1)/\e.2.1≠0 /\ -g.1<=e.2.1/\e.2.1<=g.1:=by
 obtain⟨i,k,l,m⟩:=G1 hf
 obtain⟨b,a⟩:=I0i h
 obtain⟨j,c,d,f⟩:=T04 _ _ _ a
 refine⟨by omega,by omega,by omega,by omega⟩
theorem U04{x:D0}(h:K3 x=true):∀ w∈x.2,M3 x.1 w=true:=by
 simp only[K3,G3,Bool.and_eq_true]at h
 have a:∀ {b:List (List Int)},o0a x.1 b=true->∀ w∈b,M3 x.1 w=true:=by
  intro b
  induction b with
  |nil=>intro _ w a;cases a
  |cons v r c =>
   intro h w a
   simp only[o0a,Bool.and_eq_true]at h
   rcases List.mem_cons.1 a with rfl|a
   ·exact h.1
   ·exact c h.2 w a
 exact a h.1.1.2
theorem D0c{x:D0}(h:K3 x=true):∀ w∈x.2,(∀ y∈w,Y4 y)/\w.length<=24:=λw c=>by
 have a:=U04 h w c
 refine⟨λy d=>?_,?_⟩
 ·obtain⟨i,b⟩:=List.getElem?_of_mem d
  have:=I06 a b
  refine⟨⟨by omega,by omega⟩,by omega⟩
 ·simp only[M3,Bool.and_eq_true,decide_eq_true_eq]at a
  exact a.1.2
theorem u08{x:D0}(h:K3 x=true):x.2.length<=6:=by
 simp only[K3,G3,Bool.and_eq_true,decide_eq_true_eq]at h
 exact h.1.1.1.2
def n0k(g:j0)(v:Int)(r:List Int):Bool:=bif decide ((E7 g v r).2<r.length)then true else !decide ((E7 g v r).1=v)
def p0a(g:j0)(v:Int):List (List Int)->Nat->Option Nat
 | [],_=>none
 |r::l,i=>bif n0k g v r then some i else p0a g v l (i+1)
def v04(g:j0)(a:List (List Int)):Nat->Nat->Option (Nat×Nat)
 |0,_=>none
 |d+1,v=>match p0a g (v:Int) a 0 with
  |some i=>some (v,i)
  |none=>v04 g a d (v+1)
def S0g(q:Option (Nat×Nat)):Int×Int:=match q with
 |some (v,i)=>((v:Int),(i:Int))
 |none=>(-1,-1)
def r6(p:D0)(g:j0):Int×Int:=bif K3 p&&I0 g&&decide (p.1=g.1)then S0g (v04 g p.2 g.2.1.toNat 0)else(-1,-1)
theorem T0g(a:List (List Int))(j:∀ w∈a,(∀ y∈w,Y4 y)/\w.length<=24)(r n:Int)(es:List N0)(b:inG (r,n,es))(f:n<=40)(o:es.length<=120)(p:a.length<=6)(v:Int)(l:H0 v):∀(d k fuel:Nat),k+d=a.length->d<fuel ->
  S5 a r n es v fuel (k:Int)=some (match p0a (r,n,es) v (a.drop k) k with|some i => .inl (v,(i:Int))|none => .inr ())
 |d,k,0,h,hf=>by omega
 |0,k,fuel+1,h,hf=>by
  rw[S5.eq_2,if_neg (by simp;omega),P1 (by omega)]
  rfl
 |d+1,k,fuel+1,h,hf=>by
  have c:k<a.length:=by omega
  have g:=A5 c
  obtain⟨m,q⟩:=j _ (List.getElem_mem c)
  generalize a[k]=w at g m q
  have s:=d06 (r,n,es) w v
  rw[S5.eq_2,if_pos (by simp;omega),Z2 g,oB,x0n (r,n,es) b f (by simp only;omega) v w m (by omega),oB,V1 g]
  simp only[F0 (E07 b f w v l),F0 (show H0 (((E7 (r,n,es) v w).2:Nat):Int) from⟨by omega,by omega⟩),oB,p0a]
  have e:(bif decide ((((E7 (r,n,es) v w).2:Nat):Int)<((w.length:Nat):Int))then true else !decide ((E7 (r,n,es) v w).1=v))=n0k (r,n,es) v w:=by
   unfold n0k
   simp
  rw[e]
  cases n0k (r,n,es) v w with
  |true=>rfl
  |false =>
   rw[if_neg (by simp),V2 c (by omega)]
   exact T0g a j r n es b f o p v l d (k+1) fuel (by omega) (by omega)
theorem U0g(b:List (List Int))(h:∀ w∈b,(∀ y∈w,Y4 y)/\w.length<=24)(r:Int)(a:Nat)(es:List N0)(f:inG (r,(a:Int),es))(j:a<=40)(e:es.length<=120)(g:b.length<=6):∀(d k fuel:Nat),k+d=a->d<fuel ->
  T5 (a:Int) b r es fuel (k:Int)=some (match v04 (r,(a:Int),es) b d k with|some (v,i) => .inl ((v:Int),(i:Int))|none => .inr ())
 |d,k,0,c,hf=>by omega
 |0,k,fuel+1,c,hf=>by
  rw[T5.eq_2,if_neg (by simp;omega)]
  rfl
 |d+1,k,fuel+1,c,hf=>by
  have h0:=T0g b h r (a:Int) es f (by omega) e g (k:Int) ⟨by omega,by omega⟩ b.length 0 V0 (by omega) (E1 (by omega))
  rw[show((0:Nat):Int)=0 from rfl,List.drop_zero]at h0
  rw[T5.eq_2,if_pos (by simp;omega),h0,oB]
  simp only[v04]
  cases p0a (r,(a:Int),es) (k:Int) b 0 with
  |some i=>rfl
  |none =>
   simp only[I0h]
   rw[V2 (show k<a by omega) (by omega)]
   exact U0g b h r a es f j e g d (k+1) fuel (by omega) (by omega)
theorem T03(p:D0)(g:j0)(j:p.2.length<=140737488355328)(m:U2 p.2)(k:g.2.2.length<=140737488355328):K6 p g=some (r6 p g):=by
 have f:=O9 p j m
 have e:=z01 g k
 unfold r6
 obtain⟨d,b⟩:=p
 obtain⟨r,n,es⟩:=g
 unfold K6
 simp only[f,oB]
 cases hp:K3 (d,b)with
 |false=>rfl
 |true =>
  simp only[Bool.not_true,Bool.not_false,Y1,e,oB,cond_false,Bool.true_and]
  cases hf:I0 (r,n,es)with
  |false=>rfl
  |true =>
   by_cases hr:d=r
   ·simp only[Bool.not_true,cond_false,hr,decide_true,Bool.true_and,cond_true,Bool.false_eq_true,if_false]
    obtain⟨i,_,l,c⟩:=G1 hf
    simp only at l c
    obtain⟨a,rfl⟩:∃ a:Nat,n=(a:Int):=⟨n.toNat,by omega⟩
    have h:=U0g b (D0c hp) r a es i (by omega) c (u08 hp) a 0 V0 (by omega) (E1 (by omega))
    rw[show((0:Nat):Int)=0 from rfl]at h
    rw[h,oB,Int.toNat_natCast]
    cases v04 (r,(a:Int),es) b a 0<;>rfl
   ·simp[hr]
theorem V0g(a:List (List Int))(h:∀ w∈a,(∀ y∈w,Y4 y)/\w.length<=24)(r n:Int)(es:List N0)(hf:I0 (r,n,es)=true)(q:a.length<=6)(v:Int)(j:0<=v/\v<n):∀(d k fuel:Nat),k+d=a.length->d<fuel ->
  R5 a r n es v fuel (k:Int)=some (match p0a (r,n,es) v (a.drop k) k with|some i => .inl (v,(i:Int))|none => .inr ())
 |d,k,0,e,f=>by omega
 |0,k,fuel+1,e,f=>by
  rw[R5.eq_2,if_neg (by simp;omega),P1 (by omega)]
  rfl
 |d+1,k,fuel+1,e,f=>by
  have b:k<a.length:=by omega
  have c:=A5 b
  obtain⟨l,s⟩:=h _ (List.getElem_mem b)
  generalize a[k]=w at c l s
  obtain⟨p,_,g,o⟩:=G1 hf
  simp only at g o
  have m:H0 v:=⟨by omega,by omega⟩
  rw[R5.eq_2,if_pos (by simp;omega),Z2 c,oB,u0r (r,n,es) hf v j w l (by omega),oB,V1 c]
  simp only[p0a,n0k]
  cases decide ((E7 (r,n,es) v w).2<w.length)with
  |true =>
   simp only[cond_true,F0 (show H0 (-1) by decide),oB,Bool.not_false,if_true]
  |false =>
   simp only[cond_false,F0 (E07 p g.2 w v m),oB,Bool.not_true]
   cases decide ((E7 (r,n,es) v w).1=v)with
   |false=>rfl
   |true =>
    rw[if_neg (by simp),V2 b (by omega)]
    exact V0g a h r n es hf q v j d (k+1) fuel (by omega) (by omega)
theorem W0g(b:List (List Int))(r:Int)(a:Nat)(es:List N0)(c:K3 (r,b)=true)(hf:I0 (r,(a:Int),es)=true)(h:b.length<=140737488355328)(j:U2 b):∀(d k fuel:Nat),k+d=a->d<fuel ->
  C4 (a:Int) r b r es fuel (k:Int)=some (match v04 (r,(a:Int),es) b d k with|some (v,i) => .inl ((v:Int),(i:Int))|none => .inr ())
 |d,k,0,f,g=>by omega
 |0,k,fuel+1,f,g=>by
  have e:decide ((k:Int)<(a:Int))=false:=by simp;omega
  rw[C4.eq_2,e,P3,oB]
  simp only[cond_false,P3,oB]
  rw[if_neg (by simp)]
  rfl
 |d+1,k,fuel+1,f,g=>by
  obtain⟨n,_,m,l⟩:=G1 hf
  simp only at m l
  have e:decide ((k:Int)<(a:Int))=true:=by simp;omega
  have h0:=V0g b (D0c c) r (a:Int) es hf (u08 c) (k:Int) ⟨by omega,by omega⟩ b.length 0 V0 (by omega) (E1 (by omega))
  rw[show((0:Nat):Int)=0 from rfl,List.drop_zero]at h0
  rw[C4.eq_2,e,Y1,f8 (r,b) h j,oB,c]
  simp only[cond_true,Y1,I00 (r,(a:Int),es) (show es.length<=140737488355328 by omega),hf,oB,decide_true,if_true,h0]
  simp only[v04]
  cases p0a (r,(a:Int),es) (k:Int) b 0 with
  |some i=>rfl
  |none =>
   simp only[I0h]
   rw[V2 (show k<a by omega) (by omega)]
   exact W0g b r a es c hf h j d (k+1) fuel (by omega) (by omega)
theorem N06(p:D0)(g:j0)(f:p.2.length<=140737488355328)(i:U2 p.2)(m:g.2.2.length<=140737488355328):R7 p g=some (r6 p g):=by
 have k:=f8 p f i
 have j:=I00 g m
 unfold r6
 obtain⟨a,c⟩:=p
 obtain⟨r,n,es⟩:=g
 unfold R7
 have q:(K3 (a,c)&&I0 (r,n,es)&&decide (a=r))=false->C4 n a c r es V0 0=some (.inr ()):=λd=>by
  rw[show V0=(V0-1)+1 from rfl,C4.eq_2]
  cases decide ((0:Int)<n)with
  |false=>simp[chk]
  |true =>
   simp only[Y1,k,oB,cond_true]
   cases e:K3 (a,c)with
   |false=>simp[chk]
   |true =>
    simp only[Y1,j,oB,cond_true]
    rw[e]at d
    cases hf:I0 (r,n,es)with
    |false=>simp
    |true =>
     rw[hf]at d
     simp only[Bool.true_and]at d
     simp[d]
 cases hall:(K3 (a,c)&&I0 (r,n,es)&&decide (a=r))with
 |false =>
  simp only[q hall,oB,hall,cond_false]
  rfl
 |true =>
  simp only[Bool.and_eq_true,decide_eq_true_eq]at hall
  obtain⟨⟨e,hf⟩,rfl⟩:=hall
  obtain⟨s,_,o,l⟩:=G1 hf
  simp only at o l
  obtain⟨b,rfl⟩:∃ b:Nat,n=(b:Int):=⟨n.toNat,by omega⟩
  have h:=W0g c a b es e hf f i b 0 V0 (by omega) (E1 (by omega))
  rw[show((0:Nat):Int)=0 from rfl]at h
  simp only[h,oB,e,hf,decide_true,Bool.true_and,cond_true,Int.toNat_natCast]
  cases v04 (a,(b:Int),es) c b 0<;>rfl
theorem J0i{g:j0}{v:Int}:∀ {l:List (List Int)} {k i:Nat},p0a g v l k=some i->k<=i/\i<k+l.length
 | [],k,i,h=>nomatch h
 |r::l,k,i,h=>by
  unfold p0a at h
  cases hb:n0k g v r with
  |true =>
   rw[hb]at h
   simp only[cond_true,Option.some.injEq]at h
   subst h
   simp
  |false =>
   rw[hb]at h
   have:=J0i (l:=l) (k:=k+1) (i:=i) h
   simp only[List.length_cons];omega
theorem G07{g:j0}{a:List (List Int)}:∀ {d k v i:Nat},v04 g a d k=some (v,i)->(k<=v/\v<k+d)/\i<a.length
 |0,k,v,i,h=>nomatch h
 |d+1,k,v,i,h=>by
  unfold v04 at h
  cases hr:p0a g (k:Int) a 0 with
  |some j =>
   rw[hr]at h
   simp only[Option.some.injEq,Prod.mk.injEq]at h
   obtain⟨rfl,rfl⟩:=h
   have:=J0i hr
   omega
  |none =>
   rw[hr]at h
   have:=G07 (d:=d) (k:=k+1) h
   omega
def X0g(p:D0)(g:j0)(v i:Nat):j0×Bool×Bool:=match p.2[i]? with
 |some w=>bif(M1 g (v:Int) w (v:Int)).2 then((i4 (M1 g (v:Int) w (v:Int)).1).1,true,true)else(g,false,false)
 |none=>(g,false,false)
def Y0g(g:j0):j0×Bool×Bool:=match D4 g with
 | []=>(g,false,true)
 |e::_=>bif(A2 g).2 then(bif(K5 (A2 g).1 (stp e.1 e.2.1 g.2.1)).2 then((K5 (A2 g).1 (stp e.1 e.2.1 g.2.1)).1,true,true)else(g,false,false))else(g,false,false)
def N1(p:D0)(g:j0):j0×Bool×Bool:=bif K3 p&&I0 g&&decide (p.1=g.1)then(match v04 g p.2 g.2.1.toNat 0 with
 |some (v,i)=>X0g p g v i
 |none=>Y0g g)else(g,false,false)
theorem F09{g:j0}(a:U0 g=true)(u:Int)(w:List Int)(v:Int):(M1 g u w v).1.2.2.length<=120:=by
 have q:=(J2 a).2.2.2
 unfold M1
 cases hc:(!w.isEmpty&&decide (g.2.1+(w.length:Int)-1<=40)&&decide (g.2.2.length+w.length<=120))with
 |false=>exact q
 |true =>
  simp only[Bool.and_eq_true,decide_eq_true_eq]at hc
  have b:=B03 (B01 v w u g.2.1) g.2.2
  have c:=F07 v w u g.2.1
  simp only[cond_true]
  omega
theorem L0r{g:j0}(hf:I0 g=true){e:N0}(b:e∈D4 g)(a:(A2 g).2=true):Z0l (A2 g).1 (stp e.1 e.2.1 g.2.1):=by
 obtain⟨d,f,h,i⟩:=M06 hf b
 obtain⟨j,k,l,m⟩:=G1 hf
 unfold A2 at a ⊢
 by_cases c:g.2.1<40
 ·simp only[c,decide_true,cond_true]
  unfold stp Z0l
  split<;>(simp only;omega)
 ·simp[c]at a
theorem O06(p:D0)(g:j0)(I:p.2.length<=140737488355328)(J:U2 p.2)(O:g.2.2.length<=1099511627776):t9 p g=some (N1 p g):=by
 have L:=f8 p I J
 have M:=I00 g (by omega)
 have j:=n03 g O
 have G:=N06 p g I J (by omega)
 have N:I0 g=true->U8 g=some (D4 g):=K0h
 have A:I0 g=true->u00 g=some (A2 g):=λh=>U0e ((d00 g).1 h).1
 have d:I0 g=true->∀ e∈D4 g,(A2 g).2=true->R9 (A2 g).1 (stp e.1 e.2.1 g.2.1)=some (K5 (A2 g).1 (stp e.1 e.2.1 g.2.1)):=λh e D P=>M0a (J08 ((d00 g).1 h).1) (L0r h D P)
 have y:K3 p=true->I0 g=true->p.1=g.1->∀ v i:Nat,v04 g p.2 g.2.1.toNat 0=some (v,i)->∃ w,p.2[i]?=some w/\J00 g (v:Int) w (v:Int)=some (M1 g (v:Int) w (v:Int))/\N7 (M1 g (v:Int) w (v:Int)).1=some (i4 (M1 g (v:Int) w (v:Int)).1)/\v<=40/\i<=6:=λa b c v i x=>by
  obtain⟨m,k⟩:=G07 x
  have H:=((d00 g).1 b).1
  obtain⟨Q,R,S,T⟩:=G1 b
  refine⟨p.2[i],A5 k,K0a H ⟨by omega,by omega⟩ ⟨by omega,by omega⟩ (by rw[←c];exact U04 a _ (List.getElem_mem k)),C04 _ (by have:=F09 H (v:Int) p.2[i] (v:Int);omega),by omega,by have:=u08 a;omega⟩
 have C:I0 g=true->∀ e∈D4 g,(0<=e.1/\e.1<g.2.1)/\e.2.1≠0 /\ -3<=e.2.1/\e.2.1<=3:=λh e D=>by
  obtain⟨m,k,o,E⟩:=M06 h D
  obtain⟨Q,R,S,T⟩:=G1 h
  exact⟨m,k,by omega,by omega⟩
 unfold r6 at G
 unfold N1 Y0g
 obtain⟨f,z⟩:=p
 obtain⟨r,n,es⟩:=g
 unfold t9
 simp only[L,oB]
 cases hp:K3 (f,z)with
 |false=>simp only[Bool.not_false,Bool.not_true,P3,oB,cond_true,if_true,j,Bool.false_and,cond_false]
 |true =>
  simp only[Bool.not_true,Bool.not_false,Y1,M,oB,cond_false,Bool.true_and]
  cases hf:I0 (r,n,es)with
  |false=>simp only[Bool.not_false,cond_true,if_true,j,oB,Bool.false_and,cond_false]
  |true =>
   simp only[Bool.not_true,cond_false,Bool.true_and]
   by_cases hr:f=r
   ·subst hr
    have t:R7 (f,z) (f,n,es)=some (S0g (v04 (f,n,es) z n.toNat 0)):=by
     rw[G];simp only[hp,hf,decide_true,Bool.and_true,cond_true]
    simp only[decide_true,Bool.not_true,Bool.false_eq_true,if_false,cond_true]
    have y:=y hp hf rfl
    simp only at y
    cases x:v04 (f,n,es) z n.toNat 0 with
    |some q =>
     obtain⟨v,i⟩:=q
     obtain⟨w,m,k,o,E,W⟩:=y v i x
     rw[x]at t
     simp only[S0g]at t
     rw[t,oB]
     try simp only[]
     rw[F0 (show H0 ((v:Nat):Int) from⟨by omega,by omega⟩),oB,F0 (show H0 ((i:Nat):Int) from⟨by omega,by omega⟩),oB,if_pos (by simp),Z2 m,oB,k,oB]
     unfold X0g
     simp only[m]
     revert o
     generalize M1 (f,n,es) (v:Int) w (v:Int)=ap
     intro o
     obtain⟨F,ok⟩:=ap
     try simp only at o
     cases ok with
     |false=>simp only[Bool.not_false,if_true,j,oB,cond_false]
     |true=>simp only[Bool.not_true,Bool.false_eq_true,if_false,o,oB,cond_true]
    |none =>
     rw[x]at t
     simp only[S0g]at t
     rw[t,oB]
     try simp only[]
     rw[F0 (show H0 (-1) from⟨by omega,by omega⟩),oB,oB,if_neg (by simp),N hf,oB]
     have d:=d hf
     have C:=C hf
     have A:=A hf
     cases hm:D4 (f,n,es)with
     |nil=>simp only[List.length_nil];rw[if_pos (by simp),j];rfl
     |cons e l =>
      have d:=d e (by rw[hm];exact mS)
      obtain⟨m,k,o,E⟩:=C e (by rw[hm];exact mS)
      rw[if_neg (by simp;omega),A,oB]
      revert d
      generalize A2 (f,n,es)=av
      intro d
      obtain⟨F,ok⟩:=av
      simp only at d
      simp only[]
      cases ok with
      |false=>simp only[Bool.not_false,if_true,j,oB,cond_false]
      |true =>
       have d:=d rfl
       simp only[Bool.not_true,Bool.false_eq_true,if_false,cond_true]
       obtain⟨u,s,U⟩:=e
       simp only at m k o E d
       rw[Y06 rfl]
       simp only[oB]
       revert d
       generalize K5 F (stp u s n)=ae
       intro d
       obtain⟨V,K⟩:=ae
       by_cases c:s<0
       ·rw[if_pos (by simp[c]),w64 (by omega) (by omega),show((n,0-s,u):N0)=stp u s n by unfold stp;rw[if_pos c,Int.zero_sub],d]
        cases K<;>simp[j]
       ·rw[if_neg (by simp;omega),show((u,s,n):N0)=stp u s n by unfold stp;rw[if_neg c],d]
        cases K<;>simp[j]
   ·simp only[hr,decide_false,Bool.not_false,if_true,j,oB,cond_false]
theorem P06(p:D0)(g:j0)(I:p.2.length<=140737488355328)(J:U2 p.2)(N:g.2.2.length<=1099511627776):w9 p g=some (N1 p g):=by
 have K:=O9 p I J
 have L:=z01 g (by omega)
 have k:=Q01 g N
 have G:=T03 p g I J (by omega)
 have M:I0 g=true->w6 g=some (D4 g):=N0a
 have y:I0 g=true->w00 g=some (A2 g):=λh=>V0e ((d00 g).1 h).1
 have d:I0 g=true->∀ e∈D4 g,(A2 g).2=true->A01 (A2 g).1 (stp e.1 e.2.1 g.2.1)=some (K5 (A2 g).1 (stp e.1 e.2.1 g.2.1)):=λh e A O=>J0h (J08 ((d00 g).1 h).1) (L0r h A O)
 have u:K3 p=true->I0 g=true->p.1=g.1->∀ v i:Nat,v04 g p.2 g.2.1.toNat 0=some (v,i)->∃ w,p.2[i]?=some w/\K00 g (v:Int) w (v:Int)=some (M1 g (v:Int) w (v:Int))/\M8 (M1 g (v:Int) w (v:Int)).1=some (i4 (M1 g (v:Int) w (v:Int)).1)/\v<=40/\i<=6:=λa b c v i t=>by
  obtain⟨m,j⟩:=G07 t
  have H:=((d00 g).1 b).1
  obtain⟨Q,R,S,T⟩:=G1 b
  refine⟨p.2[i],A5 j,L0a H ⟨by omega,by omega⟩ ⟨by omega,by omega⟩ (by rw[←c];exact U04 a _ (List.getElem_mem j)),Z06 _ (by have:=F09 H (v:Int) p.2[i] (v:Int);omega),by omega,by have:=u08 a;omega⟩
 have z:I0 g=true->∀ e∈D4 g,(0<=e.1/\e.1<g.2.1)/\e.2.1≠0 /\ -3<=e.2.1/\e.2.1<=3:=λh e A=>by
  obtain⟨m,j,o,C⟩:=M06 h A
  obtain⟨Q,R,S,T⟩:=G1 h
  exact⟨m,j,by omega,by omega⟩
 unfold r6 at G
 unfold N1 Y0g
 obtain⟨f,x⟩:=p
 obtain⟨r,n,es⟩:=g
 unfold w9
 simp only[K,oB]
 cases hp:K3 (f,x)with
 |false=>simp only[Bool.not_false,Bool.not_true,P3,oB,cond_true,if_true,k,Bool.false_and,cond_false]
 |true =>
  simp only[Bool.not_true,Bool.not_false,Y1,L,oB,cond_false,Bool.true_and]
  cases hf:I0 (r,n,es)with
  |false=>simp only[Bool.not_false,cond_true,if_true,k,oB,Bool.false_and,cond_false]
  |true =>
   simp only[Bool.not_true,cond_false,Bool.true_and]
   by_cases hr:f=r
   ·subst hr
    have s:K6 (f,x) (f,n,es)=some (S0g (v04 (f,n,es) x n.toNat 0)):=by
     rw[G];simp only[hp,hf,decide_true,Bool.and_true,cond_true]
    simp only[decide_true,Bool.not_true,Bool.false_eq_true,if_false,cond_true]
    have u:=u hp hf rfl
    simp only at u
    cases t:v04 (f,n,es) x n.toNat 0 with
    |some q =>
     obtain⟨v,i⟩:=q
     obtain⟨w,m,j,o,C,W⟩:=u v i t
     rw[t]at s
     simp only[S0g]at s
     rw[s,oB]
     try simp only[]
     rw[F0 (show H0 ((v:Nat):Int) from⟨by omega,by omega⟩),oB,F0 (show H0 ((i:Nat):Int) from⟨by omega,by omega⟩),oB,if_pos (by simp),Z2 m,oB,j,oB]
     unfold X0g
     simp only[m]
     revert o
     generalize M1 (f,n,es) (v:Int) w (v:Int)=ap
     intro o
     obtain⟨F,ok⟩:=ap
     try simp only at o
     cases ok with
     |false=>simp only[Bool.not_false,if_true,k,oB,cond_false]
     |true=>simp only[Bool.not_true,Bool.false_eq_true,if_false,o,oB,cond_true]
    |none =>
     rw[t]at s
     simp only[S0g]at s
     rw[s,oB]
     try simp only[]
     rw[F0 (show H0 (-1) from⟨by omega,by omega⟩),oB,oB,if_neg (by simp),M hf,oB]
     have d:=d hf
     have z:=z hf
     have y:=y hf
     cases hm:D4 (f,n,es)with
     |nil=>simp only[List.length_nil];rw[if_pos (by simp),k];rfl
     |cons e l =>
      have d:=d e (by rw[hm];exact mS)
      obtain⟨m,j,o,C⟩:=z e (by rw[hm];exact mS)
      rw[if_neg (by simp;omega),y,oB]
      revert d
      generalize A2 (f,n,es)=av
      intro d
      obtain⟨F,ok⟩:=av
      simp only at d
      simp only[]
      cases ok with
      |false=>simp[k]
      |true =>
       have d:=d rfl
       simp only[Bool.not_true,Bool.false_eq_true,if_false,cond_true]
       obtain⟨D,E,U⟩:=e
       simp only at m j o C d
       rw[Y06 rfl]
       simp only[oB]
       rw[H0n D E n ⟨⟨by omega,by omega⟩,by omega⟩]
       simp only[oB]
       revert d
       generalize K5 F (stp D E n)=ae
       intro d
       obtain⟨V,P⟩:=ae
       cases P<;>simp[k,d]
   ·simp only[hr,decide_false,Bool.not_false,if_true,k,oB,cond_false]
theorem J0n(g:Nat):∀(d k:Nat) (x:Int),x∈wo g d k->∃ j:Nat,x=(j:Int)/\k<=j/\j<k+d
 |0,k,x,h=>nomatch h
 |d+1,k,x,h=>by
  unfold wo at h
  split at h
  ·obtain⟨j,a,b,c⟩:=J0n g d (k+1) x h
   exact⟨j,a,by omega,by omega⟩
  ·rcases List.mem_cons.1 h with rfl|h
   ·exact⟨k,rfl,Nat.le_refl _,by omega⟩
   ·obtain⟨j,a,b,c⟩:=J0n g d (k+1) x h
    exact⟨j,a,by omega,by omega⟩
theorem f06(g:Nat):∀(d k:Nat),(wo g d k).Nodup
 |0,k=>List.nodup_nil
 |d+1,k=>by
  unfold wo
  split
  ·exact f06 g d (k+1)
  ·refine List.nodup_cons.2 ⟨λh=>?_,f06 g d (k+1)⟩
   obtain⟨j,a,b,c⟩:=J0n g d (k+1) _ h
   omega
theorem Z0g(P:List Int):∀(es:List N0),∀ e∈pE P es,∃ a∈es,e=(getI P a.1,a.2.1,getI P a.2.2)/\0<=getI P a.1/\0<=getI P a.2.2
 | [],e,h=>nomatch h
 |b::r,e,h=>by
  unfold pE at h
  cases hb:decide (0<=getI P b.1)&&decide (0<=getI P b.2.2)
  ·rw[hb]at h
   obtain⟨a,c,d⟩:=Z0g P r e h
   exact⟨a,mC _ c,d⟩
  ·rw[hb]at h
   simp only[Bool.and_eq_true,decide_eq_true_eq]at hb
   rcases List.mem_cons.1 h with rfl|h
   ·exact⟨b,mS,rfl,hb.1,hb.2⟩
   ·obtain⟨a,c,d⟩:=Z0g P r e h
    exact⟨a,mC _ c,d⟩
theorem j0b{g:j0}{o:List Int}(f:U0 g=true)(b:inV g.2.1.toNat o)(p:1<=o.length)(q:o.length<=40):U0 (o7 g o)=true:=by
 obtain⟨k,l,t,u⟩:=J2 f
 have s:=d0k (plc g.2.1.toNat o) g.2.2
 refine C0c l ⟨by omega,by omega⟩ (by omega) λe d=>?_
 obtain⟨a,c,rfl,i,j⟩:=Z0g _ _ e d
 have h:=k a c
 have m:=(B05 b (x:=a.1) (by omega)).2
 have n:=(B05 b (x:=a.2.2) (by omega)).2
 exact⟨⟨i,m⟩,⟨j,n⟩,h.2.2⟩
theorem a0h{n:Nat}:∀(o:List Int) (k:Nat) (A:List Int),A.length=n->inV n o->o.Nodup->(∀ x,0<=x->getI A x<(k:Int))->(∀ x y,0<=x->0<=y->0<=getI A x->getI A x=getI A y->x=y) ->
  ∀ x y,0<=x->0<=y->0<=getI (R01 A k o) x->getI (R01 A k o) x=getI (R01 A k o) y->x=y
 | [],k,A,h,e,i,c,d=>d
 |v::r,k,A,h,e,i,c,d=>by
  have f:=e v mS
  refine a0h r (k+1) (A.set v.toNat (k:Int)) (by simp[h]) (λw j=>e w (mC _ j)) (List.nodup_cons.1 i).2 (λx b=>?_) (λx y b g h0 a=>?_)
  ·rw[R04 f.1 (by omega) b]
   have:=c x b
   split<;>omega
  ·rw[R04 f.1 (by omega) b]at h0 a
   rw[R04 f.1 (by omega) g]at a
   have l:=c x b
   have m:=c y g
   by_cases c1:x=v
   ·by_cases c2:y=v
    ·rw[c1,c2]
    ·rw[if_pos c1,if_neg c2]at a;omega
   ·by_cases c2:y=v
    ·rw[if_neg c1,if_pos c2]at a;omega
    ·rw[if_neg c1]at h0;rw[if_neg c1,if_neg c2]at a
     exact d x y b g h0 a
theorem E0c{n:Nat}{o:List Int}(d:inV n o)(b:o.Nodup){x y:Int}(a:0<=x)(e:0<=y)(h0:0<=getI (plc n o) x)(c:getI (plc n o) x=getI (plc n o) y):x=y:=by
 refine a0h o 0 (List.replicate n (-1)) (by simp) d b (λx a=>by rw[z09];omega) (λx y _ _ h _=>by rw[z09]at h;omega) x y a e h0 c
theorem M0r{es:List N0}(h:es.Pairwise λa b=>c06 a b=false){a b:N0}(f:a∈es)(i:b∈es)(k:a≠b):c06 a b=false:=by
 induction es with
 |nil=>cases f
 |cons c r l =>
  obtain⟨e,j⟩:=List.pairwise_cons.1 h
  rcases List.mem_cons.1 f with rfl|g
  ·rcases List.mem_cons.1 i with rfl|d
   ·exact absurd rfl k
   ·exact e b d
  ·rcases List.mem_cons.1 i with rfl|d
   ·rw[C0d];exact e a g
   ·exact l j g d
theorem m0t{es:List N0}(i:Asc P0 es)(h:∀ a∈es,∀ b∈es,a≠b->c06 a b=false):es.Pairwise λa b=>c06 a b=false:=by
 induction es with
 |nil=>exact .nil
 |cons c r k =>
  obtain⟨f,g⟩:=List.pairwise_cons.1 i
  refine List.pairwise_cons.2 ⟨λb d=>h c mS b (mC _ d) λe=>?_,k g λa j b d=>h a (mC _ j) b (mC _ d)⟩
  have:=f b d
  rw[e,R3.refl]at this;omega
theorem L0d{g:j0}(c:U0 g=true):I0 g=true↔∀ a∈g.2.2,∀ b∈g.2.2,a≠b->c06 a b=false:=by
 rw[d00,K0d]
 exact⟨λh a d b e f=>M0r h.2 d e f,λh=>⟨c,m0t (graph_asc' c) h⟩⟩
where graph_asc' {g:j0} (h:U0 g=true):Asc P0 g.2.2:=((r9 g).1 h).2.2.2.2
theorem V04{g:j0}{o:List Int}(hf:I0 g=true)(j:inV g.2.1.toNat o)(m:o.Nodup)(s:1<=o.length)(t:o.length<=40):I0 (o7 g o)=true:=by
 have i:=Z4 hf
 obtain⟨n,G,H,I⟩:=J2 i
 refine(L0d (j0b i j s t)).2 λa u b v z=>?_
 have mem:∀ e∈(o7 g o).2.2,∃ a∈g.2.2,e=(getI (plc g.2.1.toNat o) a.1,a.2.1,getI (plc g.2.1.toNat o) a.2.2)/\0<=getI (plc g.2.1.toNat o) a.1/\0<=getI (plc g.2.1.toNat o) a.2.2:=λe y=>by
  rcases(W5 R3 e _ _).1 y with h|h
  ·cases h
  ·exact Z0g _ _ e h
 obtain⟨d,k,rfl,C,D⟩:=mem a u
 obtain⟨f,l,rfl,E,F⟩:=mem b v
 have A:d≠f:=λe=>z (by rw[e])
 have c:=(L0d i).1 hf d k f l A
 have p:=n d k
 have q:=n f l
 unfold c06 at c ⊢
 simp only[Bool.and_eq_false_iff,Bool.or_eq_false_iff,decide_eq_false_iff_not]at c ⊢
 rcases c with c|⟨w,x⟩
 ·exact .inl c
 ·exact .inr ⟨λe=>w (E0c j m p.1.1 q.1.1 C e),λe=>x (E0c j m p.2.1.1 q.2.1.1 D e)⟩
def T9:Nat->j0->j0
 |0,g=>g
 |d+1,g=>match L8 g with
  |none=>g
  |some k=>T9 d (o7 g (wo k g.2.1.toNat 0))
theorem F0c{g:j0}{k:Nat}(h:L8 g=some k):1<=k/\k<g.2.1.toNat:=by
 have:=A09 _ _ _ h
 omega
theorem H07{g:j0}(b:U0 g=true){k:Nat}(h:L8 g=some k):inV g.2.1.toNat (wo k g.2.1.toNat 0)/\(wo k g.2.1.toNat 0).length=g.2.1.toNat-1/\1<=(wo k g.2.1.toNat 0).length/\(wo k g.2.1.toNat 0).length<=40:=by
 obtain⟨d,e,f,i⟩:=J2 b
 have c:=F0c h
 have a:=g0k k g.2.1.toNat 0
 rw[if_pos (by omega)]at a
 exact⟨d0p k _ _ 0 (by omega),a,by omega,by omega⟩
theorem j01:∀(d:Nat) {g:j0},I0 g=true->I0 (T9 d g)=true
 |0,g,h=>h
 |d+1,g,h=>by
  unfold T9
  cases e:L8 g with
  |none=>exact h
  |some k =>
   obtain⟨a,f,b,c⟩:=H07 (Z4 h) e
   exact j01 d (V04 h a (f06 _ _ _) b c)
theorem b0h(n g:Nat)(i:n<=1000)(u:List Int)(j:u.length=n):∀(d k fuel:Nat) (acc a:List Int),k+d=n->d<fuel->acc.length<=k->a.length<=k ->
  ∃ v,c6 (n:Int) (g:Int) u fuel (k:Int) acc a=some (acc++wo g d k,v)/\v.length+acc.length=a.length+(acc++wo g d k).length
 |d,k,0,acc,a,h,hf,b,f=>by omega
 |0,k,fuel+1,acc,a,h,hf,b,f=>by
  rw[c6.eq_2,if_neg (by simp;omega)];exact⟨a,by simp[wo],by simp[wo]⟩
 |d+1,k,fuel+1,acc,a,h,hf,b,f=>by
  have l:=A5 (show k<u.length by omega)
  generalize u[k]=x at l
  rw[c6.eq_2,if_pos (by simp;omega),V2 (show k<10000 by omega) (by omega)]
  unfold wo
  by_cases c:k=g
  ·have e:decide ((k:Int)=(g:Int))=true:=decide_eq_true (by omega)
   rw[e,if_neg (by simp),if_pos c]
   exact b0h n g i u j d (k+1) fuel acc a (by omega) (by omega) (by omega) (by omega)
  ·have e:decide ((k:Int)=(g:Int))=false:=decide_eq_false (by omega)
   rw[e,if_pos (show(!false)=true from rfl),if_neg c,F0 (by simp;omega),oB,Z2 l,oB,F0 (by simp;omega),oB]
   obtain⟨v,m,o⟩:=b0h n g i u j d (k+1) fuel (acc ++ [(k:Int)]) (a ++ [x]) (by omega) (by omega) (by simp;omega) (by simp;omega)
   refine⟨v,by rw[m];simp,?_⟩
   simp only[List.length_append,List.length_cons,List.length_nil]at o ⊢
   omega
theorem e0m(g:j0)(a:U0 g=true):∀(d k fuel:Nat) (acc:List Int),k+d=g.2.1.toNat->d<fuel->acc.length=k ->
  ∃ u,M6 g.2.1 g.1 g.2.2 fuel (k:Int) acc=some u/\u.length=g.2.1.toNat
 |d,k,0,acc,c,hf,b=>by omega
 |0,k,fuel+1,acc,c,hf,b=>by
  obtain⟨h,i,j,l⟩:=J2 a
  rw[M6.eq_2,show decide (((k:Nat):Int)<g.2.1)=false by simp;omega]
  exact⟨acc,by simp[chk],by omega⟩
 |d+1,k,fuel+1,acc,c,hf,b=>by
  obtain⟨h,i,j,l⟩:=J2 a
  obtain⟨u,e,f⟩:=e0m g a d (k+1) fuel (acc ++ [(k:Int)]) (by omega) (by omega) (by simp;omega)
  rw[M6.eq_2,show decide (((k:Nat):Int)<g.2.1)=true by simp;omega,Y1,show(g.1,g.2.1,g.2.2)=g from rfl,L7 g (by omega),oB,a]
  rw[if_pos (show(bif true then true else false)=true from rfl),F0 (by simp;omega),oB,V2 (show k<1000 by omega) (by omega),e]
  exact⟨u,rfl,f⟩
theorem f0m(h:j0)(o:U0 h=true):∀(d k fuel:Nat) (g:j0) (u:List Int),k+d=40->d<fuel->U0 g=true->u.length=g.2.1.toNat->g.2.1.toNat<=d+1 ->
  ∃ v,(L6 h.1 h.2.1 h.2.2 fuel u (k:Int) g.1 g.2.1 g.2.2).bind (λX=>l7 X (λy=>match y with|(a,b,c,e)=>some ((b,c,e),a)))=some (T9 d g,v)
 |d,k,0,g,u,s,hf,i,x,t=>by omega
 |0,k,fuel+1,g,u,s,hf,i,x,t=>by
  rw[L6.eq_2,show decide (((k:Nat):Int)<40)=false by simp;omega]
  exact⟨u,by simp[chk,l7,T9]⟩
 |d+1,k,fuel+1,g,u,s,hf,i,x,t=>by
  obtain⟨I,J,K,L⟩:=J2 o
  obtain⟨M,N,O,P⟩:=J2 i
  have D:=H0r g i
  rw[L6.eq_2,show decide (((k:Nat):Int)<40)=true by simp;omega,Y1,show(h.1,h.2.1,h.2.2)=h from rfl,L7 h (by omega),oB,o]
  rw[if_pos (show(bif true then true else false)=true from rfl),show(g.1,g.2.1,g.2.2)=g from rfl,D]
  unfold T9
  cases e:L8 g with
  |none =>
   simp only[oB]
   rw[F0 (show H0 (-1) from⟨by omega,by omega⟩),oB,if_pos (by simp)]
   exact⟨u,rfl⟩
  |some j =>
   obtain⟨p,A,n,C⟩:=H07 i e
   have H:=F0c e
   obtain⟨f,m⟩:∃ f:Nat,g.2.1=(f:Int):=⟨g.2.1.toNat,by omega⟩
   have l:g.2.1.toNat=f:=by omega
   obtain⟨v,F,G⟩:=b0h f j (by omega) u (by omega) f 0 V0 [] [] (by omega) (E1 (by omega)) (Nat.le_refl _) (Nat.le_refl _)
   have w:=J0g g.1 f g.2.2 (wo j f 0) (by rw[←m];exact i) (by rw[←l];exact p) (f06 _ _ _) (by rw[←l];exact n) (by rw[←l];omega)
   rw[←m,show(g.1,g.2.1,g.2.2)=g from rfl]at w
   have q:=j0b i p n C
   rw[l]at q A n
   obtain⟨E,z⟩:=f0m h o d (k+1) fuel (o7 g (wo j f 0)) v (by omega) (by omega) q (by simp only[List.nil_append,List.length_nil]at G;show v.length=((wo j f 0).length:Int).toNat;omega) (by show((wo j f 0).length:Int).toNat<=d+1;omega)
   simp only[oB]
   rw[F0 (show H0 ((j:Nat):Int) from⟨by omega,by omega⟩),oB,if_neg (by simp),m,show(0:Int)=((0:Nat):Int) from rfl,F]
   simp only[oB,List.nil_append]
   rw[←m,w]
   simp only[oB]
   rw[V2 (show k<1000 by omega) (by omega),l]
   exact⟨E,z⟩
def k0b(g:j0):j0:=T9 40 g
theorem K0n{g:j0}(a:U0 g=true):∃ v,C01 g=some (k0b g,v):=by
 obtain⟨f,h,i,j⟩:=J2 a
 have e:=n03 g (by omega)
 obtain⟨u,b,d⟩:=e0m g a g.2.1.toNat 0 V0 [] (by omega) (E1 (by omega)) rfl
 obtain⟨v,c⟩:=f0m g a 40 0 V0 g u rfl (E1 (by omega)) a d (by omega)
 refine⟨v,?_⟩
 obtain⟨r,n,es⟩:=g
 unfold C01
 simp only[e,oB]
 simp only at b c
 rw[show(0:Int)=((0:Nat):Int) from rfl,b,oB]
 exact c
theorem g0m:∀(n fuel d:Nat) (left:List Int) (r:Int) (es:List N0),1<=n->n<=40->inN n es->es.length<=120->left.length=n->n<fuel->n<=d+1 ->
  ∃ i,Z5 fuel left r (n:Int) es=some (.inl (T9 d (r,(n:Int),es),i))
 |n,0,d,left,r,es,j,l,b,C,D,hf,A=>by omega
 |n,fuel+1,d,left,r,es,j,l,b,C,D,hf,A=>by
  obtain⟨c,x,H,y⟩:=J0l r n es b (by omega) j (by omega)
  have t:=f0k r n es (by omega) c H l (n-1) 1 V0 (Nat.le_refl _) (by omega) (by omega) (E1 (by omega))
  have z:lf (λv=>decide (b02 (v:Int) es<2) || !s00 c (v:Int)) (n-1) 1=lf (R08 es) (n-1) 1:=N0g _ _ λk J K=>by
   unfold R08
   have:=y (k:Int) (by omega) (by omega)
   have m:=B04 es 0 (k:Int)
   congr 2
   cases hb:s00 c (k:Int)
   ·symm;exact decide_eq_false λh=>by rw[this.2 (m.1 h)]at hb;cases hb
   ·symm;exact decide_eq_true (m.2 (this.1 hb))
  rw[z]at t
  have o:L8 (r,(n:Int),es)=lf (R08 es) (n-1) 1:=by simp only[L8,Int.toNat_natCast]
  rw[Z5.eq_2,x,oB,show(1:Int)=((1:Nat):Int) from rfl,t,oB]
  cases hlf:lf (R08 es) (n-1) 1 with
  |none =>
   have e:T9 d (r,(n:Int),es)=(r,(n:Int),es):=by
    cases d with
    |zero=>rfl
    |succ d=>unfold T9;rw[o,hlf]
   rw[e]
   exact⟨left,by rw[if_pos (by rfl)]⟩
  |some k =>
   have I:=A09 _ _ _ hlf
   have w:decide ((k:Int)=0)=false:=decide_eq_false (by omega)
   have p:=d0p k n n 0 (by omega)
   have g:=g0k k n 0
   rw[if_pos (by omega)]at g
   have s:=h0k n k (by omega) n 0 V0 [] (by omega) (E1 (by omega)) (Nat.le_refl _)
   rw[show((0:Nat):Int)=0 from rfl,List.nil_append]at s
   have E:=C0n r n es (wo k n 0) b p (by omega) (by omega) (by omega)
   have F:=h0b (r,(n:Int),es) (wo k n 0)
   have q:=B0i (r:=r) p b
   have G:IntKind.i64.wrap ((k:Int)+((1:Nat):Int))=((k+1:Nat):Int):=by rw[w64 (by omega) (by omega)];rfl
   obtain⟨a,rfl⟩:∃ a,d=a+1:=⟨d-1,by omega⟩
   have f:o7 (r,(n:Int),es) (wo k n 0)=(r,((n-1:Nat):Int),(o7 (r,(n:Int),es) (wo k n 0)).2.2):=by rw[←g];rfl
   obtain⟨i,u⟩:=g0m (n-1) fuel a (left.take k++left.drop (k+1)) r (o7 (r,(n:Int),es) (wo k n 0)).2.2 (by omega) (by omega) (by rw[g]at q;exact q) (by simp only at F;omega) (by simp only[List.length_append,List.length_take,List.length_drop];omega) (by omega) (by omega)
   refine⟨i,?_⟩
   rw[←f]at u
   have e:T9 (a+1) (r,(n:Int),es)=T9 a (o7 (r,(n:Int),es) (wo k n 0)):=by
    show(match L8 (r,(n:Int),es)with|none=>(r,(n:Int),es)|some k=>T9 a (o7 (r,(n:Int),es) (wo k ((n:Int)).toNat 0)))=_
    rw[o,hlf,Int.toNat_natCast]
   rw[e]
   simp only[w,Bool.false_eq_true,if_false,s,oB,E]
   generalize o7 (r,(n:Int),es) (wo k n 0)=gp at *
   rw[f]
   simp only[G]
   rw[O0l (by omega),oB,p08 (by omega),oB,F0 (by simp only[List.length_take,List.length_drop];omega),oB,u,←f]
theorem h0m{g:j0}(h:U0 g=true):∃ v,g8 g=some (k0b g,v):=by
 obtain⟨c,j,k,d⟩:=J2 h
 have o:=o00 g (by omega)
 have l:=Q01 g (by omega)
 obtain⟨r,n,es⟩:=g
 simp only at j k d
 obtain⟨a,rfl⟩:∃ a:Nat,n=(a:Int):=⟨n.toNat,by omega⟩
 have m:inN a es:=λe f=>⟨(c e f).1,(c e f).2.1⟩
 obtain⟨u,b,i⟩:=i0k a (by omega) a 0 V0 [] (by omega) (E1 (by omega)) rfl
 obtain⟨p,q⟩:=g0m a V0 40 u r es (by omega) (by omega) m d i (E1 (by omega)) (by omega)
 refine⟨p,?_⟩
 unfold g8
 rw[show((0:Nat):Int)=0 from rfl]at b
 simp only[l,oB,o,h,Bool.not_true,Bool.false_eq_true,if_false,b,q,l7]
 rfl
def D01(g:j0):j0:=S3 (k0b g)
theorem G0c{g:j0}(hf:I0 g=true):i4 g=(g,[]):=by
 obtain⟨a,b⟩:=(d00 g).1 hf
 unfold i4
 rw[a]
 show L01 40 g=_
 unfold L01
 rw[b]
theorem L0n{g:j0}(hf:I0 g=true):x00 g=some (D01 g):=by
 have b:=Z4 hf
 obtain⟨e,f,h,i⟩:=J2 b
 have a:=C04 g (by omega)
 rw[G0c hf]at a
 obtain⟨v,c⟩:=K0n b
 have d:=E0e (k0b g) (j01 40 hf)
 obtain⟨r,n,es⟩:=g
 unfold x00 D01
 simp only[a,oB,c]
 simp only[d,oB]
theorem M0n{g:j0}(hf:I0 g=true):y00 g=some (D01 g):=by
 have b:=Z4 hf
 obtain⟨e,f,h,i⟩:=J2 b
 have a:=Z06 g (by omega)
 rw[G0c hf]at a
 obtain⟨v,c⟩:=h0m b
 have d:=D0e (k0b g) (j01 40 hf)
 obtain⟨r,n,es⟩:=g
 unfold y00 D01
 simp only[a,oB,c]
 simp only[d,oB]
theorem N0r{a r u x v:Int}(b:0<=u/\u<a)(c:0<=v/\v<a)(d:x≠0 /\ -r<=x/\x<=r):(0<=(stp u x v).1/\(stp u x v).1<a)/\(0<=(stp u x v).2.2/\(stp u x v).2.2<a)/\1<=(stp u x v).2.1/\(stp u x v).2.1<=r:=by
 unfold stp
 split<;>(simp only;omega)
theorem i0m{b r v:Int}(g:0<=v/\v<b):∀(w:List Int) (u n:Int),(0<=u/\u<b)->0<=n->n+((w.length-1:Nat):Int)<=b->(∀ x∈w,x≠0 /\ -r<=x/\x<=r) ->
  ∀ e∈B01 v w u n,(0<=e.1/\e.1<b)/\(0<=e.2.2/\e.2.2<b)/\1<=e.2.1/\e.2.1<=r
 | [],u,n,d,h0,f,c,e,a=>nomatch a
 | [x],u,n,d,h0,f,c,e,a=>by
  simp only[B01,List.mem_singleton]at a
  subst a
  exact N0r d g (c x mS)
 |x::y::l,u,n,d,h0,f,c,e,a=>by
  simp only[List.length_cons]at f
  simp only[B01]at a
  rcases List.mem_cons.1 a with rfl|a
  ·exact N0r d ⟨h0,by omega⟩ (c x mS)
  ·exact i0m g (y::l) n (n+1) ⟨h0,by omega⟩ (by omega) (by simp only[List.length_cons];omega) (λz h=>c z (mC _ h)) e a
theorem D04{g:j0}{u v:Int}{w:List Int}(b:U0 g=true)(o:0<=u/\u<g.2.1)(p:0<=v/\v<g.2.1)(c:M3 g.1 w=true):U0 (M1 g u w v).1=true:=by
 obtain⟨f,i,q,s,j⟩:=(r9 g).1 b
 obtain⟨wl,k⟩:=t08 c
 unfold M1
 cases hc:(!w.isEmpty&&decide (g.2.1+(w.length:Int)-1<=40)&&decide (g.2.2.length+w.length<=120))with
 |false=>exact b
 |true =>
  simp only[Bool.and_eq_true,decide_eq_true_eq,Bool.not_eq_true',List.isEmpty_eq_false_iff]at hc
  have n:1<=w.length:=by
   have:=List.length_pos_iff.2 hc.1.1;omega
  have l:=B03 (B01 v w u g.2.1) g.2.2
  have m:=F07 v w u g.2.1
  simp only[cond_true]
  refine(r9 _).2 ⟨λe a=>?_,i,⟨by simp only;omega,by simp only;omega⟩,by simp only;omega,l03 R3 _ _ j⟩
  simp only at a ⊢
  rcases(W5 R3 e _ _).1 a with h|h
  ·have:=f e h
   omega
  ·exact i0m ⟨by omega,by omega⟩ w u g.2.1 ⟨by omega,by omega⟩ (by omega) (iR _) (λx d=>(k x d).2) e h
theorem v08(g:j0)(u:Int)(w:List Int)(v:Int):(M1 g u w v).1.1=g.1:=by
 unfold M1
 cases (!w.isEmpty&&decide (g.2.1+(w.length:Int)-1<=40)&&decide (g.2.2.length+w.length<=120))<;>rfl
def V00:List (List Int)->j0->j0
 | [],g=>g
 |w::r,g=>V00 r (M1 g 0 w 0).1
theorem G09:∀(c:List (List Int)) {g:j0},U0 g=true->(∀ w∈c,M3 g.1 w=true)->U0 (V00 c g)=true
 | [],g,a,b=>a
 |w::r,g,a,b=>by
  obtain⟨f,h,i,j⟩:=J2 a
  exact G09 r (D04 a ⟨iR _,by omega⟩ ⟨iR _,by omega⟩ (b w mS)) λe d=>by
   rw[v08];exact b e (mC _ d)
theorem j0m{g:j0}{w:List Int}(a:U0 g=true)(b:M3 g.1 w=true):e02 g w=some (M1 g 0 w 0):=by
 obtain⟨c,d,e,f⟩:=J2 a
 have h:=K0a a (u:=0) (v:=0) ⟨iR _,by omega⟩ ⟨iR _,by omega⟩ b
 obtain⟨r,n,es⟩:=g
 unfold e02
 simp only[h,oB]
theorem k0m{g:j0}{w:List Int}(a:U0 g=true)(b:M3 g.1 w=true):i02 g w=some (M1 g 0 w 0):=by
 obtain⟨c,d,e,f⟩:=J2 a
 have h:=L0a a (u:=0) (v:=0) ⟨iR _,by omega⟩ ⟨iR _,by omega⟩ b
 obtain⟨r,n,es⟩:=g
 unfold i02
 simp only[h,oB]
theorem K0i(a:List (List Int))(j:a.length<=1000):∀(d k fuel:Nat) (g:j0),k+d=a.length->d<fuel->U0 g=true->(∀ w∈a,M3 g.1 w=true) ->
  F7 a fuel (k:Int) g.1 g.2.1 g.2.2=some (V00 (a.drop k) g)
 |d,k,0,g,i,hf,b,c=>by omega
 |0,k,fuel+1,g,i,hf,b,c=>by
  rw[F7.eq_2,if_neg (by simp;omega),P1 (by omega)];rfl
 |d+1,k,fuel+1,g,i,hf,b,c=>by
  have e:k<a.length:=by omega
  have h:=A5 e
  have f:=c _ (List.getElem_mem e)
  generalize a[k]=w at h f
  obtain⟨m,n,o,p⟩:=J2 b
  have l:=K0i a j d (k+1) fuel (M1 g 0 w 0).1 (by omega) (by omega) (D04 b ⟨iR _,by omega⟩ ⟨iR _,by omega⟩ f) (by rw[v08];exact c)
  rw[F7.eq_2,if_pos (by simp;omega),Z2 h,oB,show(g.1,g.2.1,g.2.2)=g from rfl,j0m b f,oB,V2 e (by omega),V1 h]
  exact l
theorem L0i(a:List (List Int))(n:a.length<=1000):∀(d k fuel:Nat) (g:j0),k+d=a.length->d<fuel->U0 g=true->(∀ w∈a,M3 g.1 w=true) ->
  D6 a fuel (k:Int) g.1 g.2.1 g.2.2=some (V00 (a.drop k) g)
 |d,k,0,g,m,hf,b,f=>by omega
 |0,k,fuel+1,g,m,hf,b,f=>by
  rw[D6.eq_2,if_neg (by simp;omega),P1 (by omega)];rfl
 |d+1,k,fuel+1,g,m,hf,b,f=>by
  have h:k<a.length:=by omega
  have j:=A5 h
  have i:=f _ (List.getElem_mem h)
  generalize a[k]=w at j i
  obtain⟨o,p,q,s⟩:=J2 b
  have l:=L0i a n d (k+1) fuel (M1 g 0 w 0).1 (by omega) (by omega) (D04 b ⟨iR _,by omega⟩ ⟨iR _,by omega⟩ i) (by rw[v08];exact f)
  rw[D6.eq_2,if_pos (by simp;omega),Z2 j,oB,V2 h (by omega),V1 j]
  by_cases c:w = []
  ·subst c
   rw[if_neg (by simp)]
   have e:(M1 g 0 [] 0).1=g:=rfl
   rw[e]at l
   rw[l]
   show _=some (V00 (a.drop (k+1)) (M1 g 0 [] 0).1)
   rw[e]
  ·have:0<w.length:=List.length_pos_iff.2 c
   rw[if_pos (by simp;omega),show(g.1,g.2.1,g.2.2)=g from rfl,k0m b i,oB]
   exact l
def I07(r:Int)(a:List (List Int)):j0×Bool:=bif G3 r a then(V00 a (r,1,[]),true)else((0,0,[]),false)
theorem J07{r:Int}{a:List (List Int)}(h:G3 r a=true):(1<=r/\r<=3)/\a.length<=6/\∀ w∈a,M3 r w=true:=by
 simp only[G3,inR,Bool.and_eq_true,decide_eq_true_eq]at h
 refine⟨h.1.1.1,h.1.1.2,?_⟩
 have b:∀ {a:List (List Int)},o0a r a=true->∀ w∈a,M3 r w=true:=by
  intro a
  induction a with
  |nil=>intro _ w b;cases b
  |cons v l c =>
   intro h w b
   simp only[o0a,Bool.and_eq_true]at h
   rcases List.mem_cons.1 b with rfl|b
   ·exact h.1
   ·exact c h.2 w b
 exact b h.1.2
theorem h0a{r:Int}(b:1<=r/\r<=3):U0 (r,1,[])=true:=(r9 _).2 ⟨(λe a=>by cases a),b,⟨by simp,by simp⟩,by simp,List.Pairwise.nil⟩
theorem o0k(r:Int)(a:List (List Int))(d:a.length<=140737488355328)(f:U2 a):f02 r a=some (I07 r a):=by
 have b:=w09 r a d f
 unfold f02 I07
 rw[b,oB]
 cases hA:G3 r a with
 |false=>rfl
 |true =>
  obtain⟨e,i,g⟩:=J07 hA
  have h:=K0i a (by omega) a.length 0 V0 (r,1,[]) (by omega) (E1 (by omega)) (h0a e) g
  have c:d02 r=some ((r,1,[]),true):=by
   unfold d02
   rw[r04,oB,if_neg (by simp[inR];omega)]
  rw[if_neg (by simp),c,oB]
  simp only[]at h ⊢
  rw[show(0:Int)=((0:Nat):Int) from rfl,h]
  rfl
theorem p0k(r:Int)(a:List (List Int))(d:a.length<=140737488355328)(f:U2 a):j02 r a=some (I07 r a):=by
 have b:=x09 r a d f
 unfold j02 I07
 rw[b,oB]
 cases hA:G3 r a with
 |false=>rfl
 |true =>
  obtain⟨e,i,g⟩:=J07 hA
  have h:=L0i a (by omega) a.length 0 V0 (r,1,[]) (by omega) (E1 (by omega)) (h0a e) g
  have c:h02 r=some ((r,1,[]),true):=by
   unfold h02
   rw[Y02,oB,if_neg (by simp[inR];omega)]
  rw[if_neg (by simp),c,oB]
  simp only[]at h ⊢
  rw[show(0:Int)=((0:Nat):Int) from rfl,h]
  rfl
def M0i:j0:=(0,0,[])
def Q06(p:D0):Nat->j0->j0×Bool
 |0,_=>(M0i,false)
 |d+1,g=>bif(N1 p g).2.2 then(bif(N1 p g).2.1 then Q06 p d (N1 p g).1 else(D01 g,true))else(M0i,false)
theorem K07{p:D0}{g:j0}(h:(N1 p g).2.2=true):K3 p=true/\I0 g=true/\p.1=g.1:=by
 unfold N1 at h
 cases hc:(K3 p&&I0 g&&decide (p.1=g.1))with
 |false=>rw[hc]at h;cases h
 |true =>
  simp only[Bool.and_eq_true,decide_eq_true_eq]at hc
  exact⟨hc.1.1,hc.1.2,hc.2⟩
theorem N0i{p:D0}{g:j0}(h:(N1 p g).2.1=false):(N1 p g).1=g:=by
 unfold N1 at h ⊢
 cases hc:(K3 p&&I0 g&&decide (p.1=g.1))with
 |false=>rfl
 |true =>
  rw[hc]at h
  simp only[cond_true]at h ⊢
  cases hh:v04 g p.2 g.2.1.toNat 0 with
  |some q =>
   obtain⟨v,i⟩:=q
   rw[hh]at h
   simp only[X0g]at h ⊢
   cases hi:p.2[i]? with
   |none=>rfl
   |some w =>
    rw[hi]at h
    simp only at h ⊢
    cases ha:(M1 g (v:Int) w (v:Int)).2 with
    |false=>rfl
    |true=>rw[ha]at h;cases h
  |none =>
   rw[hh]at h
   simp only[Y0g]at h ⊢
   cases hm:D4 g with
   |nil=>rfl
   |cons e l =>
    rw[hm]at h
    simp only at h ⊢
    cases hv:(A2 g).2 with
    |false=>rfl
    |true =>
     rw[hv]at h
     simp only[cond_true]at h ⊢
     cases he:(K5 (A2 g).1 (stp e.1 e.2.1 g.2.1)).2 with
     |false=>rfl
     |true=>rw[he]at h;cases h
theorem c0h{p:D0}{g:j0}(h:g.2.2.length<=1000):(N1 p g).1.2.2.length<=1000:=by
 by_cases hf:(N1 p g).2.1=false
 ·rw[N0i hf];exact h
 ·unfold N1 at hf ⊢
  cases hc:(K3 p&&I0 g&&decide (p.1=g.1))with
  |false=>exact h
  |true =>
   simp only[Bool.and_eq_true]at hc
   have b:=((d00 g).1 hc.1.2).1
   have d:=(J2 b).2.2.2
   simp only[cond_true]
   cases v04 g p.2 g.2.1.toNat 0 with
   |some q =>
    obtain⟨v,i⟩:=q
    simp only[X0g]
    cases p.2[i]? with
    |none=>exact h
    |some w =>
     simp only
     cases (M1 g (v:Int) w (v:Int)).2 with
     |false=>exact h
     |true =>
      have a:=F09 b (v:Int) w (v:Int)
      simp only[cond_true,i4]
      cases hG:U0 (M1 g (v:Int) w (v:Int)).1 with
      |false=>simp only[cond_false];omega
      |true =>
       have:=(J2 (B09 40 hG)).2.2.2
       simp only[cond_true];omega
   |none =>
    simp only[Y0g]
    cases D4 g with
    |nil=>exact h
    |cons e l =>
     simp only
     cases (A2 g).2 with
     |false=>exact h
     |true =>
      simp only[cond_true]
      have a:(A2 g).1.2.2=g.2.2:=by unfold A2;cases decide (g.2.1<40)<;>rfl
      have c:(K5 (A2 g).1 (stp e.1 e.2.1 g.2.1)).1.2.2.length<=g.2.2.length+1:=by
       have:=A05 (stp e.1 e.2.1 g.2.1) (A2 g).1.2.2
       unfold K5
       rw[a]at this ⊢
       cases (decide (g.2.2.length<120) && !decide (stp e.1 e.2.1 g.2.1∈g.2.2))with
       |false=>simp only[cond_false,a];omega
       |true=>simp only[cond_true];omega
      cases (K5 (A2 g).1 (stp e.1 e.2.1 g.2.1)).2 with
      |false=>exact h
      |true=>simp only[cond_true];omega
def n0t:(j0×Bool) ⊕ (Int×Int×Z0)->Option (j0×Bool):=λX=>l7 X (λS=>match S with
 |(a,b,c)=>some ((0,0,[]),false))
theorem h0p(p:D0)(j:p.2.length<=140737488355328)(l:U2 p.2):∀(d k fuel:Nat) (g:j0),k+d=300->d<fuel->g.2.2.length<=1000 ->
  (T3 p.1 p.2 fuel (k:Int) g.1 g.2.1 g.2.2).bind n0t=some (Q06 p d g)
 |d,k,0,g,i,hf,h=>by omega
 |0,k,fuel+1,g,i,hf,h=>by
  rw[T3.eq_2,if_neg (by simp;omega)];rfl
 |d+1,k,fuel+1,g,i,hf,h=>by
  have o:=O06 p g j l (by omega)
  have e:(N1 p g).2.2=true->(N1 p g).2.1=false->x00 (N1 p g).1=some (D01 g):=λa b=>by
   rw[N0i b];exact L0n (K07 a).2.1
  have f:=h0p p j l d (k+1) fuel (N1 p g).1 (by omega) (by omega) (c0h h)
  rw[T3.eq_2,if_pos (by simp;omega),show(g.1,g.2.1,g.2.2)=g from rfl,show(p.1,p.2)=p from rfl,o,oB,V2 (show k<1000 by omega) (by omega)]
  unfold Q06
  revert e f
  generalize N1 p g=q
  obtain⟨n,more,m⟩:=q
  obtain⟨a,b,c⟩:=n
  intro e f
  simp only at e f ⊢
  cases m with
  |false=>rfl
  |true =>
   cases more with
   |true=>exact f
   |false =>
    simp only[Bool.not_true,Bool.not_false,Bool.false_eq_true,if_false,if_true,e rfl rfl,oB]
    rfl
theorem i0p(p:D0)(j:p.2.length<=140737488355328)(l:U2 p.2):∀(d k fuel:Nat) (g:j0),k+d=300->d<fuel->g.2.2.length<=1000 ->
  (U3 p.1 p.2 fuel (k:Int) g.1 g.2.1 g.2.2).bind n0t=some (Q06 p d g)
 |d,k,0,g,i,hf,h=>by omega
 |0,k,fuel+1,g,i,hf,h=>by
  rw[U3.eq_2,if_neg (by simp;omega)];rfl
 |d+1,k,fuel+1,g,i,hf,h=>by
  have o:=P06 p g j l (by omega)
  have e:(N1 p g).2.2=true->y00 g=some (D01 g):=λa=>M0n (K07 a).2.1
  have f:=i0p p j l d (k+1) fuel (N1 p g).1 (by omega) (by omega) (c0h h)
  rw[U3.eq_2,if_pos (by simp;omega),show(g.1,g.2.1,g.2.2)=g from rfl,show(p.1,p.2)=p from rfl,o,oB,V2 (show k<1000 by omega) (by omega)]
  unfold Q06
  revert e f
  generalize N1 p g=q
  obtain⟨n,more,m⟩:=q
  obtain⟨a,b,c⟩:=n
  intro e f
  simp only at e f ⊢
  cases m with
  |false=>rfl
  |true =>
   cases more with
   |true=>exact f
   |false =>
    simp only[Bool.not_true,Bool.not_false,Bool.false_eq_true,if_false,if_true,e rfl,oB]
    rfl
def A3(p:D0)(a:List (List Int)):j0×Bool:=bif K3 p&&G3 p.1 a then Q06 p 300 (i4 (V00 a (p.1,1,[]))).1 else(M0i,false)
theorem H0c{r:Int}{a:List (List Int)}(h:G3 r a=true):(V00 a (r,1,[])).2.2.length<=120/\(i4 (V00 a (r,1,[]))).1.2.2.length<=1000:=by
 obtain⟨c,e,d⟩:=J07 h
 have b:=G09 a (h0a c) d
 refine⟨(J2 b).2.2.2,?_⟩
 have:=(G1 (C09 b)).2.2.2
 omega
theorem w08(p:D0)(d:List (List Int))(j:p.2.length<=140737488355328)(k:U2 p.2)(m:d.length<=140737488355328)(n:U2 d):i5 p d=some (A3 p d):=by
 have l:=f8 p j k
 have g:=o0k p.1 d m n
 have e:G3 p.1 d=true->N7 (V00 d (p.1,1,[]))=some (i4 (V00 d (p.1,1,[]))):=λh=>C04 _ (by have:=(H0c h).1;omega)
 have f:G3 p.1 d=true->(T3 p.1 p.2 V0 ((0:Nat):Int) (i4 (V00 d (p.1,1,[]))).1.1 (i4 (V00 d (p.1,1,[]))).1.2.1 (i4 (V00 d (p.1,1,[]))).1.2.2).bind n0t=some (Q06 p 300 (i4 (V00 d (p.1,1,[]))).1):=λh=>h0p p j k 300 0 V0 _ rfl (E1 (by omega)) (H0c h).2
 unfold I07 at g
 unfold A3
 obtain⟨i,o⟩:=p
 unfold i5
 simp only at g e f ⊢
 rw[g,oB]
 cases hA:G3 i d with
 |false =>
  rw[Bool.and_false];rfl
 |true =>
  have e:=e hA
  have f:=f hA
  simp only[cond_true,Bool.not_true,Bool.not_false,Y1,cond_false,l,oB,Bool.and_true]
  cases hP:K3 (i,o)with
  |false=>rfl
  |true =>
   rw[if_neg (by simp)]
   revert e f
   generalize V00 d (i,1,[])=fl
   intro e f
   obtain⟨a,b,c⟩:=fl
   simp only[e,oB]
   exact f
theorem l0b(p:D0)(d:List (List Int))(j:p.2.length<=140737488355328)(k:U2 p.2)(m:d.length<=140737488355328)(n:U2 d):d6 p d=some (A3 p d):=by
 have l:=O9 p j k
 have g:=p0k p.1 d m n
 have e:G3 p.1 d=true->M8 (V00 d (p.1,1,[]))=some (i4 (V00 d (p.1,1,[]))):=λh=>Z06 _ (by have:=(H0c h).1;omega)
 have f:G3 p.1 d=true->(U3 p.1 p.2 V0 ((0:Nat):Int) (i4 (V00 d (p.1,1,[]))).1.1 (i4 (V00 d (p.1,1,[]))).1.2.1 (i4 (V00 d (p.1,1,[]))).1.2.2).bind n0t=some (Q06 p 300 (i4 (V00 d (p.1,1,[]))).1):=λh=>i0p p j k 300 0 V0 _ rfl (E1 (by omega)) (H0c h).2
 unfold I07 at g
 unfold A3
 obtain⟨i,o⟩:=p
 unfold d6
 simp only at g e f ⊢
 rw[l,oB]
 cases hP:K3 (i,o)with
 |false=>rfl
 |true =>
  rw[if_neg (by simp),g,oB]
  cases hA:G3 i d with
  |false=>rfl
  |true =>
   have e:=e hA
   have f:=f hA
   simp only[cond_true,Bool.not_true,Bool.false_eq_true,if_false]
   revert e f
   generalize V00 d (i,1,[])=fl
   intro e f
   obtain⟨a,b,c⟩:=fl
   simp only[e,oB]
   exact f
def i03(p:D0)(a:List (List Int)):Int:=bif(A3 p a).2 then(A3 p a).1.2.1 else -1
theorem F0e(p:D0)(a:List (List Int))(b:p.2.length<=140737488355328)(d:U2 p.2)(c:a.length<=140737488355328)(e:U2 a):z9 p a=some (i03 p a):=by
 have h:=w08 p a b d c e
 unfold i03
 obtain⟨f,g⟩:=p
 unfold z9
 simp only[h,oB]
 cases (A3 (f,g) a).2<;>rfl
theorem G0e(p:D0)(a:List (List Int))(b:p.2.length<=140737488355328)(d:U2 p.2)(c:a.length<=140737488355328)(e:U2 a):B9 p a=some (i03 p a):=by
 have h:=l0b p a b d c e
 unfold i03
 obtain⟨f,g⟩:=p
 unfold B9
 simp only[h,oB]
 cases (A3 (f,g) a).2<;>rfl
theorem H0e(p:D0):∀(d:Nat) (g:j0),Q06 p d g=(M0i,false)∨∃ a,I0 a=true/\Q06 p d g=(D01 a,true)
 |0,g => .inl rfl
 |d+1,g=>by
  unfold Q06
  cases h:(N1 p g).2.2 with
  |false=>exact .inl rfl
  |true =>
   cases h2:(N1 p g).2.1 with
   |true=>exact H0e p d _
   |false=>exact .inr ⟨g,(K07 h).2.1,rfl⟩
theorem m0b(p:D0)(a:List (List Int)):A3 p a=(M0i,false)∨∃ b,I0 b=true/\A3 p a=(D01 b,true):=by
 unfold A3
 cases K3 p&&G3 p.1 a with
 |false=>exact .inl rfl
 |true=>exact H0e p 300 _
theorem I0c(p:D0)(a:List (List Int)):(A3 p a).1.2.2.length<=120:=by
 rcases m0b p a with h|⟨g,hf,h⟩
 ·rw[h];simp[M0i]
 ·rw[h];exact I0d (j01 40 hf)
theorem H09(p:D0)(c:List (List Int)):H0 (i03 p c):=by
 unfold i03
 rcases m0b p c with h|⟨g,hf,h⟩
 ·rw[h];exact⟨by decide,by decide⟩
 ·rw[h]
  have a:=j01 40 hf
  obtain⟨d,e,f,i⟩:=G1 a
  have:(R4 (k0b g)).length<=40:=by
   have b:=(t04 a).1
   have:=P03 _ _ b.1 b.2
   show(R4 (T9 40 g)).length<=40
   omega
  show H0 (((R4 (k0b g)).length:Nat):Int)
  exact⟨by omega,by omega⟩
def O7(p:D0):Int:=i03 p []
theorem d0h(p:D0)(b:p.2.length<=140737488355328)(c:U2 p.2):A9 p=some (O7 p):=by
 have h:=F0e p [] b c (by simp) (λw d=>by cases d)
 have a:=H09 p []
 unfold O7
 obtain⟨e,f⟩:=p
 unfold A9
 simp only[h,oB]
 rw[F0 a];rfl
theorem N0n(p:D0)(b:p.2.length<=140737488355328)(c:U2 p.2):M00 p=some (O7 p):=by
 have h:=G0e p [] b c (by simp) (λw d=>by cases d)
 have a:=H09 p []
 unfold O7
 obtain⟨e,f⟩:=p
 unfold M00
 simp only[h,oB]
 rw[F0 a];rfl
theorem x08:∀(d:Nat) {g:j0},U0 g=true->g.2.1.toNat<=d+1->L8 (T9 d g)=none
 |0,g,a,h=>by
  cases e:L8 g with
  |none=>exact e
  |some k=>have:=F0c e;omega
 |d+1,g,a,h=>by
  unfold T9
  cases e:L8 g with
  |none=>exact e
  |some k =>
   obtain⟨b,i,c,f⟩:=H07 a e
   exact x08 d (j0b a b c f) (by show(((wo k g.2.1.toNat 0).length:Nat):Int).toNat<=d+1;omega)
theorem o0q{g:j0}(hf:I0 g=true){v x y z:Int}(q:y∈P9 v x g.2.2)(s:z∈P9 v x g.2.2):y=z:=by
 obtain⟨e,o,l⟩:=L3.1 q
 obtain⟨k,p,m⟩:=L3.1 s
 by_cases hne:e=k
 ·subst hne
  rcases l with⟨a,b,c,rfl⟩|⟨a,b,c,rfl⟩<;>rcases m with⟨h,i,j,rfl⟩|⟨h,i,j,rfl⟩<;>first|rfl|omega
 ·have f:=(L0d (Z4 hf)).1 hf e o k p hne
  unfold c06 at f
  simp only[Bool.and_eq_false_iff,Bool.or_eq_false_iff,decide_eq_false_iff_not]at f
  rcases l with⟨a,b,c,d⟩|⟨a,b,c,d⟩<;>rcases m with⟨h,i,j,n⟩|⟨h,i,j,n⟩<;>first|omega|(exfalso;rcases f with f|⟨t,u⟩<;>omega)
theorem T01(g:j0)(v x:Int):(T0 g v x = -1/\P9 v x g.2.2 = [])∨T0 g v x∈P9 v x g.2.2:=by
 unfold T0
 cases e:h03 g v x with
 |nil =>
  left
  refine⟨rfl,List.eq_nil_iff_forall_not_mem.2 λy b=>?_⟩
  have:y∈h03 g v x:=(W5 X02 y _ _).2 (.inr b)
  rw[e]at this;cases this
 |cons a l=>exact .inr (t0i (by rw[e];exact mS))
theorem E04{g:j0}(hf:I0 g=true){v x y:Int}(a:y∈P9 v x g.2.2):T0 g v x=y:=by
 rcases T01 g v x with⟨_,h⟩|h
 ·rw[h]at a;cases a
 ·exact o0q hf h a
theorem g06:∀(d i j:Nat),i<=j->j<i+d->(j:Int)∈i8 d i /\ -(j:Int)∈i8 d i
 |0,i,j,e,f=>by omega
 |d+1,i,j,e,f=>by
  simp only[i8,List.mem_cons]
  by_cases c:j=i
  ·subst c;simp
  ·obtain⟨a,b⟩:=g06 d (i+1) j (by omega) (by omega)
   exact⟨.inr (.inr a),.inr (.inr b)⟩
theorem O0i(g:j0)(v:Int):∀(b u:List Int) (x:Int),x∈b->0<=T0 g v x->T0 g v x∈b03 g v b u
 |y::r,u,x,a,h0=>by
  rw[b03]
  rcases List.mem_cons.1 a with rfl|a
  ·obtain⟨t,e⟩:=s04 g v r (Q08 u (T0 g v x))
   rw[e]
   refine List.mem_append_left _ ?_
   unfold Q08
   split
   ·exact List.mem_append_right _ (List.mem_singleton.2 rfl)
   ·rename_i h
    by_cases hm:T0 g v x∈u
    ·exact hm
    ·exact absurd ⟨h0,hm⟩ h
  ·exact O0i g v r _ x a h0
theorem e0h(g:j0)(a:List Int):∀(f i:Nat) (u:List Int),∃ t,Q9 g a f i u=u++t
 |0,i,u=>⟨[],by simp[Q9]⟩
 |f+1,i,u=>by
  unfold Q9
  split
  ·rename_i v _
   obtain⟨d,b⟩:=s04 g v a u
   obtain⟨e,c⟩:=e0h g a f (i+1) (b03 g v a u)
   exact⟨d++e,by rw[c,b,List.append_assoc]⟩
  ·exact⟨[],by simp⟩
theorem f0h{r:Int}{n:Nat}{es:List N0}(m:inG (r,(n:Int),es))(a:List Int):∀(f i:Nat) (u:List Int),gud n u->n+1<=f+i->i<=u.length ->
  (∀ j,j<i->∀ v,u[j]?=some v->∀ x∈a,0<=T0 (r,(n:Int),es) v x->T0 (r,(n:Int),es) v x∈u) ->
  ∀ v∈Q9 (r,(n:Int),es) a f i u,∀ x∈a,0<=T0 (r,(n:Int),es) v x->T0 (r,(n:Int),es) v x∈Q9 (r,(n:Int),es) a f i u
 |0,i,u,g,q,o,k=>by have:=P03 n u g.1 g.2;omega
 |f+1,i,u,g,q,o,k=>by
  unfold Q9
  cases e:u[i]? with
  |none =>
   have:i=u.length:=by have:=List.getElem?_eq_none_iff.1 e;omega
   show ∀ v∈u,∀ x∈a,0<=T0 (r,(n:Int),es) v x->T0 (r,(n:Int),es) v x∈u
   intro v b x h h0
   obtain⟨j,l⟩:=List.getElem?_of_mem b
   exact k j (by have:=(List.getElem?_eq_some_iff.1 l).1;omega) v l x h h0
  |some w =>
   have p:=(List.getElem?_eq_some_iff.1 e).1
   obtain⟨t,d⟩:=s04 (r,(n:Int),es) w a u
   refine f0h m a f (i+1) _ (C05 m w a u g) (by omega) (by rw[d,List.length_append];omega) λj l v b x h h0=>?_
   by_cases c:j=i
   ·subst c
    rw[d,List.getElem?_append_left p,e]at b
    cases b
    exact O0i _ _ a u x h h0
   ·rw[d,List.getElem?_append_left (by omega)]at b
    rw[d]
    exact List.mem_append_left _ (k j (by omega) v b x h h0)
theorem y08(g:j0):∃ t,R4 g=0::t:=by
 obtain⟨t,e⟩:=e0h g (i8 g.1.toNat 1) (g.2.1.toNat+1) 0 [0]
 exact⟨t,e⟩
theorem l0m{g:j0}(hf:I0 g=true){x:Int}(h:Rch g.2.2 0 x):x∈R4 g:=by
 obtain⟨m,s,u,y⟩:=G1 hf
 have o:=y08 g
 have d:∀ v∈R4 g,∀ x∈i8 g.1.toNat 1,0<=T0 g v x->T0 g v x∈R4 g:=by
  obtain⟨r,n,es⟩:=g
  simp only at s u
  obtain⟨a,rfl⟩:∃ a:Nat,n=(a:Int):=⟨n.toNat,by omega⟩
  exact f0h m _ (((a:Int)).toNat+1) 0 [0] ⟨by simp,λx i=>by simp at i;subst i;omega⟩ (by simp only[Int.toNat_natCast];omega) (Nat.zero_le _) (λj f=>by omega)
 refine Rch.sub (P:=λx=>x∈R4 g) ?_ (λe c=>?_) h
 ·obtain⟨t,e⟩:=o
  rw[e];exact mS
 ·have w:=m e c
  obtain⟨j,f⟩:∃ j:Nat,e.2.1=(j:Int):=⟨e.2.1.toNat,by omega⟩
  obtain⟨p,q⟩:=g06 g.1.toNat 1 j (by omega) (by omega)
  have k:T0 g e.1 (j:Int)=e.2.2:=E04 hf (L3.2 ⟨e,c,.inl ⟨by omega,f,rfl,rfl⟩⟩)
  have l:T0 g e.2.2 (-(j:Int))=e.1:=E04 hf (L3.2 ⟨e,c,.inr ⟨by omega,by omega,rfl,rfl⟩⟩)
  constructor
  ·intro b
   have:=d e.1 b (j:Int) p (by rw[k];omega)
   rwa [k]at this
  ·intro b
   have:=d e.2.2 b (-(j:Int)) q (by rw[l];omega)
   rwa [l]at this
theorem i0a{a:Nat->Bool}:∀ {d v:Nat},lf a d v=none->∀ k,v<=k->k<v+d->a k=false
 |0,v,h,k,b,e=>by omega
 |d+1,v,h,k,b,e=>by
  unfold lf at h
  cases hb:a v with
  |true=>rw[hb]at h;cases h
  |false =>
   rw[hb]at h
   by_cases c:k=v
   ·rw[c];exact hb
   ·exact i0a (d:=d) (v:=v+1) h k (by omega) (by omega)
theorem g0h{a:Nat->Bool}:∀ {d v:Nat},(∀ k,v<=k->k<v+d->a k=false)->lf a d v=none
 |0,v,h=>rfl
 |d+1,v,h=>by
  unfold lf
  rw[h v (Nat.le_refl _) (by omega)]
  exact g0h λk b c=>h k (by omega) (by omega)
theorem M0d{g:j0}(hf:I0 g=true)(b:L8 g=none){x:Int}(h0:0<=x)(d:x<g.2.1):x∈R4 g:=by
 refine l0m hf ?_
 by_cases c:x=0
 ·subst c;exact .base
 ·have:=i0a b x.toNat (by omega) (by omega)
  unfold R08 at this
  simp only[Bool.or_eq_false_iff,Bool.not_eq_false',decide_eq_true_eq]at this
  have a:=this.2
  rw[show((x.toNat:Nat):Int)=x by omega]at a
  exact(B04 _ _ _).1 a
theorem P0i{n:Nat}:∀(o:List Int) (k:Nat) (A:List Int),A.length=n->inV n o->o.Nodup->∀(i:Nat) (v:Int),o[i]?=some v->getI (R01 A k o) v=((k+i:Nat):Int)
 | [],k,A,c,b,f,i,v,a=>by simp at a
 |w::r,k,A,c,b,f,i,v,a=>by
  have e:=b w mS
  obtain⟨g,h⟩:=List.nodup_cons.1 f
  cases i with
  |zero =>
   simp at a;subst a
   rw[R01,I0g r _ _ w (by simp[c]) (λu d=>b u (mC _ d)) e.1 g,R04 e.1 (by omega) e.1,if_pos rfl];rfl
  |succ i =>
   rw[R01,P0i r (k+1) _ (by simp[c]) (λu d=>b u (mC _ d)) h i v (by simpa using a)]
   omega
theorem N0d{n:Nat}{o:List Int}(c:inV n o)(a:o.Nodup){i:Nat}{v:Int}(b:o[i]?=some v):getI (plc n o) v=(i:Int):=by
 have:=P0i o 0 (List.replicate n (-1)) (by simp) c a i v b
 rw[Nat.zero_add]at this;exact this
theorem O0n(P:List Int):∀(es:List N0),(∀ e∈es,0<=getI P e.1/\0<=getI P e.2.2)->pE P es=es.map λe=>(getI P e.1,e.2.1,getI P e.2.2)
 | [],h=>rfl
 |e::r,h=>by
  have a:=h e mS
  unfold pE
  rw[show(decide (0<=getI P e.1)&&decide (0<=getI P e.2.2))=true by simp[a.1,a.2],O0n P r λb c=>h b (mC _ c)]
  rfl
theorem Q0i(e:N0):∀ {l:List N0},e ∉ l->(X00 P0 e l).Perm (e::l)
 | [],_=>List.Perm.refl _
 |y::l,h=>by
  have d:=Q0i e (l:=l) λb=>h (mC _ b)
  unfold X00
  split
  ·exact List.Perm.refl _
  ·split
   ·rename_i c
    exact absurd (R3.eq _ _ c) λa=>h (by rw[a];exact mS)
   ·exact(List.Perm.cons y d).trans (List.Perm.swap e y l)
theorem I0e:∀(r acc:List N0),(acc++r).Nodup->(o6 P0 acc r).Perm (acc++r)
 | [],acc,h=>by simp[o6]
 |x::r,acc,h=>by
  have a:(acc++x::r).Perm (x::(acc++r)):=List.perm_middle
  have b:=a.nodup_iff.1 h
  have f:x ∉ acc:=λd=>(List.nodup_cons.1 b).1 (List.mem_append_left _ d)
  have e:=Q0i x f
  have c:(X00 P0 x acc++r).Perm (x::(acc++r)):=e.append_right r
  rw[o6]
  exact((I0e r _ (c.nodup_iff.2 b)).trans c).trans a.symm
theorem p0q(v:Int){l a:List N0}(h:l.Perm a):b02 v l=b02 v a:=by
 induction h with
 |nil=>rfl
 |cons x _ d=>simp only[b02,d]
 |swap x y l=>simp only[b02];omega
 |trans _ _ b c=>rw[b,c]
theorem m0m{a:Int->Int}{v:Int}:∀(es:List N0),(∀ e∈es,(a e.1=a v↔e.1=v)/\(a e.2.2=a v↔e.2.2=v))->b02 (a v) (es.map λe=>(a e.1,e.2.1,a e.2.2))=b02 v es
 | [],h=>rfl
 |e::r,h=>by
  obtain⟨b,d⟩:=h e mS
  have i:=m0m r λf g=>h f (mC _ g)
  simp only[List.map_cons,b02,i,y0c]
  congr 2
  ·by_cases c:e.1=v
   ·rw[if_pos (b.2 c),if_pos c]
   ·rw[if_neg λq=>c (b.1 q),if_neg c]
  ·by_cases c:e.2.2=v
   ·rw[if_pos (d.2 c),if_pos c]
   ·rw[if_neg λq=>c (d.1 q),if_neg c]
theorem O0r:∀(m:Nat) (o:List Int),(∀ i:Nat,i<m->(i:Int)∈o)->m<=o.length
 |0,o,h=>Nat.zero_le _
 |m+1,o,h=>by
  have a:=h m (by omega)
  have b:=O0r m (o.erase (m:Int)) λi c=>(List.mem_erase_of_ne (by omega)).2 (h i (by omega))
  rw[List.length_erase_of_mem a]at b
  have:=List.length_pos_of_mem a
  omega
theorem O0d{es:List N0}(c:Asc P0 es):es.Nodup:=by
 refine List.Pairwise.imp (λ{a b} h e=>?_) c
 rw[e,R3.refl]at h;omega
theorem n0m{es:List N0}(a:Asc P0 es):o6 P0 [] es=es :=
 i08 R3 (l03 R3 _ _ .nil) a λx=>by rw[W5 R3];simp
theorem P0n{t:j0}(hf:I0 t=true)(ac:L8 t=none):K4 (S3 t)=true:=by
 have aw:=Z4 hf
 obtain⟨A,aV,aW,aX⟩:=G1 hf
 have al:=u04 aw
 obtain⟨⟨N,H⟩,aF⟩:=t04 hf
 have aC:=P03 _ _ N H
 have Z:∀ x:Int,0<=x->x<t.2.1->x∈R4 t:=λx h0 d=>M0d hf ac h0 d
 obtain⟨aY,aL⟩:=y08 t
 obtain⟨n,ae⟩:∃ n:Nat,t.2.1=(n:Int):=⟨t.2.1.toNat,by omega⟩
 have R:t.2.1.toNat=n:=by omega
 rw[R]at H aC
 have ah:(R4 t).length=n:=by
  have:=O0r n (R4 t) λi G=>Z _ (by omega) (by omega)
  omega
 let P:Int->Int:=getI (plc n (R4 t))
 have L:∀(i:Nat) (v:Int),(R4 t)[i]?=some v->P v=(i:Int):=λi v G=>N0d H N G
 have M:∀ x:Int,0<=x->x<t.2.1->0<=P x/\P x<(n:Int):=λx h0 d=>by
  obtain⟨i,G⟩:=List.getElem?_of_mem (Z x h0 d)
  have:=(List.getElem?_eq_some_iff.1 G).1
  rw[L i x G];omega
 have C:∀ x y:Int,0<=x->x<t.2.1->0<=y->y<t.2.1->P x=P y->x=y:=λx y h0 d p aR h=>E0c H N h0 p (M x h0 d).1 h
 have T:P 0=0:=L 0 0 (by rw[aL];rfl)
 have aG:pE (plc n (R4 t)) t.2.2=t.2.2.map λe=>(P e.1,e.2.1,P e.2.2):=O0n _ _ λe g=>by
  have:=A e g
  exact⟨(M e.1 this.1.1 this.1.2).1,(M e.2.2 this.2.1.1 this.2.1.2).1⟩
 have K:S3 t=(t.1,(n:Int),o6 P0 [] (t.2.2.map λe=>(P e.1,e.2.1,P e.2.2))):=by
  unfold S3 o7
  rw[R,aG,ah]
 have az:∀ e∈t.2.2,∀ j∈t.2.2,((P e.1,e.2.1,P e.2.2):N0)=(P j.1,j.2.1,P j.2.2)->e=j:=λe g j V h=>by
  have a:=A e g
  have b:=A j V
  simp only[Prod.mk.injEq]at h
  have d:=C _ _ a.1.1 a.1.2 b.1.1 b.1.2 h.1
  have p:=C _ _ a.2.1.1 a.2.1.2 b.2.1.1 b.2.1.2 h.2.2
  obtain⟨aO,I,Y⟩:=e
  obtain⟨aP,aQ,f2⟩:=j
  simp only at d p h
  rw[d,p,h.2.1]
 have aE:(t.2.2.map λe=>((P e.1,e.2.1,P e.2.2):N0)).Nodup:=by
  have:=O0d al
  rw[List.Nodup,List.pairwise_map]
  exact List.Pairwise.imp_of_mem (λ{a b} ap D h e=>h (az a ap b D e)) this
 have Q:∀ j,j∈(S3 t).2.2↔∃ e∈t.2.2,j=(P e.1,e.2.1,P e.2.2):=λj=>by
  rw[K]
  simp only
  rw[W5 R3]
  simp only[List.not_mem_nil,false_or,List.mem_map]
  exact⟨λ⟨e,d,p⟩=>⟨e,d,p.symm⟩,λ⟨e,d,p⟩=>⟨e,d,p.symm⟩⟩
 have J:I0 (S3 t)=true:=V04 hf (by rw[R];exact H) N aF (by omega)
 have aa:=Z4 J
 have E:(S3 t).2.1=(n:Int):=by rw[K]
 have au:∀ v:Int,0<=v->v<t.2.1->b02 (P v) (S3 t).2.2=b02 v t.2.2:=λv h0 d=>by
  rw[K]
  simp only
  rw[p0q _ (I0e _ [] (by simpa using aE)),List.nil_append]
  refine m0m _ λe g=>?_
  have:=A e g
  exact⟨⟨λh=>C _ _ this.1.1 this.1.2 h0 d h,λh=>by rw[h]⟩,⟨λh=>C _ _ this.2.1.1 this.2.1.2 h0 d h,λh=>by rw[h]⟩⟩
 have aJ:∀ x,Rch t.2.2 0 x->Rch (S3 t).2.2 0 (P x):=λx s =>
  Rch.sub (P:=λx=>Rch (S3 t).2.2 0 (P x)) (by show Rch _ 0 (P 0);rw[T];exact .base) (λe g=>Rch.closed (P e.1,e.2.1,P e.2.2) ((Q _).2 ⟨e,g,rfl⟩)) s
 have aB:L8 (S3 t)=none:=by
  unfold L8
  refine g0h λk aU aM=>?_
  rw[E,Int.toNat_natCast]at aM
  obtain⟨v,w⟩:∃ v,(R4 t)[k]?=some v:=⟨_,List.getElem?_eq_getElem (by omega)⟩
  have aK:=H v (List.mem_of_getElem? w)
  have U:=L k v w
  have aS:v≠0:=λh=>by rw[h,T]at U;omega
  have D:=i0a ac v.toNat (by omega) (by omega)
  unfold R08 at D ⊢
  rw[show((v.toNat:Nat):Int)=v by omega]at D
  simp only[Bool.or_eq_false_iff,Bool.not_eq_false',decide_eq_true_eq,decide_eq_false_iff_not]at D ⊢
  refine⟨?_,?_⟩
  ·rw[←U,au v aK.1 (by omega)];exact D.1
  ·rw[←U]
   exact(B04 _ _ _).2 (aJ v ((B04 _ _ _).1 D.2))
 have af:∀ v x:Int,0<=v->v<t.2.1->(T0 t v x = -1/\T0 (S3 t) (P v) x = -1)∨((0<=T0 t v x/\T0 t v x<t.2.1)/\T0 (S3 t) (P v) x=P (T0 t v x)):=λv x h0 d=>by
  rcases T01 t v x with⟨I,Y⟩|I
  ·left
   refine⟨I,?_⟩
   rcases T01 (S3 t) (P v) x with⟨S,aN⟩|S
   ·exact S
   ·exfalso
    obtain⟨j,V,W⟩:=L3.1 S
    obtain⟨e,g,rfl⟩:=(Q j).1 V
    have F:=A e g
    have:∃ y,y∈P9 v x t.2.2:=by
     rcases W with⟨a,b,c,_⟩|⟨a,b,c,_⟩
     ·exact⟨_,L3.2 ⟨e,g,.inl ⟨a,b,C _ _ F.1.1 F.1.2 h0 d c,rfl⟩⟩⟩
     ·exact⟨_,L3.2 ⟨e,g,.inr ⟨a,b,C _ _ F.2.1.1 F.2.1.2 h0 d c,rfl⟩⟩⟩
    obtain⟨y,aj⟩:=this
    rw[Y]at aj;cases aj
  ·right
   generalize T0 t v x=y at I
   obtain⟨e,g,W⟩:=L3.1 I
   have F:=A e g
   rcases W with⟨a,b,c,rfl⟩|⟨a,b,c,rfl⟩
   ·exact⟨F.2.1,E04 J (L3.2 ⟨_,(Q _).2 ⟨e,g,rfl⟩,.inl ⟨a,b,by show P e.1=P v;rw[c],rfl⟩⟩)⟩
   ·exact⟨F.1,E04 J (L3.2 ⟨_,(Q _).2 ⟨e,g,rfl⟩,.inr ⟨a,b,by show P e.2.2=P v;rw[c],rfl⟩⟩)⟩
 have ak:∀ u:List Int,gud n u->∀ x∈u,0<=x/\x<t.2.1:=λu o x s=>by have:=o.2 x s;omega
 have ay:inG (t.1,(n:Int),t.2.2):=by
  have:=A
  intro e g
  have:=A e g
  rw[ae]at this;exact this
 have av:(t.1,(n:Int),t.2.2)=t:=by
  rw[←ae]
 have ao:∀(u:List Int) (y z:Int),gud n u->(y = -1/\z = -1)∨((0<=y/\y<t.2.1)/\z=P y)->Q08 (u.map P) z=(Q08 u y).map P:=λu y z o h=>by
  unfold Q08
  rcases h with⟨rfl,rfl⟩|⟨⟨h0,d⟩,rfl⟩
  ·rw[if_neg (by omega),if_neg (by omega)]
  ·have ad:P y∈u.map P↔y∈u:=by
    constructor
    ·intro h
     obtain⟨x,s,e⟩:=List.mem_map.1 h
     have:=ak u o x s
     rw[←C x y this.1 this.2 h0 d e];exact s
    ·exact λh=>List.mem_map.2 ⟨y,h,rfl⟩
   by_cases c:y∈u
   ·rw[if_neg λq=>q.2 (ad.2 c),if_neg λq=>q.2 c]
   ·rw[if_pos ⟨(M y h0 d).1,λq=>c (ad.1 q)⟩,if_pos ⟨h0,c⟩];simp
 have am:∀(v:Int),0<=v->v<t.2.1->∀(m u:List Int),gud n u->b03 (S3 t) (P v) m (u.map P)=(b03 t v m u).map P:=λv h0 d m=>by
  induction m with
  |nil=>intro u o;rfl
  |cons x l X =>
   intro u o
   have s:T0 t v x = -1∨(0<=T0 t v x/\T0 t v x<(n:Int)):=by
    rcases af v x h0 d with⟨a,_⟩|⟨a,_⟩
    ·exact .inl a
    ·exact .inr (by omega)
   rw[b03,b03,ao u _ _ o (af v x h0 d),X _ (Y0o o s)]
 have an:∀(f i:Nat) (u:List Int) (m:List Int),gud n u->Q9 (S3 t) m f i (u.map P)=(Q9 t m f i u).map P:=λf=>by
  induction f with
  |zero=>intro i u m o;rfl
  |succ f X =>
   intro i u m o
   unfold Q9
   rw[List.getElem?_map]
   cases e:u[i]? with
   |none=>rfl
   |some v =>
    have w:=ak u o v (List.mem_of_getElem? e)
    have ax:gud n (b03 t v m u):=by
     have:=C05 ay v m u o
     rw[av]at this;exact this
    simp only[Option.map_some]
    rw[am v w.1 w.2 m u o]
    exact X (i+1) _ m ax
 have ai:R4 (S3 t)=(R4 t).map P:=by
  have d:(S3 t).1=t.1:=by rw[K]
  have p:=an (n+1) 0 [0] (i8 t.1.toNat 1) ⟨by simp,λx s=>by simp at s;subst s;omega⟩
  rw[List.map_cons,List.map_nil,T]at p
  show Q9 (S3 t) (i8 (S3 t).1.toNat 1) ((S3 t).2.1.toNat+1) 0 [0]=(Q9 t (i8 t.1.toNat 1) (t.2.1.toNat+1) 0 [0]).map P
  rw[d,E,R,Int.toNat_natCast]
  exact p
 have aA:∀ i:Nat,i<n->(R4 (S3 t))[i]?=some (i:Int):=λi G=>by
  rw[ai,List.getElem?_map]
  obtain⟨v,w⟩:∃ v,(R4 t)[i]?=some v:=⟨_,List.getElem?_eq_getElem (by omega)⟩
  rw[w,Option.map_some,L i v w]
 obtain⟨⟨ar,ag⟩,_⟩:=t04 J
 rw[E,Int.toNat_natCast]at ag
 have O:∀ x:Int,0<=x->x<(n:Int)->getI (plc n (R4 (S3 t))) x=x:=λx h0 d=>by
  have:=N0d ag ar (aA x.toNat (by omega))
  rw[show((x.toNat:Nat):Int)=x by omega]at this;exact this
 have aD:(R4 (S3 t)).length=n:=by rw[ai,List.length_map,ah]
 have ab:=(J2 aa).1
 have aq:S3 (S3 t)=S3 t:=by
  have aH:pE (plc n (R4 (S3 t))) (S3 t).2.2=(S3 t).2.2:=by
   rw[O0n _ _ λe g=>by
    have:=ab e g
    rw[E]at this
    exact⟨by rw[O _ this.1.1 this.1.2];exact this.1.1,by rw[O _ this.2.1.1 this.2.1.2];exact this.2.1.1⟩]
   refine(List.map_congr_left λe g=>?_).trans (List.map_id _)
   have:=ab e g
   rw[E]at this
   rw[O _ this.1.1 this.1.2,O _ this.2.1.1 this.2.1.2];rfl
  show o7 (S3 t) (R4 (S3 t))=S3 t
  unfold o7
  rw[E,Int.toNat_natCast,aH,n0m (u04 aa),aD]
  rw[←E]
 unfold K4
 rw[J,aB,aq]
 simp[B0e]
theorem R0i{g:j0}(hf:I0 g=true):K4 (D01 g)=true:=by
 have a:=Z4 hf
 have:=(J2 a).2.2.1
 exact P0n (j01 40 hf) (x08 40 a (by omega))
theorem S0i(g:j0):∀ d k,(i05 g d k).length<=d*(i8 g.1.toNat 1).length
 |0,k=>Nat.zero_le _
 |d+1,k=>by
  have a:=g0a g (k:Int) (i8 g.1.toNat 1)
  have b:=S0i g d (k+1)
  rw[i05,List.length_append,Nat.succ_mul]
  omega
theorem o0m{g:j0}(hf:I0 g=true):(D4 g).length<=1000:=by
 obtain⟨b,c,d,e⟩:=G1 hf
 have h:=S0i g g.2.1.toNat 0
 rw[e06]at h
 unfold D4
 have a:g.2.1.toNat*(2*g.1.toNat)<=40*(2*3):=Nat.mul_le_mul (by omega) (by omega)
 omega
def U03(g:j0):Bool:=K4 g&&decide ((D4 g).length=0)
theorem B0v(n:Nat):decide (((n:Nat):Int)=0)=decide (n=0):=by
 by_cases c:n=0
 ·rw[decide_eq_true c,decide_eq_true (by omega)]
 ·rw[decide_eq_false c,decide_eq_false (by omega)]
theorem w04{g:j0}(h:K4 g=true):I0 g=true:=by
 unfold K4 at h
 simp only[Bool.and_eq_true]at h
 exact h.1
theorem p0m(g:j0)(i:g.2.2.length<=140737488355328):U9 g=some (U03 g):=by
 have d:=s08 g i
 have f:K4 g=true->w6 g=some (D4 g):=λc=>N0a (w04 c)
 have h:K4 g=true->(D4 g).length<=1000:=λc=>o0m (w04 c)
 unfold U03
 obtain⟨a,b,c⟩:=g
 unfold U9
 simp only[d,oB]
 cases e:K4 (a,b,c)with
 |false=>rfl
 |true =>
  have:=h e
  simp only[Y1,f e,oB,cond_true,Bool.true_and]
  rw[F0 (by omega),oB,B0v]
theorem h0h{g:j0}(h:U03 g=true):K4 g=true:=by
 unfold U03 at h
 simp only[Bool.and_eq_true]at h
 exact h.1
theorem q0k(g:Nat):∀(d k j:Nat),k<=j->j<k+d->j≠g->(j:Int)∈wo g d k
 |0,k,j,b,e,a=>by omega
 |d+1,k,j,b,e,a=>by
  unfold wo
  split
  ·exact q0k g d (k+1) j (by omega) (by omega) a
  ·by_cases c:j=k
   ·rw[c];exact mS
   ·exact mC _ (q0k g d (k+1) j (by omega) (by omega) a)
structure Iso (t c:j0) (P:Int->Int) (n:Nat):Prop where
 rank:c.1=t.1
 nt:t.2.1=(n:Int)
 nc:c.2.1=(n:Int)
 ft:I0 t=true
 fc:I0 c=true
 rng:∀ x:Int,0<=x->x<(n:Int)->0<=P x/\P x<(n:Int)
 inj:∀ x y:Int,0<=x->x<(n:Int)->0<=y->y<(n:Int)->P x=P y->x=y
 mem:∀ e',e'∈c.2.2↔∃ e∈t.2.2,e'=(P e.1,e.2.1,P e.2.2)
theorem Iso.inE{t c:j0}{P:Int->Int}{n:Nat}(a:Iso t c P n){e:N0}(b:e∈t.2.2):(0<=e.1/\e.1<(n:Int))/\(0<=e.2.2/\e.2.2<(n:Int)):=by
 have:=(G1 a.ft).1 e b
 rw[a.nt]at this
 exact⟨this.1,this.2.1⟩
theorem Iso.comp{a b c:j0}{P Q:Int->Int}{n:Nat}(d:Iso a b P n)(u:Iso b c Q n):Iso a c (λx=>Q (P x)) n where
 rank:=by rw[u.rank,d.rank]
 nt:=d.nt
 nc:=u.nc
 ft:=d.ft
 fc:=u.fc
 rng:=λx h0 g=>u.rng _ (d.rng x h0 g).1 (d.rng x h0 g).2
 inj:=λx y h0 g i j h=>d.inj x y h0 g i j (u.inj _ _ (d.rng x h0 g).1 (d.rng x h0 g).2 (d.rng y i j).1 (d.rng y i j).2 h)
 mem:=λl=>by
  rw[u.mem]
  constructor
  ·rintro⟨e,k,rfl⟩
   obtain⟨f,hf,rfl⟩:=(d.mem e).1 k
   exact⟨f,hf,rfl⟩
  ·rintro⟨f,hf,rfl⟩
   exact⟨_,(d.mem _).2 ⟨f,hf,rfl⟩,rfl⟩
theorem Iso.next{t c:j0}{P:Int->Int}{n:Nat}(d:Iso t c P n)(v x:Int)(h0:0<=v)(k:v<(n:Int)):
  (T0 t v x = -1/\T0 c (P v) x = -1)∨((0<=T0 t v x/\T0 t v x<(n:Int))/\T0 c (P v) x=P (T0 t v x)):=by
 rcases T01 t v x with⟨h,o⟩|h
 ·left
  refine⟨h,?_⟩
  rcases T01 c (P v) x with⟨i,q⟩|i
  ·exact i
  ·exfalso
   obtain⟨m,p,j⟩:=L3.1 i
   obtain⟨e,f,rfl⟩:=(d.mem m).1 p
   have g:=d.inE f
   have:∃ y,y∈P9 v x t.2.2:=by
    rcases j with⟨a,b,c,_⟩|⟨a,b,c,_⟩
    ·exact⟨_,L3.2 ⟨e,f,.inl ⟨a,b,d.inj _ _ g.1.1 g.1.2 h0 k c,rfl⟩⟩⟩
    ·exact⟨_,L3.2 ⟨e,f,.inr ⟨a,b,d.inj _ _ g.2.1 g.2.2 h0 k c,rfl⟩⟩⟩
   obtain⟨y,l⟩:=this
   rw[o]at l;cases l
 ·right
  generalize T0 t v x=y at h
  obtain⟨e,f,j⟩:=L3.1 h
  have g:=d.inE f
  rcases j with⟨a,b,c,rfl⟩|⟨a,b,c,rfl⟩
  ·exact⟨g.2,E04 d.fc (L3.2 ⟨_,(d.mem _).2 ⟨e,f,rfl⟩,.inl ⟨a,b,by show P e.1=P v;rw[c],rfl⟩⟩)⟩
  ·exact⟨g.1,E04 d.fc (L3.2 ⟨_,(d.mem _).2 ⟨e,f,rfl⟩,.inr ⟨a,b,by show P e.2.2=P v;rw[c],rfl⟩⟩)⟩
theorem Iso.perm{t c:j0}{P:Int->Int}{n:Nat}(d:Iso t c P n):c.2.2.Perm (t.2.2.map λe=>(P e.1,e.2.1,P e.2.2)):=by
 have k:=O0d (u04 (Z4 d.ft))
 have l:=O0d (u04 (Z4 d.fc))
 have p:(t.2.2.map λe=>((P e.1,e.2.1,P e.2.2):N0)).Nodup:=by
  rw[List.Nodup,List.pairwise_map]
  refine List.Pairwise.imp_of_mem (λ{a b} m o h e=>h ?_) k
  have i:=d.inE m
  have j:=d.inE o
  simp only[Prod.mk.injEq]at e
  have f:=d.inj _ _ i.1.1 i.1.2 j.1.1 j.1.2 e.1
  have g:=d.inj _ _ i.2.1 i.2.2 j.2.1 j.2.2 e.2.2
  obtain⟨s,u,v⟩:=a
  obtain⟨w,x,f2⟩:=b
  simp only at f g e
  rw[f,g,e.2.1]
 refine(List.perm_ext_iff_of_nodup l p).2 λq=>?_
 rw[d.mem,List.mem_map]
 exact⟨λ⟨e,f,g⟩=>⟨e,f,g.symm⟩,λ⟨e,f,g⟩=>⟨e,f,g.symm⟩⟩
theorem Iso.len{t c:j0}{P:Int->Int}{n:Nat}(s:Iso t c P n):c.2.2.length=t.2.2.length:=by
 rw[s.perm.length_eq,List.length_map]
theorem Iso.rch{t c:j0}{P:Int->Int}{n:Nat}(d:Iso t c P n){a x:Int}(h:Rch t.2.2 a x):Rch c.2.2 (P a) (P x) :=
 Rch.sub (P:=λx=>Rch c.2.2 (P a) (P x)) .base (λe b=>Rch.closed (P e.1,e.2.1,P e.2.2) ((d.mem _).2 ⟨e,b,rfl⟩)) h
theorem Iso.onto{t c:j0}{P:Int->Int}{n:Nat}(g:Iso t c P n){y:Int}(h0:0<=y)(j:y<(n:Int)):∃ x:Int,(0<=x/\x<(n:Int))/\P x=y:=by
 let L:List Int:=(List.range n).map λi:Nat=>P (i:Int)
 have p:L.Nodup:=by
  rw[List.Nodup,List.pairwise_map]
  refine List.Pairwise.imp_of_mem (λ{a b} l m h e=>h ?_) List.nodup_range
  have:=g.inj _ _ (by omega) (by have:=List.mem_range.1 l;omega) (by omega) (by have:=List.mem_range.1 m;omega) e
  omega
 have q:inV n L:=λz d=>by
  obtain⟨i,f,rfl⟩:=List.mem_map.1 d
  have:=List.mem_range.1 f
  exact g.rng _ (by omega) (by omega)
 have s:y∈L:=by
  refine Classical.byContradiction λo=>?_
  have k:=P03 n (y::L) (List.nodup_cons.2 ⟨o,p⟩) λz d=>by
   rcases List.mem_cons.1 d with rfl|d
   ·exact⟨h0,j⟩
   ·exact q z d
  simp[L]at k
  omega
 obtain⟨i,f,e⟩:=List.mem_map.1 s
 have:=List.mem_range.1 f
 exact⟨_,⟨by omega,by omega⟩,e⟩
theorem Rch.tr{es:List N0}{a b c:Int}(h:Rch es a b)(k:Rch es b c):Rch es a c:=Rch.sub (P:=λx=>Rch es a x) h Rch.closed k
theorem Q0n{g:j0}(h:K4 g=true):S3 g=g/\L8 g=none:=by
 unfold K4 B0e at h
 simp only[Bool.and_eq_true,decide_eq_true_eq,Option.isNone_iff_eq_none]at h
 exact⟨h.2.2,h.2.1⟩
theorem P0r{g:j0}(h:K4 g=true){v:Int}(h0:1<=v)(b:v<g.2.1):2<=b02 v g.2.2/\Rch g.2.2 0 v:=by
 have a:=i0a (Q0n h).2 v.toNat (by omega) (by omega)
 unfold R08 at a
 rw[show((v.toNat:Nat):Int)=v by omega]at a
 simp only[Bool.or_eq_false_iff,Bool.not_eq_false',decide_eq_true_eq,decide_eq_false_iff_not]at a
 exact⟨by omega,(B04 _ _ _).1 a.2⟩
theorem Q0r{g:j0}(h:K4 g=true){v:Int}(h0:0<=v)(a:v<g.2.1):Rch g.2.2 0 v:=by
 by_cases c:v=0
 ·rw[c];exact .base
 ·exact(P0r h (by omega) a).2
def ng(x:Int):Int:=IntKind.i64.wrap (0-x)
def inv(w:List Int):List Int:=(w.map ng).reverse
theorem r0k(w:List Int):(inv w).length=w.length:=by simp[inv]
def E9(w:List Int):Prop:=∀ x∈w,H0 x
theorem R0n(w:List Int):E9 (inv w):=λx a=>by
 simp only[inv,List.mem_reverse,List.mem_map]at a
 obtain⟨y,_,rfl⟩:=a
 exact K0 _
theorem R0r{w:List Int}{k:Nat}{x:Int}(a:w[k]?=some x):inv (w.drop k)=inv (w.drop (k+1)) ++ [ng x]:=by
 rw[V1 a]
 simp[inv]
theorem W04(w:List Int)(c:w.length<=1099511627776):∀(k fuel:Nat),k<=w.length->k<fuel ->
  w4 w fuel ((k:Int)-1) (inv (w.drop k))=some (inv w)
 |k,0,b,hf=>by omega
 |0,fuel+1,b,hf=>by
  rw[w4.eq_2,if_neg (by simp)]
  rfl
 |k+1,fuel+1,b,hf=>by
  have a:=A5 (show k<w.length by omega)
  have next:=W04 w c k fuel (by omega) (by omega)
  generalize w[k]=x at a
  rw[R0r a]at next
  have d:=r0k (w.drop (k+1))
  rw[List.length_drop]at d
  rw[show(((k+1:Nat):Int)-1)=(k:Int) by omega,w4.eq_2,if_pos (by simp),Z2 a,oB,F0 (by simp only[List.length_singleton];omega),oB,
   w64 (by omega) (by omega)]
  exact next
theorem P0d(w:List Int)(a:w.length<=1099511627776):O5 w=some (inv w):=by
 unfold O5
 have h:=W04 w a w.length V0 (Nat.le_refl _) (E1 (by omega))
 rw[List.drop_length]at h
 rw[w64 (by omega) (by omega),show([]:J0)=inv [] from rfl,h]
 rfl
def z08(l x:Int):Bool := !(l == 0) && !(l == -9223372036854775808)&&(x == ng l)
def Z8(s:List Int)(x:Int):List Int:=match s with
 | []=>[x]
 |l::t=>bif z08 l x then t else x::l::t
def C9(s w:List Int):List Int:=w.foldl Z8 s
def Red:List Int->Bool
 | []=>true
 | [_]=>true
 |x::l::t => !z08 l x&&Red (l::t)
theorem q0m{x:Int}{t:List Int}(h:Red (x::t)=true):Red t=true:=by
 cases t with
 |nil=>rfl
 |cons l t=>simp only[Red,Bool.and_eq_true]at h;exact h.2
theorem q0q{s:List Int}(x:Int)(h:Red s=true):Red (Z8 s x)=true:=by
 cases s with
 |nil=>rfl
 |cons l t =>
  simp only[Z8]
  cases hc:z08 l x with
  |true=>exact q0m h
  |false=>simp only[cond_false,Red,hc,h];rfl
theorem r0m:∀(w s:List Int),Red s=true->Red (C9 s w)=true
 | [],s,h=>h
 |x::w,s,h=>r0m w (Z8 s x) (q0q x h)
theorem J0c(s a b:List Int):C9 s (a++b)=C9 (C9 s a) b:=List.foldl_append
theorem T0i:∀(s:List Int),Red s=true->C9 [] s.reverse=s
 | [],h=>rfl
 |x::t,h=>by
  rw[List.reverse_cons,J0c,T0i t (q0m h)]
  show Z8 t x=_
  cases t with
  |nil=>rfl
  |cons l t =>
   simp only[Red,Bool.and_eq_true,Bool.not_eq_true']at h
   simp only[Z8,h.1,cond_false]
theorem Q0d(s:List Int)(x:Int):(Z8 s x).length<=s.length+1:=by
 cases s with
 |nil=>simp[Z8]
 |cons l t =>
  simp only[Z8]
  cases z08 l x<;>simp<;>omega
theorem F02:∀(w s:List Int),(C9 s w).length<=s.length+w.length
 | [],s=>by simp[C9]
 |x::w,s=>by
  have:=F02 w (Z8 s x)
  have:=Q0d s x
  simp only[C9,List.foldl_cons,List.length_cons]at *
  omega
theorem i0h{b:List Int}{x:Int}(h:E9 b)(c:H0 x):E9 (Z8 b x):=by
 cases b with
 |nil=>intro y a;simp[Z8]at a;subst a;exact c
 |cons l t =>
  simp only[Z8]
  cases z08 l x with
  |true=>exact λy a=>h y (mC _ a)
  |false =>
   intro y a
   rcases List.mem_cons.1 a with rfl|a
   ·exact c
   ·exact h y a
theorem v0f:∀(w a:List Int),E9 a->E9 w->E9 (C9 a w)
 | [],a,b,c=>b
 |x::w,a,b,c=>v0f w (Z8 a x) (i0h b (c x mS)) λy d=>c y (mC _ d)
theorem r0q{l x:Int}(b:H0 l)(c:H0 x):(!(x == 0)&&(l == ng x) && !(l == x))=z08 l x:=by
 unfold z08 ng
 have e:∀ {z:Int},H0 z->IntKind.i64.wrap (0-z)=if z = -9223372036854775808 then -9223372036854775808 else -z:=λ{z} a=>by
  split
  ·rename_i h;subst h;decide
  ·rw[w64 (by have:=a.1;have:=a.2;omega) (by have:=a.1;have:=a.2;omega)];omega
 rw[e b,e c]
 have d:=b.1
 have f:=b.2
 have g:=c.1
 have i:=c.2
 rw[Bool.eq_iff_iff]
 simp only[Bool.and_eq_true,Bool.not_eq_true',beq_iff_eq,beq_eq_false_iff_ne,ne_eq]
 split<;>split<;>omega
theorem j0h{l:Int}{t:List Int}:(l::t).reverse[t.length]?=some l:=by
 rw[List.reverse_cons,List.getElem?_append_right (by simp)]
 simp
theorem U0i(l:Int)(t:List Int):(l::t).reverse.take t.length=t.reverse:=by
 rw[List.reverse_cons,List.take_append_of_le_length (by simp),List.take_of_length_le (by simp)]
theorem D03(w:List Int)(hw:E9 w)(hl:w.length<=1099511627776):∀(d k fuel:Nat) (s:List Int),k+d=w.length->d<fuel->E9 s->s.length<=k ->
  l3 w fuel (k:Int) s.reverse=some (C9 s (w.drop k)).reverse
 |d,k,0,s,hk,hf,hs,hsl=>by omega
 |0,k,fuel+1,s,hk,hf,hs,hsl=>by
  rw[l3.eq_2,if_neg (by simp;omega),P1 (by omega)]
  rfl
 |d+1,k,fuel+1,s,hk,hf,hs,hsl=>by
  have hkl:k<w.length:=by omega
  have hx:=A5 hkl
  have hx64:=hw _ (List.mem_of_getElem? hx)
  generalize w[k]=x at hx hx64
  have next:=D03 w hw hl d (k+1) fuel (Z8 s x) (by omega) (by omega) (i0h hs hx64) (by have:=Q0d s x;omega)
  rw[V1 hx]
  show _=some (C9 (Z8 s x) (w.drop (k+1))).reverse
  rw[←next,l3.eq_2,if_pos (by simp;omega),oB,F0 (by rw[List.length_reverse];omega),oB]
  rw[V2 hkl (by omega:w.length<=9223372036854775807)]
  have e0:decide (x=0)=(x == 0):=by rw[Bool.eq_iff_iff];simp
  cases s with
  |nil =>
   have hz:decide ((((([]:List Int).reverse).length:Nat):Int)>0)=false:=rfl
   simp only[hz,P3,oB,cond_false,Bool.false_eq_true,if_false,Z2 hx]
   rw[F0 (by simp)]
   rfl
  |cons l t =>
   have hl64:=hs l mS
   have hp:decide ((((l::t).reverse.length:Nat):Int)>0)=true:=by simp
   have hpr:IntKind.i64.wrap ((((l::t).reverse.length:Nat):Int)-1)=((t.length:Nat):Int):=by
    rw[v09 (by simp) (by simp only[List.length_reverse,List.length_cons]at *;omega)];simp
   have hc:=r0q hl64 hx64
   have e1:decide (l=IntKind.i64.wrap (0-x))=(l == ng x):=by rw[Bool.eq_iff_iff];simp[ng]
   have e2:decide (l=x)=(l == x):=by rw[Bool.eq_iff_iff];simp
   have hpush:(grd (((l::t).reverse.length + [x].length)*8<=140737488355328))=some ():=F0 (by simp only[List.length_cons]at hsl;simp only[List.length_reverse,List.length_cons,List.length_nil];omega)
   simp only[hp,hpr,Y1,oB,cond_true,Z2 hx,Z2 j0h,e0,Z8]
   cases h0:(x == 0)with
   |true =>
    rw[h0]at hc
    simp only[Bool.not_true,Bool.false_and]at hc
    simp only[←hc,Bool.not_true,P3,cond_false,oB,Bool.false_eq_true,if_false,hpush]
    exact congrArg _ (List.reverse_cons ..).symm
   |false =>
    rw[h0]at hc
    simp only[Bool.not_false,Bool.true_and]at hc
    simp only[Bool.not_false,Y1,cond_true,oB,e1]
    cases h1:(l == ng x)with
    |false =>
     rw[h1]at hc
     simp only[Bool.false_and]at hc
     simp only[←hc,P3,cond_false,oB,Bool.false_eq_true,if_false,hpush]
     exact congrArg _ (List.reverse_cons ..).symm
    |true =>
     rw[h1]at hc
     simp only[Bool.true_and]at hc
     simp only[Y1,cond_true,oB,e2]
     cases h2:(l == x)with
     |true =>
      rw[h2]at hc
      simp only[Bool.not_true]at hc
      simp only[←hc,Bool.not_true,Bool.false_eq_true,if_false,cond_false,oB,hpush]
      exact congrArg _ (List.reverse_cons ..).symm
     |false =>
      rw[h2]at hc
      simp only[Bool.not_false]at hc
      simp only[←hc,Bool.not_false,if_true,cond_true]
      rw[F0 (by simp only[List.length_reverse,List.length_cons]at *;omega),oB,Int.toNat_natCast,U0i]
theorem g00(w:List Int)(b:E9 w)(a:w.length<=1099511627776):Y2 w=some (C9 [] w).reverse:=by
 unfold Y2
 have h:=D03 w b a w.length 0 V0 [] (by omega) (E1 (by omega)) (λx c=>by cases c) (by simp)
 rw[show((0:Nat):Int)=0 from rfl,List.drop_zero,List.reverse_nil]at h
 rw[h,oB,F0 (by have:=F02 w [];simp only[List.length_reverse,List.length_nil]at *;omega),oB,List.nil_append]
theorem s0m{r:Int}{w:List Int}(h:M3 r w=true):∀ k,k<=w.length->C9 [] (w.take k)=(w.take k).reverse
 |0,_=>rfl
 |k+1,i=>by
  have g:=s0m h k (by omega)
  have b:=A5 (show k<w.length by omega)
  generalize w[k]=x at b
  have f:w.take (k+1)=w.take k ++ [x]:=P0o b
  rw[f,J0c,g,List.reverse_append]
  show Z8 (w.take k).reverse x=x::(w.take k).reverse
  cases k with
  |zero=>rfl
  |succ j =>
   have c:=A5 (show j<w.length by omega)
   generalize w[j]=y at c
   rw[P0o c,List.reverse_append]
   show Z8 (y::(w.take j).reverse) x=_
   have d:=h
   simp only[M3,Bool.and_eq_true,decide_eq_true_eq]at d
   have a:=B0d d.2 (j+1) (Nat.zero_le _) (by omega)
   unfold G06 at a
   rw[b]at a
   simp only[Nat.add_sub_cancel,c,Bool.or_eq_false_iff,show decide (0<j+1)=true by simp,Bool.true_and]at a
   have e:z08 y x=false:=by unfold z08 ng;rw[a.2,Bool.and_false]
   simp only[Z8,e,cond_false]
   rfl
theorem t0m{r:Int}{w:List Int}(h:M3 r w=true):(C9 [] w).reverse=w:=by
 have:=s0m h w.length (Nat.le_refl _)
 rw[List.take_length]at this
 rw[this,List.reverse_reverse]
def X01(g:j0)(w:List Int):Bool:=decide ((E7 g 0 w).2=w.length)&&decide ((E7 g 0 w).1=0)
theorem E03{g:j0}(h:K4 g=true):I0 g=true:=by
 unfold K4 at h
 simp only[Bool.and_eq_true]at h
 exact h.1
theorem k0h{r:Int}{g:j0}{w:List Int}(i:K4 g=true)(j:M3 r w=true):d01 g w=some (X01 g w):=by
 have hf:=E03 i
 obtain⟨o,s,p,t⟩:=G1 hf
 obtain⟨wl,k⟩:=t08 j
 have f:=g00 w (λx e=>(k x e).1.1) (by omega)
 rw[t0m j]at f
 have l:=u0r g hf 0 ⟨iR _,by omega⟩ w (λx e=>(k x e).1) (by omega)
 have m:=j0k g (by omega)
 have h:i01 g=some true:=by
  obtain⟨a,b,c⟩:=g
  unfold i01
  simp only[m,i,oB]
 have n:=E07 o p.2 w 0 ⟨by omega,by omega⟩
 have q:=d06 g w 0
 unfold X01
 obtain⟨a,b,c⟩:=g
 unfold d01
 simp only[f,oB,l]
 by_cases d:(E7 (a,b,c) 0 w).2<w.length
 ·simp only[decide_eq_true d,cond_true]
  rw[F0 (show H0 (-1) from⟨by omega,by omega⟩),oB,h]
  have:decide ((E7 (a,b,c) 0 w).2=w.length)=false:=decide_eq_false (by omega)
  rw[this];rfl
 ·simp only[decide_eq_false d,cond_false]
  rw[F0 n,oB,h]
  have:decide ((E7 (a,b,c) 0 w).2=w.length)=true:=decide_eq_true (by omega)
  rw[this]
  simp only[oB,cond_true,Bool.true_and]
theorem u0m{r:Int}{g:j0}{w:List Int}(j:K4 g=true)(k:M3 r w=true):n5 g w=some (X01 g w):=by
 have hf:=E03 j
 obtain⟨e,o,f,p⟩:=G1 hf
 obtain⟨wl,m⟩:=t08 k
 have h:=x0n g e f.2 (by omega) 0 w (λx l=>(m x l).1) (by omega)
 have i:=E07 e f.2 w 0 ⟨by omega,by omega⟩
 have n:=d06 g w 0
 unfold X01
 obtain⟨a,b,c⟩:=g
 unfold n5
 simp only[h,oB]
 rw[F0 i,oB,F0 (show H0 (((E7 (a,b,c) 0 w).2:Nat):Int) from⟨by omega,by omega⟩),oB]
 by_cases d:(E7 (a,b,c) 0 w).2=w.length
 ·rw[decide_eq_true d,show decide ((((E7 (a,b,c) 0 w).2:Nat):Int)=((w.length:Nat):Int))=true from decide_eq_true (by omega)]
  simp
 ·rw[decide_eq_false d,show decide ((((E7 (a,b,c) 0 w).2:Nat):Int)=((w.length:Nat):Int))=false from decide_eq_false (by omega)]
  simp
def c03(p:D0)(w:List Int):Bool×Bool:=bif(A3 p []).2&&M3 p.1 w then(X01 (A3 p []).1 w,true)else(false,false)
theorem V0i{p:D0}{b:List (List Int)}(h:(A3 p b).2=true):K4 (A3 p b).1=true:=by
 rcases m0b p b with a|⟨g,hf,a⟩
 ·rw[a]at h;cases h
 ·rw[a];exact R0i hf
theorem L0h(p:D0)(w:List Int)(i:p.2.length<=140737488355328)(j:U2 p.2)(e:w.length<=140737488355328):L00 p w=some (c03 p w):=by
 have h:=w08 p [] i j (by simp) (λw e=>by cases e)
 have f:=j08 p.1 w e
 have d:(A3 p []).2=true->M3 p.1 w=true->d01 (A3 p []).1 w=some (X01 (A3 p []).1 w):=λa b=>k0h (V0i a) b
 unfold c03
 obtain⟨g,k⟩:=p
 unfold L00
 simp only[h,oB]
 revert d
 generalize A3 (g,k) []=q
 intro d
 obtain⟨⟨a,b,c⟩,ok⟩:=q
 simp only at f d ⊢
 cases ok with
 |false=>rfl
 |true =>
  simp only[Bool.not_true,Bool.not_false,Y1,f,oB,cond_false,Bool.true_and]
  cases hb:M3 g w with
  |false=>rfl
  |true =>
   rw[if_neg (by simp),d rfl hb];rfl
theorem M0h(p:D0)(w:List Int)(i:p.2.length<=140737488355328)(j:U2 p.2)(e:w.length<=140737488355328):N00 p w=some (c03 p w):=by
 have h:=l0b p [] i j (by simp) (λw e=>by cases e)
 have f:=l08 p.1 w e
 have d:(A3 p []).2=true->M3 p.1 w=true->n5 (A3 p []).1 w=some (X01 (A3 p []).1 w):=λa b=>u0m (V0i a) b
 unfold c03
 obtain⟨g,k⟩:=p
 unfold N00
 simp only[h,oB]
 revert d
 generalize A3 (g,k) []=q
 intro d
 obtain⟨⟨a,b,c⟩,ok⟩:=q
 simp only at f d ⊢
 cases ok with
 |false=>rfl
 |true =>
  simp only[Bool.not_true,Bool.not_false,Y1,f,oB,cond_false,Bool.true_and]
  cases hb:M3 g w with
  |false=>rfl
  |true =>
   rw[if_neg (by simp),d rfl hb];rfl
def rdw(g:j0):Int->List Int->Option Int
 |v,[]=>some v
 |v,x::w=>if T0 g v x<0 then none else rdw g (T0 g v x) w
theorem j0a(g:j0):∀(w:List Int) (v u:Int),rdw g v w=some u↔((E7 g v w).2=w.length/\(E7 g v w).1=u)
 | [],v,u=>by simp[rdw,E7]
 |x::w,v,u=>by
  have a:=j0a g w (T0 g v x) u
  unfold rdw E7
  by_cases c:T0 g v x<0
  ·rw[if_pos c,if_pos c];simp
  ·rw[if_neg c,if_neg c,a];simp
theorem R0d(g:j0)(w:List Int):X01 g w=true↔rdw g 0 w=some 0:=by
 unfold X01
 rw[j0a];simp
theorem A08(g:j0):∀(a b:List Int) (v:Int),rdw g v (a++b)=(rdw g v a).bind λu=>rdw g u b
 | [],b,v=>rfl
 |x::a,b,v=>by
  have d:=A08 g a b (T0 g v x)
  show(if T0 g v x<0 then none else rdw g (T0 g v x) (a++b))=(if T0 g v x<0 then none else rdw g (T0 g v x) a).bind λu=>rdw g u b
  by_cases c:T0 g v x<0
  ·rw[if_pos c,if_pos c];rfl
  ·rw[if_neg c,if_neg c];exact d
theorem L07{g:j0}(hf:I0 g=true){v x u:Int}(h:T0 g v x=u)(h0:0<=u):T0 g u (-x)=v:=by
 rcases T01 g v x with⟨e,_⟩|e
 ·omega
 ·rw[h]at e
  obtain⟨d,i,f⟩:=L3.1 e
  refine E04 hf (L3.2 ⟨d,i,?_⟩)
  rcases f with⟨a,b,c,rfl⟩|⟨a,b,c,rfl⟩
  ·exact .inr ⟨by omega,by omega,rfl,c.symm⟩
  ·exact .inl ⟨by omega,b,rfl,c.symm⟩
theorem S0r{g:j0}(hf:I0 g=true){v u b x:Int}{d:List Int}(j:H0 x)(i:E9 d)(h:rdw g v d.reverse=some u)(a:T0 g u x=b)(h0:0<=b):rdw g v (Z8 d x).reverse=some b:=by
 have one:∀ u:Int,T0 g u x=b->rdw g u [x]=some b:=λu a=>by
  unfold rdw
  rw[if_neg (by omega),a];rfl
 cases d with
 |nil =>
  simp only[List.reverse_nil,rdw,Option.some.injEq]at h
  subst h
  exact one v a
 |cons l t =>
  simp only[Z8]
  cases hc:z08 l x with
  |false =>
   simp only[cond_false]
   rw[List.reverse_cons,A08,h]
   exact one u a
  |true =>
   simp only[cond_true]
   rw[List.reverse_cons,A08]at h
   cases ht:rdw g v t.reverse with
   |none=>rw[ht]at h;cases h
   |some z =>
    rw[ht]at h
    simp only[oB]at h
    unfold rdw at h
    by_cases c:T0 g z l<0
    ·rw[if_pos c]at h;cases h
    ·rw[if_neg c]at h
     simp only[rdw,Option.some.injEq]at h
     have e:=L07 hf h (by omega)
     unfold z08 at hc
     simp only[Bool.and_eq_true,Bool.not_eq_true',beq_eq_false_iff_ne,beq_iff_eq]at hc
     have f:=i l mS
     have:x = -l:=by rw[hc.2];unfold ng;exact y0e f hc.1.2
     rw[this,e]at a
     rw[a]
theorem v0m{g:j0}(hf:I0 g=true){v:Int}:∀(w b:List Int) (u d:Int),E9 w->E9 b->rdw g v b.reverse=some u->rdw g u w=some d->rdw g v (C9 b w).reverse=some d
 | [],b,u,d,h,f,e,a=>by
  simp only[rdw,Option.some.injEq]at a
  subst a
  exact e
 |x::w,b,u,d,h,f,e,a=>by
  unfold rdw at a
  by_cases c:T0 g u x<0
  ·rw[if_pos c]at a;cases a
  ·rw[if_neg c]at a
   have i:=h x mS
   exact v0m hf w (Z8 b x) _ d (λy j=>h y (mC _ j)) (i0h f i) (S0r hf i f e rfl (by omega)) a
theorem j0p{g:j0}(hf:I0 g=true){v u:Int}{w:List Int}(a:E9 w)(h:rdw g v w=some u):rdw g v (C9 [] w).reverse=some u :=
 v0m hf w [] v u a (λx b=>by cases b) rfl h
structure Mor (a b:j0) (f:Int->Int):Prop where
 base:f 0=0
 rng:∀ v,0<=v->v<a.2.1->0<=f v/\f v<b.2.1
 step:∀ v x,0<=v->v<a.2.1->0<=T0 a v x->T0 b (f v) x=f (T0 a v x)
theorem Mor.rdw{a b:j0}{f:Int->Int}(m:Mor a b f)(i:inG a):∀(w:List Int) (v u:Int),0<=v->v<a.2.1->rdw a v w=some u->rdw b (f v) w=some (f u)
 | [],v,u,h0,g,h=>by
  simp only[Go.Proofs.YtmgikbbmpnbbjaaGreat.rdw,Option.some.injEq]at h ⊢
  rw[h]
 |x::w,v,u,h0,g,h=>by
  unfold Go.Proofs.YtmgikbbmpnbbjaaGreat.rdw at h ⊢
  by_cases c:T0 a v x<0
  ·rw[if_pos c]at h;cases h
  ·rw[if_neg c]at h
   have j:=m.step v x h0 g (by omega)
   have d:0<=T0 a v x/\T0 a v x<a.2.1:=by
    rcases n08 i v x with e|e
    ·omega
    ·exact e
   have k:=m.rng _ d.1 d.2
   rw[j,if_neg (by omega)]
   exact Mor.rdw m i w _ u d.1 d.2 h
theorem Mor.loop{a b:j0}{f:Int->Int}(m:Mor a b f)(c:I0 a=true){w:List Int}(h:X01 a w=true):X01 b w=true:=by
 obtain⟨d,e,g,i⟩:=G1 c
 rw[R0d]at h ⊢
 have:=m.rdw d w 0 0 (iR _) (by omega) h
 rwa [m.base]at this
abbrev Im:=List Int×List Int
def S0n(a b:Im):Prop:=(∃ t,b.2=a.2++t)/\∀ v∈a.2,getI b.1 v=getI a.1 v
theorem S0n.refl(s:Im):S0n s s:=⟨⟨[],by simp⟩,λ_ _=>rfl⟩
theorem S0n.trans{b c d:Im}(h:S0n b c)(h':S0n c d):S0n b d:=by
 obtain⟨⟨t,e⟩,f⟩:=h
 obtain⟨⟨j,g⟩,i⟩:=h'
 exact⟨⟨t++j,by rw[g,e,List.append_assoc]⟩,λv a=>(i v (by rw[e];exact List.mem_append_left _ a)).trans (f v a)⟩
def E0u(a b:j0)(v x:Int)(s:Im):Prop:=0<=T0 a v x->T0 a v x∈s.2/\T0 b (getI s.1 v) x=getI s.1 (T0 a v x)
theorem E0u.le{a b:j0}{v x:Int}{c g:Im}(j:v∈c.2)(h:E0u a b v x c)(l:S0n c g):E0u a b v x g:=λh0=>by
 obtain⟨d,i⟩:=h h0
 obtain⟨⟨t,e⟩,f⟩:=l
 exact⟨by rw[e];exact List.mem_append_left _ d,by rw[f v j,f _ d];exact i⟩
theorem J0e{g:j0}(i:inG g)(m:1<=g.1){v x:Int}(h:0<=T0 g v x):x∈i8 g.1.toNat 1:=by
 rcases T01 g v x with⟨e,_⟩|e
 ·omega
 ·obtain⟨d,f,c⟩:=L3.1 e
  have l:=i d f
  rcases c with⟨a,b,_⟩|⟨a,b,_⟩
  ·obtain⟨j,_⟩:=g06 g.1.toNat 1 x.toNat (by omega) (by omega)
   rwa [show((x.toNat:Nat):Int)=x by omega]at j
  ·obtain⟨_,k⟩:=g06 g.1.toNat 1 (-x).toNat (by omega) (by omega)
   rwa [show -(((-x).toNat:Nat):Int)=x by omega]at k
theorem W0i{a b:List Int}(c:E9 a)(d:E9 b):E9 (a++b):=λx e=>by
 rcases List.mem_append.1 e with h|h
 ·exact c x h
 ·exact d x h
theorem X0i{a:List Int}(b:E9 a):E9 a.reverse:=λx c=>b x (List.mem_reverse.1 c)
theorem V0t:E9 []:=λx a=>by cases a
def s0q(u g:List Int):List Int:=(C9 [] (inv g++u++g)).reverse
theorem T0n(u v:List Int):C9 [] ((C9 [] u).reverse++v)=C9 [] (u++v):=by
 rw[J0c,T0i _ (r0m u [] rfl),J0c]
theorem U0n(w:List Int)(a:E9 w):E9 (C9 [] w).reverse:=X0i (v0f w [] V0t a)
theorem j05(w:List Int)(hl:w.length<=1099511627776)(n0:Nat)(hn:n0<=1099511627776):∀(d k fuel:Nat) (s:List Int),k+d=w.length->d<fuel->s.length<=n0+k ->
  W6 w fuel (k:Int) s.reverse=some (C9 s (w.drop k)).reverse
 |d,k,0,s,hk,hf,hsl=>by omega
 |0,k,fuel+1,s,hk,hf,hsl=>by
  rw[W6.eq_2,if_neg (by simp;omega),P1 (by omega)]
  rfl
 |d+1,k,fuel+1,s,hk,hf,hsl=>by
  have hkl:k<w.length:=by omega
  have hx:=A5 hkl
  generalize w[k]=x at hx
  have next:=j05 w hl n0 hn d (k+1) fuel (Z8 s x) (by omega) (by omega) (by have:=Q0d s x;omega)
  rw[V1 hx]
  show _=some (C9 (Z8 s x) (w.drop (k+1))).reverse
  rw[←next,W6.eq_2,if_pos (by simp;omega),Z2 hx,oB,oB,F0 (by rw[List.length_reverse];omega),oB,oB,oB]
  rw[V2 hkl (by omega:w.length<=9223372036854775807)]
  cases s with
  |nil =>
   have hz:decide ((((([]:List Int).reverse).length:Nat):Int)>0)=false:=rfl
   simp only[hz,P3,oB,cond_false,Bool.false_eq_true,if_false]
   rw[F0 (by simp)]
   rfl
  |cons l t =>
   have hp:decide ((((l::t).reverse.length:Nat):Int)>0)=true:=by simp
   have hpr:IntKind.i64.wrap ((((l::t).reverse.length:Nat):Int)-1)=((t.length:Nat):Int):=by
    rw[v09 (by simp) (by simp only[List.length_cons]at hsl;simp only[List.length_reverse,List.length_cons];omega)];simp
   have hpush:(grd (((l::t).reverse.length + [x].length)*8<=140737488355328))=some ():=F0 (by simp only[List.length_cons]at hsl;simp only[List.length_reverse,List.length_cons,List.length_nil];omega)
   have hlen:(grd ((l::t).reverse.length<=9223372036854775807))=some ():=F0 (by rw[List.length_reverse];omega)
   simp only[hp,hpr,Y1,oB,cond_true,Z2 j0h,k08,Z8]
   have hcc:(!(l == 0) && !(l == -9223372036854775808)&&(x == IntKind.i64.wrap (0-l)))=z08 l x:=rfl
   rw[hcc]
   cases hc:z08 l x with
   |true =>
    simp only[if_true,cond_true,hlen,oB]
    rw[F0 (by simp only[List.length_reverse,List.length_cons];omega),oB,Int.toNat_natCast,U0i]
   |false =>
    simp only[Bool.false_eq_true,if_false,cond_false,hpush,hlen,oB]
    exact congrArg _ (List.reverse_cons ..).symm
def T0r:List (List Int)->Nat
 | []=>0
 |w::r=>w.length+T0r r
def F0u(s:List Int):List (List Int)->List Int
 | []=>s
 |w::r=>F0u (C9 s w) r
theorem k05(b:List (List Int))(h:b.length<=1099511627776):∀(d k fuel:Nat) (a:List Int),k+d=b.length->d<fuel->a.length+T0r (b.drop k)<=1099511627776 ->
  r8 b fuel (k:Int) a.reverse=some (F0u a (b.drop k)).reverse
 |d,k,0,a,f,hf,c=>by omega
 |0,k,fuel+1,a,f,hf,c=>by
  rw[r8.eq_2,if_neg (by simp;omega),P1 (by omega)]
  rfl
 |d+1,k,fuel+1,a,f,hf,c=>by
  have g:k<b.length:=by omega
  have e:=A5 g
  generalize b[k]=w at e
  rw[V1 e]at c ⊢
  simp only[T0r]at c
  have i:=F02 w a
  have h0:=j05 w (by omega) a.length (by omega) w.length 0 V0 a (by omega) (E1 (by omega)) (by omega)
  rw[show((0:Nat):Int)=0 from rfl,List.drop_zero]at h0
  rw[r8.eq_2,if_pos (by simp;omega),Z2 e,oB,h0,oB,V2 g (by omega:b.length<=9223372036854775807)]
  exact k05 b h d (k+1) fuel (C9 a w) (by omega) (by omega) (by omega)
theorem N0h(a:List (List Int))(c:a.length<=1099511627776)(b:T0r a<=1099511627776):E02 a=some (F0u [] a).reverse:=by
 unfold E02
 have h:=k05 a c a.length 0 V0 [] (by omega) (E1 (by omega)) (by simpa using b)
 rw[show((0:Nat):Int)=0 from rfl,List.drop_zero,List.reverse_nil]at h
 rw[h]
 rfl
abbrev Tr8:=List (Option (List Int))×List Int
def trS(g:j0)(v x:Int)(s:Tr8):Tr8:=if 0<=T0 g v x/\T0 g v x ∉ s.2 then(s.1.set (T0 g v x).toNat (some ((Y00 s.1 v).getD [] ++ [x])),s.2 ++ [T0 g v x])else s
def U0r(g:j0)(v:Int):List Int->Tr8->Tr8
 | [],s=>s
 |x::r,s=>U0r g v r (trS g v x s)
def Y0i(g:j0)(b:List Int):Nat->Nat->Tr8->Tr8
 |0,i,a=>a
 |f+1,i,a=>match a.2[i]? with
  |some v=>Y0i g b f (i+1) (U0r g v b a)
  |none=>a
def z00(g:j0)(p:Int):List Int:=Q9 g (i8 g.1.toNat 1) (g.2.1.toNat+1) 0 [p]
def V0r(g:j0)(p:Int):Tr8:=Y0i g (i8 g.1.toNat 1) (g.2.1.toNat+1) 0 ((List.replicate g.2.1.toNat none).set p.toNat (some []),[p])
theorem k0p(g:j0)(v x:Int)(s:Tr8):(trS g v x s).2=Q08 s.2 (T0 g v x):=by
 unfold trS Q08
 split<;>rfl
theorem w0m(g:j0)(v:Int):∀(b:List Int) (a:Tr8),(U0r g v b a).2=b03 g v b a.2
 | [],a=>rfl
 |x::r,a=>by rw[U0r,w0m g v r,k0p];rfl
theorem Z0i(g:j0)(b:List Int):∀(f i:Nat) (a:Tr8),(Y0i g b f i a).2=Q9 g b f i a.2
 |0,i,a=>rfl
 |f+1,i,a=>by
  unfold Y0i Q9
  cases a.2[i]? with
  |none=>rfl
  |some v=>simp only[Z0i g b f,w0m]
theorem W0r(g:j0)(p:Int):(V0r g p).2=z00 g p:=Z0i _ _ _ _ _
structure TOk (g:j0) (p:Int) (n:Nat) (s:Tr8):Prop where
 ok:WOk n s.1 s.2
 gd:gud n s.2
 base:p∈s.2
 word:Y00 s.1 p=some []
 par:∀ y∈s.2,y≠p->∃ v∈s.2,∃ x,x∈i8 g.1.toNat 1/\T0 g v x=y/\∃ a,Y00 s.1 v=some a/\Y00 s.1 y=some (a ++ [x])
 red:∀ y∈s.2,∀ a,Y00 s.1 y=some a->Red a.reverse=true
theorem WOk.add{n:Nat}{b:List (Option (List Int))}{u:List Int}(a:WOk n b u){y:Int}(d:0<=y)(h:y<(n:Int))(v x:Int):WOk n (b.set y.toNat (some ((Y00 b v).getD [] ++ [x]))) (u ++ [y]):=by
 have e:=a.short v
 refine⟨by simp[a.len],λz h0 f=>?_,λz=>?_⟩
 ·rw[c02 d (by have:=a.len;omega) h0]
  by_cases c:z=y
  ·rw[if_pos c];simp[c]
  ·rw[if_neg c,a.iff z h0 f];simp[c]
 ·by_cases hz:0<=z
  ·rw[c02 d (by have:=a.len;omega) hz]
   by_cases c:z=y
   ·rw[if_pos c];simp;exact e
   ·rw[if_neg c];have:=a.short z;simp only[List.length_append];omega
  ·have g:Y00 (b.set y.toNat (some ((Y00 b v).getD [] ++ [x]))) z=Y00 (b.set y.toNat (some ((Y00 b v).getD [] ++ [x]))) 0:=by
    unfold Y00;rw[show z.toNat=(0:Int).toNat by omega]
   rw[g,c02 d (by have:=a.len;omega) (iR 0)]
   by_cases c:(0:Int)=y
   ·rw[if_pos c];simp;exact e
   ·rw[if_neg c];have:=a.short 0;simp only[List.length_append];omega
theorem WOk.get{n:Nat}{b:List (Option (List Int))}{u:List Int}(f:WOk n b u){v:Int}(h0:0<=v)(c:v<(n:Int))(d:v∈u):∃ a,Y00 b v=some a:=by
 cases e:Y00 b v with
 |none=>exact absurd d ((f.iff v h0 c).1 (by rw[e];rfl))
 |some a=>exact⟨a,rfl⟩
theorem t0q{R:Nat}(b:R<=900){x:Int}(a:x∈i8 R 1):Y4 x/\x≠0 /\ -(R:Int)<=x/\x<=(R:Int):=by
 obtain⟨j,c,d,e⟩:=T04 _ _ _ a
 exact⟨⟨⟨by omega,by omega⟩,by omega⟩,by omega,by omega,by omega⟩
theorem X0r{l x:Int}(a:Y4 l)(h:z08 l x=true):x = -l:=by
 unfold z08 at h
 simp only[Bool.and_eq_true,beq_iff_eq]at h
 rw[h.2];exact y0e a.1 a.2
theorem TOk.add{g:j0}(hf:I0 g=true){p:Int}{n:Nat}(T:g.2.1=(n:Int)){C:Tr8}(h:TOk g p n C){v x:Int}(j:v∈C.2)(O:x∈i8 g.1.toNat 1):TOk g p n (trS g v x C):=by
 obtain⟨R,U,V,W⟩:=G1 hf
 unfold trS
 split
 ·rename_i c
  obtain⟨o,s⟩:=c
  have Q:T0 g v x<(n:Int):=by
   rcases n08 R v x with e|e<;>omega
  obtain⟨m,u⟩:=C
  obtain⟨ok,q,base,J,G,H⟩:=h
  simp only at j o s ok q base J G H ⊢
  have E:=q.2 v j
  obtain⟨a,i⟩:=ok.get E.1 E.2 j
  have S:=ok.len
  have keep:∀ z∈u,Y00 (m.set (T0 g v x).toNat (some ((Y00 m v).getD [] ++ [x]))) z=Y00 m z:=λz L=>by
   have:=q.2 z L
   rw[c02 o (by omega) this.1,if_neg λ(e:z=T0 g v x)=>s (by rw[←e];exact L)]
  have new:Y00 (m.set (T0 g v x).toNat (some ((Y00 m v).getD [] ++ [x]))) (T0 g v x)=some (a ++ [x]):=by
   rw[c02 o (by omega) o,if_pos rfl,i];rfl
  refine⟨ok.add o Q v x,⟨List.nodup_append.2 ⟨q.1,by simp,λa i b f=>?_⟩,λy d=>?_⟩,List.mem_append_left _ base,?_,λy d P=>?_,λy d b f=>?_⟩
  ·simp at f;subst f;exact λe=>s (e▸i)
  ·rcases List.mem_append.1 d with d|d
   ·exact q.2 y d
   ·simp at d;subst d;omega
  ·rw[keep p base];exact J
  ·rcases List.mem_append.1 d with d|d
   ·obtain⟨I,A,M,F,D,b,w,k⟩:=G y d P
    exact⟨I,List.mem_append_left _ A,M,F,D,b,by rw[keep I A];exact w,by rw[keep y d];exact k⟩
   ·simp at d;subst d
    exact⟨v,List.mem_append_left _ j,x,O,rfl,a,by rw[keep v j];exact i,new⟩
  ·rcases List.mem_append.1 d with d|d
   ·rw[keep y d]at f;exact H y d b f
   ·simp at d;subst d
    rw[new]at f;cases f
    have K:=H v j a i
    rw[List.reverse_append]
    show Red (x::a.reverse)=true
    cases e:a.reverse with
    |nil=>rfl
    |cons l t =>
     rw[e]at K
     unfold Red
     rw[K,Bool.and_true]
     cases hc:z08 l x with
     |false=>rfl
     |true =>
      exfalso
      have N:v≠p:=λw=>by
       subst w
       rw[J]at i;cases i;simp at e
      obtain⟨I,A,M,F,D,b,w,k⟩:=G v j N
      rw[i]at k
      injection k with k
      rw[k,List.reverse_append]at e
      simp only[List.reverse_cons,List.reverse_nil,List.nil_append,List.cons_append,List.cons.injEq]at e
      rw[←e.1]at hc
      have:=X0r (t0q (by omega) F).1 hc
      have f:=L07 hf D E.1
      rw[←this]at f
      exact s (f▸A)
 ·exact h
theorem o0t(g:j0)(v x:Int)(s:Tr8):∃ t,(trS g v x s).2=s.2++t:=by rw[k0p];exact K0g _ _
theorem TOk.inn{g:j0}(hf:I0 g=true){p:Int}{n:Nat}(d:g.2.1=(n:Int)){v:Int}:∀(f:List Int) {a:Tr8},TOk g p n a->v∈a.2->(∀ x∈f,x∈i8 g.1.toNat 1)->TOk g p n (U0r g v f a)
 | [],a,h,c,b=>h
 |x::r,a,h,c,b=>by
  obtain⟨t,e⟩:=o0t g v x a
  exact TOk.inn hf d r (h.add hf d c (b x mS)) (by rw[e];exact List.mem_append_left _ c) λy i=>b y (mC _ i)
theorem TOk.out{g:j0}(hf:I0 g=true){p:Int}{n:Nat}(b:g.2.1=(n:Int)):∀(f i:Nat) {a:Tr8},TOk g p n a->TOk g p n (Y0i g (i8 g.1.toNat 1) f i a)
 |0,i,a,h=>h
 |f+1,i,a,h=>by
  unfold Y0i
  cases e:a.2[i]? with
  |none=>exact h
  |some v=>exact TOk.out hf b f (i+1) (h.inn hf b _ (List.mem_of_getElem? e) λx c=>c)
theorem Y0r(N:Nat)(x:Int):Y00 (List.replicate N (none:Option (List Int))) x=none:=by
 unfold Y00
 rw[List.getD_eq_getElem?_getD,List.getElem?_replicate];split<;>rfl
theorem u0q(g:j0){p:Int}{b:Nat}(f:0<=p/\p<(b:Int)):TOk g p b ((List.replicate b none).set p.toNat (some []),[p]):=by
 have i:∀ x,0<=x->Y00 ((List.replicate b (none:Option (List Int))).set p.toNat (some [])) x=if x=p then some []else none:=λx h0=>by
  rw[c02 f.1 (by simp;omega) h0,Y0r]
 refine⟨⟨by simp,λx h0 l=>?_,λx=>?_⟩,⟨by simp,λx k=>by simp at k;subst k;exact f⟩,by simp,?_,λy d h=>?_,λy d a j=>?_⟩
 ·simp only
  rw[i x h0]
  by_cases c:x=p
  ·rw[if_pos c];simp[c]
  ·rw[if_neg c];simp[c]
 ·have:∀ x,0<=x->((Y00 ((List.replicate b (none:Option (List Int))).set p.toNat (some [])) x).getD []).length<=1:=λx h0=>by
   rw[i x h0];split<;>simp
  by_cases hz:0<=x
  ·exact this x hz
  ·have e:Y00 ((List.replicate b (none:Option (List Int))).set p.toNat (some [])) x=Y00 ((List.replicate b (none:Option (List Int))).set p.toNat (some [])) 0:=by
    unfold Y00;rw[show x.toNat=(0:Int).toNat by omega]
   simp only
   rw[e];exact this 0 (iR 0)
 ·simp only
  rw[i p f.1,if_pos rfl]
 ·simp at d;exact absurd d h
 ·simp at d;subst d
  simp only at j
  rw[i y f.1,if_pos rfl]at j
  cases j;rfl
theorem p0t{g:j0}(hf:I0 g=true){p:Int}(a:0<=p/\p<g.2.1):TOk g p g.2.1.toNat (V0r g p):=by
 obtain⟨b,c,d,e⟩:=G1 hf
 exact TOk.out hf (by omega) _ _ (u0q g ⟨a.1,by omega⟩)
structure s0k (g:j0) (p:Int) (t:Int->List Int):Prop where
 z:t p = []
 par:∀ y∈z00 g p,y≠p->∃ v∈z00 g p,∃ x,x∈i8 g.1.toNat 1/\T0 g v x=y/\t y=t v ++ [x]
 red:∀ y∈z00 g p,Red (t y).reverse=true
 len:∀ y,(t y).length<=40
theorem x0m{g:j0}(hf:I0 g=true){p:Int}(a:0<=p/\p<g.2.1):gud g.2.1.toNat (z00 g p):=by
 rw[←W0r];exact(p0t hf a).gd
theorem s0k.ind{g:j0}{p:Int}{t:Int->List Int}(h:s0k g p t)(P:Int->Prop)(h0:P p)(d:∀ v∈z00 g p,∀ y∈z00 g p,∀ x,x∈i8 g.1.toNat 1->T0 g v x=y->t y=t v ++ [x]->P v->P y):∀(k:Nat) (y:Int),(t y).length<=k->y∈z00 g p->P y
 |k,y,a,f=>by
  by_cases c:y=p
  ·rw[c];exact h0
  ·obtain⟨v,e,x,j,i,b⟩:=h.par y f c
   cases k with
   |zero=>rw[b]at a;simp at a
   |succ k=>exact d v e y f x j i b (s0k.ind h P h0 d k v (by rw[b]at a;simp at a;omega) e)
theorem s0k.induct{g:j0}{p:Int}{t:Int->List Int}(h:s0k g p t){P:Int->Prop}(h0:P p)(a:∀ v∈z00 g p,∀ y∈z00 g p,∀ x,x∈i8 g.1.toNat 1->T0 g v x=y->t y=t v ++ [x]->P v->P y){y:Int}(b:y∈z00 g p):P y:=h.ind P h0 a _ y (Nat.le_refl _) b
theorem l0p{g:j0}{v x y:Int}(h:T0 g v x=y)(h0:0<=y):rdw g v [x]=some y:=by
 unfold rdw
 rw[if_neg (by omega),h];rfl
theorem s0k.rd{g:j0}(hf:I0 g=true){p:Int}(d:0<=p/\p<g.2.1){t:Int->List Int}(h:s0k g p t){y:Int}(a:y∈z00 g p):rdw g p (t y)=some y:=by
 refine h.induct (P:=λy=>rdw g p (t y)=some y) ?_ (λv f y a x i b c e=>?_) a
 ·rw[h.z];rfl
 ·rw[c,A08,e,oB]
  exact l0p b ((x0m hf d).2 y a).1
theorem s0k.let{g:j0}{p:Int}{t:Int->List Int}(h:s0k g p t){y:Int}(c:y∈z00 g p):∀ x∈t y,x∈i8 g.1.toNat 1:=by
 refine h.induct (P:=λy=>∀ x∈t y,x∈i8 g.1.toNat 1) ?_ (λv i y c x b f d e=>?_) c
 ·rw[h.z];exact λx b=>by cases b
 ·rw[d]
  intro z a
  rcases List.mem_append.1 a with a|a
  ·exact e z a
  ·simp at a;rw[a];exact b
theorem l0h{x:Int}(h:Y4 x):ng x = -x:=y0e h.1 h.2
theorem m0h{x:Int}(h:Y4 x):Y4 (-x):=⟨⟨by have:=h.1.2;have:=h.2;omega,by have:=h.1.1;have:=h.2;omega⟩,by have:=h.1.2;omega⟩
theorem q0t{w:List Int}(a:∀ x∈w,Y4 x):inv (inv w)=w:=by
 unfold inv
 rw[List.map_reverse,List.reverse_reverse,List.map_map]
 refine(List.map_congr_left λx b=>?_).trans (List.map_id w)
 have h:=a x b
 show ng (ng x)=x
 rw[l0h h,l0h (m0h h)];omega
theorem Z0r(x:Int)(w:List Int):inv (x::w)=inv w ++ [ng x]:=by simp[inv]
theorem m0p{w:List Int}(a:∀ x∈w,Y4 x):∀ x∈inv w,Y4 x:=λx b=>by
 simp only[inv,List.mem_reverse,List.mem_map]at b
 obtain⟨y,c,rfl⟩:=b
 rw[l0h (a y c)];exact m0h (a y c)
theorem v0q{s:List Int}{x y:Int}(h:y∈Z8 s x):y∈s∨y=x:=by
 cases s with
 |nil=>simp[Z8]at h;exact .inr h
 |cons l t =>
  simp only[Z8]at h
  cases c:z08 l x with
  |true=>rw[c]at h;exact .inl (mC _ h)
  |false =>
   rw[c]at h
   rcases List.mem_cons.1 h with h|h
   ·exact .inr h
   ·exact .inl h
theorem y0m:∀(w s:List Int) {y:Int},y∈C9 s w->y∈s∨y∈w
 | [],s,y,h => .inl h
 |x::w,s,y,h=>by
  rcases y0m w (Z8 s x) h with h|h
  ·rcases v0q h with h|rfl
   ·exact .inl h
   ·exact .inr mS
  ·exact .inr (mC _ h)
theorem n0p{g:j0}(hf:I0 g=true):∀(w:List Int) (v u:Int),(∀ x∈w,Y4 x)->0<=v->rdw g v w=some u->rdw g u (inv w)=some v
 | [],v,u,a,b,h=>by simp only[rdw,Option.some.injEq]at h;rw[←h];rfl
 |x::w,v,u,a,b,h=>by
  unfold rdw at h
  by_cases c:T0 g v x<0
  ·rw[if_pos c]at h;cases h
  ·rw[if_neg c]at h
   have e:=n0p hf w _ u (λy d=>a y (mC _ d)) (by omega) h
   rw[Z0r,A08,e,oB,l0h (a x mS)]
   exact l0p (L07 hf rfl (by omega)) b
theorem O02{g:j0}(hf:I0 g=true){e:N0}(a:e∈g.2.2):T0 g e.1 e.2.1=e.2.2/\T0 g e.2.2 (-e.2.1)=e.1:=by
 have b:=(G1 hf).1 e a
 exact⟨E04 hf (L3.2 ⟨e,a,.inl ⟨by omega,rfl,rfl,rfl⟩⟩),E04 hf (L3.2 ⟨e,a,.inr ⟨by omega,by omega,rfl,rfl⟩⟩)⟩
theorem F03{g:j0}{v x:Int}(h0:0<=T0 g v x):x≠0/\∃ e∈g.2.2,e=stp v x (T0 g v x)/\((0<x/\e.2.1=x/\e.1=v/\e.2.2=T0 g v x)∨(x<0/\e.2.1 = -x/\e.2.2=v/\e.1=T0 g v x)):=by
 rcases T01 g v x with⟨e,_⟩|e
 ·omega
 ·obtain⟨d,i,h⟩:=L3.1 e
  obtain⟨d0,j,k⟩:=d
  simp only at h
  rcases h with⟨a,b,c,f⟩|⟨a,b,c,f⟩
  ·refine⟨by omega,_,i,?_,.inl ⟨a,b,c,f.symm⟩⟩
   unfold stp
   rw[if_neg (by omega),←b,←c,b,c,←f]
  ·refine⟨by omega,_,i,?_,.inr ⟨a,b,c,f.symm⟩⟩
   unfold stp
   rw[if_pos a,←f,b,c]
def a07(b:j0)(a:List (List Int)):Bool:=K4 b&&a.all λw=>X01 b (C9 [] w).reverse
structure Hom (x t:j0) (g:Int->Int):Prop where
 rng:∀ v,0<=v->v<x.2.1->0<=g v/\g v<t.2.1
 step:∀ v l,0<=v->v<x.2.1->0<=T0 x v l->T0 t (g v) l=g (T0 x v l)
structure Emb (c t:j0) (E:Int->Int):Prop where
 fc:I0 c=true
 hom:Hom c t E
 inj:∀ x y,0<=x->x<c.2.1->0<=y->y<c.2.1->E x=E y->x=y
 full:∀ x y l,0<=x->x<c.2.1->0<=y->y<c.2.1->T0 t (E x) l=E y->T0 c x l=y
theorem X04{g:j0}(hf:I0 g=true){v l:Int}(h:0<=T0 g v l):T0 g v l<g.2.1:=by
 rcases n08 (G1 hf).1 v l with e|e<;>omega
theorem Emb.comp{a b c:j0}{E j:Int->Int}(e:Emb a b E)(d:Emb b c j):Emb a c (λx=>j (E x)) where
 fc:=e.fc
 hom:=⟨λv h0 f=>d.hom.rng _ (e.hom.rng v h0 f).1 (e.hom.rng v h0 f).2,λv l h0 f h=>by
  have m:=e.hom.step v l h0 f h
  have k:=e.hom.rng v h0 f
  have n:=e.hom.rng _ h (X04 e.fc h)
  show T0 c (j (E v)) l=j (E (T0 a v l))
  rw[d.hom.step _ l k.1 k.2 (by rw[m];exact n.1),m]⟩
 inj:=λx y h0 f g i h=>e.inj x y h0 f g i (d.inj _ _ (e.hom.rng x h0 f).1 (e.hom.rng x h0 f).2 (e.hom.rng y g i).1 (e.hom.rng y g i).2 h)
 full:=λx y l h0 f g i h=>e.full x y l h0 f g i (d.full _ _ l (e.hom.rng x h0 f).1 (e.hom.rng x h0 f).2 (e.hom.rng y g i).1 (e.hom.rng y g i).2 h)
theorem a0s{g:j0}{a v l:Int}(h:0<=T0 g v l):Rch g.2.2 a v↔Rch g.2.2 a (T0 g v l):=by
 obtain⟨_,e,f,_,i⟩:=F03 h
 have b:=Rch.closed (v:=a) e f
 rcases i with⟨_,_,c,d⟩|⟨_,_,c,d⟩
 ·rw[c,d]at b;exact b
 ·rw[c,d]at b;exact b.symm
theorem Hom.rch{x t:j0}{g:Int->Int}(m:Hom x t g)(hf:I0 x=true){a b:Int}(h:Rch x.2.2 a b):Rch t.2.2 (g a) (g b):=by
 refine Rch.sub (P:=λz=>Rch t.2.2 (g a) (g z)) .base (λe f=>?_) h
 have c:=(G1 hf).1 e f
 have i:=(O02 hf f).1
 have d:=m.step e.1 e.2.1 c.1.1 c.1.2 (by rw[i];exact c.2.1.1)
 rw[i]at d
 have:=a0s (g:=t) (a:=g a) (v:=g e.1) (l:=e.2.1) (by rw[d];exact(m.rng _ c.2.1.1 c.2.1.2).1)
 rw[d]at this;exact this
theorem Hom.comp{a b c:j0}{g k:Int->Int}(e:Hom a b g)(d:Hom b c k)(hf:I0 a=true):Hom a c (λx=>k (g x)) where
 rng:=λv h0 f=>d.rng _ (e.rng v h0 f).1 (e.rng v h0 f).2
 step:=λv l h0 f h=>by
  have j:=e.step v l h0 f h
  have i:=e.rng v h0 f
  have m:=e.rng _ h (X04 hf h)
  show T0 c (k (g v)) l=k (g (T0 a v l))
  rw[d.step _ l i.1 i.2 (by rw[j];exact m.1),j]
theorem Hom.lift{x c t:j0}{g E:Int->Int}(m:Hom x t g)(hf:I0 x=true)(e:Emb c t E)(h:∀ v,0<=v->v<x.2.1->∃ w,(0<=w/\w<c.2.1)/\E w=g v):∃ f,Hom x c f/\∀ v,0<=v->v<x.2.1->E (f v)=g v:=by
 have n:∀ v:Int,∃ w:Int,0<=v->v<x.2.1->(0<=w/\w<c.2.1)/\E w=g v:=λv=>by
  by_cases k:0<=v/\v<x.2.1
  ·obtain⟨w,p⟩:=h v k.1 k.2
   exact⟨w,λ_ _=>p⟩
  ·exact⟨0,λh0 d=>absurd ⟨h0,d⟩ k⟩
 let f:Int->Int:=λv=>Classical.choose (n v)
 have i:∀ v,0<=v->v<x.2.1->(0<=f v/\f v<c.2.1)/\E (f v)=g v:=λv=>Classical.choose_spec (n v)
 refine⟨f,⟨λv h0 d=>(i v h0 d).1,λv l h0 d j=>?_⟩,λv h0 d=>(i v h0 d).2⟩
 have o:=X04 hf j
 have a:=i v h0 d
 have b:=i _ j o
 exact e.full _ _ l a.1.1 a.1.2 b.1.1 b.1.2 (by rw[a.2,b.2];exact m.step v l h0 d j)
theorem w0f{o:List Int}{i:Nat}{v:Int}(h:o[i]?=some v):getI o (i:Int)=v:=by
 unfold getI
 simp[List.getD_eq_getElem?_getD,h]
theorem b0s(P:List Int):∀(es:List N0) (a:N0),a∈es->0<=getI P a.1->0<=getI P a.2.2->((getI P a.1,a.2.1,getI P a.2.2):N0)∈pE P es
 |b::r,a,h,c,d=>by
  unfold pE
  rcases List.mem_cons.1 h with rfl|h
  ·rw[decide_eq_true c,decide_eq_true d]
   exact mS
  ·have e:=b0s P r a h c d
   cases decide (0<=getI P b.1)&&decide (0<=getI P b.2.2)
   ·exact e
   ·exact mC _ e
theorem n0h{t:j0}{o:List Int}{a:N0}:a∈(o7 t o).2.2↔∃ e∈t.2.2,a=(getI (plc t.2.1.toNat o) e.1,e.2.1,getI (plc t.2.1.toNat o) e.2.2)/\0<=getI (plc t.2.1.toNat o) e.1/\0<=getI (plc t.2.1.toNat o) e.2.2:=by
 show a∈o6 P0 [] _↔_
 rw[W5 R3]
 constructor
 ·rintro(h|h)
  ·cases h
  ·exact Z0g _ _ a h
 ·rintro⟨e,d,rfl,b,c⟩
  exact .inr (b0s _ _ e d b c)
theorem o0p{n:Nat}{o:List Int}(b:inV n o)(d:o.Nodup){x:Int}(e:0<=x)(h:0<=getI (plc n o) x):getI o (getI (plc n o) x)=x:=by
 have j:=(B05 b e).2
 have g:(getI (plc n o) x).toNat<o.length:=by omega
 have a:=A5 g
 generalize k:o[(getI (plc n o) x).toNat]=v at a
 have i:=N0d b d a
 have f:=E0c b d e (b v (List.mem_of_getElem? a)).1 h (by omega)
 have c:=w0f a
 rw[show(((getI (plc n o) x).toNat:Nat):Int)=getI (plc n o) x by omega]at c
 rw[c,f]
theorem c0s{o:List Int}{x:Int}(h0:0<=x)(b:x<(o.length:Int)):o[x.toNat]?=some (getI o x):=by
 have a:=A5 (xs:=o) (k:=x.toNat) (by omega)
 have:=w0f a
 rw[show((x.toNat:Nat):Int)=x by omega]at this
 rw[this];exact a
theorem z0m{t:j0}(hf:I0 t=true){o:List Int}(q:o.Nodup)(n:inV t.2.1.toNat o)(G:1<=o.length)(H:o.length<=40):Emb (o7 t o) t (getI o):=by
 have w:=V04 hf n q G H
 obtain⟨L,N,O,P⟩:=G1 hf
 have m:∀ x:Int,0<=x->x<(o.length:Int)->(0<=getI o x/\getI o x<t.2.1)/\getI (plc t.2.1.toNat o) (getI o x)=x:=λx a b=>by
  have A:=c0s a b
  have:=n _ (List.mem_of_getElem? A)
  exact⟨by omega,by rw[N0d n q A];omega⟩
 refine⟨w,⟨λv a b=>(m v a b).1,λv l a b h=>?_⟩,λx y a b c d h=>?_,λx y l a b c d h=>?_⟩
 ·obtain⟨_,M,I,_,s⟩:=F03 h
  obtain⟨e,k,rfl,J,K⟩:=n0h.1 I
  have D:=L e k
  have C:=O02 hf k
  have E:=o0p n q D.1.1 J
  have F:=o0p n q D.2.1.1 K
  rcases s with⟨_,j,f,i⟩|⟨_,j,f,i⟩
  ·simp only at j f i
   rw[←i,F,←f,E,←j];exact C.1
  ·simp only at j f i
   rw[←i,E,←f,F,show l = -e.2.1 by omega];exact C.2
 ·rw[←(m x a b).2,h,(m y c d).2]
 ·have u:=m x a b
  have p:=m y c d
  obtain⟨_,e,k,_,s⟩:=F03 (g:=t) (v:=getI o x) (x:=l) (by rw[h];exact p.1.1)
  rw[h]at s
  rcases s with⟨_,j,f,i⟩|⟨_,j,f,i⟩
  ·have z:((x,e.2.1,y):N0)∈(o7 t o).2.2:=n0h.2 ⟨e,k,by rw[f,i,u.2,p.2],by rw[f,u.2];exact a,by rw[i,p.2];exact c⟩
   have:=(O02 w z).1
   simp only at this
   rw[←j];exact this
  ·have z:((y,e.2.1,x):N0)∈(o7 t o).2.2:=n0h.2 ⟨e,k,by rw[f,i,u.2,p.2],by rw[i,p.2];exact c,by rw[f,u.2];exact a⟩
   have:=(O02 w z).2
   simp only at this
   rw[show l = -e.2.1 by omega];exact this
structure d0v (x:j0) (p:Int):Prop where
 fx:I0 x=true
 pr:0<=p/\p<x.2.1
 two:∀ v,0<=v->v<x.2.1->v≠p->∀ z,∃ l,l≠z/\0<=T0 x v l
 con:∀ v,0<=v->v<x.2.1->Rch x.2.2 p v
def K0e(c t:j0)(E:Int->Int):Prop:=∀(x:j0) (p:Int) (g:Int->Int),d0v x p->Hom x t g->(∃ w,(0<=w/\w<c.2.1)/\E w=g p)->∀ v,0<=v->v<x.2.1->∃ w,(0<=w/\w<c.2.1)/\E w=g v
theorem K0e.comp{a b c:j0}{E h:Int->Int}(e:Emb a b E)(d:Emb b c h)(A:K0e a b E)(C:K0e b c h):K0e a c (λx=>h (E x)):=by
 rintro x p g f n ⟨w,j,s⟩
 have i:=e.hom.rng w j.1 j.2
 obtain⟨k,o,m⟩:=n.lift f.fx d (C x p g f n ⟨E w,i,s⟩)
 have q:=o.rng p f.pr.1 f.pr.2
 have t:E w=k p:=d.inj _ _ i.1 i.2 q.1 q.2 (by rw[m p f.pr.1 f.pr.2];exact s)
 intro v h0 l
 obtain⟨u,y,z⟩:=A x p k f o ⟨w,j,t⟩ v h0 l
 exact⟨u,y,by show h (E u)=g v;rw[z];exact m v h0 l⟩
theorem n0b{c t:j0}{E:Int->Int}(h:∀ v,0<=v->v<t.2.1->∃ w,(0<=w/\w<c.2.1)/\E w=v):K0e c t E:=λx p g d b _ v h0 a=>h _ (b.rng v h0 a).1 (b.rng v h0 a).2
theorem K0c{v:Int}:∀ {es:List N0} {e:N0},e∈es->y0c v e<=b02 v es
 |x::r,e,h=>by
  simp only[b02]
  rcases List.mem_cons.1 h with a|a
  ·rw[a];omega
  ·have:=K0c (v:=v) a;omega
theorem a0j{v:Int}:∀ {es:List N0} {e d:N0},e∈es->d∈es->e≠d->y0c v e+y0c v d<=b02 v es
 |x::r,e,d,h,k,c=>by
  simp only[b02]
  rcases List.mem_cons.1 h with b|b
  ·rcases List.mem_cons.1 k with a|a
   ·exact absurd (b.trans a.symm) c
   ·have:=K0c (v:=v) a;rw[b];omega
  ·rcases List.mem_cons.1 k with a|a
   ·have:=K0c (v:=v) b;rw[a];omega
   ·have:=a0j (v:=v) b a c;omega
theorem r0t{g:j0}(hf:I0 g=true){v:Int}(h:∀ z,∃ l,l≠z/\0<=T0 g v l):2<=b02 v g.2.2:=by
 obtain⟨l,_,t⟩:=h 0
 obtain⟨k,n,s⟩:=h l
 obtain⟨_,e,j,w,m⟩:=F03 t
 obtain⟨_,d,q,u,o⟩:=F03 s
 by_cases c:e=d
 ·subst c
  have:=K0c (v:=v) j
  have i:e.1=v/\e.2.2=v:=by
   rcases m with⟨_,a,b,_⟩|⟨_,a,b,_⟩<;>rcases o with⟨_,p,f,_⟩|⟨_,p,f,_⟩
   ·exact absurd (by omega) n
   ·exact⟨b,f⟩
   ·exact⟨f,b⟩
   ·exact absurd (by omega) n
  unfold y0c at this
  rw[if_pos i.1,if_pos i.2]at this
  omega
 ·have:=a0j (v:=v) j q c
  have x:1<=y0c v e:=by
   unfold y0c
   rcases m with⟨_,_,b,_⟩|⟨_,_,b,_⟩
   ·rw[if_pos b];omega
   ·rw[if_pos b];omega
  have i:1<=y0c v d:=by
   unfold y0c
   rcases o with⟨_,_,b,_⟩|⟨_,_,b,_⟩
   ·rw[if_pos b];omega
   ·rw[if_pos b];omega
  omega
theorem Hom.two{x t:j0}{g:Int->Int}(m:Hom x t g)(hf:I0 x=true){v:Int}(h0:0<=v)(b:v<x.2.1)(h:∀ z,∃ l,l≠z/\0<=T0 x v l):∀ z,∃ l,l≠z/\0<=T0 t (g v) l:=λz=>by
 obtain⟨l,c,a⟩:=h z
 exact⟨l,c,by rw[m.step v l h0 b a];exact(m.rng _ a (X04 hf a)).1⟩
theorem V0n(g:Nat):∀(d k:Nat),(g:Int) ∉ wo g d k
 |0,k,h=>nomatch h
 |d+1,k,h=>by
  unfold wo at h
  by_cases c:k=g
  ·rw[if_pos c]at h;exact V0n g d (k+1) h
  ·rw[if_neg c]at h
   rcases List.mem_cons.1 h with h|h
   ·omega
   ·exact V0n g d (k+1) h
theorem W0t{a:Nat->Bool}:∀(d v k:Nat),lf a d v=some k->a k=true
 |0,v,k,h=>by cases h
 |d+1,v,k,h=>by
  unfold lf at h
  cases hb:a v with
  |true=>rw[hb]at h;cases h;exact hb
  |false=>rw[hb]at h;exact W0t d (v+1) k h
theorem A0m:∀(d:Nat) {h:j0},I0 h=true->(∀ w,0<=w->w<(T9 d h).2.1->Rch (T9 d h).2.2 0 w)->∃ E,Emb (T9 d h) h E/\E 0=0/\K0e (T9 d h) h E
 |0,h,hf,o=>⟨id,⟨hf,⟨λv a b=>⟨a,b⟩,λv l a b k=>rfl⟩,λx y _ _ _ _ e=>e,λx y l _ _ _ _ e=>e⟩,rfl,n0b λv a b=>⟨v,⟨a,b⟩,rfl⟩⟩
 |d+1,h,hf,o=>by
  unfold T9 at o ⊢
  cases e:L8 h with
  |none=>exact⟨id,⟨hf,⟨λv a b=>⟨a,b⟩,λv l a b k=>rfl⟩,λx y _ _ _ _ e=>e,λx y l _ _ _ _ e=>e⟩,rfl,n0b λv a b=>⟨v,⟨a,b⟩,rfl⟩⟩
  |some k =>
   rw[e]at o
   obtain⟨ac,ad,ae,af⟩:=G1 hf
   obtain⟨s1,s2,O,P⟩:=H07 (Z4 hf) e
   have ab:=F0c e
   have q:=W0t _ _ _ e
   have L:=f06 k h.2.1.toNat 0
   have C:=z0m hf L s1 O P
   have V:=V04 hf s1 L O P
   simp only at o ⊢
   obtain⟨E,A,F,Q⟩:=A0m d V o
   have N:getI (wo k h.2.1.toNat 0) 0=0:=by
    obtain⟨m,S⟩:∃ m,h.2.1.toNat=m+1:=⟨h.2.1.toNat-1,by omega⟩
    rw[S,wo,if_neg (by omega)];rfl
   have H:=A.comp C
   refine⟨_,H,by rw[F];exact N,?_⟩
   rintro x p g f z ⟨w,s,D⟩
   have t:=A.hom.rng w s.1 s.2
   have W:Rch h.2.2 0 (g p):=by
    have:=H.hom.rch A.fc (o w s.1 s.2)
    rw[F,N]at this
    rw[←D];exact this
   have T:∀ u,0<=u->u<(o7 h (wo k h.2.1.toNat 0)).2.1->getI (wo k h.2.1.toNat 0) u≠(k:Int):=λu Z aa c=>by
    have:=List.mem_of_getElem? (c0s Z aa)
    rw[c]at this
    exact V0n k _ _ this
   have U:∀ v,0<=v->v<x.2.1->g v≠(k:Int):=λv j n c=>by
    by_cases cp:v=p
    ·rw[cp,←D]at c
     exact T _ t.1 t.2 c
    ·unfold R08 at q
     simp only[Bool.or_eq_true,decide_eq_true_eq,Bool.not_eq_true',decide_eq_false_iff_not]at q
     rcases q with q|q
     ·have:=r0t hf (z.two f.fx j n (f.two v j n cp))
      rw[c]at this;omega
     ·refine q ((B04 _ _ _).2 ?_)
      rw[←c]
      exact Rch.tr W (z.rch f.fx (f.con v j n))
   obtain⟨G,I,J⟩:=z.lift f.fx C λv j n=>by
    have o:=z.rng v j n
    have:=q0k k h.2.1.toNat 0 (g v).toNat (Nat.zero_le _) (by omega) (λc=>U v j n (by omega))
    rw[show(((g v).toNat:Nat):Int)=g v by omega]at this
    obtain⟨i,K⟩:=List.getElem?_of_mem this
    refine⟨(i:Int),⟨by omega,?_⟩,w0f K⟩
    show(i:Int)<(((wo k h.2.1.toNat 0).length:Nat):Int)
    have:=(List.getElem?_eq_some_iff.1 K).1
    omega
   have M:=I.rng p f.pr.1 f.pr.2
   have R:E w=G p:=C.inj _ _ t.1 t.2 M.1 M.2 (by rw[J p f.pr.1 f.pr.2];exact D)
   intro v j n
   obtain⟨u,X,Y⟩:=Q x p G f I ⟨w,s,R⟩ v j n
   exact⟨u,X,by show getI _ (E u)=g v;rw[Y];exact J v j n⟩
theorem d0s{h:j0}(hf:I0 h=true):∃ E,Emb (D01 h) h E/\E 0=0/\K0e (D01 h) h E:=by
 have p:=Z4 hf
 obtain⟨A,C,D,F⟩:=G1 hf
 have d:=j01 40 hf
 have k:=x08 40 p (by omega)
 obtain⟨u,x,y,z⟩:=G1 d
 have a:=t04 d
 have o:∀ w,0<=w->w<(T9 40 h).2.1->w∈R4 (T9 40 h):=λw h0 b=>M0d d k h0 b
 have q:∀ w,0<=w->w<(T9 40 h).2.1->Rch (T9 40 h).2.2 0 w:=λw h0 b=>by
  by_cases c:w=0
  ·rw[c];exact .base
  ·have:=i0a k w.toNat (by omega) (by omega)
   unfold R08 at this
   simp only[Bool.or_eq_false_iff,Bool.not_eq_false',decide_eq_true_eq]at this
   have g:=this.2
   rw[show((w.toNat:Nat):Int)=w by omega]at g
   exact(B04 _ _ _).1 g
 obtain⟨E,e,l,m⟩:=A0m 40 hf q
 have f:=z0m d a.1.1 a.1.2 a.2 (Nat.le_trans (P03 _ _ a.1.1 a.1.2) (by omega))
 have s:getI (R4 (T9 40 h)) 0=0:=by
  obtain⟨t,n⟩:=y08 (T9 40 h)
  rw[n];rfl
 refine⟨_,f.comp e,by rw[s];exact l,K0e.comp f e (n0b λv h0 b=>?_) m⟩
 obtain⟨i,j⟩:=List.getElem?_of_mem (o v h0 b)
 refine⟨(i:Int),⟨by omega,?_⟩,w0f j⟩
 show(i:Int)<(((R4 (T9 40 h)).length:Nat):Int)
 have:=(List.getElem?_eq_some_iff.1 j).1
 omega
structure M07 (x t:j0) (g:Int->Int):Prop where
 rng:∀ v,0<=v->v<x.2.1->0<=g v/\g v<t.2.1
 edge:∀ e∈x.2.2,((g e.1,e.2.1,g e.2.2):N0)∈t.2.2
theorem M07.hom{x t:j0}{g:Int->Int}(m:M07 x t g)(k:I0 t=true):Hom x t g where
 rng:=m.rng
 step:=λv l h0 n h=>by
  obtain⟨_,e,i,_,j⟩:=F03 h
  have f:=O02 k (m.edge e i)
  simp only at f
  rcases j with⟨a,b,c,d⟩|⟨a,b,c,d⟩
  ·rw[←d,←c,←b];exact f.1
  ·rw[←d,←c,show l = -e.2.1 by omega];exact f.2
theorem M07.comp{a b c:j0}{g k:Int->Int}(e:M07 a b g)(d:M07 b c k):M07 a c (λx=>k (g x)) where
 rng:=λv h0 f=>d.rng _ (e.rng v h0 f).1 (e.rng v h0 f).2
 edge:=λz h=>d.edge _ (e.edge z h)
theorem w0q{a b:N0}{f:F5}(h:f∈L06 a b):a.2.1=b.2.1/\((a.1=b.1/\((f.1=a.2.2/\f.2=b.2.2)∨(f.1=b.2.2/\f.2=a.2.2)))∨(a.2.2=b.2.2/\((f.1=a.1/\f.2=b.1)∨(f.1=b.1/\f.2=a.1)))):=by
 unfold L06 at h
 by_cases c:a.2.1=b.2.1
 ·refine⟨c,?_⟩
  simp only[c,decide_true,cond_true,List.mem_append]at h
  rcases h with h|h
  ·by_cases d:a.1=b.1
   ·simp only[d,decide_true,cond_true,List.mem_singleton]at h
    subst h
    refine .inl ⟨d,?_⟩
    simp only
    split<;>split<;>omega
   ·simp[d]at h
  ·by_cases d:a.2.2=b.2.2
   ·simp only[d,decide_true,cond_true,List.mem_singleton]at h
    subst h
    refine .inr ⟨d,?_⟩
    simp only
    split<;>split<;>omega
   ·simp[d]at h
 ·simp[c]at h
theorem b0j{a:N0}{f:F5}:∀ {l:List N0},f∈v02 a l->∃ b∈l,f∈L06 a b
 | [],h=>by simp[v02]at h
 |b::r,h=>by
  rcases List.mem_append.1 (show f∈L06 a b++v02 a r from h)with h|h
  ·exact⟨b,mS,h⟩
  ·obtain⟨c,d,hf⟩:=b0j h
   exact⟨c,mC _ d,hf⟩
theorem c0j{f:F5}:∀ {l:List N0},f∈M7 l->∃ a∈l,∃ b∈l,f∈L06 a b
 | [],h=>by simp[M7]at h
 |a::r,h=>by
  rcases List.mem_append.1 (show f∈v02 a r++M7 r from h)with h|h
  ·obtain⟨b,d,hf⟩:=b0j h
   exact⟨a,mS,b,mC _ d,hf⟩
  ·obtain⟨c,e,b,d,hf⟩:=c0j h
   exact⟨c,mC _ e,b,mC _ d,hf⟩
theorem s0t{x t:j0}{g:Int->Int}(m:M07 x t g)(k:I0 t=true){f:F5}(hf:f∈M7 x.2.2):g f.1=g f.2:=by
 obtain⟨a,l,b,n,h⟩:=c0j hf
 obtain⟨j,c⟩:=w0q h
 have d:=O02 k (m.edge a l)
 have e:=O02 k (m.edge b n)
 simp only at d e
 rcases c with⟨c,i⟩|⟨c,i⟩
 ·have:g a.2.2=g b.2.2:=by rw[←d.1,←e.1,j,c]
  rcases i with⟨p,q⟩|⟨p,q⟩
  ·rw[p,q,this]
  ·rw[p,q,this]
 ·have:g a.1=g b.1:=by rw[←d.2,←e.2,j,c]
  rcases i with⟨p,q⟩|⟨p,q⟩
  ·rw[p,q,this]
  ·rw[p,q,this]
structure Fol (x y:j0) (q:Int->Int):Prop where
 hom:M07 x y q
 base:q 0=0
 onto:∀ u,0<=u->u<y.2.1->∃ v,(0<=v/\v<x.2.1)/\q v=u
 uni:∀(t:j0) (g:Int->Int),I0 t=true->M07 x t g->∃ g',M07 y t g'/\∀ v,0<=v->v<x.2.1->g' (q v)=g v
theorem Fol.refl(x:j0):Fol x x id :=
 ⟨⟨λv h0 a=>⟨h0,a⟩,λe b=>b⟩,rfl,λu h0 a=>⟨u,⟨h0,a⟩,rfl⟩,λt g _ m=>⟨g,m,λ_ _ _=>rfl⟩⟩
theorem Fol.comp{x y z:j0}{q p:Int->Int}(a:Fol x y q)(b:Fol y z p):Fol x z (λv=>p (q v)) where
 hom:=a.hom.comp b.hom
 base:=by rw[a.base,b.base]
 onto:=λu h0 c=>by
  obtain⟨v,f,e⟩:=b.onto u h0 c
  obtain⟨w,n,h⟩:=a.onto v f.1 f.2
  exact⟨w,n,by rw[h,e]⟩
 uni:=λt g d m=>by
  obtain⟨k,o,i⟩:=a.uni t g d m
  obtain⟨l,s,j⟩:=b.uni t k d o
  exact⟨l,s,λv h0 c=>by rw[j _ (a.hom.rng v h0 c).1 (a.hom.rng v h0 c).2,i v h0 c]⟩
theorem x0q{x:j0}{f:F5}(l:U0 x=true)(hf:f∈M7 x.2.2):Fol x (S01 x f) (mvV f):=by
 obtain⟨n,f2,f3⟩:=Q03 l f hf
 refine⟨⟨λv h0 a=>?_,λe b=>(W5 R3 _ _ _).2 (.inr (List.mem_map.2 ⟨e,b,rfl⟩))⟩,?_,λu h0 a=>?_,λt g k m=>?_⟩
 ·show 0<=mvV f v/\mvV f v<x.2.1-1
  unfold mvV
  split
  ·omega
  ·split<;>omega
 ·unfold mvV
  rw[if_neg (by omega),if_neg (by omega)]
 ·have a:u<x.2.1-1:=a
  by_cases c:u<f.2
  ·refine⟨u,⟨h0,by omega⟩,?_⟩
   unfold mvV
   rw[if_neg (by omega),if_neg (by omega)]
  ·refine⟨u+1,⟨by omega,by omega⟩,?_⟩
   unfold mvV
   rw[if_neg (by omega),if_pos (by omega)]
   omega
 ·have b:=s0t m k hf
  have i:∀ v,(if mvV f v<f.2 then g (mvV f v)else g (mvV f v+1))=g v:=λv=>by
   unfold mvV
   by_cases c1:v=f.2
   ·rw[if_pos c1,if_pos f2,c1,b]
   ·rw[if_neg c1]
    by_cases c2:v>f.2
    ·rw[if_pos c2,if_neg (by omega),show v-1+1=v by omega]
    ·rw[if_neg c2,if_pos (by omega)]
  refine⟨λu=>if u<f.2 then g u else g (u+1),⟨λu h0 a=>?_,λe b=>?_⟩,λv _ _=>i v⟩
  ·have a:u<x.2.1-1:=a
   show 0<=(if u<f.2 then g u else g (u+1))/\(if u<f.2 then g u else g (u+1))<t.2.1
   split
   ·exact m.rng u h0 (by omega)
   ·exact m.rng (u+1) (by omega) (by omega)
  ·rcases(W5 R3 _ _ _).1 b with h|h
   ·cases h
   ·obtain⟨d,j,rfl⟩:=List.mem_map.1 h
    have:=m.edge d j
    show(((if mvV f d.1<f.2 then g (mvV f d.1)else g (mvV f d.1+1)),d.2.1,(if mvV f d.2.2<f.2 then g (mvV f d.2.2)else g (mvV f d.2.2+1))):N0)∈t.2.2
    rw[i,i];exact this
theorem d0j:∀(n:Nat) {g:j0},U0 g=true->∃ q,Fol g (L01 n g).1 q
 |0,g,h=>⟨id,Fol.refl g⟩
 |n+1,g,h=>by
  unfold L01
  cases e:M7 g.2.2 with
  |nil=>exact⟨id,Fol.refl g⟩
  |cons f r =>
   have a:f∈M7 g.2.2:=by rw[e];exact mS
   obtain⟨q,b⟩:=d0j n (S04 h (Q03 h f a))
   exact⟨_,(x0q h a).comp b⟩
theorem L0e{g:j0}(h:U0 g=true):∃ q,Fol g (i4 g).1 q:=by
 obtain⟨q,a⟩:=d0j 40 h
 refine⟨q,?_⟩
 unfold i4
 rw[h];exact a
def Rd(x:j0):Int->List Int->Int->Prop
 |u,[],v=>u=v
 |u,l::w,v=>∃ z,stp u l z∈x.2.2/\Rd x z w v
theorem x0f(g:Int->Int)(u l z:Int):((g (stp u l z).1,(stp u l z).2.1,g (stp u l z).2.2):N0)=stp (g u) l (g z):=by
 unfold stp;split<;>rfl
theorem Rd.map{x t:j0}{g:Int->Int}(m:M07 x t g):∀ {w:List Int} {u v:Int},Rd x u w v->Rd t (g u) w (g v)
 | [],u,v,h=>congrArg g h
 |l::w,u,v,⟨z,a,h⟩=>⟨g z,by rw[←x0f];exact m.edge _ a,Rd.map m h⟩
theorem e0s{t:j0}(d:I0 t=true){u l z:Int}(h:stp u l z∈t.2.2):T0 t u l=z/\0<=z:=by
 have a:=O02 d h
 have b:=(G1 d).1 _ h
 unfold stp at a b
 by_cases c:l<0
 ·rw[if_pos c]at a b
  simp only at a b
  rw[show -(-l)=l by omega]at a
  exact⟨a.2,b.1.1⟩
 ·rw[if_neg c]at a b
  exact⟨a.1,b.2.1.1⟩
theorem Rd.rdw{t:j0}(a:I0 t=true):∀ {w:List Int} {u v:Int},Rd t u w v->rdw t u w=some v
 | [],u,v,h=>congrArg some h
 |l::w,u,v,⟨z,c,h⟩=>by
  have b:=e0s a c
  unfold Go.Proofs.YtmgikbbmpnbbjaaGreat.rdw
  rw[b.1,if_neg (by omega)]
  exact Rd.rdw a h
theorem Rd.of{t:j0}:∀ {w:List Int} {u v:Int},Go.Proofs.YtmgikbbmpnbbjaaGreat.rdw t u w=some v->Rd t u w v
 | [],u,v,h=>oJ h
 |l::w,u,v,h=>by
  unfold Go.Proofs.YtmgikbbmpnbbjaaGreat.rdw at h
  by_cases c:T0 t u l<0
  ·rw[if_pos c]at h;cases h
  ·rw[if_neg c]at h
   obtain⟨_,e,b,a,_⟩:=F03 (g:=t) (v:=u) (x:=l) (by omega)
   exact⟨_,by rw[←a];exact b,Rd.of h⟩
theorem Rd.mono{x y:j0}(h:∀ e∈x.2.2,e∈y.2.2):∀ {w:List Int} {u v:Int},Rd x u w v->Rd y u w v
 | [],u,v,k=>k
 |l::w,u,v,⟨z,a,k⟩=>⟨z,h _ a,Rd.mono h k⟩
theorem y0f{g:j0}{u v:Int}{w:List Int}(h:(M1 g u w v).2=true):w≠[]/\(M1 g u w v).1=(g.1,g.2.1+((w.length-1:Nat):Int),o6 P0 g.2.2 (B01 v w u g.2.1)):=by
 unfold M1 at h ⊢
 cases hc:(!w.isEmpty&&decide (g.2.1+(w.length:Int)-1<=40)&&decide (g.2.2.length+w.length<=120))with
 |false=>rw[hc]at h;cases h
 |true =>
  simp only[Bool.and_eq_true,decide_eq_true_eq,Bool.not_eq_true',List.isEmpty_eq_false_iff]at hc
  exact⟨hc.1.1,rfl⟩
theorem o0h{x:j0}(v:Int):∀(w:List Int) (u n:Int),w≠[]->(∀ e∈B01 v w u n,e∈x.2.2)->Rd x u w v
 | [],u,n,h,_=>absurd rfl h
 | [l],u,n,_,h=>⟨v,h _ mS,rfl⟩
 |l::y::r,u,n,_,h=>⟨n,h _ mS,o0h v (y::r) n (n+1) (λe=>by cases e) λe a=>h e (mC _ a)⟩
theorem G0u{t:j0}{u l:Int}(h:0<=T0 t u l):stp u l (T0 t u l)∈t.2.2:=by
 obtain⟨_,e,b,a,_⟩:=F03 h
 rw[←a];exact b
theorem B0m{t:j0}(o:I0 t=true)(v:Int):∀(w:List Int) (u n:Int) (G:Int->Int),w≠[]->u<n->v<n->rdw t (G u) w=some (G v) ->
  ∃ f:Int->Int,(∀ z,z<n->f z=G z)/\(∀ e∈B01 v w u n,((f e.1,e.2.1,f e.2.2):N0)∈t.2.2)/\∀ z,n<=z->z<n+((w.length-1:Nat):Int)->0<=f z/\f z<t.2.1
 | [],u,n,G,h,_,_,_=>absurd rfl h
 | [l],u,n,G,_,x,A,h=>by
  refine⟨G,λz _=>rfl,λe g=>?_,λz h0 m=>?_⟩
  ·obtain rfl:e=stp u l v:=by simpa [B01] using g
   obtain⟨z,j,p⟩:=Rd.of h
   obtain rfl:z=G v:=p
   rw[x0f];exact j
  ·simp at m;omega
 |l::y::r,u,n,G,_,x,A,h=>by
  obtain⟨z,j,p⟩:=Rd.of h
  have i:=(G1 o).1 _ j
  have C:0<=z/\z<t.2.1:=by
   unfold stp at i
   by_cases c:l<0
   ·rw[if_pos c]at i;exact i.1
   ·rw[if_neg c]at i;exact i.2.1
  obtain⟨f,a,b,c⟩:=B0m o v (y::r) n (n+1) (λk=>if k=n then z else G k) (λe=>by cases e) (by omega) (by omega) (by
   show rdw t (if n=n then z else G n) (y::r)=some (if v=n then z else G v)
   rw[if_pos rfl,if_neg (by omega)]
   exact Rd.rdw o p)
  have q:f n=z:=by rw[a n (by omega)];exact if_pos rfl
  have s:∀ k,k<n->f k=G k:=λk D=>by rw[a k (by omega)];exact if_neg (by omega)
  refine⟨f,s,λe g=>?_,λk h0 m=>?_⟩
  ·rcases List.mem_cons.1 (show e∈stp u l n::B01 v (y::r) n (n+1) from g)with rfl|g
   ·rw[x0f,q,s u x];exact j
   ·exact b e g
  ·by_cases d:k=n
   ·rw[d,q];exact C
   ·refine c k (by omega) ?_
    simp only[List.length_cons]at m ⊢
    omega
theorem S0d{x:j0}{u v:Int}{w:List Int}(h:(M1 x u w v).2=true):M07 x (M1 x u w v).1 id:=by
 obtain⟨a,b⟩:=y0f h
 rw[b]
 exact⟨λz h0 a=>⟨h0,by show z<x.2.1+_;omega⟩,λe c=>(W5 R3 _ _ _).2 (.inl c)⟩
theorem t0t{x:j0}{u v:Int}{w:List Int}(h:(M1 x u w v).2=true):Rd (M1 x u w v).1 u w v:=by
 obtain⟨a,b⟩:=y0f h
 rw[b]
 exact o0h v w u x.2.1 a λe c=>(W5 R3 _ _ _).2 (.inr c)
theorem f0s{x t:j0}{u v:Int}{w:List Int}(s:U0 x=true)(p:u<x.2.1)(q:v<x.2.1)(h:(M1 x u w v).2=true)(o:I0 t=true){g:Int->Int}(m:M07 x t g)(n:rdw t (g u) w=some (g v)):
  ∃ j,M07 (M1 x u w v).1 t j/\∀ z,z<x.2.1->j z=g z:=by
 obtain⟨i,l⟩:=y0f h
 obtain⟨G,a,b,c⟩:=B0m o v w u x.2.1 g i p q n
 refine⟨G,?_,a⟩
 rw[l]
 refine⟨λz h0 i=>?_,λe f=>?_⟩
 ·have i:z<x.2.1+((w.length-1:Nat):Int):=i
  by_cases d:z<x.2.1
  ·rw[a z d];exact m.rng z h0 d
  ·exact c z (by omega) i
 ·rcases(W5 R3 _ _ _).1 f with f|f
  ·have k:=(J2 s).1 e f
   rw[a _ k.1.2,a _ k.2.1.2]
   exact m.edge e f
  ·exact b e f
theorem e0j:∀(d:List (List Int)) (g:j0),M07 g (V00 d g) id
 | [],g=>⟨λv h0 b=>⟨h0,b⟩,λe c=>c⟩
 |w::r,g=>by
  have a:=e0j r (M1 g 0 w 0).1
  cases h:(M1 g 0 w 0).2 with
  |true=>exact(S0d h).comp a
  |false =>
   have e:(M1 g 0 w 0).1=g:=by
    unfold M1 at h ⊢
    cases hc:(!w.isEmpty&&decide (g.2.1+(w.length:Int)-1<=40)&&decide (g.2.2.length+w.length<=120))with
    |false=>rfl
    |true=>rw[hc]at h;cases h
   rw[e]at a
   show M07 g (V00 r (M1 g 0 w 0).1) id
   rw[e];exact a
theorem p0p:∀(d:List (List Int)) (g:j0),0<=g.2.1->g.2.1+(tot d:Int)<=40->g.2.2.length+tot d<=120->∀ w∈d,Rd (V00 d g) 0 w 0
 | [],g,h0,f,i,w,b=>by cases b
 |a::r,g,h0,f,i,w,b=>by
  have j:tot (a::r)=a.length+tot r:=rfl
  rw[j]at f i
  rcases List.mem_cons.1 b with rfl|b
  ·by_cases c:w = []
   ·rw[c];exact rfl
   ·have l:0<w.length:=List.length_pos_iff.2 c
    have h:(M1 g 0 w 0).2=true:=by
     unfold M1
     rw[show(!w.isEmpty&&decide (g.2.1+(w.length:Int)-1<=40)&&decide (g.2.2.length+w.length<=120))=true by
      simp only[Bool.and_eq_true,decide_eq_true_eq,Bool.not_eq_true',List.isEmpty_eq_false_iff]
      exact⟨⟨c,by omega⟩,by omega⟩]
     rfl
    exact(t0t h).mono (e0j r (M1 g 0 w 0).1).edge
  ·have k:(M1 g 0 a 0).1.2.1<=g.2.1+a.length/\(M1 g 0 a 0).1.2.2.length<=g.2.2.length+a.length/\0<=(M1 g 0 a 0).1.2.1:=by
    cases h:(M1 g 0 a 0).2 with
    |true =>
     rw[(y0f h).2]
     have:=B03 (B01 0 a 0 g.2.1) g.2.2
     have:=F07 0 a 0 g.2.1
     exact⟨by show g.2.1+_<=_;omega,by simp only;omega,by show 0<=g.2.1+_;omega⟩
    |false =>
     have e:(M1 g 0 a 0).1=g:=by
      unfold M1 at h ⊢
      cases hc:(!a.isEmpty&&decide (g.2.1+(a.length:Int)-1<=40)&&decide (g.2.2.length+a.length<=120))with
      |false=>rfl
      |true=>rw[hc]at h;cases h
     rw[e];omega
   exact p0p r (M1 g 0 a 0).1 (by omega) (by omega) (by omega) w b
theorem y0q{r:Int}{a:List (List Int)}(h:G3 r a=true):tot a<40:=by
 simp only[G3,Bool.and_eq_true,decide_eq_true_eq]at h
 exact h.2
theorem z0q{r:Int}{a:List (List Int)}(h:G3 r a=true):∀ w∈a,Rd (V00 a (r,1,[])) 0 w 0:=by
 have:=y0q h
 exact p0p a (r,1,[]) (by simp) (by simp only;omega) (by simp only[List.length_nil];omega)
def Cmp(t:j0):Prop:=∀ v,0<=v->v<t.2.1->∀ l,l≠0 -> -t.1<=l->l<=t.1->0<=T0 t v l
theorem f0j{g:j0}{v:Int}:∀ {b:List Int},S03 g v b = []->∀ x∈b,0<=T0 g v x
 | [],_,x,a=>by cases a
 |y::b,h,x,a=>by
  unfold S03 at h
  obtain⟨d,e⟩:=List.append_eq_nil_iff.1 h
  rcases List.mem_cons.1 a with rfl|a
  ·by_cases c:T0 g v x<0
   ·rw[decide_eq_true c]at d;cases d
   ·omega
  ·exact f0j e x a
theorem g0j{g:j0}:∀ {d k:Nat},i05 g d k = []->∀ v:Nat,k<=v->v<k+d->∀ x∈i8 g.1.toNat 1,0<=T0 g (v:Int) x
 |0,k,_,v,f,i,x,e=>by omega
 |d+1,k,h,v,f,i,x,e=>by
  unfold i05 at h
  obtain⟨a,b⟩:=List.append_eq_nil_iff.1 h
  by_cases c:v=k
  ·subst c;exact f0j a x e
  ·exact g0j b v (by omega) (by omega) x e
theorem g0s{r l:Int}(h0:l≠0)(a : -r<=l)(b:l<=r):l∈i8 r.toNat 1:=by
 by_cases c:0<l
 ·have:=(g06 r.toNat 1 l.toNat (by omega) (by omega)).1
  rwa [show((l.toNat:Nat):Int)=l by omega]at this
 ·have:=(g06 r.toNat 1 (-l).toNat (by omega) (by omega)).2
  rwa [show -(((-l).toNat:Nat):Int)=l by omega]at this
theorem M0e{g:j0}(h:D4 g = []):Cmp g:=λv h0 d l c a b=>by
 have:=g0j h v.toNat (Nat.zero_le _) (by omega) l (g0s c a b)
 rwa [show((v.toNat:Nat):Int)=v by omega]at this
theorem z0f{g:j0}(h:U03 g=true):Cmp g:=by
 unfold U03 at h
 simp only[Bool.and_eq_true,decide_eq_true_eq]at h
 exact M0e (List.length_eq_zero_iff.1 (by have:=h.2;omega))
theorem t0k(g:j0):(D01 g).1=g.1:=by
 have h:∀(d:Nat) (g:j0),(T9 d g).1=g.1:=by
  intro d
  induction d with
  |zero=>intro g;rfl
  |succ d a =>
   intro g
   unfold T9
   cases L8 g with
   |none=>rfl
   |some k=>exact a _
 exact h 40 g
theorem p0h{c x:j0}{E:Int->Int}(b:Emb c x E)(m:c.1=x.1)(f:I0 x=true)(e:Cmp c):∀ {w:List Int} {v z:Int},0<=v->v<c.2.1->rdw x (E v) w=some z->∃ u,(0<=u/\u<c.2.1)/\rdw c v w=some u/\E u=z
 | [],v,z,h0,a,h=>⟨v,⟨h0,a⟩,rfl,oJ h⟩
 |l::w,v,z,h0,a,h=>by
  unfold rdw at h
  by_cases c1:T0 x (E v) l<0
  ·rw[if_pos c1]at h;cases h
  ·rw[if_neg c1]at h
   obtain⟨p,q,A,C⟩:=G1 f
   have k:=J0e p q.1 (show 0<=T0 x (E v) l by omega)
   obtain⟨j,s,t,y⟩:=T04 _ _ _ k
   have d:=e v h0 a l (by omega) (by omega) (by omega)
   have n:=b.hom.step v l h0 a d
   rw[n]at h
   obtain⟨u,o,g,i⟩:=p0h b m f e d (X04 b.fc d) h
   refine⟨u,o,?_,i⟩
   unfold rdw
   rw[if_neg (by omega)]
   exact g
theorem q0p:∀(l m:List Int),l.Nodup->(∀ x∈l,x∈m)->l.length<=m.length
 | [],m,_,_=>Nat.zero_le _
 |x::l,m,g,a=>by
  obtain⟨e,f⟩:=List.nodup_cons.1 g
  have b:=a x mS
  have j:=q0p l (m.erase x) f λy d=>by
   have h:y≠x:=λc=>e (c▸d)
   exact(List.mem_erase_of_ne h).2 (a y (mC _ d))
  have:=List.length_erase_of_mem b
  have i:=List.length_pos_of_mem b
  rw[List.length_cons];omega
def fib(g:Int->Int)(L:List Int)(z:Int):Nat:=(L.filter λu=>decide (g u=z)).length
theorem h0s{x y:j0}{g:Int->Int}(hf:I0 x=true)(m:Mor x y g){L:List Int}(q:L.Nodup)(i:∀ u,u∈L↔0<=u/\u<x.2.1)(j:∀ u l,0<=u->u<x.2.1->0<=T0 y (g u) l->0<=T0 x u l){z l:Int}(k:0<=T0 y z l):fib g L z<=fib g L (T0 y z l):=by
 unfold fib
 have h:=q0p ((L.filter λu=>decide (g u=z)).map λu=>T0 x u l) (L.filter λu=>decide (g u=T0 y z l)) (by
  rw[List.Nodup,List.pairwise_map]
  refine List.Pairwise.imp_of_mem (λ{a b} f p s e=>s ?_) (q.filter _)
  simp only[List.mem_filter,decide_eq_true_eq,i]at f p
  have d:=j a l f.1.1 f.1.2 (by rw[f.2];exact k)
  have n:=L07 hf (v:=a) (x:=l) rfl d
  have o:=L07 hf (v:=b) (x:=l) rfl (by rw[←e];exact d)
  rw[←n,←o,e]) λw t=>by
  obtain⟨u,c,rfl⟩:=List.mem_map.1 t
  simp only[List.mem_filter,decide_eq_true_eq,i]at c ⊢
  have d:=j u l c.1.1 c.1.2 (by rw[c.2];exact k)
  exact⟨⟨d,X04 hf d⟩,by rw[←m.step u l c.1.1 c.1.2 d,c.2]⟩
 rwa [List.length_map]at h
theorem A0q{x y:j0}{g:Int->Int}(hf:I0 x=true)(b:K4 y=true)(m:Mor x y g){L:List Int}(f:L.Nodup)(d:∀ u,u∈L↔0<=u/\u<x.2.1)(i:∀ u l,0<=u->u<x.2.1->0<=T0 y (g u) l->0<=T0 x u l){z:Int}(h0:0<=z)(k:z<y.2.1):fib g L z=fib g L 0:=by
 have c:=w04 b
 refine Rch.sub (P:=λz=>fib g L z=fib g L 0) rfl (λe h=>?_) (Q0r b h0 k)
 have j:=(G1 c).1 e h
 have a:=O02 c h
 have n:=h0s hf m f d i (z:=e.1) (l:=e.2.1) (by rw[a.1];exact j.2.1.1)
 have o:=h0s hf m f d i (z:=e.2.2) (l := -e.2.1) (by rw[a.2];exact j.1.1)
 rw[a.1]at n
 rw[a.2]at o
 rw[show fib g L e.1=fib g L e.2.2 by omega]
def T0d(g:Int->Int)(L:List Int):Nat->Nat
 |0=>0
 |k+1=>T0d g L k+fib g L (k:Int)
theorem h0j(g:Int->Int)(u:Int)(L:List Int):∀ k:Nat,T0d g (u::L) k=T0d g L k+(if 0<=g u/\g u<(k:Int)then 1 else 0)
 |0=>by
  rw[T0d,T0d,if_neg (by omega)]
 |k+1=>by
  have a:=h0j g u L k
  have hf:fib g (u::L) (k:Int)=fib g L (k:Int)+(if g u=(k:Int)then 1 else 0):=by
   unfold fib
   by_cases c:g u=(k:Int)
   ·rw[List.filter_cons_of_pos (by simpa using c),if_pos c];rfl
   ·rw[List.filter_cons_of_neg (by simpa using c),if_neg c];rfl
  rw[T0d,T0d,a,hf]
  by_cases c1:g u=(k:Int)
  ·rw[if_neg (by omega),if_pos c1,if_pos (by omega)];omega
  ·by_cases c2:0<=g u/\g u<(k:Int)
   ·rw[if_pos c2,if_neg c1,if_pos (by omega)];omega
   ·rw[if_neg c2,if_neg c1,if_neg (by omega)];omega
theorem C0m(g:Int->Int)(m:Nat):∀(L:List Int),(∀ u∈L,0<=g u/\g u<(m:Int))->T0d g L m=L.length
 | [],_=>by
  have:∀ k,T0d g [] k=0:=λk=>by
   induction k with
   |zero=>rfl
   |succ k b=>rw[T0d,b];rfl
  exact this m
 |u::L,h=>by
  rw[h0j,C0m g m L λv a=>h v (mC _ a),if_pos (h u mS),List.length_cons]
theorem q0h(g:Int->Int)(L:List Int)(c:Nat):∀ k:Nat,(∀ z:Int,0<=z->z<(k:Int)->fib g L z=c)->T0d g L k=k*c
 |0,_=>by simp[T0d]
 |k+1,h=>by
  rw[T0d,q0h g L c k λz h0 a=>h z h0 (by omega),h (k:Int) (by omega) (by omega),Nat.add_mul,Nat.one_mul]
theorem W0n{x y:j0}{g:Int->Int}(hf:I0 x=true)(b:K4 y=true)(m:Mor x y g){L:List Int}(d:L.Nodup)(a:∀ u,u∈L↔0<=u/\u<x.2.1)(e:∀ u l,0<=u->u<x.2.1->0<=T0 y (g u) l->0<=T0 x u l):L.length=y.2.1.toNat*fib g L 0:=by
 have q:=(G1 (w04 b)).2.2.1
 rw[←C0m g y.2.1.toNat L λu c=>by
  have:=m.rng u ((a u).1 c).1 ((a u).1 c).2
  omega]
 exact q0h g L _ _ λz h0 f=>A0q hf b m d a e h0 (by omega)
def isS(o:Option (List Int)):Bool:=o.isSome
theorem l05(a b:List Int)(c:E9 a)(d:E9 b)(e:a.length+b.length<=1099511627776):Y3 a b=some (C9 [] (a++b)).reverse:=by
 unfold Y3
 rw[F0 (by simp only[List.length_nil];omega),oB,F0 (by simp only[List.length_append,List.length_nil];omega),oB,List.nil_append,
  g00 _ (W0i c d) (by simp only[List.length_append];omega)]
 rfl
theorem q0a(u g:List Int)(a:E9 u)(c:E9 g)(e:u.length+2*g.length<=1099511627776):p8 u g=some (s0q u g):=by
 unfold p8
 have d:=r0k g
 have b:=F02 (inv g++u) []
 simp only[List.length_append,List.length_nil]at b
 rw[P0d g (by omega),oB,l05 _ _ (R0n g) a (by omega),oB,l05 _ _ (U0n _ (W0i (R0n g) a)) c (by simp only[List.length_reverse];omega),oB,
  T0n]
 rfl
end Go.Proofs.YtmgikbbmpnbbjaaGreat
