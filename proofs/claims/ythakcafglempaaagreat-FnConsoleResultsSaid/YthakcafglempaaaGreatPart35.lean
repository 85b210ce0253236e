/- Texts of the claim, joined: Plain laws: the core of a folded graph is a core and others. -/
import Derived.Test.YthakcafglempaaaGreatPart34
import Derived.Test.YthakcafglempaaaGreatPart24
import Derived.Test.YthakcafglempaaaGreatPart32
import Derived.Test.YthakcafglempaaaGreatPart23
import Derived.Test.YthakcafglempaaaGreatH36
import Derived.Test.YthakcafglempaaaGreatPart25
namespace Go.Proofs.YthakcafglempaaaGreat
set_option linter.all false
open Go.H
open IntKind (i64)
theorem L08:∀(d:Nat) {g:j0},X0 g->g.2.1.toNat<=d+1->F9 (t9 d g)=none
 |0,g,a,h=>by
  cases e:F9 g with
  |none=>exact e
  |some k=>have:=X0c e;omega
 |d+1,g,a,h=>by
  unfold t9;cases e:F9 g with
  |none=>exact e
  |some k =>obtain⟨b,i,c,f⟩:=c08 a e;exact L08 d (n0e a b c f) (by show(((wo k g.2.1.toNat 0).length:Nat):Int).toNat<=d+1;omega)
theorem k0u{g:j0}(hf:K0 g){v x y z:Int}(q:y∈j01 v x g.2.2)(s:z∈j01 v x g.2.2):y=z:=by
 obtain⟨e,o,l⟩:=V2.1 q;obtain⟨k,p,m⟩:=V2.1 s;by_cases hne:e=k;·subst hne;rcases l with⟨a,b,c,rfl⟩|⟨a,b,c,rfl⟩<;>rcases m with⟨h,i,j,rfl⟩|⟨h,i,j,rfl⟩<;>first|rfl|omega
 have f:=(W0c (A3 hf)).1 hf e o k p hne;unfold Q07 at f;simp only[Bool.and_eq_false_iff,Bool.or_eq_false_iff,decide_eq_false_iff_not]at f;rcases l with⟨a,b,c,d⟩|⟨a,b,c,d⟩<;>rcases m with⟨h,i,j,n⟩|⟨h,i,j,n⟩<;>first|omega|(exfalso;rcases f with f|⟨t,u⟩<;>omega)
theorem z04(g:j0)(v x:Int):(Q0 g v x = -1/\j01 v x g.2.2 = [])∨Q0 g v x∈j01 v x g.2.2:=by
 unfold Q0;cases e:q05 g v x with
 |nil =>simp_all[List.eq_nil_iff_forall_not_mem,q05,C5,d05]
 |cons a l=>grind[O0l,List.mem_cons_self]
def Y06{g:j0}(hf:K0 g){v x y:Int}(a:y∈j01 v x g.2.2):Q0 g v x=y:=by grind[z04,k0u]
def Z0j:∀(d i j:Nat),i<=j->j<i+d->(j:Int)∈U7 d i /\ -(j:Int)∈U7 d i
 |0,i,j,e,f=>oM
 |d+1,i,j,e,f=>by
  simp only[U7,mE];by_cases c:j=i;·subst c;simp
  obtain⟨a,b⟩:=Z0j d (i+1) j oM oM;grind
theorem g0m(g:j0)(v:Int):∀(b u:List Int) (x:Int),x∈b->0<=Q0 g v x->Q0 g v x∈t03 g v b u
 |y::r,u,x,a,h0=>by
  rw[t03];rcases mE.1 a with rfl|a;·obtain⟨t,e⟩:=R05 g v r (A09 u (Q0 g v x));rw[e];refine List.mem_append_left _ ?_;grind[A09,List.mem_append_right,List.mem_singleton,Q0,absurd]
  exact g0m g v r _ x a h0
def o0e(g:j0)(a:List Int):∀(f i:Nat) (u:List Int),∃ t,E9 g a f i u=u++t
 |0,i,u=>⟨[],by simp[E9]⟩
 |f+1,i,u=>by
  unfold E9;split;·rename_i v _;obtain⟨d,b⟩:=R05 g v a u;obtain⟨e,c⟩:=o0e g a f (i+1) (t03 g v a u);grind
  simp_all
theorem a0k{r:Int}{n:Nat}{es:List O0}(c:inG (r,(n:Int),es))(a:List Int):∀(f i:Nat) (u:List Int),gud n u->n+1<=f+i->i<=u.length ->
  (∀ j,j<i->∀ v,u[j]?=some v->∀ x∈a,0<=Q0 (r,(n:Int),es) v x->Q0 (r,(n:Int),es) v x∈u) ->
  ∀ v∈E9 (r,(n:Int),es) a f i u,∀ x∈a,0<=Q0 (r,(n:Int),es) v x->Q0 (r,(n:Int),es) v x∈E9 (r,(n:Int),es) a f i u
 |0,i,u,b,h,g,d=>by have:=A01 n u b.1 b.2;omega
 |f+1,i,u,b,h,g,d=>by
  unfold E9
  cases e:u[i]? with
  |none =>
   grind[List.getElem?_eq_none_iff,Q0,List.getElem?_of_mem,List.getElem?_eq_some_iff]
  |some w =>
   have l:=(List.getElem?_eq_some_iff.1 e).1
   obtain⟨t,k⟩:=R05 (r,(n:Int),es) w a u
   refine a0k c a f (i+1) _ (N06 c w a u b) (by omega) (by grind) λj m v o x p h0=>?_
   grind[List.getElem?_append_left,g0m,List.mem_append_left]
def M08(g:j0):∃ t,Q2 g=0::t:=by obtain⟨t,e⟩:=o0e g (U7 g.1.toNat 1) (g.2.1.toNat+1) 0 [0];exact⟨t,e⟩
def J0h{g:j0}(hf:K0 g){x:Int}(h:Rch g.2.2 0 x):x∈Q2 g:=by
 obtain⟨c,d,f,t⟩:=W0 hf;have m:=M08 g;have i:∀ v∈Q2 g,∀ x∈U7 g.1.toNat 1,0<=Q0 g v x->Q0 g v x∈Q2 g:=by obtain⟨r,n,es⟩:=g;simp only at d f;obtain⟨N,rfl⟩:∃ N:Nat,n=(N:Int):=⟨n.toNat,oM⟩;exact a0k c _ (((N:Int)).toNat+1) 0 [0] ⟨oS,λx l=>oG⟩ oG (Nat.zero_le _) (λj b=>oM)
 refine Rch.sub (P:=λx=>x∈Q2 g) ?_ (λe a=>?_) h;·grind
 have k:=c e a;obtain⟨j,b⟩:∃ j:Nat,e.2.1=(j:Int):=⟨e.2.1.toNat,oM⟩;obtain⟨o,p⟩:=Z0j g.1.toNat 1 j oM oM;have q:Q0 g e.1 (j:Int)=e.2.2:=Y06 hf (V2.2 ⟨e,a,.inl ⟨oM,b,rfl,rfl⟩⟩);have s:Q0 g e.2.2 (-(j:Int))=e.1:=Y06 hf (V2.2 ⟨e,a,.inr ⟨oM,oM,rfl,rfl⟩⟩);constructor;all_goals grind
def Z0c{a:Nat->Bool}:∀ {d v:Nat},lf a d v=none->∀ k,v<=k->k<v+d->a k=false
 |0,v,h,k,b,e=>oM
 |d+1,v,h,k,b,e=>by
  unfold lf at h;cases hb:a v
  ·rw[hb]at h;by_cases c:k=v;·rw[c];exact hb
   exact Z0c (d:=d) (v:=v+1) h k oM oM
  rw[hb]at h;cases h
def b0k{a:Nat->Bool}:∀ {d v:Nat},(∀ k,v<=k->k<v+d->a k=false)->lf a d v=none
 |0,v,h=>rfl
 |d+1,v,h=>by unfold lf;rw[h v (Nat.le_refl _) oM];exact b0k λk b c=>h k oM oM
theorem c0a{g:j0}(hf:K0 g)(b:F9 g=none){x:Int}(h0:0<=x)(d:x<g.2.1):x∈Q2 g:=by
 refine J0h hf ?_;by_cases c:x=0;·subst c;exact .base
 have:=Z0c b x.toNat oM oM;unfold O0a at this;simp only[Bool.or_eq_false_iff,Bool.not_eq_false',dE]at this;have a:=this.2;rw[show((x.toNat:Nat):Int)=x by omega]at a;exact(k06 _ _ _).1 a
def h0m{n:Nat}:∀(o:List Int) (k:Nat) (A:List Int),A.length=n->inV n o->o.Nodup->∀(i:Nat) (v:Int),o[i]?=some v->getI (A03 A k o) v=((k+i:Nat):Int)
 | [],k,A,c,b,f,i,v,a=>by simp at a
 |w::r,k,A,c,b,f,i,v,a=>by
  have e:=b w mS;obtain⟨g,h⟩:=List.nodup_cons.1 f;cases i with
  |zero =>simp at a;subst a;rw[A03,H0j r _ _ w (by simp[c]) (λu d=>b u (mC _ d)) e.1 g,j07 e.1 oM e.1,iP rfl];rfl
  |succ i =>rw[A03,h0m r (k+1) _ (by simp[c]) (λu d=>b u (mC _ d)) h i v (by simpa using a)];omega
theorem p0e{n:Nat}{o:List Int}(c:inV n o)(a:o.Nodup){i:Nat}{v:Int}(b:o[i]?=some v):getI (plc n o) v=(i:Int):=by have:=h0m o 0 (List.replicate n (-1)) oS c a i v b;rw[Nat.zero_add]at this;exact this
def c0k(P:List Int):∀(es:List O0),(∀ e∈es,0<=getI P e.1/\0<=getI P e.2.2)->pE P es=es.map λe=>(getI P e.1,e.2.1,getI P e.2.2)
 | [],h=>rfl
 |e::r,h=>by have a:=h e mS;unfold pE;rw[show(decide (0<=getI P e.1)&&decide (0<=getI P e.2.2))=true by simp[a.1,a.2],c0k P r λb c=>h b (mC _ c)];rfl
def i0m(e:O0):∀ {l:List O0},e ∉ l->(a02 V0 e l).Perm (e::l)
 | [],_=>List.Perm.refl _
 |y::l,h=>by
  have d:=i0m e (l:=l) λa=>h (mC _ a);unfold a02;split;·exact List.Perm.refl _
  split;·rename_i c;exact absurd (j4.eq _ _ c) λb=>h oG
  grind
def K0h:∀(r acc:List O0),(acc++r).Nodup->(L4 V0 acc r).Perm (acc++r)
 | [],acc,h=>by simp[L4]
 |x::r,acc,h=>by have a:(acc++x::r).Perm (x::(acc++r)):=List.perm_middle;have b:=a.nodup_iff.1 h;have f:x ∉ acc:=λd=>(List.nodup_cons.1 b).1 (List.mem_append_left _ d);have e:=i0m x f;have c:(a02 V0 x acc++r).Perm (x::(acc++r)):=e.append_right r;rw[L4];exact((K0h r _ (c.nodup_iff.2 b)).trans c).trans a.symm
def l0u(v:Int){l a:List O0}(h:l.Perm a):z03 v l=z03 v a:=by
 induction h with
 |nil=>rfl
 |cons x _ d=>simp only[z03,d]
 |swap x y l=>simp only[z03];omega
 |trans _ _ b c=>rw[b,c]
def O0p{φ:Int->Int}{v:Int}:∀(es:List O0),(∀ e∈es,(φ e.1=φ v↔e.1=v)/\(φ e.2.2=φ v↔e.2.2=v))->z03 (φ v) (es.map λe=>(φ e.1,e.2.1,φ e.2.2))=z03 v es
 | [],h=>rfl
 |e::r,h=>by obtain⟨c,d⟩:=h e mS;have f:=O0p r λa b=>h a (mC _ b);simp_all[List.map_cons,z03,y0f,iP,iE]
def z0r:∀(m:Nat) (o:List Int),(∀ i:Nat,i<m->(i:Int)∈o)->m<=o.length
 |0,o,h=>Nat.zero_le _
 |m+1,o,h=>by have c:=h m oM;have a:=z0r m (o.erase (m:Int)) λi b=>(List.mem_erase_of_ne oM).2 (h i oM);grind
def d0a{es:List O0}(c:Asc V0 es):es.Nodup:=by refine List.Pairwise.imp (λ{a b} h e=>?_) c;rw[e,j4.refl]at h;omega
def P0p{es:List O0}(a:Asc V0 es):L4 V0 [] es=es :=
 M0a j4 (I02 j4 _ _ .nil) a λx=>by rw[C5 j4];simp
def A0r{t:j0}(hf:K0 t)(aa:F9 t=none):K1 (N3 t):=by
 have an:=A3 hf;obtain⟨F,aV,aW,aX⟩:=W0 hf;have ah:=T05 an;obtain⟨⟨J,D⟩,ay⟩:=N04 hf;have ar:=A01 _ _ J D;have X:∀ x:Int,0<=x->x<t.2.1->x∈Q2 t:=λx h0 d=>c0a hf aa h0 d;obtain⟨aY,aC⟩:=M08 t;obtain⟨n,aw⟩:∃ n:Nat,t.2.1=(n:Int):=⟨t.2.1.toNat,oM⟩;have T:t.2.1.toNat=n:=oM;rw[T]at D ar;have ad:(Q2 t).length=n:=by have:=z0r n (Q2 t) λi K=>X _ oM oM;omega
 let P:Int->Int:=getI (plc n (Q2 t))
 have O:∀(i:Nat) (v:Int),(Q2 t)[i]?=some v->P v=(i:Int):=λi v K=>p0e D J K;have V:∀ x:Int,0<=x->x<t.2.1->0<=P x/\P x<(n:Int):=λx h0 d=>by obtain⟨i,K⟩:=List.getElem?_of_mem (X x h0 d);grind
 have A:∀ x y:Int,0<=x->x<t.2.1->0<=y->y<t.2.1->P x=P y->x=y:=λx y h0 d m aL h=>A0i D J h0 m (V x h0 d).1 h;have Q:P 0=0:=O 0 0 (by rw[aC];rfl);have az:pE (plc n (Q2 t)) t.2.2=t.2.2.map λe=>(P e.1,e.2.1,P e.2.2):=c0k _ _ λe g=>by have:=F e g;grind
 have I:N3 t=(t.1,(n:Int),L4 V0 [] (t.2.2.map λe=>(P e.1,e.2.1,P e.2.2))):=by unfold N3 L7;rw[T,az,ad]
 have ao:∀ e∈t.2.2,∀ j∈t.2.2,((P e.1,e.2.1,P e.2.2):O0)=(P j.1,j.2.1,P j.2.2)->e=j:=λe g j R h=>by have a:=F e g;have b:=F j R;simp only[Prod.mk.injEq]at h;have d:=A _ _ a.1.1 a.1.2 b.1.1 b.1.2 h.1;have m:=A _ _ a.2.1.1 a.2.1.2 b.2.1.1 b.2.1.2 h.2.2;obtain⟨aH,G,U⟩:=e;obtain⟨aJ,aK,f2⟩:=j;simp only at d m h;rw[d,m,h.2.1]
 have av:(t.2.2.map λe=>((P e.1,e.2.1,P e.2.2):O0)).Nodup:=by have:=d0a ah;rw[List.Nodup,List.pairwise_map];exact List.Pairwise.imp_of_mem (λ{a b} ak C h e=>h (ao a ak b C e)) this
 have L:∀ j,j∈(N3 t).2.2↔∃ e∈t.2.2,j=(P e.1,e.2.1,P e.2.2):=λj=>by rw[I];simp only;rw[C5 j4];simp only[List.not_mem_nil,false_or,List.mem_map];exact⟨λ⟨e,d,m⟩=>⟨e,d,m.symm⟩,λ⟨e,d,m⟩=>⟨e,d,m.symm⟩⟩
 have H:K0 (N3 t):=o07 hf (by rw[T];exact D) J ay oM;have Y:=A3 H;have M:(N3 t).2.1=(n:Int):=by rw[I]
 have aN:∀ v:Int,0<=v->v<t.2.1->z03 (P v) (N3 t).2.2=z03 v t.2.2:=λv h0 d=>by rw[I];simp only;rw[l0u _ (K0h _ [] (by simpa using av)),(nA)];refine O0p _ λe g=>?_;have:=F e g;exact⟨⟨λh=>A _ _ this.1.1 this.1.2 h0 d h,λh=>by rw[h]⟩,⟨λh=>A _ _ this.2.1.1 this.2.1.2 h0 d h,λh=>by rw[h]⟩⟩
 have aB:∀ x,Rch t.2.2 0 x->Rch (N3 t).2.2 0 (P x):=λx p =>
  Rch.sub (P:=λx=>Rch (N3 t).2.2 0 (P x)) (by show Rch _ 0 (P 0);rw[Q];exact .base) (λe g=>Rch.closed (P e.1,e.2.1,P e.2.2) ((L _).2 ⟨e,g,rfl⟩)) p
 have aq:F9 (N3 t)=none:=by
  unfold F9;refine b0k λk aU aF=>?_;rw[M,(iN)]at aF;obtain⟨v,E⟩:∃ v,(Q2 t)[k]?=some v:=⟨_,gG oM⟩;have aS:=D v (mG E);have W:=O k v E;have aR:v≠0:=λh=>by rw[h,Q]at W;omega
  have C:=Z0c aa v.toNat oM oM;unfold O0a at C ⊢;rw[show((v.toNat:Nat):Int)=v by omega]at C;simp only[Bool.or_eq_false_iff,Bool.not_eq_false',dE,decide_eq_false_iff_not]at C ⊢;refine⟨?_,?_⟩;·grind
  rw[←W];exact(k06 _ _ _).2 (aB v ((k06 _ _ _).1 C.2))
 have ax:∀ v x:Int,0<=v->v<t.2.1->(Q0 t v x = -1/\Q0 (N3 t) (P v) x = -1)∨((0<=Q0 t v x/\Q0 t v x<t.2.1)/\Q0 (N3 t) (P v) x=P (Q0 t v x)):=λv x h0 d=>by
  rcases z04 t v x with⟨G,U⟩|G
  ·left;refine⟨G,?_⟩;rcases z04 (N3 t) (P v) x with⟨N,aG⟩|N;·exact N
   exfalso;obtain⟨j,R,S⟩:=V2.1 N;obtain⟨e,g,rfl⟩:=(L j).1 R;have w:=F e g;have:∃ y,y∈j01 v x t.2.2:=by
    rcases S with⟨a,b,c,_⟩|⟨a,b,c,_⟩;·exact⟨_,V2.2 ⟨e,g,.inl ⟨a,b,A _ _ w.1.1 w.1.2 h0 d c,rfl⟩⟩⟩
    exact⟨_,V2.2 ⟨e,g,.inr ⟨a,b,A _ _ w.2.1.1 w.2.1.2 h0 d c,rfl⟩⟩⟩
   obtain⟨y,af⟩:=this;rw[U]at af;cases af
  right;generalize Q0 t v x=y at G;obtain⟨e,g,S⟩:=V2.1 G;have w:=F e g;rcases S with⟨a,b,c,rfl⟩|⟨a,b,c,rfl⟩;·exact⟨w.2.1,Y06 H (V2.2 ⟨_,(L _).2 ⟨e,g,rfl⟩,.inl ⟨a,b,by show P e.1=P v;rw[c],rfl⟩⟩)⟩
  exact⟨w.1,Y06 H (V2.2 ⟨_,(L _).2 ⟨e,g,rfl⟩,.inr ⟨a,b,by show P e.2.2=P v;rw[c],rfl⟩⟩)⟩
 have aD:∀ u:List Int,gud n u->∀ x∈u,0<=x/\x<t.2.1:=λu o x p=>by have:=o.2 x p;omega
 have aP:inG (t.1,(n:Int),t.2.2):=by grind
 have aO:(t.1,(n:Int),t.2.2)=t:=by rw[←aw]
 have aj:∀(u:List Int) (y z:Int),gud n u->(y = -1/\z = -1)∨((0<=y/\y<t.2.1)/\z=P y)->A09 (u.map P) z=(A09 u y).map P:=λu y z o h=>by
  unfold A09;rcases h with⟨rfl,rfl⟩|⟨⟨h0,d⟩,rfl⟩;·rw[iE oM,iE oM]
  have ab:P y∈u.map P↔y∈u:=by
   constructor;·intro h;obtain⟨x,p,e⟩:=List.mem_map.1 h;grind
   grind
  by_cases c:y∈u;·rw[iE λq=>q.2 (ab.2 c),iE λq=>q.2 c]
  rw[iP ⟨(V y h0 d).1,λq=>c (ab.1 q)⟩,iP ⟨h0,c⟩];simp
 have aM:∀(v:Int),0<=v->v<t.2.1->∀(s u:List Int),gud n u->t03 (N3 t) (P v) s (u.map P)=(t03 t v s u).map P:=λv h0 d s=>by
  induction s with
  |nil=>intro u o;rfl
  |cons x l ag =>
   intro u o;have p:Q0 t v x = -1∨(0<=Q0 t v x/\Q0 t v x<(n:Int)):=by grind
   rw[t03,t03,aj u _ _ o (ax v x h0 d),ag _ (n0p o p)]
 have ai:∀(f i:Nat) (u:List Int) (s:List Int),gud n u->E9 (N3 t) s f i (u.map P)=(E9 t s f i u).map P:=λf=>by
  induction f with
  |zero=>intro i u s o;rfl
  |succ f ag =>
   intro i u s o;unfold E9;rw[List.getElem?_map];cases e:u[i]? with
   |none=>rfl
   |some v =>have E:=aD u o v (mG e);grind[gud,t03,N06]
 have ae:Q2 (N3 t)=(Q2 t).map P:=by
  have d:(N3 t).1=t.1:=by rw[I]
  have m:=ai (n+1) 0 [0] (U7 t.1.toNat 1) ⟨oS,λx p=>by simp at p;subst p;omega⟩;rw[List.map_cons,List.map_nil,Q]at m;show E9 (N3 t) (U7 (N3 t).1.toNat 1) ((N3 t).2.1.toNat+1) 0 [0]=(E9 t (U7 t.1.toNat 1) (t.2.1.toNat+1) 0 [0]).map P;grind
 have ap:∀ i:Nat,i<n->(Q2 (N3 t))[i]?=some (i:Int):=λi K=>by rw[ae,List.getElem?_map];obtain⟨v,E⟩:∃ v,(Q2 t)[i]?=some v:=⟨_,gG oM⟩;rw[E,Option.map_some,O i v E]
 obtain⟨⟨am,ac⟩,_⟩:=N04 H;rw[M,(iN)]at ac;have aQ:∀ x:Int,0<=x->x<(n:Int)->getI (plc n (Q2 (N3 t))) x=x:=λx h0 d=>by have:=p0e ac am (ap x.toNat oM);rw[show((x.toNat:Nat):Int)=x by omega]at this;exact this
 have au:(Q2 (N3 t)).length=n:=by rw[ae,List.length_map,ad]
 have Z:=(Y2 Y).1;have al:N3 (N3 t)=N3 t:=by
  have aA:pE (plc n (Q2 (N3 t))) (N3 t).2.2=(N3 t).2.2:=by rw[c0k _ _ λe g=>by have:=Z e g;grind];refine(List.map_congr_left λe g=>?_).trans (List.map_id _);have:=Z e g;grind
  show L7 (N3 t) (Q2 (N3 t))=N3 t;unfold L7;rw[M,(iN),aA,P0p (T05 Y),au];rw[←M]
 unfold K1;rw[H,aq,al];simp[V0b]
theorem j0m{g:j0}(hf:K0 g):K1 (z07 g):=by have a:=A3 hf;have:=(Y2 a).2.2.1;exact A0r (C03 40 hf) (L08 40 a oM)
def ng(x:Int):Int:=i64.wrap (0-x)
def inv(w:List Int):List Int:=(w.map ng).reverse
theorem S0a(w:List Int):(inv w).length=w.length:=by simp[inv]
def H07(w:List Int):Prop:=∀ x∈w,H0 x
def a0w{w:List Int}{k:Nat}{x:Int}(a:w[k]?=some x):inv (w.drop k)=inv (w.drop (k+1)) ++ [ng x]:=by simp_all[I1,inv]
def p07(w:List Int)(c:w.length<=17592186044416):∀(k fuel:Nat),k<=w.length->k<fuel -> o5 w fuel ((k:Int)-1) (inv (w.drop k))=some (inv w)
 |k,0,b,hf=>oM
 |0,fuel+1,b,hf=>by simp_all[o5.eq_2,iE]
 |k+1,fuel+1,b,hf=>by
  have a:=V3 (show k<w.length by omega);have next:=p07 w c k fuel oM oM;generalize w[k]=x at a;rw[a0w a]at next;have d:=S0a (w.drop (k+1));rw[List.length_drop]at d;rw[show(((k+1:Nat):Int)-1)=(k:Int) by omega,o5.eq_2,iP oS,U1 a,oB,C0 oG,oB,
   w64 oM oM]
  exact next
def e0a(w:List Int)(a:w.length<=17592186044416):q01 w=some (inv w):=by unfold q01;have h:=p07 w a w.length P0 (Nat.le_refl _) (j1 oM);rw[List.drop_length]at h;rw[w64 oM oM,show([]:I0)=inv [] from rfl,h];rfl
theorem p06(w:List Int):∀(fuel:Nat) (k:Int) (u:List Int),J8 w fuel k u=o5 w fuel k u
 |0,k,u=>rfl
 |fuel+1,k,u=>by rw[J8.eq_2,o5.eq_2];simp only[p06 w fuel]
def f0a(w:List Int)(a:w.length<=17592186044416):r01 w=some (inv w):=by rw[←e0a w a];grind[r01,q01,C0,p06]
def Q04(l x:Int):Bool := !(l == 0) && !(l == -9223372036854775808)&&(x == ng l)
def A7(s:List Int)(x:Int):List Int:=match s with
 | []=>[x]
 |l::t=>bif Q04 l x then t else x::l::t
def A6(s w:List Int):List Int:=w.foldl A7 s
def Red:List Int->Bool
 | []=>true
 | [_]=>true
 |x::l::t => !Q04 l x&&Red (l::t)
def Q0p{x:Int}{t:List Int}(h:Red (x::t)):Red t:=by
 cases t with
 |nil=>rfl
 |cons l t=>simp_all[Red,aE]
def m0u{s:List Int}(x:Int)(h:Red s):Red (A7 s x):=by
 cases s with
 |nil=>rfl
 |cons l t =>
  simp only[A7];cases hc:Q04 l x;·simp_all[zF,Red]
  exact Q0p h
def N08:∀(w s:List Int),Red s->Red (A6 s w)
 | [],s,h=>h
 |x::w,s,h=>N08 w (A7 s x) (m0u x h)
theorem f0c(s a b:List Int):A6 s (a++b)=A6 (A6 s a) b:=List.foldl_append
theorem U0g(s:List Int)(x:Int):(A7 s x).length<=s.length+1:=by
 cases s with
 |nil=>simp[A7]
 |cons l t =>simp only[A7];cases Q04 l x<;>simp<;>omega
theorem j05:∀(w s:List Int),(A6 s w).length<=s.length+w.length
 | [],s=>by simp[A6]
 |x::w,s=>by
  have:=j05 w (A7 s x)
  grind[U0g,A6,List.length_cons]
def R0p{b:List Int}{x:Int}(h:H07 b)(c:H0 x):H07 (A7 b x):=by
 cases b with
 |nil=>intro y a;grind[A7]
 |cons l t =>
  simp only[A7];cases Q04 l x
  ·intro y a;rcases mE.1 a with rfl|a;·exact c
   exact h y a
  exact λy a=>h y (mC _ a)
def n0u{l x:Int}(b:H0 l)(c:H0 x):(!(x == 0)&&(l == ng x) && !(l == x))=Q04 l x:=by
 unfold Q04 ng;have e:∀ {z:Int},H0 z->i64.wrap (0-z)=if z = -9223372036854775808 then -9223372036854775808 else -z:=λ{z} a=>by
  split;·rename_i h;subst h;decide
  rw[w64 (by have:=a.1;have:=a.2;omega) (by have:=a.1;have:=a.2;omega)];omega
 rw[e b,e c];have d:=b.1;have f:=b.2;have g:=c.1;have i:=c.2;rw[Bool.eq_iff_iff];simp only[aE,Bool.not_eq_true',beq_iff_eq,beq_eq_false_iff_ne,ne_eq];split<;>split<;>omega
def d0k{l:Int}{t:List Int}:(l::t).reverse[t.length]?=some l:=by grind
def k0m(l:Int)(t:List Int):(l::t).reverse.take t.length=t.reverse:=by rw[List.reverse_cons,List.take_append_of_le_length oS,List.take_of_length_le oS]
theorem X05(w:List Int)(hw:H07 w)(hl:w.length<=17592186044416):∀(d k fuel:Nat) (s:List Int),k+d=w.length->d<fuel->H07 s->s.length<=k ->
  j3 w fuel (k:Int) s.reverse=some (A6 s (w.drop k)).reverse
 |d,k,0,s,hk,hf,hs,hsl=>by omega
 |0,k,fuel+1,s,hk,hf,hs,hsl=>by
  rw[j3.eq_2,if_neg (by simp;omega),D1 (by omega)]
  rfl
 |d+1,k,fuel+1,s,hk,hf,hs,hsl=>by
  have hkl:k<w.length:=by omega
  have hx:=V3 hkl
  have hx64:=hw _ (List.mem_of_getElem? hx)
  generalize w[k]=x at hx hx64
  have next:=X05 w hw hl d (k+1) fuel (A7 s x) (by omega) (by omega) (R0p hs hx64) (by grind[U0g])
  rw[I1 hx]
  show _=some (A6 (A7 s x) (w.drop (k+1))).reverse
  rw[←next,j3.eq_2,if_pos (by simp;omega),oB,C0 (by grind),oB]
  rw[Z1 hkl (by omega:w.length<=9223372036854775807)]
  have e0:decide (x=0)=(x == 0):=by grind
  cases s with
  |nil =>
   have hz:decide ((((([]:List Int).reverse).length:Nat):Int)>0)=false:=rfl
   simp only[hz,O1,oB,cond_false,Bool.false_eq_true,if_false,U1 hx]
   rw[C0 (by simp)]
   rfl
  |cons l t =>
   have hl64:=hs l mS
   have hp:decide ((((l::t).reverse.length:Nat):Int)>0)=true:=by simp
   have hpr:IntKind.i64.wrap ((((l::t).reverse.length:Nat):Int)-1)=((t.length:Nat):Int):=by
    grind[K0d,List.length_reverse,List.length_cons]
   have hc:=n0u hl64 hx64
   have e1:decide (l=IntKind.i64.wrap (0-x))=(l == ng x):=by rw[Bool.eq_iff_iff];simp[ng]
   have e2:decide (l=x)=(l == x):=by grind
   have hpush:(grd (((l::t).reverse.length + [x].length)*8<=140737488355328))=some ():=C0 (by grind)
   simp only[hp,hpr,H1,oB,cond_true,U1 hx,U1 d0k,e0,A7]
   cases h0:(x == 0)with
   |true =>
    rw[h0]at hc
    simp only[Bool.not_true,Bool.false_and]at hc
    simp only[←hc,Bool.not_true,O1,cond_false,oB,Bool.false_eq_true,if_false,hpush]
    grind
   |false =>
    rw[h0]at hc
    simp only[Bool.not_false,Bool.true_and]at hc
    simp only[Bool.not_false,H1,cond_true,oB,e1]
    cases h1:(l == ng x)with
    |false =>
     rw[h1]at hc
     simp only[Bool.false_and]at hc
     simp only[←hc,O1,cond_false,oB,Bool.false_eq_true,if_false,hpush]
     grind
    |true =>
     rw[h1]at hc
     simp only[Bool.true_and]at hc
     simp only[H1,cond_true,oB,e2]
     cases h2:(l == x)with
     |true =>
      grind
     |false =>
      rw[h2]at hc
      simp only[Bool.not_false]at hc
      simp only[←hc,Bool.not_false,if_true,cond_true]
      rw[C0 (by grind),oB,Int.toNat_natCast,k0m]
theorem K8(w:List Int)(b:H07 w)(a:w.length<=17592186044416):G3 w=some (A6 [] w).reverse:=by
 unfold G3
 have h:=X05 w b a w.length 0 P0 [] (by omega) (j1 (by omega)) (λx c=>by cases c) (by simp)
 rw[show((0:Nat):Int)=0 from rfl,List.drop_zero,List.reverse_nil]at h
 rw[h,oB,C0 (by grind[j05,List.length_reverse,List.length_nil]),oB,List.nil_append]
def S0p{r:Int}{w:List Int}(h:J1 r w):∀ k,k<=w.length->A6 [] (w.take k)=(w.take k).reverse
 |0,_=>rfl
 |k+1,i=>by
  have f:=S0p h k oM;have b:=V3 (show k<w.length by omega);generalize w[k]=x at b;have e:w.take (k+1)=w.take k ++ [x]:=Q0l b;rw[e,f0c,f,List.reverse_append];show A7 (w.take k).reverse x=x::(w.take k).reverse;cases k with
  |zero=>rfl
  |succ j =>
   have c:=V3 (show j<w.length by omega);generalize w[j]=y at c;rw[Q0l c,List.reverse_append];show A7 (y::(w.take j).reverse) x=_;have d:=h;simp only[J1,aE,dE]at d;have a:=O0c d.2 (j+1) (Nat.zero_le _) oM;unfold C08 at a;rw[b]at a;simp only[Nat.add_sub_cancel,c,Bool.or_eq_false_iff,show decide (0<j+1)=true by simp,Bool.true_and]at a;have g:Q04 y x=false:=by unfold Q04 ng;rw[a.2,Bool.and_false]
   simp_all[A7,zF]
theorem T03{r:Int}{w:List Int}(h:J1 r w):(A6 [] w).reverse=w:=by have:=S0p h w.length (Nat.le_refl _);rw[List.take_length]at this;rw[this,List.reverse_reverse]
def o9(g:j0)(w:List Int):Bool:=decide ((L2 g 0 w).2=w.length)&&decide ((L2 g 0 w).1=0)
theorem G2{g:j0}(h:K1 g):K0 g:=by simp_all[K1,aE]
theorem O08{r:Int}{g:j0}{w:List Int}(m:K1 g=true)(i:J1 r w=true):F00 g w=some (o9 g w):=by
 have hf:=G2 m
 obtain⟨n,s,o,t⟩:=W0 hf
 obtain⟨wl,j⟩:=V7 i
 have f:=K8 w (λx e=>(j x e).1.1) (by omega)
 rw[T03 i]at f
 have k:=u0n g hf 0 ⟨iR _,by omega⟩ w (λx e=>(j x e).1) (by omega)
 have p:=D0f g (by omega)
 have h:O6 g=some true:=by
  grind[O6]
 have l:=h05 n o.2 w 0 ⟨by omega,by omega⟩
 have q:=g05 g w 0
 unfold o9
 obtain⟨a,b,c⟩:=g
 unfold F00
 simp only[f,oB,k]
 by_cases d:(L2 (a,b,c) 0 w).2<w.length
 ·simp only[decide_eq_true d,cond_true]
  rw[C0 (show H0 (-1) from⟨by omega,by omega⟩),oB,h]
  grind[decide,L2,decide_eq_false]
 ·simp only[decide_eq_false d,cond_false]
  rw[C0 l,oB,h]
  grind
theorem T0p{r:Int}{g:j0}{w:List Int}(i:K1 g=true)(j:J1 r w=true):n8 g w=some (o9 g w):=by
 have hf:=G2 i
 obtain⟨d,n,e,o⟩:=W0 hf
 obtain⟨wl,l⟩:=V7 j
 have f:=v0j g d e.2 (by omega) 0 w (λx k=>(l x k).1) (by omega)
 have h:=h05 d e.2 w 0 ⟨by omega,by omega⟩
 have m:=g05 g w 0
 unfold o9
 obtain⟨a,b,c⟩:=g
 unfold n8
 simp only[f,oB]
 rw[C0 h,oB,C0 (show H0 (((L2 (a,b,c) 0 w).2:Nat):Int) from⟨by omega,by omega⟩),oB]
 grind[L2,decide_eq_true,decide,decide_eq_false]
def rdw(g:j0):Int->List Int->Option Int
 |v,[]=>some v
 |v,x::w=>if Q0 g v x<0 then none else rdw g (Q0 g v x) w
theorem l0m(g:j0):∀(w:List Int) (v u:Int),rdw g v w=some u↔((L2 g v w).2=w.length/\(L2 g v w).1=u)
 | [],v,u=>by simp[rdw,L2]
 |x::w,v,u=>by have a:=l0m g w (Q0 g v x) u;unfold rdw L2;grind
theorem R04(g:j0)(w:List Int):o9 g w↔rdw g 0 w=some 0:=by grind[o9,l0m]
theorem a0d(g:j0):∀(a b:List Int) (v:Int),rdw g v (a++b)=(rdw g v a).bind λu=>rdw g u b
 | [],b,v=>rfl
 |x::a,b,v=>by have c:=a0d g a b (Q0 g v x);show(if Q0 g v x<0 then none else rdw g (Q0 g v x) (a++b))=(if Q0 g v x<0 then none else rdw g (Q0 g v x) a).bind λu=>rdw g u b;grind
theorem d04{g:j0}(hf:K0 g){v x u:Int}(h:Q0 g v x=u)(h0:0<=u):Q0 g u (-x)=v:=by
 rcases z04 g v x with⟨e,_⟩|e;·omega
 rw[h]at e;obtain⟨d,a,b⟩:=V2.1 e;refine Y06 hf (V2.2 ⟨d,a,?_⟩);grind
def b0w{g:j0}(hf:K0 g){v u a x:Int}{d:List Int}(j:H0 x)(f:H07 d)(h:rdw g v d.reverse=some u)(b:Q0 g u x=a)(h0:0<=a):rdw g v (A7 d x).reverse=some a:=by
 have one:∀ u:Int,Q0 g u x=a->rdw g u [x]=some a:=λu b=>by simp_all[rdw,iE]
 cases d with
 |nil =>simp only[List.reverse_nil,rdw,Option.some.injEq]at h;subst h;exact one v b
 |cons l t =>
  simp only[A7];cases hc:Q04 l x;·simp only[zF];grind[List.reverse_cons,a0d]
  simp only[cT];rw[List.reverse_cons,a0d]at h;cases ht:rdw g v t.reverse with
  |none=>rw[ht]at h;cases h
  |some z =>
   rw[ht]at h;simp only[oB]at h;unfold rdw at h;by_cases c:Q0 g z l<0;·grind
   rw[iE c]at h;simp only[rdw,Option.some.injEq]at h;have e:=d04 hf h oM;unfold Q04 at hc;simp only[aE,Bool.not_eq_true',beq_eq_false_iff_ne,beq_iff_eq]at hc;have i:=f l mS;have:x = -l:=by grind[ng,b0b]
   rw[this,e]at b;rw[b]
def U0p{g:j0}(hf:K0 g){v:Int}:∀(w b:List Int) (u d:Int),H07 w->H07 b->rdw g v b.reverse=some u->rdw g u w=some d->rdw g v (A6 b w).reverse=some d
 | [],b,u,d,h,f,e,a=>by simp only[rdw,Option.some.injEq]at a;subst a;exact e
 |x::w,b,u,d,h,f,e,a=>by
  unfold rdw at a;by_cases c:Q0 g u x<0;·grind
  rw[iE c]at a;have i:=h x mS;exact U0p hf w (A7 b x) _ d (λy j=>h y (mC _ j)) (R0p f i) (b0w hf i f e rfl oM) a
def H0x{g:j0}(hf:K0 g){v u:Int}{w:List Int}(a:H07 w)(h:rdw g v w=some u):rdw g v (A6 [] w).reverse=some u :=
 U0p hf w [] v u a (λx b=>by cases b) rfl h
structure Mor (a b:j0) (f:Int->Int):Prop where
 base:f 0=0
 rng:∀ v,0<=v->v<a.2.1->0<=f v/\f v<b.2.1
 step:∀ v x,0<=v->v<a.2.1->0<=Q0 a v x->Q0 b (f v) x=f (Q0 a v x)
def Mor.rdw{a b:j0}{f:Int->Int}(m:Mor a b f)(i:inG a):∀(w:List Int) (v u:Int),0<=v->v<a.2.1->rdw a v w=some u->rdw b (f v) w=some (f u)
 | [],v,u,h0,g,h=>by simp only[Go.Proofs.YthakcafglempaaaGreat.rdw,Option.some.injEq]at h ⊢;rw[h]
 |x::w,v,u,h0,g,h=>by
  unfold Go.Proofs.YthakcafglempaaaGreat.rdw at h ⊢;by_cases c:Q0 a v x<0;·rw[iP c]at h;cases h
  rw[iE c]at h;have j:=m.step v x h0 g oM;have d:0<=Q0 a v x/\Q0 a v x<a.2.1:=by
   rcases i04 i v x with e|e;·omega
   exact e
  have k:=m.rng _ d.1 d.2;rw[j,iE oM];exact Mor.rdw m i w _ u d.1 d.2 h
def Mor.loop{a b:j0}{f:Int->Int}(m:Mor a b f)(c:K0 a){w:List Int}(h:o9 a w):o9 b w:=by obtain⟨d,e,g,i⟩:=W0 c;rw[R04]at h ⊢;have:=m.rdw d w 0 0 (iR _) oM h;rwa [m.base]at this
abbrev Im:=List Int×List Int
def B0r(a b:Im):Prop:=(∃ t,b.2=a.2++t)/\∀ v∈a.2,getI b.1 v=getI a.1 v
theorem B0r.refl(s:Im):B0r s s:=⟨⟨[],oS⟩,λ_ _=>rfl⟩
def B0r.trans{a b c:Im}(h:B0r a b)(h':B0r b c):B0r a c:=by obtain⟨⟨t,e⟩,f⟩:=h;obtain⟨⟨j,d⟩,g⟩:=h';exact⟨⟨t++j,by rw[d,e,List.append_assoc]⟩,λv i=>(g v oG).trans (f v i)⟩
def q0z(a b:j0)(v x:Int)(s:Im):Prop:=0<=Q0 a v x->Q0 a v x∈s.2/\Q0 b (getI s.1 v) x=getI s.1 (Q0 a v x)
def q0z.le{a b:j0}{v x:Int}{c d:Im}(j:v∈c.2)(h:q0z a b v x c)(l:B0r c d):q0z a b v x d:=λh0=>by obtain⟨g,i⟩:=h h0;obtain⟨⟨t,e⟩,f⟩:=l;grind
def o0u{g:j0}(h:K1 g):F9 g=none:=by simp_all[K1,aE,Option.isNone_iff_eq_none]
def p0u{a b:List Int}(c:H07 a)(d:H07 b):H07 (a++b):=λx e=>by
 rcases List.mem_append.1 e with h|h;·exact c x h
 exact d x h
theorem I07(w:List Int)(hl:w.length<=17592186044416)(n0:Nat)(hn:n0+w.length<=17592186044416):∀(d k fuel:Nat) (s:List Int),k+d=w.length->d<fuel->s.length<=n0+k ->
  A8 w fuel (k:Int) s.reverse=some (A6 s (w.drop k)).reverse
 |d,k,0,s,hk,hf,hsl=>by omega
 |0,k,fuel+1,s,hk,hf,hsl=>by
  rw[A8.eq_2,if_neg (by simp;omega),D1 (by omega)]
  rfl
 |d+1,k,fuel+1,s,hk,hf,hsl=>by
  have hkl:k<w.length:=by omega
  have hx:=V3 hkl
  generalize w[k]=x at hx
  have next:=I07 w hl n0 hn d (k+1) fuel (A7 s x) (by omega) (by omega) (by grind[U0g])
  rw[I1 hx]
  show _=some (A6 (A7 s x) (w.drop (k+1))).reverse
  rw[←next,A8.eq_2,if_pos (by simp;omega),U1 hx,oB,oB,C0 (by grind),oB,oB,oB]
  rw[Z1 hkl (by omega:w.length<=9223372036854775807)]
  cases s with
  |nil =>
   have hz:decide ((((([]:List Int).reverse).length:Nat):Int)>0)=false:=rfl
   simp only[hz,O1,oB,cond_false,Bool.false_eq_true,if_false]
   rw[C0 (by simp)]
   rfl
  |cons l t =>
   have hp:decide ((((l::t).reverse.length:Nat):Int)>0)=true:=by simp
   have hpr:IntKind.i64.wrap ((((l::t).reverse.length:Nat):Int)-1)=((t.length:Nat):Int):=by
    grind[K0d,List.length_cons,List.length_reverse]
   have hpush:(grd (((l::t).reverse.length + [x].length)*8<=140737488355328))=some ():=C0 (by grind)
   have hlen:(grd ((l::t).reverse.length<=9223372036854775807))=some ():=C0 (by grind)
   simp only[hp,hpr,H1,oB,cond_true,U1 d0k,N0a,A7]
   have hcc:(!(l == 0) && !(l == -9223372036854775808)&&(x == IntKind.i64.wrap (0-l)))=Q04 l x:=rfl
   rw[hcc]
   cases hc:Q04 l x with
   |true =>
    simp only[if_true,cond_true,hlen,oB]
    rw[C0 (by grind),oB,Int.toNat_natCast,k0m]
   |false =>
    grind
def e0l:List (List Int)->Nat
 | []=>0
 |w::r=>w.length+e0l r
def q0u(s:List Int):List (List Int)->List Int
 | []=>s
 |w::r=>q0u (A6 s w) r
def J07(ws:List (List Int))(g:ws.length<=17592186044416):∀(d k fuel:Nat) (a:List Int),k+d=ws.length->d<fuel->a.length+e0l (ws.drop k)<=17592186044416 -> I9 ws fuel (k:Int) a.reverse=some (q0u a (ws.drop k)).reverse
 |d,k,0,a,e,hf,b=>oM
 |0,k,fuel+1,a,e,hf,b=>by rw[I9.eq_2,iE (by simp;omega),D1 oM];rfl
 |d+1,k,fuel+1,a,e,hf,b=>by have f:k<ws.length:=oM;have c:=V3 f;generalize ws[k]=w at c;rw[I1 c]at b ⊢;simp only[e0l]at b;have h:=j05 w a;have h0:=I07 w oM a.length oM w.length 0 P0 a oM (j1 oM) oM;rw[show((0:Nat):Int)=0 from rfl,(dZ)]at h0;rw[I9.eq_2,iP (by simp;omega),U1 c,oB,h0,oB,Z1 f (by omega:ws.length<=9223372036854775807)];exact J07 ws g d (k+1) fuel (A6 a w) oM oM oM
theorem k05(ws:List (List Int))(b:ws.length<=17592186044416)(a:e0l ws<=17592186044416):p00 ws=some (q0u [] ws).reverse:=by unfold p00;have h:=J07 ws b ws.length 0 P0 [] oM (j1 oM) (by simpa using a);grind
abbrev Tr8:=List (Option (List Int))×List Int
def trS(g:j0)(v x:Int)(s:Tr8):Tr8:=if 0<=Q0 g v x/\Q0 g v x ∉ s.2 then(s.1.set (Q0 g v x).toNat (some ((O00 s.1 v).getD [] ++ [x])),s.2 ++ [Q0 g v x])else s
def e0k(g:j0)(v:Int):List Int->Tr8->Tr8
 | [],s=>s
 |x::r,s=>e0k g v r (trS g v x s)
def m09(g:j0)(b:List Int):Nat->Nat->Tr8->Tr8
 |0,i,a=>a
 |f+1,i,a=>match a.2[i]? with
  |some v=>m09 g b f (i+1) (e0k g v b a)
  |none=>a
def K3(g:j0)(p:Int):List Int:=E9 g (U7 g.1.toNat 1) (g.2.1.toNat+1) 0 [p]
def q0e(g:j0)(p:Int):Tr8:=m09 g (U7 g.1.toNat 1) (g.2.1.toNat+1) 0 ((List.replicate g.2.1.toNat none).set p.toNat (some []),[p])
def V0s(g:j0)(v x:Int)(s:Tr8):(trS g v x s).2=A09 s.2 (Q0 g v x):=by unfold trS A09;split<;>rfl
def f0k(g:j0)(v:Int):∀(b:List Int) (a:Tr8),(e0k g v b a).2=t03 g v b a.2
 | [],a=>rfl
 |x::r,a=>by rw[e0k,f0k g v r,V0s];rfl
def m0m(g:j0)(b:List Int):∀(f i:Nat) (a:Tr8),(m09 g b f i a).2=E9 g b f i a.2
 |0,i,a=>rfl
 |f+1,i,a=>by
  unfold m09 E9;cases a.2[i]? with
  |none=>rfl
  |some v=>simp only[m0m g b f,f0k]
def L0f(g:j0)(p:Int):(q0e g p).2=K3 g p:=m0m _ _ _ _ _
structure TOk (g:j0) (p:Int) (n:Nat) (s:Tr8):Prop where
 ok:WOk n s.1 s.2
 gd:gud n s.2
 base:p∈s.2
 word:O00 s.1 p=some []
 par:∀ y∈s.2,y≠p->∃ v∈s.2,∃ x,x∈U7 g.1.toNat 1/\Q0 g v x=y/\∃ a,O00 s.1 v=some a/\O00 s.1 y=some (a ++ [x])
 red:∀ y∈s.2,∀ a,O00 s.1 y=some a->Red a.reverse=true
def WOk.add{n:Nat}{b:List (Option (List Int))}{u:List Int}(a:WOk n b u){y:Int}(d:0<=y)(h:y<(n:Int))(v x:Int):WOk n (b.set y.toNat (some ((O00 b v).getD [] ++ [x]))) (u ++ [y]):=by
 have g:=a.short v;refine⟨by simp[a.len],λz h0 e=>?_,λz=>?_⟩
 ·rw[a03 d (by have:=a.len;omega) h0];by_cases c:z=y;·rw[iP c];simp[c]
  rw[iE c,a.iff z h0 e];simp[c]
 by_cases hz:0<=z
 ·rw[a03 d (by have:=a.len;omega) hz];by_cases c:z=y;·grind
  rw[iE c];have:=a.short z;grind
 have f:O00 (b.set y.toNat (some ((O00 b v).getD [] ++ [x]))) z=O00 (b.set y.toNat (some ((O00 b v).getD [] ++ [x]))) 0:=by unfold O00;rw[show z.toNat=(0:Int).toNat by omega]
 rw[f,a03 d (by have:=a.len;omega) (iR 0)];by_cases c:(0:Int)=y;·grind
 rw[iE c];have:=a.short 0;grind
def WOk.get{n:Nat}{b:List (Option (List Int))}{u:List Int}(f:WOk n b u){v:Int}(h0:0<=v)(c:v<(n:Int))(d:v∈u):∃ a,O00 b v=some a:=by
 cases e:O00 b v with
 |none=>exact absurd d ((f.iff v h0 c).1 (by rw[e];rfl))
 |some a=>exact⟨a,rfl⟩
def g0a{R:Nat}(b:R<=900){x:Int}(a:x∈U7 R 1):I3 x/\x≠0 /\ -(R:Int)<=x/\x<=(R:Int):=by obtain⟨j,c,d,e⟩:=J0f _ _ _ a;exact⟨⟨⟨oM,oM⟩,oM⟩,oM,oM,oM⟩
def c0w{l x:Int}(a:I3 l)(h:Q04 l x):x = -l:=by unfold Q04 at h;simp only[aE,beq_iff_eq]at h;rw[h.2];exact b0b a.1 a.2
def TOk.add{g:j0}(hf:K0 g){p:Int}{n:Nat}(R:g.2.1=(n:Int)){o:Tr8}(h:TOk g p n o){v x:Int}(k:v∈o.2)(S:x∈U7 g.1.toNat 1):TOk g p n (trS g v x o):=by
 obtain⟨M,T,U,V⟩:=W0 hf;unfold trS;split
 ·rename_i c;obtain⟨q,C⟩:=c;have L:Q0 g v x<(n:Int):=by rcases i04 M v x with e|e<;>omega
  obtain⟨f,u⟩:=o;obtain⟨ok,j,base,O,A,red⟩:=h;simp only at k q C ok j base O A red ⊢;have w:=j.2 v k;obtain⟨a,s⟩:=ok.get w.1 w.2 k;have Q:=ok.len;have keep:∀ z∈u,O00 (f.set (Q0 g v x).toNat (some ((O00 f v).getD [] ++ [x]))) z=O00 f z:=λz H=>by have:=j.2 z H;rw[a03 q oM this.1,iE λ(e:z=Q0 g v x)=>C (by rw[←e];exact H)]
  have new:O00 (f.set (Q0 g v x).toNat (some ((O00 f v).getD [] ++ [x]))) (Q0 g v x)=some (a ++ [x]):=by simp_all[a03,iP]
  refine⟨ok.add q L v x,⟨List.nodup_append.2 ⟨j.1,oS,λa s b m=>?_⟩,λy d=>?_⟩,List.mem_append_left _ base,?_,λy d K=>?_,λy d b m=>?_⟩;·grind
  ·rcases List.mem_append.1 d with d|d;·exact j.2 y d
   grind
  ·grind
  ·rcases List.mem_append.1 d with d|d;·obtain⟨N,I,P,G,D,b,E,i⟩:=A y d K;grind
   grind
  rcases List.mem_append.1 d with d|d;·grind
  simp at d;subst d;rw[new]at m;cases m;have F:=red v k a s;rw[List.reverse_append];show Red (x::a.reverse);cases e:a.reverse with
  |nil=>rfl
  |cons l t =>
   rw[e]at F;unfold Red;rw[F,Bool.and_true];cases hc:Q04 l x;·rfl
   exfalso;have J:v≠p:=λE=>by grind
   obtain⟨N,I,P,G,D,b,E,i⟩:=A v k J;rw[s]at i;injection i with i;rw[i,List.reverse_append]at e;simp only[List.reverse_cons,List.reverse_nil,nA,List.cons_append,List.cons.injEq]at e;rw[←e.1]at hc;have:=c0w (g0a oM G).1 hc;have m:=d04 hf D w.1;grind
 exact h
def L0n(g:j0)(v x:Int)(s:Tr8):∃ t,(trS g v x s).2=s.2++t:=by simp_all[V0s,J0j]
def V0p(g:j0)(v:Int)(b:List Int)(a:Tr8):∃ t,(e0k g v b a).2=a.2++t:=by simp_all[f0k,R05]
def TOk.inn{g:j0}(hf:K0 g){p:Int}{n:Nat}(d:g.2.1=(n:Int)){v:Int}:∀(f:List Int) {a:Tr8},TOk g p n a->v∈a.2->(∀ x∈f,x∈U7 g.1.toNat 1)->TOk g p n (e0k g v f a)
 | [],a,h,c,b=>h
 |x::r,a,h,c,b=>by obtain⟨t,e⟩:=L0n g v x a;exact TOk.inn hf d r (h.add hf d c (b x mS)) (by rw[e];exact List.mem_append_left _ c) λy i=>b y (mC _ i)
def TOk.out{g:j0}(hf:K0 g){p:Int}{n:Nat}(b:g.2.1=(n:Int)):∀(f i:Nat) {a:Tr8},TOk g p n a->TOk g p n (m09 g (U7 g.1.toNat 1) f i a)
 |0,i,a,h=>h
 |f+1,i,a,h=>by
  unfold m09;cases e:a.2[i]? with
  |none=>exact h
  |some v=>exact TOk.out hf b f (i+1) (h.inn hf b _ (mG e) λx c=>c)
def d0w(N:Nat)(x:Int):O00 (List.replicate N (none:Option (List Int))) x=none:=by unfold O00;rw[List.getD_eq_getElem?_getD,List.getElem?_replicate];split<;>rfl
def V0g(g:j0){p:Int}{N:Nat}(c:0<=p/\p<(N:Int)):TOk g p N ((List.replicate N none).set p.toNat (some []),[p]):=by
 have d:∀ x,0<=x->O00 ((List.replicate N (none:Option (List Int))).set p.toNat (some [])) x=if x=p then some []else none:=λx h0=>by rw[a03 c.1 (by simp;omega) h0,d0w]
 refine⟨⟨oS,λx h0 i=>?_,λx=>?_⟩,⟨oS,λx j=>oG⟩,oS,?_,λy f h=>?_,λy f a b=>?_⟩;·grind
 ·have:∀ x,0<=x->((O00 ((List.replicate N (none:Option (List Int))).set p.toNat (some [])) x).getD []).length<=1:=λx h0=>by rw[d x h0];split<;>simp
  by_cases hz:0<=x;·exact this x hz
  have e:O00 ((List.replicate N (none:Option (List Int))).set p.toNat (some [])) x=O00 ((List.replicate N (none:Option (List Int))).set p.toNat (some [])) 0:=by unfold O00;rw[show x.toNat=(0:Int).toNat by omega]
  grind
 ·simp only;rw[d p c.1,iP rfl]
 ·grind
 simp at f;subst f;simp only at b;rw[d y c.1,iP rfl]at b;cases b;rfl
def M0n{g:j0}(hf:K0 g){p:Int}(a:0<=p/\p<g.2.1):TOk g p g.2.1.toNat (q0e g p):=by obtain⟨b,c,d,e⟩:=W0 hf;exact TOk.out hf oM _ _ (V0g g ⟨a.1,oM⟩)
def x0y{g:j0}(hf:K0 g)(p:Int){n:Nat}(u:g.2.1=(n:Int))(b:List Int)(s:∀ x∈b,x∈U7 g.1.toNat 1)(A:b.length<=1000000)(v:Int):∀(d k fuel:Nat) (a:Tr8),TOk g p n a->v∈a.2->k+d=b.length->d<fuel -> A4 b g.1 g.2.1 g.2.2 v fuel (k:Int) a.1 a.2=some (e0k g v (b.drop k) a)
 |d,k,0,a,c,f,m,hf=>oM
 |0,k,fuel+1,a,c,f,m,hf=>by rw[A4.eq_2,iE (by simp;omega),D1 oM];rfl
 |d+1,k,fuel+1,a,c,f,m,H=>by
  obtain⟨z,L,F,M⟩:=W0 hf;have q:k<b.length:=oM;have i:=V3 q;have j:=s _ (mG i);have o:=I1 i;generalize b[k]=x at i j o;have D:=(g0a oM j).1;have I:=A01 n a.2 c.gd.1 c.gd.2;have J:=i04 z v x;have C:=c.add hf u f j;obtain⟨t,G⟩:=L0n g v x a;have E:=x0y hf p u b s A v d (k+1) fuel (trS g v x a) C oG oM oM;have e:=c.ok;have w:=c.gd.2 v f;rw[A4.eq_2,iP (by simp;omega),o,e0k,←E];simp only[U1 i,oB,show(g.1,g.2.1,g.2.2)=g from rfl,r04 g v x D oM,C0 (N02 z F.2 v x),Z1 q (show b.length<=9223372036854775807 by omega)];unfold trS;generalize Q0 g v x=y at *;by_cases c1:0<=y
  ·have l:y<(n:Int):=oM;simp only[show decide (y ≥ 0)=true by simpa using c1,H1,giO e.len c1 l,oB,cT];by_cases c2:y∈a.2;·have : ¬ ((O00 a.1 y).isNone):=λh=>(e.iff y c1 l).1 h c2;rw[iE this,iE λh=>h.2 c2]
   have:(O00 a.1 y).isNone:=(e.iff y c1 l).2 c2;have K:=e.short v;rw[iP this,iP ⟨c1,c2⟩,giO e.len w.1 w.2,oB,K0s oM,oB,C0 (by simp;omega),oB,C0 (by simp;omega),oB]
  simp only[show decide (y ≥ 0)=false by simpa using c1,O1,oB,zF];rw[iE oS,iE λh=>c1 h.1]
def y0y{g:j0}(hf:K0 g)(p:Int){n:Nat}(d:g.2.1=(n:Int)):∀(f i fuel:Nat) (a:Tr8),TOk g p n a->i<=a.2.length->n+1<=i+f->f<fuel -> w6 g.1 g.2.1 g.2.2 fuel (i:Int) a.1 a.2=some (m09 g (U7 g.1.toNat 1) f i a)
 |f,i,0,a,b,j,h,hf=>oM
 |0,i,fuel+1,a,b,j,h,hf=>by have:=A01 n a.2 b.gd.1 b.gd.2;omega
 |f+1,i,fuel+1,a,b,j,h,m=>by
  obtain⟨s,u,w,y⟩:=W0 hf;have o:=A01 n a.2 b.gd.1 b.gd.2;rw[w6.eq_2,oB,C0 oM,oB];by_cases hk:i<a.2.length
  ·have c:=V3 hk;generalize a.2[i]=v at c;have k:=mG c;have h0:=x0y hf p d (U7 g.1.toNat 1) (λx c=>c) (by rw[i05];omega) v (U7 g.1.toNat 1).length 0 P0 a b k oM (j1 (by rw[i05];omega));rw[show((0:Nat):Int)=0 from rfl,(dZ)]at h0;obtain⟨t,e⟩:=V0p g v (U7 g.1.toNat 1) a;have q:=y0y hf p d f (i+1) fuel _ (b.inn hf d _ k λx c=>c) oG oM oM;have l:i01 g.1=some (U7 g.1.toNat 1):=by have:=n0r g.1.toNat oM;rwa [show((g.1.toNat:Nat):Int)=g.1 by omega]at this
   rw[iP (by simpa using hk),U1 c,oB,l,oB,h0,oB];grind[Z1,m09]
  simp_all[List.getElem?_eq_none,iE,m09]
def T0a(g:j0)(p:Int):List (List Int):=(q0e g p).1.map λo=>o.getD []
def g0k{g:j0}(hf:K0 g){p:Int}(b:0<=p/\p<g.2.1):V8 g p=some (K3 g p,T0a g p):=by
 obtain⟨d,e,f,h⟩:=W0 hf;have a:g.2.1=((g.2.1.toNat:Nat):Int):=oM;have h0:=y0y hf p a (g.2.1.toNat+1) 0 P0 _ (V0g g (N:=g.2.1.toNat) ⟨b.1,oM⟩) oS oM (j1 oM);have c:gi (List.replicate g.2.1.toNat (none:Option (List Int))) p=some none:=by have:=U1 (xs:=List.replicate g.2.1.toNat (none:Option (List Int))) (k:=p.toNat) (x:=none) (by rw[List.getElem?_replicate,iP oM]);rwa [show((p.toNat:Nat):Int)=p by omega]at this
 rw[←L0f];grind[T0a,q0e,V8,C0]
def tw(g:j0)(p v:Int):List Int:=(O00 (q0e g p).1 v).getD []
structure f0l (g:j0) (p:Int) (t:Int->List Int):Prop where
 z:t p = []
 par:∀ y∈K3 g p,y≠p->∃ v∈K3 g p,∃ x,x∈U7 g.1.toNat 1/\Q0 g v x=y/\t y=t v ++ [x]
 red:∀ y∈K3 g p,Red (t y).reverse=true
 len:∀ y,(t y).length<=40
def d08{g:j0}(hf:K0 g){p:Int}(f:0<=p/\p<g.2.1):f0l g p (tw g p):=by
 obtain⟨o,q,s,t⟩:=W0 hf;have h:=M0n hf f;have e:=L0f g p;refine⟨by unfold tw;rw[h.word];rfl,λy b i=>?_,λy b=>?_,λy=>?_⟩;·rw[←e]at b ⊢;obtain⟨v,m,x,n,j,a,k,l⟩:=h.par y b i;grind[tw]
 ·rw[←e]at b;have d:=h.gd.2 y b;obtain⟨a,c⟩:=h.ok.get d.1 d.2 b;unfold tw;rw[c];exact h.red y b a c
 have:=h.ok.short y;have:=A01 _ _ h.gd.1 h.gd.2;unfold tw;omega
def Y05{g:j0}(hf:K0 g){p:Int}(a:0<=p/\p<g.2.1):gud g.2.1.toNat (K3 g p):=by rw[←L0f];exact(M0n hf a).gd
def M0f(g:j0)(p:Int):∃ t,K3 g p=p::t:=by obtain⟨t,e⟩:=o0e g (U7 g.1.toNat 1) (g.2.1.toNat+1) 0 [p];exact⟨t,e⟩
def f0l.ind{g:j0}{p:Int}{t:Int->List Int}(h:f0l g p t)(P:Int->Prop)(h0:P p)(a:∀ v∈K3 g p,∀ y∈K3 g p,∀ x,x∈U7 g.1.toNat 1->Q0 g v x=y->t y=t v ++ [x]->P v->P y):∀(k:Nat) (y:Int),(t y).length<=k->y∈K3 g p->P y
 |k,y,j,d=>by
  by_cases c:y=p;·rw[c];exact h0
  obtain⟨v,b,x,i,e,f⟩:=h.par y d c;cases k with
  |zero=>grind
  |succ k=>exact a v b y d x i e f (f0l.ind h P h0 a k v oG b)
def f0l.induct{g:j0}{p:Int}{t:Int->List Int}(h:f0l g p t){P:Int->Prop}(h0:P p)(a:∀ v∈K3 g p,∀ y∈K3 g p,∀ x,x∈U7 g.1.toNat 1->Q0 g v x=y->t y=t v ++ [x]->P v->P y){y:Int}(b:y∈K3 g p):P y:=h.ind P h0 a _ y (Nat.le_refl _) b
theorem W0s{g:j0}{v x y:Int}(h:Q0 g v x=y)(h0:0<=y):rdw g v [x]=some y:=by simp_all[rdw,iE]
def f0l.rd{g:j0}(hf:K0 g){p:Int}(d:0<=p/\p<g.2.1){t:Int->List Int}(h:f0l g p t){y:Int}(a:y∈K3 g p):rdw g p (t y)=some y:=by
 refine h.induct (P:=λy=>rdw g p (t y)=some y) ?_ (λv f y a x i b c e=>?_) a;·rw[h.z];rfl
 rw[c,a0d,e,oB];exact W0s b ((Y05 hf d).2 y a).1
def f0l.let{g:j0}{p:Int}{t:Int->List Int}(h:f0l g p t){y:Int}(a:y∈K3 g p):∀ x∈t y,x∈U7 g.1.toNat 1:=by
 refine h.induct (P:=λy=>∀ x∈t y,x∈U7 g.1.toNat 1) ?_ (λv d y a x e b c f=>?_) a;·rw[h.z];grind
 grind
def L0h(w:List Int):Int:=w.getLastD 0
def b0d(a:List Int)(x:Int):L0h (a ++ [x])=x:=by unfold L0h;simp
def tE(g:j0)(v:Int):O0:=stp (Q0 g v (-(L0h (tw g 0 v)))) (L0h (tw g 0 v)) v
def O02(g:j0):List O0:=L4 V0 [] ((K3 g 0).tail.map (tE g))
def h0k{g:j0}(hf:K0 g){p:Int}(a:0<=p/\p<g.2.1){v:Int}(d:0<=v/\v<g.2.1):gi (T0a g p) v=some (tw g p v):=by have h:=M0n hf a;have c:=h.ok.len;have b:v.toNat<(q0e g p).1.length:=oM;have:=U1 (xs:=T0a g p) (k:=v.toNat) (x:=tw g p v) (by unfold T0a tw O00;grind);rwa [show((v.toNat:Nat):Int)=v by omega]at this
def i0k{g:j0}(hf:K0 g){v:Int}:v∈(K3 g 0).tail↔v∈K3 g 0/\v≠0:=by obtain⟨b,c,d,f⟩:=W0 hf;obtain⟨t,e⟩:=M0f g 0;have a:=(Y05 hf (p:=0) ⟨oM,oM⟩).1;grind
def X0s{g:j0}(hf:K0 g):∀(d k fuel:Nat) (acc:List O0),k+d=(K3 g 0).tail.length->d<fuel->acc.length<=k -> o8 (K3 g 0).tail (T0a g 0) g.1 g.2.1 g.2.2 fuel (k:Int) acc=some (acc++((K3 g 0).tail.drop k).map (tE g))
 |d,k,0,acc,j,q,i=>oM
 |0,k,fuel+1,acc,j,q,i=>by simp_all[o8.eq_2,iE,dE,D1]
 |d+1,k,fuel+1,acc,j,E,i=>by
  obtain⟨A,L,C,M⟩:=W0 hf;have e:(0:Int)<=0/\(0:Int)<g.2.1:=⟨oM,oM⟩;have h:=d08 hf e;have c:=Y05 hf e;have F:=A01 _ _ c.1 c.2;have m:k<(K3 g 0).tail.length:=oM;have I:(K3 g 0).tail.length<=40:=oG;have b:=V3 m;have n:=mG b;have l:=I1 b;generalize (K3 g 0).tail[k]=v at b n l;obtain⟨o,w⟩:=(i0k hf).1 n;have y:=c.2 v o;obtain⟨u,J,x,z,D,f⟩:=h.par v o w;have a:=g0a oM z;have G:(tw g 0 v).length=(tw g 0 u).length+1:=by rw[f];simp
  have H:=h.len u;have p:gi (tw g 0 v) (i64.wrap (((tw g 0 v).length:Nat)-1))=some x:=by rw[w64 oM oM,show(((tw g 0 v).length:Nat):Int)-1=(((tw g 0 u).length:Nat):Int) by omega];simp_all[U1,List.getElem?_append_right,Nat.le_refl]
  have t:tE g v=stp (Q0 g v (-x)) x v:=by unfold tE;rw[f,b0d]
  have s:I3 (-x):=⟨⟨by have:=a.2.2;omega,by have:=a.2.2;omega⟩,by have:=a.2.2;omega⟩;have K:=X0s hf d (k+1) fuel (acc ++ [tE g v]) oM oM (by simp;omega);rw[o8.eq_2,iP oG,U1 b,oB,h0k hf e ⟨y.1,oM⟩,oB,p,oB,b0b a.1.1 a.1.2,show(g.1,g.2.1,g.2.2)=g from rfl,r04 g v (-x) s oM,oB,C0 (N02 A C.2 v _),oB,E0n _ x v a.1,oB,←t,Z1 m oM,l,List.map_cons];grind[tE,C0]
def W0p{g:j0}(hf:K0 g):j03 g=some (O02 g):=by
 obtain⟨j,l,m,n⟩:=W0 hf;have b:(0:Int)<=0/\(0:Int)<g.2.1:=⟨oM,oM⟩;have a:=Y05 hf b;have h:=A01 _ _ a.1 a.2;have e:=g0k hf b;obtain⟨t,c⟩:=M0f g 0;have f:b05 (K3 g 0) 1 (((K3 g 0).length:Nat):Int)=some (K3 g 0).tail:=by have:=E05 (xs:=K3 g 0) (k:=1) (by rw[c];simp);rw[show((1:Nat):Int)=1 from rfl]at this;rw[this,List.drop_one]
 have d:=X0s hf (K3 g 0).tail.length 0 P0 [] oM (j1 oG) oS;rw[show((0:Nat):Int)=0 from rfl,(dZ),(nA)]at d;have i:=W0b ((K3 g 0).tail.map (tE g)) oG;grind[O02,j03]
theorem r0u{g:j0}(hf:K0 g){e:O0}:e∈O02 g↔∃ z∈K3 g 0,∃ q∈K3 g 0,∃ l,l∈U7 g.1.toNat 1/\Q0 g q l=z/\tw g 0 z=tw g 0 q ++ [l]/\e=stp q l z:=by
 obtain⟨p,s,t,u⟩:=W0 hf;have m:(0:Int)<=0/\(0:Int)<g.2.1:=⟨oM,oM⟩;have j:=d08 hf m;have i:=Y05 hf m;unfold O02;rw[C5 j4,List.mem_map];constructor
 ·rintro(h|⟨z,d,rfl⟩);·cases h
  obtain⟨f,o⟩:=(i0k hf).1 d;obtain⟨q,n,l,k,b,a⟩:=j.par z f o;refine⟨z,f,q,n,l,k,b,a,?_⟩;unfold tE;rw[a,b0d,d04 hf b (i.2 z f).1]
 rintro⟨z,d,q,n,l,k,b,a,rfl⟩;refine .inr ⟨z,(i0k hf).2 ⟨d,λc=>?_⟩,?_⟩;·rw[c,j.z]at a;simp at a
 unfold tE;rw[a,b0d,d04 hf b (i.2 z d).1]
def C6(g:j0):List O0:=g.2.2.filter λe => !decide (e∈O02 g)
def n0m{g:j0}(hf:K0 g):(O02 g).length<=40:=by obtain⟨c,d,e,f⟩:=W0 hf;have a:=Y05 hf (p:=0) ⟨oM,oM⟩;have b:=A01 _ _ a.1 a.2;unfold O02;have:=O01 ((K3 g 0).tail.map (tE g)) [];grind
def Y0s(a:List O0)(p:a.length<=1000)(es:List O0)(s:es.length<=1000):∀(d k fuel:Nat) (acc:List O0),k+d=es.length->d<fuel->acc.length<=k -> B6 es a fuel (k:Int) acc=some (acc++(es.drop k).filter λe => !decide (e∈a))
 |d,k,0,acc,l,q,j=>oM
 |0,k,fuel+1,acc,l,q,j=>by simp_all[B6.eq_2,iE,dE,D1]
 |d+1,k,fuel+1,acc,l,t,j=>by
  have n:k<es.length:=oM;have b:=V3 n;have m:=I1 b;generalize es[k]=e at b m;have u:=λo h=>Y0s a p es s d (k+1) fuel o oM oM h;obtain⟨f,g,i⟩:=e;rw[B6.eq_2,iP oG,U1 b,oB];simp only[w0r a (f,g,i) oM,oB,Z1 n (show es.length<=9223372036854775807 by omega),m,List.filter_cons];by_cases c:(f,g,i)∈a;·grind
  simp only[dF c,bF,if_true];grind[C0]
def Z0s{g:j0}(hf:K0 g):u01 g=some (C6 g):=by obtain⟨i,j,k,l⟩:=W0 hf;have e:=Y02 g oM;have f:=W0p hf;have h:=n0m hf;have d:=Y0s (O02 g) oM g.2.2 oM g.2.2.length 0 P0 [] oM (j1 oM) oS;rw[show((0:Nat):Int)=0 from rfl,(dZ),(nA)]at d;unfold C6;obtain⟨a,b,c⟩:=g;simp only at *;unfold u01;simp only[e,hf,oB,f,bT,fT,if_false,d]
theorem c0d{g:j0}{e:O0}:e∈C6 g↔e∈g.2.2/\e ∉ O02 g:=by grind[C6]
def bw(g:j0)(e:O0):List Int:=tw g 0 e.1 ++ [e.2.1]++inv (tw g 0 e.2.2)
def a01(g:j0):List (List Int):=(C6 g).map λe=>(A6 [] (bw g e)).reverse
theorem r0z{g:j0}(hf:K0 g=true)(e:O0):(bw g e).length<=81:=by
 obtain⟨d,f,h,i⟩:=W0 hf
 have a:=d08 hf (p:=0) ⟨by omega,by omega⟩
 have b:=a.len e.1
 have c:=a.len e.2.2
 grind[bw,List.length_append,S0a,List.length_singleton]
def a0t{g:j0}(hf:K0 g)(es:List O0)(m:∀ e∈es,e∈g.2.2)(v:es.length<=1000):∀(d k fuel:Nat) (acc:List (List Int)),k+d=es.length->d<fuel->acc.length<=k -> W9 es (T0a g 0) fuel (k:Int) acc=some (acc++(es.drop k).map λe=>(A6 [] (bw g e)).reverse)
 |d,k,0,acc,j,u,i=>oM
 |0,k,fuel+1,acc,j,u,i=>by simp_all[W9.eq_2,iE,dE,D1]
 |d+1,k,fuel+1,acc,j,C,i=>by
  obtain⟨x,D,E,F⟩:=W0 hf;have b:(0:Int)<=0/\(0:Int)<g.2.1:=⟨oM,oM⟩;have f:=d08 hf b;have o:k<es.length:=oM;have a:=V3 o;have n:=m _ (mG a);have l:=I1 a;generalize es[k]=e at a l n;have c:=x e n;have s:=f.len e.1;have t:=f.len e.2.2;have w:=λq h=>a0t hf es m v d (k+1) fuel q oM oM h;have p:p00 [tw g 0 e.1,[e.2.1],inv (tw g 0 e.2.2)]=some (A6 [] (bw g e)).reverse:=by rw[k05 _ oS (by simp only[e0l,S0a,lS];omega)];grind[bw,q0u,f0c]
  obtain⟨y,z,A⟩:=e;rw[W9.eq_2,iP oG,U1 a,oB];simp only at c p s t ⊢;rw[h0k hf b c.1,oB,oB,h0k hf b c.2.1,oB,f0a _ oM,oB,oB,p,oB,oB,C0 (by simp;omega),oB,Z1 o (show es.length<=9223372036854775807 by omega),w _ (by simp;omega),l];simp
def I0x{g:j0}(f:K1 g):A04 g=some (a01 g):=by have hf:=G2 f;obtain⟨m,n,o,q⟩:=W0 hf;have h:=q00 g oM;have i:=Z0s hf;have j:=g0k hf (p:=0) ⟨oM,oM⟩;have l:(C6 g).length<=g.2.2.length:=List.length_filter_le _ _;have d:=a0t hf (C6 g) (λe k=>(c0d.1 k).1) oM (C6 g).length 0 P0 [] oM (j1 oM) oS;rw[show((0:Nat):Int)=0 from rfl,(dZ),(nA)]at d;unfold a01;obtain⟨a,b,c⟩:=g;simp only at *;unfold A04;simp only[h,f,oB,i,j,bT,fT,if_false,d]
def N0n:∀(c t:List Int),Red (c++t)↔Red c/\Red t/\∀ a b,c.getLast?=some a->t.head?=some b->Q04 b a=false
 | [],t=>by simp[Red]
 | [a],[]=>by simp[Red]
 | [a],b::t=>by
  show(!Q04 b a&&Red (b::t))↔_;simp only[aE,Bool.not_eq_true'];constructor;·rintro⟨g,d⟩;refine⟨rfl,d,λe f h i=>?_⟩;grind
  grind
 |x::y::c,t=>by have j:=N0n (y::c) t;show(!Q04 y x&&Red (y::c++t))↔(!Q04 y x&&Red (y::c))/\_;grind
theorem B04{x:Int}(h:I3 x):ng x = -x:=b0b h.1 h.2
theorem D03{x:Int}(h:I3 x):I3 (-x):=⟨⟨by have:=h.1.2;have:=h.2;omega,by have:=h.1.1;have:=h.2;omega⟩,by have:=h.1.2;omega⟩
theorem q07{l x:Int}(a:I3 l)(h0:l≠0):Q04 l x↔x = -l:=by
 unfold Q04;rw[B04 a];simp only[aE,Bool.not_eq_true',beq_eq_false_iff_ne,beq_iff_eq,ne_eq];constructor;·exact λh=>h.2
 exact λh=>⟨⟨h0,a.2⟩,h⟩
theorem J0x{x y:Int}(a:I3 x)(c:x≠0)(b:I3 y)(d:y≠0):Q04 (ng y) (ng x)=Q04 x y:=by rw[Bool.eq_iff_iff,B04 a,B04 b,q07 (D03 b) oM,q07 a c];omega
def K0x(w:List Int):(inv w).reverse=w.map ng:=by simp[inv]
def e0w:∀(w:List Int),(∀ x∈w,I3 x/\x≠0)->Red w.reverse->Red (w.map ng)
 | [],_,_=>rfl
 | [x],_,_=>rfl
 |x::y::w,a,h=>by rw[List.reverse_cons,N0n]at h;have c:=e0w (y::w) (λz b=>a z (mC _ b)) h.1;grind[Q04,ng,Red,List.map,J0x]
def b0t{w:List Int}(a:∀ x∈w,I3 x):inv (inv w)=w:=by unfold inv;rw[List.map_reverse,List.reverse_reverse,List.map_map];refine(List.map_congr_left λx b=>?_).trans (List.map_id w);grind[ng,B04,D03]
def X0p(x:Int)(w:List Int):inv (x::w)=inv w ++ [ng x]:=by simp[inv]
theorem c0t{w:List Int}(b:∀ x∈w,I3 x):∀ x∈inv w,I3 x:=λx a=>by simp only[inv,List.mem_reverse,List.mem_map]at a;obtain⟨y,c,rfl⟩:=a;simp_all[B04,D03]
theorem o0m{s:List Int}{x y:Int}(h:y∈A7 s x):y∈s∨y=x:=by
 cases s with
 |nil=>grind[A7]
 |cons l t =>grind[A7,Q04,mC]
def N0f:∀(w s:List Int) {y:Int},y∈A6 s w->y∈s∨y∈w
 | [],s,y,h => .inl h
 |x::w,s,y,h=>by rcases N0f w (A7 s x) h with h|h;all_goals grind[o0m,List.mem_cons_self,mC]
def O0n{g:j0}(hf:K0 g):∀(w:List Int) (v u:Int),(∀ x∈w,I3 x)->0<=v->rdw g v w=some u->rdw g u (inv w)=some v
 | [],v,u,a,b,h=>by simp only[rdw,Option.some.injEq]at h;rw[←h];rfl
 |x::w,v,u,a,b,h=>by
  unfold rdw at h;by_cases c:Q0 g v x<0;·grind
  rw[iE c]at h;have e:=O0n hf w _ u (λy d=>a y (mC _ d)) oM h;rw[X0p,a0d,e,oB,B04 (a x mS)];grind[W0s,d04]
def v01{g:j0}(hf:K0 g){e:O0}(a:e∈g.2.2):Q0 g e.1 e.2.1=e.2.2/\Q0 g e.2.2 (-e.2.1)=e.1:=by have b:=(W0 hf).1 e a;exact⟨Y06 hf (V2.2 ⟨e,a,.inl ⟨oM,rfl,rfl,rfl⟩⟩),Y06 hf (V2.2 ⟨e,a,.inr ⟨oM,oM,rfl,rfl⟩⟩)⟩
def f0w{g:j0}(h:K1 g){v:Int}(h0:0<=v)(a:v<g.2.1):v∈K3 g 0:=c0a (G2 h) (o0u h) h0 a
def s0u{u x v a c b:Int}(h:stp u x v=stp a c b):(u=a/\x=c/\v=b)∨(x = -c/\u=b/\v=a):=by unfold stp at h;split at h<;>split at h<;>simp only[Prod.mk.injEq]at h<;>omega
theorem S04{g:j0}{v x:Int}(h0:0<=Q0 g v x):x≠0/\∃ e∈g.2.2,e=stp v x (Q0 g v x)/\((0<x/\e.2.1=x/\e.1=v/\e.2.2=Q0 g v x)∨(x<0/\e.2.1 = -x/\e.2.2=v/\e.1=Q0 g v x)):=by
 rcases z04 g v x with⟨e,_⟩|e;·omega
 obtain⟨d,i,h⟩:=V2.1 e;obtain⟨d0,j,k⟩:=d;simp only at h;rcases h with⟨a,b,c,f⟩|⟨a,b,c,f⟩;·refine⟨oM,_,i,?_,.inl ⟨a,b,c,f.symm⟩⟩;unfold stp;rw[iE oM,←b,←c,b,c,←f]
 refine⟨oM,_,i,?_,.inr ⟨a,b,c,f.symm⟩⟩;unfold stp;rw[iP a,←f,b,c]
theorem r0e{g:j0}(a:K1 g){v:Int}(h0:0<=v)(b:v<g.2.1):∀ x∈tw g 0 v,I3 x/\x≠0:=λx d=>by have hf:=G2 a;obtain⟨e,f,h,i⟩:=W0 hf;have c:=d08 hf (p:=0) ⟨oM,oM⟩;have:=g0a oM (c.let (f0w a h0 b) x d);grind
def t0u{g:j0}(b:K1 g){e:O0}(c:e∈g.2.2):∀ x∈bw g e,I3 x:=λx a=>by
 obtain⟨d,h,i,j⟩:=W0 (G2 b);have f:=d e c;unfold bw at a;rcases List.mem_append.1 a with a|a
 ·rcases List.mem_append.1 a with a|a;·grind[r0e]
  simp at a;subst a;exact⟨⟨oM,oM⟩,oM⟩
 grind[c0t,r0e]
def p0m(g:j0):∀ d k,(I0f g d k).length<=d*(U7 g.1.toNat 1).length
 |0,k=>Nat.zero_le _
 |d+1,k=>by have a:=T0g g (k:Int) (U7 g.1.toNat 1);have b:=p0m g d (k+1);rw[I0f,(lA),Nat.succ_mul];omega
def Y0p{g:j0}(hf:K0 g):(P04 g).length<=1000:=by obtain⟨b,c,d,e⟩:=W0 hf;have h:=p0m g g.2.1.toNat 0;rw[i05]at h;unfold P04;have a:g.2.1.toNat*(2*g.1.toNat)<=40*(2*3):=Nat.mul_le_mul oM oM;omega
def U07(g:j0):Bool:=K1 g&&decide ((P04 g).length=0)
def A0A(n:Nat):decide (((n:Nat):Int)=0)=decide (n=0):=by grind
def e08{g:j0}(h:K1 g):K0 g:=by simp_all[K1,aE]
def Z0p(g:j0)(i:g.2.2.length<=140737488355328):l01 g=some (U07 g):=by
 have d:=q00 g i;have f:K1 g->x00 g=some (P04 g):=λc=>d0l (e08 c);have h:K1 g->(P04 g).length<=1000:=λc=>Y0p (e08 c);unfold U07;obtain⟨a,b,c⟩:=g;unfold l01;simp only[d,oB];cases e:K1 (a,b,c);·rfl
 have:=h e;simp only[H1,f e,oB,cT,Bool.true_and];rw[C0 oM,oB,A0A]
def j0k{g:j0}(h:U07 g):K1 g:=by simp_all[U07,aE]
def b0A(g:j0)(v:Int):List Int:=v::wo v.toNat g.2.1.toNat 0
def s0z(g:j0)(v:Int):j0:=z07 (L7 g (b0A g v))
def k0k(g:Nat):∀(d k j:Nat),k<=j->j<k+d->j≠g->(j:Int)∈wo g d k
 |0,k,j,b,e,a=>oM
 |d+1,k,j,b,e,a=>by
  unfold wo;split;·exact k0k g d (k+1) j oM oM a
  by_cases c:j=k;·grind
  exact mC _ (k0k g d (k+1) j oM oM a)
def g0c{g:j0}(h:K1 g):g.2.2.length<=120/\(1<=g.2.1/\g.2.1<=40)/\(1<=g.1/\g.1<=3):=by simp_all[W0,e08]
def isS(o:Option (List Int)):Bool:=o.isSome
def gtD(o:Option (List Int)):List Int:=o.getD []
def n0d(a b:List Int)(c:H07 a)(d:H07 b)(e:a.length+b.length<=17592186044416):f01 a b=some (A6 [] (a++b)).reverse:=by
 unfold f01;rw[C0 (by simp only[lN];omega),oB,C0 (by simp only[lA,lN];omega),oB,(nA),
  K8 _ (p0u c d) (by simp only[lA];omega)]
 rfl
theorem L0x{g:j0}(hf:K0 g=true){w:List Int}(j:∀ x∈w,I3 x)(i:w.length<=140737488355328):n8 g w=some (o9 g w):=by
 obtain⟨d,l,e,m⟩:=W0 hf
 have f:=v0j g d e.2 (by omega) 0 w j i
 have h:=h05 d e.2 w 0 ⟨by omega,by omega⟩
 have k:=g05 g w 0
 unfold o9
 obtain⟨a,b,c⟩:=g
 unfold n8
 simp only[f,oB]
 rw[C0 h,oB,C0 (show H0 (((L2 (a,b,c) 0 w).2:Nat):Int) from⟨by omega,by omega⟩),oB]
 grind[L2,decide_eq_true,decide,decide_eq_false]
def U0a(w:List Int)(a:w.length<=1099511627776):R4 w=some (A6 [] w).reverse:=by unfold R4;rw[k05 [w] oS (by simp only[e0l];omega)];rfl
def C0r{w:List Int}(b:∀ x∈w,I3 x):∀ x∈(A6 [] w).reverse,I3 x:=λx a=>by rcases N0f w [] (List.mem_reverse.1 a)with h|h;all_goals grind
theorem j0w{g:j0}(a:K1 g=true):(∀ w∈a01 g,(∀ x∈w,I3 x)/\w.length<=81)/\(a01 g).length<=120:=by
 obtain⟨f,h,i,j⟩:=W0 (G2 a)
 refine⟨λw b=>?_,?_⟩
 ·unfold a01 at b
  obtain⟨e,c,rfl⟩:=List.mem_map.1 b
  refine⟨C0r (t0u a (c0d.1 c).1),?_⟩
  have d:=j05 (bw g e) []
  grind[r0z,G2,List.length_reverse,List.length_nil]
 grind[a01,List.length_map,C6,List.length_filter_le]
def zG:j0:=(0,0,[])
def O0f(x:E3)(s:BA):j0×Bool:=match B09 x s with
 |some i=>match x.2[i]? with
  |some e=>(e.2,true)
  |none=>(zG,false)
 |none=>(zG,false)
def P0f(x:E3)(a:BA)(c:N0j x.2):j00 x a=some (O0f x a):=by
 have m:=c.1;have hf:=s0r x a oM;have d:=λi => @E0x x a i;obtain⟨r,l⟩:=x;unfold j00 O0f;simp only at m d;simp only[hf,oB];cases hq:B09 (r,l) a with
 |none =>simp only[C0 (show H0 (-1) by decide),oB];rfl
 |some i =>have o:=d i hq;have b:=V3 o;have f:=c.2 _ (mG b);generalize l[i]=e at b f;obtain⟨nm,h,j,k⟩:=e;have g:decide ((i:Int)<0)=false:=dF oM;have n:=N00 (h,j,k) (by simp only at f ⊢;omega);simp only[C0 (show H0 (i:Int) from c64 oM oM),oB,g,U1 b,n,b];rfl
def okQ(bs:List Int)(q:Int×Int):Prop:=0<=q.1/\q.1<=(bs.length:Int)/\bs.length<=1048576
def Drw{a:Type}(bs:List Int)(o:Option (a×(Int×Int)))(p:a->Prop):Prop:=∃ x q,o=some (x,q)/\p x/\okQ bs q
def Drw.bind{a b:Type}{bs:List Int}{m:Option (a×(Int×Int))}{p:a->Prop}{r:b->Prop}{k:a×(Int×Int)->Option (b×(Int×Int))}(h:Drw bs m p)(e:∀ x q,p x->okQ bs q->Drw bs (k (x,q)) r):Drw bs (m.bind k) r:=by obtain⟨x,q,rfl,c,d⟩:=h;exact e x q c d
def Drw.grd{a:Type}{bs:List Int}{p:Prop}[Decidable p]{r:a->Prop}{k:Unit->Option (a×(Int×Int))}(h:p)(b:Drw bs (k ()) r):Drw bs ((grd p).bind k) r:=by grind[C0]
def Drw.mono{a:Type}{bs:List Int}{m:Option (a×(Int×Int))}{p r:a->Prop}(h:Drw bs m p)(d:∀ x,p x->r x):Drw bs m r:=by obtain⟨x,q,e,b,c⟩:=h;exact⟨x,q,e,d x b,c⟩
def B0A{a:Type}{l:List a}{x:Int}(h0:0<=x)(b:x<((l.length:Nat):Int)):∃ y∈l,gi l x=some y:=by obtain⟨k,rfl⟩:=Int.eq_ofNat_of_zero_le h0;simp_all[List.getElem_mem,U1,V3]
def u0q(r:Int)(w:List Int):Prop:=∀ x∈w,x≠0 /\ -r<=x/\x<=r
def u0q.all{r:Int}(b:r<=256){w:List Int}(h:u0q r w):H07 w:=λx a=>by have:=h x a;exact⟨oM,oM⟩
def H0w{P:Int->Prop}{a:List Int}{x:Int}(c:∀ y∈a,P y)(d:P x):∀ y∈A7 a x,P y:=λy b=>by unfold A7 at b;grind
def V0n{P:Int->Prop}:∀(w a:List Int),(∀ y∈a,P y)->(∀ y∈w,P y)->∀ y∈A6 a w,P y
 | [],a,b,_=>b
 |x::w,a,b,c=>V0n w (A7 a x) (H0w b (c x mS)) λy d=>c y (mC _ d)
set_option maxRecDepth 10000
def Z0n(xs:List (List UInt8))(b:xs≠[])(a:bsz xs<=1000000000):C02 (xs.map B)=some (B (K03 32 xs)):=by
 unfold C02;rw[show(⟨#[32]⟩:BA)=B [32] from rfl,y0i 32 _ xs oM,oB];cases xs with
 |nil=>exact absurd rfl b
 |cons x r =>have c:=T0j r;simp only[bsz]at a;rw[show ∀ e,Q0c 32 e (x::r)=B (K03 32 (x::r)) from λe=>rfl,C0 (by rw[C4];simp only[K03,lA];omega)];rfl
end Go.Proofs.YthakcafglempaaaGreat
