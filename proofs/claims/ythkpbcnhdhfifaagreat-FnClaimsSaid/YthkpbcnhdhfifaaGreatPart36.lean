/- Texts of the claim, joined: Plain laws: claims that are made are accepted, and what is a and others. -/
import Derived.Test.YthkpbcnhdhfifaaGreatPart35
import Derived.Test.YthkpbcnhdhfifaaGreatPart34
import Derived.Test.YthkpbcnhdhfifaaGreatPart33
import Derived.Test.YthkpbcnhdhfifaaGreatPart23
namespace Go.Proofs.YthkpbcnhdhfifaaGreat
set_option linter.all false
open Go.H
open IntKind (i64)
def S0r{x:B0}(a:W0 x){w:List Int}(d:Rdc w)(h:Rd x 0 w 0):S4 (m03 x) w:=by obtain⟨q,b⟩:=n0d a;have hf:=H02 a;have c:=(h.map b.hom).rdw hf;rw[b.base]at c;exact(f00 _ _).2 (k0i hf d c)
def Q0l{t:B0}(i:H0 t):∀(ws:List (List Int)) {x:B0} {g:Int->Int},W0 x->(∀ w∈ws,O1 x.1 w)->o0a x t g->g 0=0->(∀ w∈ws,S4 t w)->∃ a,o0a (a08 ws x) t a/\a 0=0
 | [],x,g,c,j,m,d,f=>⟨g,m,d⟩
 |w::r,x,g,c,j,m,d,f=>by
  obtain⟨l,n,o,p⟩:=P2 c;cases h:(T1 x 0 w 0).2
  ·have e:(T1 x 0 w 0).1=x:=by grind[T1,decide]
   show ∃ a,o0a (a08 r (T1 x 0 w 0).1) t a/\a 0=0;rw[e];exact Q0l i r c (λu b=>j u (mC _ b)) m d λu b=>f u (mC _ b)
  obtain⟨a,k,e⟩:=o0y c oM oM h i m (by grind[f00,List.mem_cons_self]);exact Q0l i r (r00 c ⟨iR _,oM⟩ ⟨iR _,oM⟩ (j w mS)) (λu b=>by grind[q04,mC]) k (by rw[e 0 oM,d]) λu b=>f u (mC _ b)
theorem s0t{r:Int}{ws:List (List Int)}(h:O2 r ws){t:B0}(a:H0 t)(s:∀ w∈ws,S4 t w){w:List Int}(d:S4 (O3 r ws).1 w):S4 t w:=by obtain⟨u,F,y⟩:=x07 h;have c:=B07 h;have G:=P0 a;obtain⟨g,m,o⟩:=Q0l a ws (x:=(r,1,[])) (g:=id) (e0e u) y ⟨λv h0 f=>⟨h0,oG⟩,λe p=>nomatch p⟩ rfl s;obtain⟨q,j⟩:=n0d c;have hf:=H02 c;obtain⟨k,n,e⟩:=j.uni t g a m;have H:=P0 hf;have E:=(P2 c).2.2.1;have z:=e 0 (iR _) oM;rw[j.base,o]at z;obtain⟨A,b,l,_⟩:=H0l hf;have D:=P0 b.fc;unfold O3 at d;rw[h]at d;have f:rdw (S03 (N8 (a08 ws (r,1,[]))).1) 0 w=some 0:=(f00 _ _).1 d;have i:=P0b b.fc b.hom w 0 0 (iR _) oM f;rw[l]at i;have C:=P0b hf (n.hom a) w 0 0 (iR _) oM i;grind[f00]
def w0y{g:B0}(b:D1 g)(pf:List Int):S4 g (W0a (U6 g) pf):=by
 have hf:=V1 b;have m:Mor g g id:=⟨rfl,λ_ h0 c=>⟨h0,c⟩,λ_ _ _ _ _=>rfl⟩;have f:∀ w∈U6 g,Lw w/\rdw g 0 w=some 0:=λw d=>by refine⟨o0d b w d,?_⟩;obtain⟨e,h,rfl⟩:=List.mem_map.1 d;have c:=x0n b m h;grind[J0b,f00]
 have j:∀ k,rdw g 0 (exP (U6 g) k)=some 0:=λk=>by
  unfold exP exO;by_cases c1:0<k/\k<=((U6 g).length:Int);·grind
  by_cases c2:k<0 /\ -((U6 g).length:Int)<=k;·rw[iE c1,iP c2];have:=f _ (W06 (bs:=U6 g) (k:=(-k).toNat-1) oM);exact E08 hf _ 0 0 this.1.nm (iR _) this.2
  rw[iE c1,iE c2];rfl
 have i:Lw ((pf.take 200).flatMap (exP (U6 g))):=Lw.flat λx _=>q0t (o0d b) x;refine(f00 _ _).2 (G0b hf i.all ?_);generalize pf.take 200=l;induction l with
 |nil=>rfl
 |cons a l n=>rw[List.flatMap_cons,n01,j,oB,n]
theorem x0y{g:B0}{ws:List (List Int)}{r:Int}(a:g.1=r)(h:m05 g ws):(O3 r ws).1=g:=by simp_all[m05,O06,aE,dE]
theorem y0p{g:B0}{ws:List (List Int)}{r:Int}(h:(O3 r ws).2=true)(e:(O3 r ws).1=g):m05 g ws=true:=by
 grind[h0d,m05,O06,decide_eq_true]
def R0l{g:B0}{w:List Int}(h:(G3 g w).2):D1 (G3 g w).1/\(G3 g w).1.1=g.1:=by obtain⟨_,_,x,v,X,e⟩:=r0e h;rw[e];exact⟨U0a X.fx X.rng,by rw[s0e,X.rk]⟩
def t0t{k r:Int}{ws:List (List Int)}{w pf:List Int}{g:B0}{n:Int}(h:y00 k r ws w pf g n): O2 r ws/\O1 r w/\(k=1∨k=3->S4 (O3 r ws).1 w)/\(k=2->S4 (O3 r ws).1 w=false)/\(k=5->i02 (O3 r ws).1=((ws.length:Nat):Int))/\(k=6->c01 (O3 r ws).1=n) /\ (k=4->(G3 (O3 r ws).1 w).2->(G3 (O3 r ws).1 w).1=g):=by
 unfold y00 at h;cases c:O2 r ws&&(O1 r w&&(decide (g.1=r)&&D1 g));·rw[c]at h;cases h
 rw[c,(cT)]at h;simp only[aE,dE]at c;obtain⟨j,a,o,l⟩:=c;have i:∀ {b:Bool},(m05 g ws&&b)->(O3 r ws).1=g/\b:=λ{b} h=>by rw[(aE)]at h;grind[x0y]
 refine⟨j,a,λe=>?_,λe=>?_,λe=>?_,λe=>?_,λe=>?_⟩
 ·rcases e with rfl|rfl;·obtain⟨d,f⟩:=i h;rw[d];have:=w0y l pf;rwa [show W0a (U6 g) pf=w by simpa [eqW] using f]at this
  simp_all
 ·subst e;rw[iE oD,iP rfl,(aE),Bool.not_eq_true']at h;refine Bool.eq_false_iff.2 λc=>?_;grind[s0t,V1,List.all_eq_true]
 ·simp_all
 ·simp_all
 subst e;rw[iE oD,iE oD,iE oD,iP rfl,(aE)]at h;have m:=x0y (by rw[(R0l h.1).2,o]) h.2;rw[m];intro p;obtain⟨_,q⟩:=w00 a;grind[U0g,X0n]
theorem t0z{k r:Int}{l:List (List Int)}{w:List Int}(h:(A01 k r l w).2=true):N9 (A01 k r l w).1=true:=by
 unfold A01 at h ⊢
 cases c:(O3 r l).2&&O1 r w with
 |false=>rw[c]at h;cases h
 |true =>
  rw[c,cond_true]at h
  rw[cond_true]
  rw[Bool.and_eq_true]at c
  obtain⟨j,i⟩:=c
  obtain⟨m,o⟩:=h0d j
  have q:O2 r l=true:=by
   grind[O3,O2]
  have step:∀ {b:Bool} {a e:L2×Bool},(bif b then a else e).2=true->(b=true->a.2=true->N9 a.1=true)->(b=false->e.2=true->N9 e.1=true)->N9 (bif b then a else e).1=true:=λ{b a e} h f u=>by
   grind
  have no:∀ {P:Prop},u08.2=true->P:=λh=>by cases h
  have z:∀ {pf:List Int} {g:B0} {n:Int} {b:Bool},g.1=r->D1 g=true->(O2 r l&&(O1 r w&&(decide (g.1=r)&&D1 g)))=true:=λf u=>by grind
  refine step h (λc h=>?_) λ_ h=>step h (λc h=>?_) λ_ h=>step h (λc h=>?_) λ_ h=>step h (λc h=>?_) λ_ h=>step h (λc h=>?_) λ_ h=>step h (λc h=>?_) λ_ h=>no h
  all_goals have c:=of_decide_eq_true c;subst c;refine step h (λc h=>?_) λ_ h=>no h
  ·grind[z0B,g0d,S4,O3]
  ·exact Q0A j q i c
  ·rw[Bool.and_eq_true]at c
   have e:(O3 r l).1=(p05 (O3 r l).1 w).1:=of_decide_eq_true c.2
   have s:S4 (p05 (O3 r l).1 w).1 w=true:=by
    have f:=c.1
    unfold p05 at f ⊢
    rw[m,o,i,Bool.and_self,cond_true]at f ⊢
    cases d:decide (((w.length:Nat):Int)=0)with
    |true =>
     have:=of_decide_eq_true d
     obtain rfl:w = []:=List.eq_nil_of_length_eq_zero (by omega)
     exact(f00 _ _).2 rfl
    |false =>
     rw[d,cond_false]at f
     rw[cond_false]
     cases p:(T1 (O3 r l).1 0 w 0).2 with
     |false=>rw[p]at f;cases f
     |true =>
      rw[cond_true]
      have A:=P0 (V1 m)
      exact S0r (r00 (Y1 (V1 m)) ⟨iR _,by omega⟩ ⟨iR _,by omega⟩ (by rw[o];exact i)) (L0l i) (N0j p)
   rw[←e]at s ⊢
   show y00 3 r l w [] (O3 r l).1 0=true
   unfold y00
   rw[q,i,m,o,decide_eq_true rfl,if_neg (by decide),if_neg (by decide),if_pos rfl,y0p j rfl,s];rfl
  ·obtain⟨v,x⟩:=R0l c
   have t:=r0t c
   have y:=X0n c t
   show y00 4 r l w [] (G3 (O3 r l).1 w).1 0=true
   unfold y00
   rw[q,i,v,x,o,decide_eq_true rfl,if_neg (by decide),if_neg (by decide),if_neg (by decide),if_pos rfl,t,y,y0p j rfl];rfl
  ·show y00 5 r l w [] (O3 r l).1 (i02 (O3 r l).1)=true
   have c:=of_decide_eq_true c
   grind[y00,y0p,decide_eq_true]
  ·show y00 6 r l w [] (O3 r l).1 (c01 (O3 r l).1)=true
   grind[y00,y0p,decide_eq_true]
set_option maxRecDepth 10000
def smC.up{c:L2}(h:smC 400 c):smC 401 c:=⟨h.1,h.2.1,h.2.2.1,⟨h.2.2.2.1.1,Nat.le_succ_of_le h.2.2.2.1.2⟩,h.2.2.2.2⟩
def u0z{bs:List Int}(a:bs.length<=1048576):∃ k r l w,G01 bs=some (k,r,l,w)/\I0 k/\I0 r/\(l.length<=3/\u0f l)/\w.length<=400:=by obtain⟨q,e,b⟩:=d0u a;obtain⟨k,r,l,w,i,c,d,g,f,h,_⟩:=c0A b;grind[I0,G01,F0]
def y0y{bs:List Int}(a:bs.length<=1048576):∃ c,V00 bs=some c/\smC 401 c:=by obtain⟨q,e,b⟩:=d0u a;obtain⟨c,g,d,f,_⟩:=s0p b;grind[V00]
def A0B{bs:List Int}(g:bs.length<=1048576):∃ a b,B00 bs=some (a,b)/\smC 401 a:=by obtain⟨q,e,h⟩:=d0u g;obtain⟨c,p,k,f,i⟩:=s0p h;obtain⟨b,s,l,_,j⟩:=H0o i (n:=2) oD oD;obtain⟨d,t,m,_,_⟩:=s0p j;have o:=R0x c f.cp;unfold B00;cases b;all_goals simp_all
def v0z{bs:List Int}(a:bs.length<=1048576):∃ k,H01 bs=some k/\I0 k:=by obtain⟨q,e,b⟩:=d0u a;obtain⟨k,f,c,d,_⟩:=C08 b (n:=9) oD oD;refine⟨_,?_,O0 (k-1)⟩;grind[H01,F0,I0]
def B0B{bs:List Int}(W:bs.length<=1048576):∃ c,S02 bs=some (.inr c)/\smC 401 c:=by
 have ao:o06 bs=some false:=by unfold o06;rw[dF oM]
 obtain⟨k,r,l,w,ap,aA,q,o,M⟩:=u0z W;have aH:=o.1;have N:=j0t k r l w oM (λx d=>by have:=(o.2 x d).2;omega) (λx d=>by have:=(o.2 x d).2;omega) oM;have O:=z0l k r l w oM (λx d=>by have:=(o.2 x d).2;omega) (λx d=>by have:=(o.2 x d).2;omega) oM;have L:=(S0u k q o M).up;have X:=λh => @t0z k r l w h;generalize A01 k r l w=Y at N O L X;obtain⟨y,f⟩:=Y;have P:=i0y y y L;have ai:=X0a y L.len;rw[dT rfl]at P;obtain⟨u,v,A,D,E,⟨F,G,H⟩,I⟩:=y;obtain⟨x,aq,d⟩:=y0y W;have Q:=X0a x d.len;have R:=d0i x d.len;refine⟨x,?_,d⟩;have K:N9 x->_:=λh=>t0t (k:=x.1) (r:=x.2.1) (ws:=x.2.2.1) (w:=x.2.2.2.1) (pf:=x.2.2.2.2.1) (g:=x.2.2.2.2.2.1) (n:=x.2.2.2.2.2.2) h;obtain⟨_,⟨aw,U⟩,ax,_,ay,_⟩:=d;obtain⟨e,a,b,j,s,m,t⟩:=x;simp only at aw U ax ay;have aj:=j0e a b oM (λw M=>by have:=(U w M).2;omega);have az:N9 (e,a,b,j,s,m,t)->O2 a b:=λh=>(K h).1;unfold S02;have aC:f->N9 (u,v,A,D,E,(F,G,H),I):=X;have first:∀ z:Option (Bool ⊕ L2),z=some (.inr (e,a,b,j,s,m,t))->((o06 bs).bind λa=>(if a=true then some (.inl true)else(chk (!(!(f == f))) (G8 (u,v,A,D,E,(F,G,H),I) (u,v,A,D,E,(F,G,H),I)) false).bind λaf=>(chk (f&&(!(bif(!(f == f))then true else(!af)))) (w9 (u,v,A,D,E,(F,G,H),I)) false).bind λaF=>(if(bif(bif(!(f == f))then true else(!af))then true else(bif f then(!aF)else false))=true then some (.inl false)else z)))=some (.inr (e,a,b,j,s,m,t)):=λz aD=>by
  rw[aD,P,ai,ao];cases f;·simp only[oB,fT,if_false,beq_self_eq_true,bT,bF,G1,M1,cT,zF,Bool.false_and,Bool.true_and]
  simp only[aC rfl,oB,fT,if_false,beq_self_eq_true,bT,bF,G1,M1,cT,zF,Bool.false_and,Bool.true_and]
 simp only[ap,N,O,F0 aA,F0 q,oB];refine first _ ?_
 simp only[aq,oB];obtain⟨m,ag,ah⟩:=m;simp only[Q,R,oB,beq_self_eq_true,bT,fT,if_false];cases hv:N9 (e,a,b,j,s,(m,ag,ah),t);·grind
 obtain⟨Z,aa,ab,ac,ad,ae,i⟩:=K hv;simp only at Z aa ab ac ad ae i;have V:(O3 a b).2:=by unfold O3;rw[Z];rfl
 obtain⟨J,q⟩:=h0d V;have aB:=(V05 J).1;have al:=g05 J aa;have am:=C0f (O3 a b).1 oM;have an:=k0a (O3 a b).1 oM;have T:=B0f (O3 a b).1 oM j oM;have p:=K08 (G3 (O3 a b).1 j).1 (m,ag,ah) (by have:=P09 (O3 a b).1 j;omega);clear K az J q aB V;generalize O3 a b=S at *;obtain⟨⟨ar,au,av⟩,aJ⟩:=S;simp only at ab ac ad ae i al am an T p;simp only[aj,oB,if_true];by_cases k1:e=1;·grind
 rw[iE (by simp[k1])];by_cases k3:e=3;·grind
 rw[iE (by simp[k3])];by_cases k2:e=2;·grind
 rw[iE (by simp[k2])];by_cases k5:e=5;·simp_all[iP,dT,oB,F0]
 rw[iE (by simp[k5])];by_cases k6:e=6;·simp_all[iP,dT,oB,F0]
 rw[iE (by simp[k6])];by_cases k4:e=4
 ·rw[iP (dT k4),T,oB];have i:=i k4;generalize G3 (ar,au,av) j=C at i p;obtain⟨⟨aG,Q,R⟩,ak⟩:=C;simp only at i p ⊢;cases ak;·rfl
  have i:=i rfl;rw[p];unfold O06;rw[dT i];rfl
 grind
def w0z(bs:List Int):L04 bs=some true:=by
 rcases Nat.lt_or_ge 1048576 bs.length with d|d;·unfold L04 S02 o06;rw[oB,iP oG];rfl
 obtain⟨c,j,e⟩:=B0B d;obtain⟨a,b,l,i⟩:=A0B d;obtain⟨k,m,u⟩:=v0z d;have n:=i0h c e.fit;have f2:=h0h c e.fit;have f3:(F08 c).size<=9223372036854775807:=by
  unfold F08;cases h:o0e c;·exact Nat.zero_le _
  have f:=m0t h;have g:=e.2.2.2.1.2;grind[C0l,E01]
 have o:E06 (F08 c) (F08 c):=G0a.2 rfl;have p:=i0y a b i;have q:=w0B a b i;have f:=h08 k;have g:=b0c k;have s:(B (cwL k)).size<=9223372036854775807:=by grind[cwL,E01,M0j]
 have t:E06 (B (cwL k)) (B (cwL k)):=G0a.2 rfl;generalize F08 c=fc at *;obtain⟨N,O,P,Q,R,⟨S,T,U⟩,V⟩:=c;obtain⟨v,w,x,y,z,⟨A,C,D⟩,E⟩:=a;obtain⟨F,G,H,I,b4,⟨J,K,L⟩,M⟩:=b;unfold L04;simp only[j,V0,l,m,F0 u,n,f2,F0 f3,o,G1,p,q,beq_self_eq_true,cT,f,g,F0 s,t,oB]
end Go.Proofs.YthkpbcnhdhfifaaGreat
