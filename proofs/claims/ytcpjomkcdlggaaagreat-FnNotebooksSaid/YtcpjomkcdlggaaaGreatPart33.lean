/- Texts of the claim, joined: Plain laws: the spec's tree, extra edges and basis are the c and others. -/
import Derived.Test.YtcpjomkcdlggaaaGreatPart32
import Derived.Test.YtcpjomkcdlggaaaGreatPart29
import Derived.Test.YtcpjomkcdlggaaaGreatPart22
namespace Go.Proofs.YtcpjomkcdlggaaaGreat
set_option linter.all false
open Go.H
open IntKind (i64)
def k0i{c:Type}(b:c->c->Int)(x:c):∀(a l:List c),V4 b l (a ++ [x])=p02 b x (V4 b l a)
 | [],l=>rfl
 |y::a,l=>by
  show V4 b (p02 b y l) (a ++ [x])=p02 b x (V4 b (p02 b y l) a)
  exact k0i b x a _
def tEW(g:z0)(W:List (Option (List Int)))(v:Int):O0:=stp (D1 g v (-(i0i (gtD (A9 W v))))) (i0i (gtD (A9 W v))) v
def v0h(g:z0)(s:Tr8):List O0:=V4 V0 [] (s.2.tail.map (tEW g s.1))
def c0u{g:z0}(hf:N0 g=true){p:Int}{n:Nat}(C:g.2.1=(n:Int)){b:Tr8}(h:TOk g p n b){v x:Int}(f:v∈b.2)(c:0<=D1 g v x/\D1 g v x ∉ b.2):
  v0h g (trS g v x b)=p02 V0 (stp v x (D1 g v x)) (v0h g b)/\(trS g v x b).2=b.2 ++ [D1 g v x]:=by
 obtain⟨w,F,G,H⟩:=F1 hf
 have E:D1 g v x<(n:Int):=by
  rcases J05 w v x with e|e<;>omega
 unfold trS
 rw[if_pos c]
 obtain⟨a,u⟩:=b
 obtain⟨d,j⟩:=c
 simp only at j f
 refine⟨?_,rfl⟩
 have s:=h.ok.len
 simp only at s
 have k:=λ(z:Int) (i:0<=z)=>w03 (A:=a) (y:=some ((A9 a v).getD [] ++ [x])) d (by omega) i
 have D:u≠[]:=λe=>by rw[e]at f;cases f
 have q:(u ++ [D1 g v x]).tail=u.tail ++ [D1 g v x]:=by
  grind
 unfold v0h
 simp only
 rw[q,List.map_append,List.map_singleton,k0i]
 have m:tEW g (a.set (D1 g v x).toNat (some ((A9 a v).getD [] ++ [x]))) (D1 g v x)=stp v x (D1 g v x):=by
  unfold tEW
  rw[k _ d,if_pos rfl]
  show stp (D1 g (D1 g v x) (-(i0i ((A9 a v).getD [] ++ [x])))) (i0i ((A9 a v).getD [] ++ [x])) (D1 g v x)=_
  rw[x0m,t0a hf rfl d]
 have o:u.tail.map (tEW g (a.set (D1 g v x).toNat (some ((A9 a v).getD [] ++ [x]))))=u.tail.map (tEW g a):=by
  refine List.map_congr_left λz i=>?_
  have l:=List.mem_of_mem_tail i
  have t:=h.gd.2 z l
  unfold tEW
  rw[k z t.1,if_neg λe=>j (by rw[←e];exact l)]
 rw[m,o]
def M0v(g:z0)(v x:Int)(s:Tr8)(c : ¬ (0<=D1 g v x/\D1 g v x ∉ s.2)):trS g v x s=s:=by
 unfold trS;rw[if_neg c]
theorem N0v(g:z0)(s:Tr8):(v0h g s).length<=s.2.length:=by
 unfold v0h
 grind[Z02,tEW,List.length_map,List.length_tail,List.length_nil]
theorem M0s{g:z0}(hf:N0 g=true)(p:Int){n:Nat}(hn:g.2.1=(n:Int))(ls:List Int)(hls:∀ x∈ls,x∈B7 g.1.toNat 1)(hl:ls.length<=1000000)(i:Nat)(v:Int):∀(d k fuel:Nat) (s:Tr8),TOk g p n s->s.2[i]?=some v->k+d=ls.length->d<fuel ->
  I7 ls (i:Int) g.1 g.2.1 g.2.2 fuel (v0h g s) (k:Int) s.2=some (v0h g (L0e g v (ls.drop k) s),(L0e g v (ls.drop k) s).2)
 |d,k,0,s,hs,hv,hd,hf=>by omega
 |0,k,fuel+1,s,hs,hv,hd,hf=>by
  rw[I7.eq_2,if_neg (by grind),Z0 (by omega)];rfl
 |d+1,k,fuel+1,s,hs,hi,hd,hfu=>by
  obtain⟨q1,q2,q3,q4⟩:=F1 hf
  have hk:k<ls.length:=by omega
  have hx:=U3 hk
  have hxl:=hls _ (List.mem_of_getElem? hx)
  have hdr:=I1 hx
  generalize ls[k]=x at hx hxl hdr
  have hxo:=f07 (by omega) hxl
  have hlen:=o01 n s.2 hs.gd.1 hs.gd.2
  have hnx:=J05 q1 v x
  have hv:=List.mem_of_getElem? hi
  have hsn:=hs.add hf hn hv hxl
  obtain⟨t,et⟩:=b0j g v x s
  have ih:=M0s hf p hn ls hls hl i v d (k+1) fuel (trS g v x s) hsn (by grind) (by omega) (by omega)
  have hol:=N0v g s
  rw[I7.eq_2,if_pos (by grind),hdr,L0e,←ih]
  simp only[Z1 hi,Z1 hx,oB,show(g.1,g.2.1,g.2.2)=g from rfl,U03 g v x hxo.1 (by omega),D0 (V03 q1 q3.2 v x),E2 hk (show ls.length<=9223372036854775807 by omega)]
  by_cases c:0<=D1 g v x/\D1 g v x ∉ s.2
  ·obtain⟨e1,e2⟩:=c0u hf hn hs hv c
   rw[e1,e2]
   have e3:decide (D1 g v x<0)=false:=decide_eq_false (by omega)
   have e4:gi (s.2 ++ [D1 g v x]) (i:Int)=some v:=Z1 (by grind)
   rw[e3]
   simp only[Bool.not_false,E1,q0d s.2 _ (show s.2.length<=9223372036854775807 by omega),decide_eq_false c.2,oB,cond_false,Bool.false_eq_true,if_false,e4]
   rw[D0 (by simp;omega),oB]
   generalize D1 g v x=y at *
   by_cases cx:x>0
   ·rw[if_pos (by simpa using cx),d08 _ _ (by omega),oB]
    unfold stp
    rw[if_neg (by omega)]
   ·rw[if_neg (by simpa using cx),d08 _ _ (by omega),oB,p0c hxo.1.1 hxo.1.2]
    unfold stp
    rw[if_pos (by have:=hxo.2.1;omega)]
  ·rw[M0v g v x s c]
   by_cases c1:0<=D1 g v x
   ·have c2:D1 g v x∈s.2:=Classical.byContradiction λh=>c ⟨c1,h⟩
    rw[show decide (D1 g v x<0)=false from decide_eq_false (by omega)]
    simp only[Bool.not_false,E1,q0d s.2 _ (show s.2.length<=9223372036854775807 by omega),decide_eq_true c2,oB,cond_false,if_true]
   ·rw[show decide (D1 g v x<0)=true from decide_eq_true (by omega)]
    simp only[Bool.not_true,K1,oB,cond_true,if_true]
def N0s{g:z0}(hf:N0 g=true)(p:Int){n:Nat}(d:g.2.1=(n:Int)):∀(f i fuel:Nat) (a:Tr8),TOk g p n a->i<=a.2.length->n+1<=i+f->f<fuel ->
  T00 (B7 g.1.toNat 1) g.1 g.2.1 g.2.2 fuel (v0h g a) (i:Int) a.2=some (v0h g (D06 g (B7 g.1.toNat 1) f i a),(D06 g (B7 g.1.toNat 1) f i a).2)
 |f,i,0,a,b,j,h,hf=>by omega
 |0,i,fuel+1,a,b,j,h,hf=>by have:=o01 n a.2 b.gd.1 b.gd.2;omega
 |f+1,i,fuel+1,a,b,j,h,l=>by
  obtain⟨q,s,u,w⟩:=F1 hf
  have m:=o01 n a.2 b.gd.1 b.gd.2
  rw[T00.eq_2,oB,D0 (by omega),oB]
  by_cases hk:i<a.2.length
  ·have c:=U3 hk
   generalize a.2[i]=v at c
   have k:=mG c
   have h0:=M0s hf p d (B7 g.1.toNat 1) (λx c=>c) (by rw[v03];omega) i v (B7 g.1.toNat 1).length 0 P0 a b c (by omega) (X0 (by rw[v03];omega))
   rw[show((0:Nat):Int)=0 from rfl,dZ]at h0
   obtain⟨t,e⟩:=w0k g v (B7 g.1.toNat 1) a
   have o:=N0s hf p d f (i+1) fuel _ (b.inn hf d _ k λx c=>c) (by grind) (by omega) (by omega)
   rw[if_pos (by simpa using hk),h0,oB]
   grind[E2,D06]
  simp_all[List.getElem?_eq_none,if_neg,D06]
def d0u{g:z0}(hf:N0 g=true):R04 g=some (N05 g):=by
 obtain⟨j,k,l,m⟩:=F1 hf
 have f:g.2.1=((g.2.1.toNat:Nat):Int):=by omega
 have h0:=N0s hf 0 f (g.2.1.toNat+1) 0 P0 _ (v0d g (N:=g.2.1.toNat) ⟨iR _,by omega⟩) (by simp) (by omega) (X0 (by omega))
 have h:=C0n g.1.toNat (by omega)
 rw[show((g.1.toNat:Nat):Int)=g.1 by omega]at h
 have i:=K6 g (by omega)
 have d:v0h g (D06 g (B7 g.1.toNat 1) (g.2.1.toNat+1) 0 ((List.replicate g.2.1.toNat none).set (0:Int).toNat (some []),[0]))=N05 g:=by
  show v0h g (e07 g 0)=_
  unfold v0h N05
  rw[y0c]
  rfl
 rw[d]at h0
 have e:v0h g ((List.replicate g.2.1.toNat none).set (0:Int).toNat (some []),[0]) = []:=rfl
 rw[e,show((0:Nat):Int)=0 from rfl]at h0
 obtain⟨a,b,c⟩:=g
 simp only at *
 unfold R04
 grind
theorem w0x(a es:List O0)(g:Nat){e:O0}(p:es[g]?=some e)(x:a.length<=1000):∀(d k fuel:Nat) (b:Bool),k+d=a.length->d<fuel ->
  M7 a es (g:Int) fuel b (k:Int)=some (b || decide (e∈a.drop k))
 |d,k,0,b,m,hf=>by omega
 |0,k,fuel+1,b,m,hf=>by
  simp_all[M7.eq_2,if_neg,decide_eq_true_eq,Z0]
 |d+1,k,fuel+1,b,m,A=>by
  have q:k<a.length:=by omega
  have f:=U3 q
  have o:=I1 f
  generalize a[k]=t at f o
  have y:=λw=>w0x a es g p x d (k+1) fuel w (by omega) (by omega)
  obtain⟨s,u,v⟩:=t
  obtain⟨i,j,l⟩:=e
  rw[M7.eq_2,if_pos (by grind),o,E2 q (by omega)]
  cases b with
  |true =>
   simp_all[Bool.not_true,K1,oB,cond_true,Bool.true_or]
  |false =>
   simp only[Bool.not_false,E1,Z1 f,Z1 p,oB,cond_false,y,Bool.false_or]
   by_cases c:(s,u,v)=(i,j,l)
   ·rw[c];simp[eqE]
   ·have z : ¬ (i,j,l)=(s,u,v):=λh=>c h.symm
    simp_all[eqE,decide_eq_false,Bool.false_or,List.mem_cons,false_or]
theorem P0p{g:z0}(hf:N0 g=true)(a:List O0)(f:a.length<=1000):∀(d k fuel:Nat) (acc:List O0),k+d=g.2.2.length->d<fuel->acc.length<=k ->
  F6 g.2.2 g.1 g.2.1 a fuel (k:Int) acc=some (acc++(g.2.2.drop k).filter λe => !decide (e∈a))
 |d,k,0,acc,j,t,i=>by omega
 |0,k,fuel+1,acc,j,t,i=>by
  rw[F6.eq_2,show decide ((k:Int)<((g.2.2.length:Nat):Int))=false from decide_eq_false (by omega),Z0 (by omega)]
  simp only[K1,oB,cond_false,Bool.false_eq_true,if_false,List.filter_nil,List.append_nil]
 |d+1,k,fuel+1,acc,j,v,i=>by
  obtain⟨x,y,z,A⟩:=F1 hf
  have m:k<g.2.2.length:=by omega
  have b:=U3 m
  have l:=I1 b
  generalize g.2.2[k]=e at b l
  have u:=K6 g (by omega)
  have w:=λo h=>P0p hf a f d (k+1) fuel o (by omega) (by omega) h
  have h0:=w0x a g.2.2 k b f a.length 0 P0 false (by omega) (X0 (by omega))
  rw[show((0:Nat):Int)=0 from rfl,List.drop_zero,Bool.false_or]at h0
  obtain⟨p,q,s⟩:=e
  rw[F6.eq_2,show decide ((k:Int)<((g.2.2.length:Nat):Int))=true from decide_eq_true (by omega)]
  simp only[E1,show(g.1,g.2.1,g.2.2)=g from rfl,u,hf,oB,cond_true,if_true,h0,Z1 b,E2 m (show g.2.2.length<=9223372036854775807 by omega),l,List.filter_cons]
  by_cases c:(p,q,s)∈a
  ·grind
  ·simp only[decide_eq_false c,Bool.not_false,if_true]
   grind[D0]
def Q0p{g:z0}(hf:N0 g=true):E01 g=some (C9 g):=by
 obtain⟨d,e,f,h⟩:=F1 hf
 have a:=d0u hf
 have b:=y0m hf
 have c:=P0p hf (N05 g) (by omega) g.2.2.length 0 P0 [] (by omega) (X0 (by omega)) (by simp)
 grind[C9,E01]
theorem x0x(es:List O0)(e:O0)(v:es.length<=1000):∀(d k fuel:Nat) (b:Bool),k+d=es.length->d<fuel ->
  D00 es e.1 e.2.1 e.2.2 fuel b (k:Int)=some (b || decide (e∈es.drop k))
 |d,k,0,b,j,hf=>by omega
 |0,k,fuel+1,b,j,hf=>by
  simp_all[D00.eq_2,if_neg,decide_eq_true_eq,Z0]
 |d+1,k,fuel+1,b,j,x=>by
  have m:k<es.length:=by omega
  have a:=U3 m
  have l:=I1 a
  generalize es[k]=t at a l
  have o:=λu=>x0x es e v d (k+1) fuel u (by omega) (by omega)
  obtain⟨p,q,s⟩:=t
  obtain⟨f,g,i⟩:=e
  simp only at o
  rw[D00.eq_2,if_pos (by grind),l,E2 m (by omega)]
  cases b with
  |true =>
   simp_all[Bool.not_true,K1,oB,cond_true,Bool.true_or]
  |false =>
   simp only[Bool.not_false,E1,Z1 a,oB,cond_false,o,Bool.false_or]
   by_cases c:(p,q,s)=(f,g,i)
   ·rw[c];simp[eqE]
   ·have w : ¬ (f,g,i)=(p,q,s):=λh=>c h.symm
    simp_all[eqE,decide_eq_false,Bool.false_or,List.mem_cons,false_or]
def l0i{g:z0}(hf:N0 g=true){v:Int}(a:0<=v/\v<g.2.1):e0b g v=tw g 0 v:=by
 obtain⟨b,c,d,e⟩:=F1 hf
 unfold e0b Q0n tw
 rw[hf,show inR 0 (g.2.1-1) 0=true by simp[inR];omega,show inR 0 (g.2.1-1) v=true by simp[inR];omega]
 grind
def O0v{g:z0}(hf:N0 g=true){v:Int}(b:0<=v/\v<g.2.1):∀ x∈tw g 0 v,j5 x:=by
 obtain⟨d,e,f,i⟩:=F1 hf
 have a:(0:Int)<=0/\(0:Int)<g.2.1:=⟨by omega,by omega⟩
 have h:=w0d hf a
 by_cases hm:v∈T3 g 0
 ·exact λx c=>(f07 (by omega) ((l08 hf a).let hm x c)).1
 ·have:tw g 0 v = []:=by
   unfold tw
   rw[←y0c]at hm
   have:=(h.ok.iff v b.1 (by omega)).2 hm
   simp_all
  grind
theorem P0v{g:z0}(hf:N0 g=true){e:O0}(j:e∈g.2.2):y05 g e=some (o05 [] (bw g e)).reverse:=by
 obtain⟨t,A,C,D⟩:=F1 hf
 have s:(0:Int)<=0/\(0:Int)<g.2.1:=⟨by omega,by omega⟩
 have i:=l08 hf s
 have f:=t e j
 have y:=i.len e.1
 have z:=i.len e.2.2
 have p:=K6 g (by omega)
 have h:=x0x g.2.2 e (by omega) g.2.2.length 0 P0 false (by omega) (X0 (by omega))
 rw[show((0:Nat):Int)=0 from rfl,List.drop_zero,Bool.false_or,decide_eq_true j]at h
 have k:=z0c g (by omega) e.1
 rw[l0i hf f.1]at k
 have l:=z0c g (by omega) e.2.2
 rw[l0i hf f.2.1]at l
 have m:=O0v hf f.1
 have o:=O0v hf f.2.1
 have q:=S07 (tw g 0 e.1 ++ [e.2.1]) (inv (tw g 0 e.2.2)) (λx d=>by
  rcases List.mem_append.1 d with d|d
  ·exact(m x d).1
  ·simp at d;rw[d];have:=f.2.2;exact⟨by omega,by omega⟩) (λx d=>(O0n o x d).1) (by simp[a08];omega)
 unfold bw
 obtain⟨a,b,c⟩:=g
 obtain⟨u,v,w⟩:=e
 simp only at *
 unfold y05
 simp only[h,oB,p,hf,Bool.not_true,cond_false,Bool.false_eq_true,if_false,k,l]
 rw[D0 (by simp;omega),oB,e05 _ (by omega),oB,q,oB]
def R0p{g:z0}(hf:N0 g=true)(es:List O0)(f:∀ e∈es,e∈g.2.2)(p:es.length<=1000):∀(d k fuel:Nat) (acc:List (List Int)),k+d=es.length->d<fuel->acc.length<=k ->
  Y9 es g.1 g.2.1 g.2.2 fuel (k:Int) acc=some (acc++(es.drop k).map λe=>(o05 [] (bw g e)).reverse)
 |d,k,0,acc,c,m,b=>by omega
 |0,k,fuel+1,acc,c,m,b=>by
  simp_all[Y9.eq_2,if_neg,dE,Z0]
 |d+1,k,fuel+1,acc,c,v,b=>by
  have o:k<es.length:=by omega
  have a:=U3 o
  have i:=f _ (mG a)
  have l:=I1 a
  generalize es[k]=e at a l i
  have u:=P0v hf i
  have w:=λj h=>R0p hf es f p d (k+1) fuel j (by omega) (by omega) h
  obtain⟨q,s,t⟩:=e
  rw[Y9.eq_2,if_pos (by grind),Z1 a,oB]
  grind[D0,E2]
def R03(g:z0)(a:g.2.2.length<=140737488355328):U2 g=some (D2 g):=by
 grind[a0b,U2,h03,bind]
def Q0v{g:z0}(f:D2 g=true):S04 g=some (O05 g):=by
 have hf:=P4 f
 obtain⟨l,m,o,p⟩:=F1 hf
 have h:=R03 g (by omega)
 have i:=Q0p hf
 have k:(C9 g).length<=g.2.2.length:=List.length_filter_le _ _
 have d:=R0p hf (C9 g) (λe j=>(s0h.1 j).1) (by omega) (C9 g).length 0 P0 [] (by omega) (X0 (by omega)) (by simp)
 rw[show((0:Nat):Int)=0 from rfl,dZ,nA]at d
 unfold O05
 obtain⟨a,b,c⟩:=g
 simp only at *
 unfold S04
 simp only[h,f,oB,i,bT,fT,if_false,d]
def E06(g:z0):z0:=A4 (G09 (Q00 g).1)
def A0c{g:z0}(a:U0 g=true):H7 g=some (E06 g):=by
 obtain⟨e,f,h,i⟩:=V2 a
 have b:=g0e g (by omega)
 have hf:=A06 a
 obtain⟨v,c⟩:=q0k (C3 hf)
 have d:=s0c (G09 (Q00 g).1) (X03 40 hf)
 grind[E06,H7,Q00,G09]
def S0p{g:z0}(a:U0 g=true):U9 g=some (E06 g):=by
 obtain⟨e,f,h,i⟩:=V2 a
 have b:=h0e g (by omega)
 have hf:=A06 a
 obtain⟨v,c⟩:=e0i (C3 hf)
 have d:=r0c (G09 (Q00 g).1) (X03 40 hf)
 grind[E06,U9,Q00,G09]
def v01(r:Int)(a:List (List Int)):z0×Bool:=bif Y4 r a then(E06 (k0e a (r,1,[])),true)else((0,0,[]),false)
theorem f0b{r:Int}{a:List (List Int)}(h:Y4 r a=true):U0 (k0e a (r,1,[]))=true:=by
 obtain⟨c,b,d⟩:=s0a h
 grind[f0i,q0h]
theorem w0h(r:Int)(a:List (List Int))(c:a.length<=140737488355328)(d:F9 a):j00 r a=some (v01 r a):=by
 have b:=L0n r a c d
 have e:Y4 r a=true->_:=λh=>A0c (f0b h)
 unfold j00 v01
 unfold r0a at b
 grind
theorem e0u(r:Int)(a:List (List Int))(c:a.length<=140737488355328)(d:F9 a):c03 r a=some (v01 r a):=by
 have b:=M0n r a c d
 have e:Y4 r a=true->_:=λh=>S0p (f0b h)
 unfold c03 v01
 unfold r0a at b
 grind
def E07(g:z0)(a:List (List Int)):Bool:=D2 g&&((v01 g.1 a).2&&f0e g (v01 g.1 a).1)
def A0m(g:z0)(i:g.2.2.length<=140737488355328)(d:List (List Int))(j:d.length<=140737488355328)(k:F9 d):G6 g d=some (E07 g d):=by
 have f:=w0h g.1 d j k
 have e:=R03 g i
 have h:=n0a g (v01 g.1 d).1 (by omega)
 unfold E07
 obtain⟨a,b,c⟩:=g
 simp only at *
 unfold G6
 generalize v01 a d=q at *
 obtain⟨⟨x,y,z⟩,l⟩:=q
 simp only[f,oB]
 cases l<;>cases hc:D2 (a,b,c)<;>rw[hc]at e<;>simp[e,h,E1,K1]
def B0m(g:z0)(i:g.2.2.length<=140737488355328)(d:List (List Int))(j:d.length<=140737488355328)(k:F9 d):H6 g d=some (E07 g d):=by
 have f:=e0u g.1 d j k
 have e:=a03 g i
 have h:=h0h g (v01 g.1 d).1 (by omega)
 unfold E07
 obtain⟨a,b,c⟩:=g
 simp only at *
 unfold H6
 generalize v01 a d=q at *
 obtain⟨⟨x,y,z⟩,l⟩:=q
 cases l<;>cases hc:D2 (a,b,c)<;>rw[hc]at e<;>simp[f,e,h,E1,K1]
def D0k{r:Int}{g:z0}{w:List Int}(c:D2 g=true)(a:G2 r w=true):N02 g w=some (B01 g w):=by
 have hf:=P4 c
 obtain⟨i,j,k,l⟩:=F1 hf
 obtain⟨wl,e⟩:=M05 a
 have b:=k0g w (by omega)
 rw[i0g a]at b
 have f:=O0s hf (λx d=>(e x d).1) (by omega)
 have h:=a03 g (by omega)
 simp_all[N02,oB,E1,cT]
def P0s{r:Int}{g:z0}(c:D2 g=true)(a:List (List Int))(l:∀ w∈a,G2 r w=true)(m:a.length<=1099511627776):∀(d k fuel:Nat),k+d=a.length->d<fuel ->
  n7 a g.1 g.2.1 g.2.2 fuel (k:Int)=some (bif(a.drop k).all λw=>B01 g w then .inr ()else .inl false)
 |d,k,0,e,h=>by omega
 |0,k,fuel+1,e,h=>by
  simp_all[n7.eq_2,if_neg,dE,Z0]
 |d+1,k,fuel+1,e,h=>by
  have i:k<a.length:=by omega
  have b:=U3 i
  have j:=l _ (mG b)
  have f:=I1 b
  generalize a[k]=w at b j f
  have o:=P0s c a l m d (k+1) fuel (by omega) (by omega)
  rw[n7.eq_2,if_pos (by grind),Z1 b,oB,show(g.1,g.2.1,g.2.2)=g from rfl,C06 c j,oB,E2 i (by omega),o,f,List.all_cons]
  cases B01 g w<;>rfl
def o0r{r:Int}{g:z0}(b:D2 g=true)(a:List (List Int))(d:∀ w∈a,G2 r w=true)(c:a.length<=1099511627776):u02 g a=some (a.all λw=>B01 g w):=by
 obtain⟨h,i,j,k⟩:=F1 (P4 b)
 have e:=R03 g (by omega)
 have f:=P0s b a d c a.length 0 P0 (by omega) (X0 (by omega))
 grind[u02,B01,z9]
def p0r{r:Int}{g:z0}(b:D2 g=true)(a:List (List Int))(d:∀ w∈a,G2 r w=true)(c:a.length<=1099511627776):S00 g a=some (a.all λw=>B01 g w):=by
 obtain⟨e,f,i,j⟩:=F1 (P4 b)
 rw[p0l g (by omega) a (λw h=>by
  grind[M05]) c]
 unfold I09
 rw[b,Bool.true_and]
 have:∀ l:List (List Int),(∀ w∈l,G2 r w=true)->(l.all λw=>B01 g (o05 [] w).reverse)=l.all λw=>B01 g w:=by
  grind[i0g,List.mem_cons_self,mC]
 rw[this a d]
def r09(g:z0)(v:Int):z0×Bool:=bif N0 g&&inR 0 (g.2.1-1) v then(t0h g v,true)else(g,false)
theorem m0i(g:z0)(hl:g.2.2.length<=1099511627776)(v:Int):D9 g v=some (r09 g v):=by
 unfold r09
 cases hf:N0 g with
 |false =>
  have h1:=K6 g (by omega)
  have h2:=P00 g (by omega)
  rw[hf]at h1
  obtain⟨a,b,c⟩:=g
  unfold D9
  simp only[h1,oB,Bool.not_false,Bool.not_true,K1,cond_true,if_true,h2,Bool.false_and,cond_false]
 |true =>
  cases hv:inR 0 (g.2.1-1) v with
  |true=>exact l0r hf (by simp only[inR,Bool.and_eq_true,decide_eq_true_eq]at hv;omega)
  |false =>
   obtain⟨q1,q2,q3,q4⟩:=F1 hf
   have h1:=K6 g (by omega)
   have h2:=P00 g (by omega)
   rw[hf]at h1
   obtain⟨a,b,c⟩:=g
   simp only at hv q3
   unfold D9
   simp only[h1,oB,Bool.not_false,Bool.not_true,E1,J02,w64 (show -9223372036854775808<=b-1 by omega) (show b-1<=9223372036854775807 by omega),hv,cond_false,if_true,h2,Bool.true_and]
theorem n0i(g:z0)(hl:g.2.2.length<=1099511627776)(v:Int):B00 g v=some (r09 g v):=by
 unfold r09
 cases hf:N0 g with
 |false =>
  have h1:=n01 g (by omega)
  have h2:=i03 g (by omega)
  rw[hf]at h1
  obtain⟨a,b,c⟩:=g
  unfold B00
  simp only[h1,oB,Bool.not_false,Bool.not_true,K1,cond_true,if_true,h2,Bool.false_and,cond_false]
 |true =>
  cases hv:inR 0 (g.2.1-1) v with
  |true=>exact m0r hf (by simp only[inR,Bool.and_eq_true,decide_eq_true_eq]at hv;omega)
  |false =>
   obtain⟨q1,q2,q3,q4⟩:=F1 hf
   have h1:=n01 g (by omega)
   have h2:=i03 g (by omega)
   have h3:=l0y g (C3 hf) v
   rw[hf]at h1
   rw[hv]at h3
   obtain⟨a,b,c⟩:=g
   simp only at hv q3
   unfold B00
   simp only[h1,oB,Bool.not_false,Bool.not_true,E1,h3,cond_false,if_true,h2,Bool.true_and]
def M0e(g:z0):∀(w:List Int) (v:Int),O2 g v (w.take (O2 g v w).2)=O2 g v w
 | [],v=>rfl
 |x::w,v=>by
  have a:=M0e g w (D1 g v x)
  by_cases c:D1 g v x<0
  ·simp_all[O2,if_pos]
  ·have e:O2 g v (x::w)=((O2 g (D1 g v x) w).1,(O2 g (D1 g v x) w).2+1):=by rw[O2,if_neg c]
   rw[e,List.take_succ_cons,O2,if_neg c,a]
def l0g{g:z0}(a:inG g):∀(w:List Int) (v:Int),(0<=v/\v<g.2.1)->0<=(O2 g v w).1/\(O2 g v w).1<g.2.1
 | [],v,h=>h
 |x::w,v,h=>by
  unfold O2
  split
  ·exact h
  ·rename_i c
   have b:=J05 a v x
   refine l0g a w _ ?_
   rcases b with e|e<;>omega
def C0m{b a:Int}{w:List Int}:∀ {d k:Nat},(∀ i,k<=i->i<k+d->l09 b a w i=false)->W05 b a w d k=true
 |0,k,h=>rfl
 |d+1,k,h=>by
  unfold W05
  rw[h k (Nat.le_refl _) (by omega),C0m λi c e=>h i (by omega) (by omega)]
  rfl
def x0h{r:Int}{w:List Int}(h:G2 r w=true)(n:Nat):G2 r (w.drop n)=true:=by
 simp only[G2,aE,dE]at h ⊢
 refine⟨⟨h.1.1,by grind⟩,C0m λi b c=>?_⟩
 have a:=o0d h.2 (n+i) (Nat.zero_le _) (by grind)
 unfold l09 at a ⊢
 rw[List.getElem?_drop,List.getElem?_drop]
 cases hw:w[n+i]? with
 |none=>rw[hw]at a;exact a
 |some x =>
  grind
def U00(g:z0)(w:List Int):z0×Bool :=
 bif D2 g&&G2 g.1 w then
  (bif decide ((O2 g 0 w).2<w.length)then
   (bif(J3 g).2 then
    (bif(J4 (J3 g).1 (O2 g 0 w).1 (w.drop (O2 g 0 w).2) g.2.1).2 then r09 (J4 (J3 g).1 (O2 g 0 w).1 (w.drop (O2 g 0 w).2) g.2.1).1 g.2.1 else((0,0,[]),false))
   else((0,0,[]),false))
  else r09 g (O2 g 0 w).1)
 else((0,0,[]),false)
def D0m{g:z0}(f:inG g)(j:g.2.1<=40)(e:g.2.2.length<=1099511627776)(w:List Int)(l:∀ x∈w,j5 x)(o:w.length<=140737488355328):∀(d k fuel:Nat) (v:Int),k+d=w.length->d<fuel ->
  N7 w g.1 g.2.1 g.2.2 fuel v (k:Int)=some (bif decide ((O2 g v (w.drop k)).2<d)then .inl (((k+(O2 g v (w.drop k)).2:Nat):Int))else .inr ())
 |d,k,0,v,b,hf=>by omega
 |0,k,fuel+1,v,b,hf=>by
  simp_all[N7.eq_2,if_neg,dE,Z0]
 |d+1,k,fuel+1,v,b,hf=>by
  have i:k<w.length:=by omega
  have a:=U3 i
  have m:=l _ (mG a)
  have c:=I1 a
  generalize w[k]=x at a m c
  rw[N7.eq_2,if_pos (by grind),Z1 a,oB,show(g.1,g.2.1,g.2.2)=g from rfl,U03 g v x m e,oB,D0 (V03 f j v x),oB,c]
  unfold O2
  by_cases h:D1 g v x<0
  ·grind
  ·rw[if_neg (by simpa using h),if_neg h,E2 i (by omega),D0m f j e w l o d (k+1) fuel _ (by omega) (by omega)]
   simp only[Nat.add_lt_add_iff_right]
   rw[show k+1+(O2 g (D1 g v x) (w.drop (k+1))).2=k+((O2 g (D1 g v x) (w.drop (k+1))).2+1) by omega]
def E0m{g:z0}(hf:N0 g=true){v:Int}(f:0<=v/\v<g.2.1){w:List Int}(i:∀ x∈w,j5 x)(a:w.length<=140737488355328):F01 g v w=some (((O2 g v w).2:Nat):Int):=by
 obtain⟨j,l,b,m⟩:=F1 hf
 have d:=K6 g (by omega)
 have h:=D0m j b.2 (by omega) w i a w.length 0 P0 v (by omega) (X0 a)
 rw[show((0:Nat):Int)=0 from rfl,dZ,Nat.zero_add]at h
 have k:=B07 g w v
 obtain⟨r,n,es⟩:=g
 simp only at f b h
 have e:inR 0 (n-1) v=true:=by simp only[inR,aE,dE];omega
 unfold F01
 simp only[d,hf,oB,bT,bF,E1,J02,w64 (show -9223372036854775808<=n-1 by omega) (show n-1<=9223372036854775807 by omega),e,cF,fT,if_false,h]
 by_cases c:(O2 (r,n,es) v w).2<w.length
 ·rw[dT c];rfl
 ·rw[dF c,show(O2 (r,n,es) v w).2=w.length by omega];rfl
theorem f08{g:z0}(h:(J3 g).2=true):J3 g=((g.1,g.2.1+1,g.2.2),true)/\g.2.1<40:=by
 grind[J3]
theorem E0k(g:z0)(hl:g.2.2.length<=140737488355328)(w:List Int)(hw:w.length<=140737488355328):U4 g w=some (U00 g w):=by
 have h1:=R03 g hl
 have h2:=X02 g.1 w hw
 unfold U00
 cases hc:D2 g with
 |false =>
  rw[hc]at h1
  obtain⟨a,b,c⟩:=g
  unfold U4
  simp only[h1,oB,Bool.not_false,Bool.not_true,K1,cond_true,if_true,Bool.false_and,cond_false]
 |true =>
  cases hwd:G2 g.1 w with
  |false =>
   rw[hc]at h1
   rw[hwd]at h2
   obtain⟨a,b,c⟩:=g
   simp only at h2
   unfold U4
   simp only[h1,oB,Bool.not_false,Bool.not_true,E1,h2,cond_false,if_true,Bool.true_and]
  |true =>
   have hf:=P4 hc
   have hg:=C3 hf
   obtain⟨q1,q2,q3,q4⟩:=F1 hf
   obtain⟨wl,wx⟩:=M05 hwd
   have hwn:∀ x∈w,j5 x:=λx hx=>(wx x hx).1
   have z:(0:Int)<=0/\(0:Int)<g.2.1:=⟨iR _,by omega⟩
   have h3:=E0m hf z hwn (by omega)
   have hle:=B07 g w 0
   have h4:=S0q g hf 0 z (w.take (O2 g 0 w).2) (λx hx=>hwn x (List.mem_of_mem_take hx)) (by grind)
   rw[M0e,List.length_take,show min (O2 g 0 w).2 w.length=(O2 g 0 w).2 by omega,decide_eq_false (Nat.lt_irrefl _)]at h4
   have h5:=m0a q1 q3.2 w 0 ⟨by omega,by omega⟩
   have h6:=P00 g (by omega)
   have h7:=p0a (xs:=w) (k:=(O2 g 0 w).2) hle
   have h8:=K04 (xs:=w) (k:=(O2 g 0 w).2) hle
   have h9:=q0b hg
   have hin:=l0g q1 w 0 z
   have hm1:=m0i g (by omega) (O2 g 0 w).1
   have hg1:=j04 hg
   have h10:(J3 g).2=true->_:=λh=>F09 (g:=(J3 g).1) (u:=(O2 g 0 w).1) (v:=g.2.1) (w:=w.drop (O2 g 0 w).2) hg1 (by grind[f08]) (by grind[f08]) (by simp_all[f08,x0h])
   have hlen:=q09 hg1 (O2 g 0 w).1 (w.drop (O2 g 0 w).2) g.2.1
   have hm2:=m0i (J4 (J3 g).1 (O2 g 0 w).1 (w.drop (O2 g 0 w).2) g.2.1).1 (by omega) g.2.1
   rw[hc]at h1
   rw[hwd]at h2
   generalize O2 g 0 w=R at *
   obtain⟨v,n⟩:=R
   obtain⟨a,b,c⟩:=g
   simp only at h2 h3 h4 h5 h7 h8 hle hin hm1 hm2 h10 ⊢
   unfold U4
   simp only[h1,oB,Bool.not_true,Bool.not_false,E1,h2,cond_false,Bool.false_eq_true,if_false,h3,Bool.true_and,cond_true]
   rw[D0 (show F0 ((n:Nat):Int) from⟨by omega,by omega⟩),oB,h7,oB,h4]
   simp only[cond_false,oB]
   rw[D0 h5]
   grind
theorem q0r(g:z0)(hl:g.2.2.length<=140737488355328)(w:List Int)(hw:w.length<=140737488355328):j6 g w=some (U00 g w):=by
 have h1:=a03 g hl
 have h2:=v06 g.1 w hw
 unfold U00
 cases hc:D2 g with
 |false =>
  rw[hc]at h1
  obtain⟨a,b,c⟩:=g
  unfold j6
  simp only[h1,oB,Bool.not_false,Bool.not_true,K1,cond_true,if_true,Bool.false_and,cond_false]
 |true =>
  cases hwd:G2 g.1 w with
  |false =>
   rw[hc]at h1
   rw[hwd]at h2
   obtain⟨a,b,c⟩:=g
   simp only at h2
   unfold j6
   simp only[h1,oB,Bool.not_false,Bool.not_true,E1,h2,cond_false,if_true,Bool.true_and]
  |true =>
   have hf:=P4 hc
   have hg:=C3 hf
   obtain⟨q1,q2,q3,q4⟩:=F1 hf
   obtain⟨wl,wx⟩:=M05 hwd
   have hwn:∀ x∈w,j5 x:=λx hx=>(wx x hx).1
   have z:(0:Int)<=0/\(0:Int)<g.2.1:=⟨iR _,by omega⟩
   have h3:=j0v g q1 q3.2 (by omega) 0 w hwn (by omega)
   have hle:=B07 g w 0
   have h5:=m0a q1 q3.2 w 0 ⟨by omega,by omega⟩
   have h8:=K04 (xs:=w) (k:=(O2 g 0 w).2) hle
   have h9:=y0i hg
   have hin:=l0g q1 w 0 z
   have hm1:=n0i g (by omega) (O2 g 0 w).1
   have hg1:=j04 hg
   have h10:(J3 g).2=true->_:=λh=>i0e (g:=(J3 g).1) (u:=(O2 g 0 w).1) (v:=g.2.1) (w:=w.drop (O2 g 0 w).2) hg1 (by grind[f08]) (by grind[f08]) (by simp_all[f08,x0h])
   have hlen:=q09 hg1 (O2 g 0 w).1 (w.drop (O2 g 0 w).2) g.2.1
   have hm2:=n0i (J4 (J3 g).1 (O2 g 0 w).1 (w.drop (O2 g 0 w).2) g.2.1).1 (by omega) g.2.1
   rw[hc]at h1
   rw[hwd]at h2
   generalize O2 g 0 w=R at *
   obtain⟨v,n⟩:=R
   obtain⟨a,b,c⟩:=g
   simp only at h2 h3 h5 h8 hle hin hm1 hm2 h10 ⊢
   unfold j6 p07
   simp only[h1,oB,Bool.not_true,Bool.not_false,E1,h2,cond_false,Bool.false_eq_true,if_false,h3,Bool.true_and,cond_true]
   rw[D0 h5,oB,D0 (show F0 ((n:Nat):Int) from⟨by omega,by omega⟩),oB]
   by_cases c1:n<w.length
   ·rw[if_neg (by grind),decide_eq_true c1,h9]
    simp only[oB,cond_true]
    cases hok:(J3 (a,b,c)).2 with
    |false =>
     generalize J3 (a,b,c)=q at *
     simp_all[Bool.not_false,if_true,oB,D0,F0]
    |true =>
     have h11:=h10 hok
     generalize J3 (a,b,c)=q at *
     obtain⟨⟨x,y,z⟩,ok⟩:=q
     simp only at hok h11 hm2
     subst hok
     simp only[Bool.not_true,Bool.false_eq_true,if_false,h8,oB,h11,cond_true]
     generalize J4 (x,y,z) v (w.drop n) b=q2 at *
     obtain⟨⟨x2,y2,z2⟩,ok2⟩:=q2
     cases ok2 with
     |false =>
      simp_all[Bool.not_false,if_true,oB,D0,F0]
     |true =>
      simp only at q3
      simp only[Bool.not_true,Bool.false_eq_true,if_false,cond_true,oB]at hm2 ⊢
      grind[D0,F0]
   ·rw[if_pos (by grind),decide_eq_false c1]
    simp only[oB,Bool.not_true,Bool.false_eq_true,if_false,cond_false]
    rw[D0 h5,oB,hm1];rfl
def E03(g:z0):Int:=bif D2 g then(g.2.2.length:Int)-g.2.1+1 else -1
theorem Q0s(g:z0):F0 (E03 g):=by
 unfold E03
 cases hc:D2 g with
 |false=>exact⟨by rw[cond_false];omega,by rw[cond_false];omega⟩
 |true =>
  obtain⟨q1,q2,q3,q4⟩:=F1 (P4 hc)
  exact⟨by rw[cond_true];omega,by rw[cond_true];omega⟩
theorem F0k(g:z0)(hl:g.2.2.length<=140737488355328):e02 g=some (E03 g)/\F0 (E03 g):=by
 have h1:=R03 g hl
 unfold E03
 cases hc:D2 g with
 |false =>
  rw[hc]at h1
  obtain⟨a,b,c⟩:=g
  unfold e02
  simp only[h1,oB,Bool.not_false,if_true,cond_false]
  exact⟨trivial,⟨by omega,by omega⟩⟩
 |true =>
  obtain⟨q1,q2,q3,q4⟩:=F1 (P4 hc)
  rw[hc]at h1
  obtain⟨a,b,c⟩:=g
  simp only at q3 q4
  unfold e02
  simp only[h1,oB,Bool.not_true,Bool.false_eq_true,if_false,cond_true]
  rw[w64 (x:=((c.length:Nat):Int)-b) (by omega) (by omega),w64 (by omega) (by omega)]
  exact⟨rfl,⟨by omega,by omega⟩⟩
theorem r0r(g:z0)(e:g.2.2.length<=140737488355328):t04 g=some (E03 g):=by
 have d:=a03 g e
 unfold E03
 cases hc:D2 g with
 |false =>
  simp_all[t04,oB,Bool.not_false,if_true,cond_false]
 |true =>
  obtain⟨i,j,f,h⟩:=F1 (P4 hc)
  rw[hc]at d
  obtain⟨a,b,c⟩:=g
  simp only at f h
  unfold t04
  simp only[d,oB,Bool.not_true,Bool.false_eq_true,if_false,cond_true]
  rw[w64 (x:=((c.length:Nat):Int)-b) (by omega) (by omega),w64 (by omega) (by omega)]
def O02(g:z0):Int:=bif o07 g then g.2.1 else -1
theorem T0p(g:z0):F0 (O02 g):=by
 unfold O02
 cases hc:o07 g with
 |false=>exact⟨by rw[cond_false];omega,by rw[cond_false];omega⟩
 |true =>
  obtain⟨q1,q2,q3,q4⟩:=F1 (P4 (O0p hc))
  exact⟨by rw[cond_true];omega,by rw[cond_true];omega⟩
theorem l0e(g:z0)(hl:g.2.2.length<=140737488355328):D03 g=some (O02 g)/\F0 (O02 g):=by
 have h1:=M0p g hl
 have h2:o07 g=true->_:=λh=>F1 (P4 (O0p h))
 unfold O02
 obtain⟨a,b,c⟩:=g
 unfold D03
 cases hc:o07 (a,b,c)with
 |false =>
  rw[hc]at h1
  simp only[h1,oB,Bool.not_false,if_true,cond_false]
  exact⟨trivial,⟨by omega,by omega⟩⟩
 |true =>
  rw[hc]at h1
  obtain⟨q1,q2,q3,q4⟩:=h2 hc
  simp only at q3
  simp only[h1,oB,Bool.not_true,Bool.false_eq_true,if_false,cond_true]
  exact⟨trivial,⟨by omega,by omega⟩⟩
theorem q0l(g:z0)(d:g.2.2.length<=140737488355328):T04 g=some (O02 g):=by
 have e:=N0p g d
 unfold O02
 obtain⟨a,b,c⟩:=g
 unfold T04
 grind
def exO(bs:List (List Int))(k:Int):Option (List Int):=if 0<k/\k<=(bs.length:Int)then some (bs.getD (k.toNat-1) [])else if k<0 /\ -(bs.length:Int)<=k then some (inv (bs.getD ((-k).toNat-1) []))else none
def exP(bs:List (List Int))(k:Int):List Int:=(exO bs k).getD []
def m0g(bs:List (List Int))(l:List Int):List Int:=(o05 [] ((l.take 200).flatMap (exP bs))).reverse
def BOk(bs:List (List Int)):Prop:=(∀ w∈bs,(∀ x∈w,j5 x)/\w.length<=1000)/\bs.length<=1000
def v0a{bs:List (List Int)}{k:Nat}(h:k<bs.length):bs.getD k []∈bs:=by
 grind
theorem X0w{bs:List (List Int)}(h:BOk bs){k:Int}{w:List Int}(e:exO bs k=some w):w.length<=1000/\∀ x∈w,F0 x:=by
 unfold exO at e
 split at e
 ·rename_i c
  have a:=v0a (bs:=bs) (k:=k.toNat-1) (by omega)
  simp only[Option.some.injEq]at e
  rw[←e]
  exact⟨(h.1 _ a).2,λx b=>((h.1 _ a).1 x b).1⟩
 ·split at e
  ·rename_i c
   have a:=v0a (bs:=bs) (k:=(-k).toNat-1) (by omega)
   simp only[Option.some.injEq]at e
   rw[←e]
   exact⟨by rw[a08];exact(h.1 _ a).2,λx b=>(O0n (h.1 _ a).1 x b).1⟩
  ·cases e
def R0s{bs:List (List Int)}(h:BOk bs)(k:Int):(exP bs k).length<=1000/\∀ x∈exP bs k,F0 x:=by
 grind[exP,exO,X0w]
theorem c0j{bs:List (List Int)}{k:Nat}(h:k<bs.length):gi bs (k:Int)=some (bs.getD k []):=by
 grind[Z1,List.getElem?_eq_getElem]
theorem V02{bs:List (List Int)}(h:BOk bs):∀ l:List Int,(l.flatMap (exP bs)).length<=1000*l.length/\∀ x∈l.flatMap (exP bs),F0 x
 | []=>⟨by simp,λx a=>by cases a⟩
 |k::r=>by
  have b:=R0s h k
  have c:=V02 h r
  grind
theorem T0v{bs:List (List Int)}(h:BOk bs)(l:List Int):∀(d k fuel:Nat) (acc:List Int),k+d=(l.take 200).length->d<fuel->acc.length<=1000*k ->
  U6 l bs fuel (k:Int) acc=some (acc++((l.take 200).drop k).flatMap (exP bs))
 |d,k,0,acc,b,hf,g=>by omega
 |0,k,fuel+1,acc,b,hf,g=>by
  rw[List.length_take]at b
  have e:(bif(decide ((k:Int)<((l.length:Nat):Int)))then(decide ((k:Int)<200))else false)=false:=by
   grind
  rw[U6.eq_2,e,if_neg (by simp),List.drop_eq_nil_of_le (by grind)];simp
 |d+1,k,fuel+1,acc,b,hf,g=>by
  have t:k<(l.take 200).length:=by omega
  rw[List.length_take]at b
  have o:k<l.length:=by omega
  have s:=h.2
  have j:=U3 o
  have i:(l.take 200).drop k=l[k]::(l.take 200).drop (k+1):=I1 (by grind)
  generalize l[k]=x at j i
  have u:=R0s h x
  have a:=λm q=>T0v h l d (k+1) fuel m (by grind) (by omega) q
  have e:(bif(decide ((k:Int)<((l.length:Nat):Int)))then(decide ((k:Int)<200))else false)=true:=by
   grind
  rw[U6.eq_2,e,if_pos rfl,i,List.flatMap_cons]
  simp only[Z1 j,oB,E2 (show k<1000 by omega) (show(1000:Nat)<=9223372036854775807 by omega)]
  unfold exP exO
  by_cases c1:0<x
  ·rw[decide_eq_true (show x>0 from c1)]
   simp only[E1,oB,cond_true]
   by_cases c2:x<=(bs.length:Int)
   ·have f:=v0a (bs:=bs) (k:=x.toNat-1) (by omega)
    have p:=(h.1 _ f).2
    have c:gi bs (IntKind.i64.wrap (x-1))=some (bs.getD (x.toNat-1) []):=by
     grind[w64,c0j]
    rw[if_pos (by simpa using c2),if_pos ⟨c1,c2⟩,c,oB,D0 (by omega),oB,a _ (by grind)]
    simp only[Option.getD_some,List.append_assoc]
    rfl
   ·rw[if_neg (by simpa using c2),decide_eq_false (show ¬ x<0 by omega)]
    simp only[K1,oB,cond_false]
    rw[if_neg (by simp),if_neg (λq=>c2 q.2),if_neg (λq=>by omega),a _ (by omega)]
    simp only[Option.getD_none,List.nil_append]
    rfl
  ·rw[decide_eq_false (show ¬ x>0 from c1)]
   simp only[K1,oB,cond_false]
   rw[if_neg (by simp),if_neg (λq=>c1 q.1)]
   by_cases c3:x<0
   ·rw[decide_eq_true c3]
    simp only[E1,oB,cond_true]
    rw[w64 (x:=0-((bs.length:Nat):Int)) (by omega) (by omega)]
    by_cases c2 : -(bs.length:Int)<=x
    ·have f:=v0a (bs:=bs) (k:=(-x).toNat-1) (by omega)
     have p:=(h.1 _ f).2
     have c:gi bs (IntKind.i64.wrap ((IntKind.i64.wrap (0-x))-1))=some (bs.getD ((-x).toNat-1) []):=by
      grind[w64,c0j]
     rw[if_pos (by grind),if_pos ⟨c3,c2⟩,c,oB,e05 _ (by omega),oB,D0 (by rw[a08];omega),oB,a _ (by rw[List.length_append,a08];omega)]
     simp only[Option.getD_some,List.append_assoc]
     rfl
    ·rw[if_neg (by grind),if_neg (λq=>c2 q.2),a _ (by omega)]
     simp only[Option.getD_none,List.nil_append]
     rfl
   ·rw[decide_eq_false c3]
    simp only[K1,oB,cond_false]
    rw[if_neg (by simp),if_neg (λq=>c3 q.1),a _ (by omega)]
    simp only[Option.getD_none,List.nil_append]
    rfl
def f0u{bs:List (List Int)}(h:BOk bs)(l:List Int):l04 bs l=some (m0g bs l):=by
 have a:=T0v h l (l.take 200).length 0 P0 [] (by omega) (X0 (by grind)) (by simp)
 rw[show((0:Nat):Int)=0 from rfl,dZ,nA]at a
 have b:=V02 h (l.take 200)
 have d:(l.take 200).length<=200:=by grind
 unfold l04 m0g
 rw[a,oB,s00 _ (λx c=>b.2 x c) (by omega)]
 rfl
theorem F0m:∀(b:List (List Int)) (a:List Int),X0t a b=o05 a b.flatten
 | [],a=>rfl
 |w::r,a=>by rw[X0t,F0m r,List.flatten_cons,M0j]
theorem B0c(bs:List (List Int)):∀ l:List Int,(l.filterMap (exO bs)).flatten=l.flatMap (exP bs)
 | []=>rfl
 |k::r=>by
  rw[List.flatMap_cons,←B0c bs r,List.filterMap_cons]
  grind[exP,exO]
theorem G0m:∀ a:List (List Int),K0p a=a.flatten.length
 | []=>rfl
 |w::r=>by rw[K0p,G0m r,List.flatten_cons,lA]
def U0v{bs:List (List Int)}(h:BOk bs)(l:List Int)(o:l.length<=200):∀(d k fuel:Nat) (acc:List (List Int)),k+d=l.length->d<fuel->acc.length<=k ->
  V6 l bs fuel (k:Int) acc=some (acc++(l.drop k).filterMap (exO bs))
 |d,k,0,acc,f,hf,e=>by omega
 |0,k,fuel+1,acc,f,hf,e=>by
  simp_all[V6.eq_2,if_neg,dE,Z0]
 |d+1,k,fuel+1,acc,f,hf,e=>by
  have m:k<l.length:=by omega
  have p:=h.2
  have b:=U3 m
  have g:=I1 b
  generalize l[k]=x at b g
  have c:=λj q=>U0v h l o d (k+1) fuel j (by omega) (by omega) q
  rw[V6.eq_2,if_pos (by grind),g,List.filterMap_cons]
  simp only[Z1 b,oB,E2 (show k<1000 by omega) (show(1000:Nat)<=9223372036854775807 by omega),W02,w64 (x:=0-((bs.length:Nat):Int)) (by omega) (by omega)]
  unfold exO
  by_cases c1:0<x/\x<=(bs.length:Int)
  ·have i:=v0a (bs:=bs) (k:=x.toNat-1) (by omega)
   have a:gi bs (i64.wrap (x-1))=some (bs.getD (x.toNat-1) []):=by
    grind[w64,c0j]
   rw[if_pos (show inR 1 ((bs.length:Nat):Int) x=true by simp only[inR,aE,dE];omega),if_pos c1,a,oB,D0 (by simp;omega),oB,c _ (by simp;omega)]
   simp only[List.append_assoc]
   rfl
  ·rw[if_neg (show ¬ inR 1 ((bs.length:Nat):Int) x=true by simp only[inR,aE,dE];omega),if_neg c1]
   by_cases c2:x<0 /\ -(bs.length:Int)<=x
   ·have i:=v0a (bs:=bs) (k:=(-x).toNat-1) (by omega)
    have s:=(h.1 _ i).2
    have a:gi bs (i64.wrap ((i64.wrap (0-x))-1))=some (bs.getD ((-x).toNat-1) []):=by
     grind[w64,c0j]
    rw[if_pos (show inR (0-((bs.length:Nat):Int)) (-1) x=true by simp only[inR,aE,dE];omega),if_pos c2,a,oB,d07 _ (by omega),oB,D0 (by simp;omega),oB,c _ (by simp;omega)]
    simp only[List.append_assoc]
    rfl
   ·rw[if_neg (show ¬ inR (0-((bs.length:Nat):Int)) (-1) x=true by simp only[inR,aE,dE];omega),if_neg c2,c _ (by omega)]
    rfl
def g0u{bs:List (List Int)}(h:BOk bs)(l:List Int):m04 bs l=some (m0g bs l):=by
 have a:(l.take 200).length<=200:=by grind
 have b:=U0v h (l.take 200) a (l.take 200).length 0 P0 [] (by omega) (X0 (by omega)) (by simp)
 rw[show((0:Nat):Int)=0 from rfl,dZ,nA]at b
 have e:=V02 h (l.take 200)
 have d:y07 l 0 (if 200<((l.length:Nat):Int)then 200 else((l.length:Nat):Int))=some (l.take 200):=by
  by_cases c:200<((l.length:Nat):Int)
  ·rw[if_pos c];grind[p0a]
  ·rw[if_neg c,p0a (Nat.le_refl _),List.take_of_length_le (Nat.le_refl _),List.take_of_length_le (by omega)]
 have f:((l.take 200).filterMap (exO bs)).length<=200:=Nat.le_trans (List.length_filterMap_le _ _) a
 unfold m04 m0g
 grind[H09,G0m,B0c,F0m]
def H0m{g:z0}(h:g.2.2.length<=120)(v:Int):(r09 g v).1.2.2.length<=120:=by
 unfold r09
 cases hf:N0 g with
 |false=>simpa using h
 |true =>
  cases hv:inR 0 (g.2.1-1) v with
  |false=>simpa using h
  |true =>
   simp only[Bool.and_self,cT]
   exact(u0a (a0u hf (by simp only[inR,aE,dE]at hv;omega))).1
theorem C0c(g:z0)(w:List Int):(U00 g w).1.2.2.length<=120:=by
 unfold U00
 cases hc:D2 g with
 |false=>simp
 |true =>
  have a:=C3 (P4 hc)
  have b:=(u0a hc).1
  cases G2 g.1 w with
  |false=>simp
  |true =>
   simp only[Bool.and_self,cond_true]
   cases decide ((O2 g 0 w).2<w.length)with
   |false=>simp_all[cond_false,H0m]
   |true =>
    simp only[cond_true]
    cases (J3 g).2 with
    |false=>simp
    |true =>
     simp only[cond_true]
     have c:=q09 (j04 a) (O2 g 0 w).1 (w.drop (O2 g 0 w).2) g.2.1
     cases (J4 (J3 g).1 (O2 g 0 w).1 (w.drop (O2 g 0 w).2) g.2.1).2 with
     |false=>simp
     |true=>simp_all[cond_true,H0m]
def D0c(k r:Int)(a:List (List Int))(w b:List Int)(g:z0)(n:Int):Bool :=
 bif Y4 r a&&(G2 r w&&(decide (g.1=r)&&D2 g))then
  (if k=1 then E07 g a&&eqW (m0g (O05 g) b) w
  else if k=2 then(a.all λv=>B01 g v) && !(B01 g w)
  else if k=3 then E07 g a&&B01 g w
  else if k=4 then(U00 g (inv w)).2&&E07 (U00 g (inv w)).1 a
  else if k=5 then E07 g a&&(decide (E03 g=((a.length:Nat):Int))&&decide (n=((a.length:Nat):Int)))
  else if k=6 then E07 g a&&(decide (O02 g=n)&&decide (n>0))
  else false)
 else false
def Z01(c:P1):Bool:=D0c c.1 c.2.1 c.2.2.1 c.2.2.2.1 c.2.2.2.2.1 c.2.2.2.2.2.1 c.2.2.2.2.2.2
theorem T0s{bs:List (List Int)}(h:BOk bs)(l:List Int):(m0g bs l).length<=200000:=by
 have a:=V02 h (l.take 200)
 have b:=x06 ((l.take 200).flatMap (exP bs)) []
 grind[m0g,List.length_reverse,List.length_take,List.length_nil]
def I0m{g:z0}(a:D2 g=true):BOk (O05 g):=by
 have h:=S0v a
 exact⟨λw b=>⟨(h.1 w b).1,by grind⟩,by have:=h.2;omega⟩
theorem R0n(k r:Int)(ws:List (List Int))(w pf:List Int)(g:z0)(n:Int)(hl:ws.length<=140737488355328)(hs:F9 ws)(hw:w.length<=140737488355328)(hg:g.2.2.length<=140737488355328):
  k00 (k,r,ws,w,pf,g,n)=some (D0c k r ws w pf g n):=by
 have h1:=H08 r ws hl hs
 have h2:=X02 r w hw
 have h3:=R03 g hg
 have h4:=A0m g hg ws hl hs
 have h6:=E0k g hg (inv w) (by rw[a08];exact hw)
 have h7:=A0m (U00 g (inv w)).1 (by grind[C0c,inv]) ws hl hs
 have h8:=F0k g hg
 have h9:=l0e g hg
 unfold D0c
 obtain⟨a,b,c⟩:=g
 unfold k00
 simp only[h1,oB]
 cases hA:Y4 r ws with
 |false=>simp only[Bool.not_false,Bool.not_true,K1,oB,cond_true,if_true,Bool.false_and,cond_false]
 |true =>
  simp only[Bool.not_true,Bool.not_false,E1,h2,oB,cond_false]
  cases hW:G2 r w with
  |false=>simp only[Bool.not_false,Bool.not_true,K1,oB,cond_true,if_true,Bool.false_and,Bool.and_false,cond_false]
  |true =>
   simp only[Bool.not_true,cond_false]
   by_cases hr:a=r
   ·subst hr
    simp only[decide_true,Bool.not_true,Bool.not_false,E1,h3,oB,cond_false]
    cases hc:D2 (a,b,c)with
    |false=>grind
    |true =>
     obtain⟨hr1,hn1,hww⟩:=s0a hA
     have hb:=I0m hc
     have g1:=Q0v hc
     have g2:=f0u hb pf
     have g3:=g05 (a:=m0g (O05 (a,b,c)) pf) (b:=w) (by grind[T0s])
     have g4:=o0r hc ws hww (by omega)
     have g5:=C06 hc hW
     have h5:=e05 w (by have:=(M05 hW).1;omega)
     simp only[Bool.not_true,Bool.false_eq_true,if_false,Bool.and_self,cond_true]
     by_cases k1:k=1
     ·rw[if_pos (decide_eq_true k1),if_pos k1,h4,oB]
      cases E07 (a,b,c) ws<;>simp[E1,K1,g1,g2,g3]
     rw[if_neg (by simpa using k1),if_neg k1]
     by_cases k2:k=2
     ·rw[if_pos (decide_eq_true k2),if_pos k2,g4,oB]
      cases (ws.all λv=>B01 (a,b,c) v)<;>simp[E1,K1,g5]
     rw[if_neg (by simpa using k2),if_neg k2]
     by_cases k3:k=3
     ·rw[if_pos (decide_eq_true k3),if_pos k3,h4,oB]
      cases E07 (a,b,c) ws<;>simp[E1,K1,g5]
     rw[if_neg (by simpa using k3),if_neg k3]
     by_cases k4:k=4
     ·rw[if_pos (decide_eq_true k4),if_pos k4,h5,oB,h6,oB]
      generalize U00 (a,b,c) (inv w)=q at *
      obtain⟨⟨x,y,z⟩,ok⟩:=q
      cases ok<;>simp[E1,K1,h7]
     rw[if_neg (by simpa using k4),if_neg k4]
     by_cases k5:k=5
     ·rw[if_pos (decide_eq_true k5),if_pos k5,h4,oB]
      cases E07 (a,b,c) ws with
      |false =>
       simp only[K1,oB,cond_false,Bool.false_and]
       grind[D0,F0]
      |true =>
       simp only[E1,h8.1,oB,cond_true,Bool.true_and]
       rw[D0 h8.2,oB]
       cases decide (E03 (a,b,c)=((ws.length:Nat):Int))<;>rfl
     rw[if_neg (by simpa using k5),if_neg k5]
     by_cases k6:k=6
     ·rw[if_pos (decide_eq_true k6),if_pos k6,h4,oB]
      cases E07 (a,b,c) ws with
      |false =>
       simp only[K1,oB,cond_false,Bool.false_and]
       grind[D0,F0]
      |true =>
       simp only[E1,h9.1,oB,cond_true,Bool.true_and]
       rw[D0 h9.2,oB]
       cases decide (O02 (a,b,c)=n)<;>rfl
     rw[if_neg (by simpa using k6),if_neg k6]
   ·simp only[decide_eq_false hr,Bool.not_false,Bool.not_true,K1,oB,cond_true,if_true,Bool.false_and,Bool.and_false,cond_false]
theorem S0n(k r:Int)(ws:List (List Int))(w pf:List Int)(g:z0)(n:Int)(hl:ws.length<=140737488355328)(hs:F9 ws)(hw:w.length<=140737488355328)(hg:g.2.2.length<=140737488355328):
  l00 (k,r,ws,w,pf,g,n)=some (D0c k r ws w pf g n):=by
 have h1:=J08 r ws hl hs
 have h2:=v06 r w hw
 have h3:=a03 g hg
 have h4:=B0m g hg ws hl hs
 have h6:=q0r g hg (inv w) (by rw[a08];exact hw)
 have h7:=B0m (U00 g (inv w)).1 (by grind[C0c,inv]) ws hl hs
 have h8:=r0r g hg
 have h8':=Q0s g
 have h9:=q0l g hg
 have h9':=T0p g
 unfold D0c
 obtain⟨a,b,c⟩:=g
 unfold l00
 simp only[h1,oB]
 cases hA:Y4 r ws with
 |false=>simp only[Bool.not_false,Bool.not_true,K1,oB,cond_true,if_true,Bool.false_and,cond_false]
 |true =>
  simp only[Bool.not_true,Bool.not_false,E1,h2,oB,cond_false]
  cases hW:G2 r w with
  |false=>simp only[Bool.not_false,Bool.not_true,K1,oB,cond_true,if_true,Bool.false_and,Bool.and_false,cond_false]
  |true =>
   simp only[Bool.not_true,Bool.not_false,E1,h3,oB,cond_false]
   cases hc:D2 (a,b,c)with
   |false=>grind
   |true =>
    simp only[Bool.not_true,cond_false]
    by_cases hr:a=r
    ·subst hr
     obtain⟨hr1,hn1,hww⟩:=s0a hA
     have hb:=I0m hc
     have g1:=W0w hc
     have g2:=g0u hb pf
     have g3:=y0h (a:=m0g (O05 (a,b,c)) pf) (b:=w) (by grind[T0s])
     have g4:=p0r hc ws hww (by omega)
     have g5:=D0k hc hW
     have h5:=d07 w (by have:=(M05 hW).1;omega)
     simp only[decide_true,Bool.not_true,Bool.false_eq_true,if_false,Bool.and_self,cond_true]
     by_cases k1:k=1
     ·rw[if_pos (decide_eq_true k1),if_pos k1,h4,oB]
      cases E07 (a,b,c) ws<;>simp[E1,K1,g1,g2,g3]
     rw[if_neg (by simpa using k1),if_neg k1]
     by_cases k2:k=2
     ·rw[if_pos (decide_eq_true k2),if_pos k2,g4,oB]
      cases (ws.all λv=>B01 (a,b,c) v)<;>simp[E1,K1,g5]
     rw[if_neg (by simpa using k2),if_neg k2]
     by_cases k3:k=3
     ·rw[if_pos (decide_eq_true k3),if_pos k3,h4,oB]
      cases E07 (a,b,c) ws<;>simp[E1,K1,g5]
     rw[if_neg (by simpa using k3),if_neg k3]
     by_cases k4:k=4
     ·rw[if_pos (decide_eq_true k4),if_pos k4,h5,oB,h6,oB]
      generalize U00 (a,b,c) (inv w)=q at *
      obtain⟨⟨x,y,z⟩,ok⟩:=q
      cases ok<;>simp[E1,K1,h7]
     rw[if_neg (by simpa using k4),if_neg k4]
     by_cases k5:k=5
     ·rw[if_pos (decide_eq_true k5),if_pos k5,h4,oB]
      cases E07 (a,b,c) ws with
      |false =>
       simp only[K1,oB,cond_false,Bool.false_and]
       grind[D0,F0]
      |true =>
       simp only[E1,h8,oB,cond_true,Bool.true_and]
       rw[D0 h8',oB]
       cases decide (E03 (a,b,c)=((ws.length:Nat):Int))<;>rfl
     rw[if_neg (by simpa using k5),if_neg k5]
     by_cases k6:k=6
     ·rw[if_pos (decide_eq_true k6),if_pos k6,h4,oB]
      cases E07 (a,b,c) ws with
      |false =>
       simp only[K1,oB,cond_false,Bool.false_and]
       grind[D0,F0]
      |true =>
       simp only[cond_true,Bool.true_and]
       by_cases c6:n>0
       ·simp only[decide_eq_true c6,E1,h9,oB,cond_true,Bool.and_true]
        rw[D0 h9',oB]
       ·simp only[decide_eq_false c6,K1,oB,cond_false,Bool.and_false]
        grind[D0,F0]
     rw[if_neg (by simpa using k6),if_neg k6]
    grind
def F07(c:P1):Prop:=c.2.2.1.length<=140737488355328/\F9 c.2.2.1/\c.2.2.2.1.length<=140737488355328/\c.2.2.2.2.2.1.2.2.length<=140737488355328
def w0a(c:P1)(h:F07 c):k00 c=some (Z01 c):=R0n c.1 c.2.1 c.2.2.1 c.2.2.2.1 c.2.2.2.2.1 c.2.2.2.2.2.1 c.2.2.2.2.2.2 h.1 h.2.1 h.2.2.1 h.2.2.2
def x0a(c:P1)(h:F07 c):l00 c=some (Z01 c):=S0n c.1 c.2.1 c.2.2.1 c.2.2.2.1 c.2.2.2.2.1 c.2.2.2.2.2.1 c.2.2.2.2.2.2 h.1 h.2.1 h.2.2.1 h.2.2.2
def G0k(r:Int)(c:P1):Bool:=bif !decide (c.2.1=r)then true else !Z01 c
def fcA(r:Int):List P1->Nat->List Int
 | [],_=>[]
 |c::t,k=>bif G0k r c then(k:Int)::fcA r t (k+1)else fcA r t (k+1)
theorem d0j(r:Int):∀(l:List P1) (k:Nat),(fcA r l k).length<=l.length
 | [],k=>Nat.le_refl _
 |c::t,k=>by
  have a:=d0j r t (k+1)
  unfold fcA
  grind
def s09(x:C1):Prop:=x.2.length<=1048576/\∀ c∈x.2,F07 c
def J7(x:C1):List Int:=fcA x.1 x.2 0
def U0p(r:Int)(cs:List P1)(o:cs.length<=1048576)(e:∀ c∈cs,F07 c):∀(d k fuel:Nat) (acc:List Int),k+d=cs.length->d<fuel->acc.length<=k ->
  Q5 cs r fuel (k:Int) acc=some (acc++fcA r (cs.drop k) k)
 |d,k,0,acc,f,hf,b=>by omega
 |0,k,fuel+1,acc,f,hf,b=>by
  simp_all[Q5.eq_2,if_neg,dE,Z0,fcA]
 |d+1,k,fuel+1,acc,f,hf,b=>by
  have h:k<cs.length:=by omega
  have a:=U3 h
  have i:=e _ (mG a)
  have g:=I1 a
  generalize cs[k]=x at a i g
  have m:=w0a x i
  have A:=λl q=>U0p r cs o e d (k+1) fuel l (by omega) (by omega) q
  rw[Q5.eq_2,if_pos (by grind),g,fcA,E2 h (by omega)]
  unfold G0k
  simp only[Z1 a,oB]
  obtain⟨p,j,s,t,u,⟨v,w,y⟩,z⟩:=x
  simp only
  by_cases c:j=r
  ·simp only[dT c,bT,bF,E1,oB,m,cF]
   cases Z01 (p,j,s,t,u,(v,w,y),z)with
   |true =>
    grind
   |false =>
    simp only[bF,if_true,cT]
    grind[D0]
  ·simp only[dF c,bT,bF,K1,oB,cT,if_true]
   grind[D0]
def V0p(r:Int)(cs:List P1)(o:cs.length<=1048576)(e:∀ c∈cs,F07 c):∀(d k fuel:Nat) (acc:List Int),k+d=cs.length->d<fuel->acc.length<=k ->
  R5 cs r fuel (k:Int) acc=some (acc++fcA r (cs.drop k) k)
 |d,k,0,acc,f,hf,b=>by omega
 |0,k,fuel+1,acc,f,hf,b=>by
  simp_all[R5.eq_2,if_neg,dE,Z0,fcA]
 |d+1,k,fuel+1,acc,f,hf,b=>by
  have h:k<cs.length:=by omega
  have a:=U3 h
  have i:=e _ (mG a)
  have g:=I1 a
  generalize cs[k]=x at a i g
  have m:=x0a x i
  have A:=λl q=>V0p r cs o e d (k+1) fuel l (by omega) (by omega) q
  rw[R5.eq_2,if_pos (by grind),g,fcA,E2 h (by omega)]
  unfold G0k
  simp only[Z1 a,oB]
  obtain⟨p,j,s,t,u,⟨v,w,y⟩,z⟩:=x
  simp only
  by_cases c:j=r
  ·simp only[dT c,bT,bF,E1,oB,m,cF]
   cases Z01 (p,j,s,t,u,(v,w,y),z)with
   |true =>
    grind
   |false =>
    simp only[bF,if_true,cT]
    grind[D0]
  ·simp only[dF c,bT,bF,K1,oB,cT,if_true]
   grind[D0]
def o0i(x:C1)(h:s09 x):V00 x=some (J7 x):=by
 have a:=U0p x.1 x.2 h.1 h.2 x.2.length 0 P0 [] (by omega) (X0 (by have:=h.1;omega)) (by simp)
 grind[J7,V00]
def E0c(x:C1)(h:s09 x):H9 x=some (J7 x):=by
 have a:=V0p x.1 x.2 h.1 h.2 x.2.length 0 P0 [] (by omega) (X0 (by have:=h.1;omega)) (by simp)
 grind[J7,H9]
def V7(x:C1):Bool:=(inR 1 3 x.1&&decide (((x.2.length:Nat):Int)<=12))&&decide ((((J7 x).length:Nat):Int)=0)
def n0g(x:C1)(h:s09 x):G01 x=some (V7 x):=by
 have a:=o0i x h
 have b:=d0j x.1 x.2 0
 have c:=h.1
 have d:(J7 x).length<=x.2.length:=b
 unfold V7
 obtain⟨r,cs⟩:=x
 unfold G01
 simp only[J02,oB]at a c d ⊢
 have e:(bif inR 1 3 r then decide (((cs.length:Nat):Int)<=12)else false)=(inR 1 3 r&&decide (((cs.length:Nat):Int)<=12)):=by cases inR 1 3 r<;>rfl
 rw[e]
 cases inR 1 3 r&&decide (((cs.length:Nat):Int)<=12)with
 |false =>
  simp_all[K1,oB,cF,Bool.false_and,D0]
 |true =>
  simp only[E1,a,oB,cT,Bool.true_and]
  grind[D0]
def g0b(x:C1)(h:s09 x):m00 x=some (V7 x):=by
 have a:=E0c x h
 have b:=d0j x.1 x.2 0
 have c:=h.1
 have d:(J7 x).length<=x.2.length:=b
 unfold V7
 obtain⟨r,cs⟩:=x
 unfold m00
 simp only[W02,oB]at a c d ⊢
 have e:(bif inR 1 3 r then decide (((cs.length:Nat):Int)<=12)else false)=(inR 1 3 r&&decide (((cs.length:Nat):Int)<=12)):=by cases inR 1 3 r<;>rfl
 rw[e]
 cases inR 1 3 r&&decide (((cs.length:Nat):Int)<=12)with
 |false =>
  simp_all[K1,oB,cF,Bool.false_and,D0]
 |true =>
  simp only[E1,a,oB,cT,Bool.true_and]
  grind[D0]
def W0v(l:List (List Int))(h:l.length<=1099511627776)(g:∀ w∈l,w.length<=17592186044416):∀(d k fuel:Nat) (acc:List (List Int)),k+d=l.length->d<fuel->acc.length<=k ->
  Z9 l fuel (k:Int) acc=some (acc++l.drop k)
 |d,k,0,acc,c,hf,b=>by omega
 |0,k,fuel+1,acc,c,hf,b=>by
  rw[Z9.eq_2,if_neg (by grind),Z0 (by omega),List.append_nil]
 |d+1,k,fuel+1,acc,c,hf,b=>by
  have f:k<l.length:=by omega
  have a:=U3 f
  have i:=g _ (mG a)
  have e:=I1 a
  generalize l[k]=w at a i e
  rw[Z9.eq_2,if_pos (by grind),Z1 a,oB,D0 (by grind),oB,D0 (by grind),oB,E2 f (by omega),
   W0v l h g d (k+1) fuel _ (by omega) (by omega) (by grind),e,nA,List.append_assoc];rfl
def X0v(l:List (List Int))(a:l.length<=1099511627776)(b:∀ w∈l,w.length<=17592186044416):F03 l=some l:=by
 have h:=W0v l a b l.length 0 P0 [] (by omega) (X0 (by omega)) (by simp)
 grind[F03]
theorem y0x{a:List Int}(b:a.length<=17592186044416):B8 a=some a:=by
 grind[B8,D0]
def M0y(l:List (List Int))(i:l.length<=1099511627776)(g:∀ w∈l,w.length<=17592186044416):∀(d k fuel:Nat) (acc:List (List Int)),k+d=l.length->d<fuel->acc.length<=k ->
  p8 l fuel (k:Int) acc=some (acc++l.drop k)
 |d,k,0,acc,c,hf,b=>by omega
 |0,k,fuel+1,acc,c,hf,b=>by
  rw[p8.eq_2,if_neg (by grind),Z0 (by omega),List.append_nil]
 |d+1,k,fuel+1,acc,c,hf,b=>by
  have f:k<l.length:=by omega
  have a:=U3 f
  have h:=g _ (mG a)
  have e:=I1 a
  generalize l[k]=w at a h e
  rw[p8.eq_2,if_pos (by grind),Z1 a,oB,y0x h,oB,D0 (by grind),oB,E2 f (by omega),
   M0y l i g d (k+1) fuel _ (by omega) (by omega) (by grind),e,List.append_assoc];rfl
def o0z(l:List (List Int))(a:l.length<=1099511627776)(b:∀ w∈l,w.length<=17592186044416):H03 l=some l:=by
 have h:=M0y l a b l.length 0 P0 [] (by omega) (X0 (by omega)) (by simp)
 rw[show((0:Nat):Int)=0 from rfl,dZ,nA]at h
 unfold H03
 rw[D0 (by omega),oB]
 grind
def r0l(c:P1):Prop:=(c.2.2.1.length<=1099511627776/\∀ w∈c.2.2.1,w.length<=1099511627776)/\c.2.2.2.1.length<=1099511627776/\c.2.2.2.2.1.length<=1099511627776/\c.2.2.2.2.2.1.2.2.length<=1099511627776
def W0p(c:P1)(h:r0l c):G03 c=some c:=by
 obtain⟨⟨f,g⟩,i,j,l⟩:=h
 have d:=X0v _ f λw m=>Nat.le_trans (g w m) (by decide)
 have e:=P00 _ l
 obtain⟨k,r,o,w,p,⟨a,b,es⟩,n⟩:=c
 simp only at i j d e
 unfold G03
 simp only[d,e,oB,nA,lN]
 rw[D0 (by omega),oB,D0 (by omega),oB]
def X0p(c:P1)(h:r0l c):m02 c=some c:=by
 obtain⟨⟨a,b⟩,f,g,i⟩:=h
 have e:=o0z _ a λw d=>Nat.le_trans (b w d) (by decide)
 grind[i03,y0x,Nat.le_trans,m02]
theorem H0k(l:List P1)(j:l.length<=1099511627)(i:∀ c∈l,r0l c)(r:Int):∀(d k fuel:Nat) (acc:List P1),k+d=l.length->d<fuel->acc.length<=k ->
  a00 l fuel (k:Int) r acc=some (r,acc++l.drop k)
 |d,k,0,acc,f,hf,b=>by omega
 |0,k,fuel+1,acc,f,hf,b=>by
  rw[a00.eq_2,if_neg (by grind),Z0 (by omega),List.append_nil]
 |d+1,k,fuel+1,acc,f,hf,b=>by
  have h:k<l.length:=by omega
  have a:=U3 h
  have e:=W0p _ (i _ (List.mem_of_getElem? a))
  have g:=I1 a
  generalize l[k]=c at a e g
  have m:=H0k l j i r d (k+1) fuel (acc ++ [c]) (by omega) (by omega) (by grind)
  rw[a00.eq_2,if_pos (by grind),Z1 a,oB,E2 h (by omega),g]
  grind[D0,List.length_singleton,List.append_assoc]
theorem Y0p(l:List P1)(j:l.length<=1099511627)(i:∀ c∈l,r0l c)(r:Int):∀(d k fuel:Nat) (acc:List P1),k+d=l.length->d<fuel->acc.length<=k ->
  C6 l fuel (k:Int) r acc=some (r,acc++l.drop k)
 |d,k,0,acc,f,hf,b=>by omega
 |0,k,fuel+1,acc,f,hf,b=>by
  rw[C6.eq_2,if_neg (by grind),Z0 (by omega),List.append_nil]
 |d+1,k,fuel+1,acc,f,hf,b=>by
  have h:k<l.length:=by omega
  have a:=U3 h
  have e:=X0p _ (i _ (List.mem_of_getElem? a))
  have g:=I1 a
  generalize l[k]=c at a e g
  have m:=Y0p l j i r d (k+1) fuel (acc ++ [c]) (by omega) (by omega) (by grind)
  rw[C6.eq_2,if_pos (by grind),Z1 a,oB,E2 h (by omega),g]
  grind[D0,List.length_singleton,List.append_assoc]
def S8(x:C1)(c:P1):C1×Bool :=
 bif V7 x&&decide (c.2.1=x.1)&&Z01 c&&decide (x.2.length<12)then((x.1,x.2 ++ [c]),true)else(x,false)
def Y0v{x:C1}(h:V7 x=true):x.2.length<=12:=by
 unfold V7 at h
 grind
theorem J0m(x:C1)(hn:s09 x)(hx:∀ c∈x.2,r0l c)(hl:x.2.length<=1099511627)(c:P1)(hc:F07 c)(hcs:r0l c):P02 x c=some (S8 x c):=by
 have h1:=n0g x hn
 have h2:=w0a c hc
 have h3:=W0p c hcs
 have hL:=H0k x.2 hl hx x.1 x.2.length 0 P0 [] (by omega) (X0 (by omega)) (by simp)
 rw[show((0:Nat):Int)=0 from rfl,List.drop_zero,List.nil_append]at hL
 have h12:=Y0v (x:=x)
 unfold S8
 obtain⟨v,cl⟩:=x
 obtain⟨k,r,ws,w,p,⟨a,b,es⟩,n⟩:=c
 simp only at hL h12 hl
 unfold P02 v02
 simp only[hL,h1,h3,oB]
 cases hN:V7 (v,cl)with
 |false=>simp[K1]
 |true =>
  have h12:=h12 hN
  by_cases e:r=v
  ·subst e
   simp only[Bool.not_true,decide_true,cond_false,Bool.not_false,E1,h2,oB,Bool.true_and]
   cases Z01 (k,r,ws,w,p,(a,b,es),n)with
   |false=>rfl
   |true =>
    simp only[Bool.not_true,cond_false,Bool.true_and]
    by_cases c:cl.length<12
    ·rw[if_neg (by grind),D0 (by grind),decide_eq_true c];rfl
    grind
  ·simp only[Bool.not_true,decide_eq_false e,cond_false,Bool.not_false,cond_true,K1,oB,if_true,Bool.and_false,Bool.false_and]
theorem h0u(x:C1)(hn:s09 x)(hx:∀ c∈x.2,r0l c)(hl:x.2.length<=1099511627)(c:P1)(hc:F07 c)(hcs:r0l c):n04 x c=some (S8 x c):=by
 have h1:=g0b x hn
 have h2:=x0a c hc
 have h3:=X0p c hcs
 have hL:=Y0p x.2 hl hx x.1 x.2.length 0 P0 [] (by omega) (X0 (by omega)) (by simp)
 rw[show((0:Nat):Int)=0 from rfl,List.drop_zero,List.nil_append]at hL
 have h12:=Y0v (x:=x)
 unfold S8
 obtain⟨v,cl⟩:=x
 obtain⟨k,r,ws,w,p,⟨a,b,es⟩,n⟩:=c
 simp only at hL h12 hl
 unfold n04 l03
 simp only[hL,h1,h3,oB]
 cases hN:V7 (v,cl)with
 |false=>simp[K1]
 |true =>
  have h12:=h12 hN
  by_cases e:r=v
  ·subst e
   simp only[Bool.not_true,decide_true,cond_false,Bool.not_false,E1,h2,oB,Bool.true_and]
   cases Z01 (k,r,ws,w,p,(a,b,es),n)with
   |false=>rfl
   |true =>
    simp only[Bool.not_true,cond_false,Bool.true_and]
    by_cases c:cl.length<12
    ·rw[if_neg (by grind),D0 (by grind),decide_eq_true c];rfl
    grind
  ·simp only[Bool.not_true,decide_eq_false e,cond_false,Bool.not_false,cond_true,K1,oB,if_true,Bool.and_false,Bool.false_and]
end Go.Proofs.YtcpjomkcdlggaaaGreat
