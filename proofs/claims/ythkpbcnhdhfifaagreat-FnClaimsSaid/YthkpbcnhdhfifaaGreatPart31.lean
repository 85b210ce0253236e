/- Texts of the claim, joined: Plain laws: what folding computes, of the spec and of the co and others. -/
import Derived.Test.YthkpbcnhdhfifaaGreatPart30
import Derived.Test.YthkpbcnhdhfifaaGreatPart22
import Derived.Test.YthkpbcnhdhfifaaGreatPart21
import Derived.Test.YthkpbcnhdhfifaaGreatH36
import Derived.Test.YthkpbcnhdhfifaaGreatPart29
namespace Go.Proofs.YthkpbcnhdhfifaaGreat
set_option linter.all false
open Go.H
open IntKind (i64)
def j0n(l:List Q0)(a c e:Int)(q:l.length<=1000):∀(d k fuel:Nat) (acc:List K6),k+d=l.length->d<fuel->acc.length+2*d<=4000000 -> P6 l c a e fuel (k:Int) acc=some (acc++Q04 (a,c,e) (l.drop k))
 |d,k,0,acc,j,hf,i=>oM
 |0,k,fuel+1,acc,j,hf,i=>by simp_all[P6.eq_2,iE,J1,Q04]
 |d+1,k,fuel+1,acc,j,hf,i=>by
  have m:k<l.length:=oM;have g:=V3 m;generalize l[k]=b at g;obtain⟨n,o,p⟩:=b;have s:∀ f:List K6,f.length+2*d<=4000000->P6 l c a e fuel ((k+1:Nat):Int) f=some (f++Q04 (a,c,e) (l.drop (k+1))):=λf h=>j0n l a c e q d (k+1) fuel f oM oM h;rw[P6.eq_2,iP (by simp;omega),E2 g,oB,G2 m oM,L1 g];simp only[Q04,M09];cases decide (c=o);·grind
  cases decide (a=n)<;>cases decide (e=p);all_goals simp only[bT,fT,if_false,if_true,cT,zF,nA,List.append_nil]
  all_goals grind[F0]
def k0n(l:List Q0)(j:l.length<=1000):∀(d k fuel:Nat) (acc:List K6),k+d=l.length->d<fuel->acc.length+2000*d<=3000000 -> x01 l fuel (k:Int) acc=some (acc++O9 (l.drop k))
 |d,k,0,acc,h,hf,g=>oM
 |0,k,fuel+1,acc,h,hf,g=>by simp_all[x01.eq_2,iE,J1,O9]
 |d+1,k,fuel+1,acc,h,hf,g=>by have i:k<l.length:=oM;have a:=V3 i;generalize l[k]=b at a;obtain⟨c,e,f⟩:=b;have h0:=j0n (l.drop (k+1)) c e f (by simp;omega) (l.length-(k+1)) 0 U0 acc oS (F1 oM) oM;have m:=U0h (c,e,f) (l.drop (k+1));simp only[List.length_drop]at m;rw[x01.eq_2,iP (by simp;omega),E2 a,oB];simp only[G2 i (show l.length<=9223372036854775807 by omega)];rw[n04 oM,oB,show(0:Int)=((0:Nat):Int) from rfl,h0,oB,k0n l j d (k+1) fuel _ oM oM oG,L1 a,O9];simp
def l0n(l:List Q0)(t:l.length<=1000)(i:Nat)(a c e:Int)(n:l[i]?=some (a,c,e)):∀(d k fuel:Nat) (acc:List K6),k+d=l.length->d<fuel->acc.length+2*d<=4000000 -> H5 l (i:Int) fuel (k:Int) acc=some (acc++Q04 (a,c,e) (l.drop k))
 |d,k,0,acc,m,hf,j=>oM
 |0,k,fuel+1,acc,m,hf,j=>by simp_all[H5.eq_2,iE,J1,Q04]
 |d+1,k,fuel+1,acc,m,hf,j=>by
  have o:k<l.length:=oM;have g:=V3 o;generalize l[k]=b at g;obtain⟨p,q,s⟩:=b;have u:∀ f:List K6,f.length+2*d<=4000000->H5 l (i:Int) fuel ((k+1:Nat):Int) f=some (f++Q04 (a,c,e) (l.drop (k+1))):=λf h=>l0n l t i a c e n d (k+1) fuel f oM oM h;rw[H5.eq_2,iP (by simp;omega),E2 n,oB];simp only[];rw[E2 g,oB,G2 o oM,L1 g];simp only[Q04,M09];cases decide (c=q);·grind
  cases decide (a=p)<;>cases decide (e=s);all_goals simp only[bT,fT,if_false,if_true,cT,zF,nA,List.append_nil]
  ·exact u acc oM
  all_goals grind[F0]
def m0n(l:List Q0)(j:l.length<=1000):∀(d k fuel:Nat) (acc:List K6),k+d=l.length->d<fuel->acc.length+2000*d<=3000000 -> b00 l fuel (k:Int) acc=some (acc++O9 (l.drop k))
 |d,k,0,acc,h,hf,g=>oM
 |0,k,fuel+1,acc,h,hf,g=>by simp_all[b00.eq_2,iE,J1,O9]
 |d+1,k,fuel+1,acc,h,hf,g=>by have i:k<l.length:=oM;have a:=V3 i;generalize l[k]=b at a;obtain⟨c,e,f⟩:=b;have h0:=l0n l j k c e f a (l.length-(k+1)) (k+1) U0 acc oM (F1 oM) oM;have m:=U0h (c,e,f) (l.drop (k+1));simp only[List.length_drop]at m;rw[b00.eq_2,iP (by simp;omega),G2 i oM,h0,oB,m0n l j d (k+1) fuel _ oM oM oG,L1 a,O9];simp
def N0q(g:B0)(a:g.2.2.length<=1000):S06 g=some (O9 g.2.2):=by obtain⟨r,n,es⟩:=g;unfold S06;simp only;rw[show(0:Int)=((0:Nat):Int) from rfl,k0n es a es.length 0 U0 [] oM (F1 (by simp only at a;omega)) oG];rfl
def O0q(g:B0)(a:g.2.2.length<=1000):b05 g=some (O9 g.2.2):=by obtain⟨r,n,es⟩:=g;unfold b05;simp only;rw[show(0:Int)=((0:Nat):Int) from rfl,m0n es a es.length 0 U0 [] oM (F1 (by simp only at a;omega)) oG];rfl
def z06(g:B0):K6×Bool:=bif W0 g then(match O9 g.2.2 with
 | []=>((0,0),false)
 |f::_=>(f,true))else((0,0),false)
def e0j(g:B0)(c:g.2.2.length<=140737488355328):x02 g=some (z06 g):=by
 have b:=k01 g c;have a:=N0q g;unfold z06;cases hg:W0 g;·grind[x02]
 have a:=a (by have:=(P2 hg).2.2.2;omega);obtain⟨r,n,es⟩:=g;unfold x02;simp only[b,hg,a,oB,cT];simp only at a;cases O9 es with
 |nil=>rfl
 |cons f l =>rw[iE oS,iE (by simp;omega),t0f rfl];rfl
def f0j(g:B0)(c:g.2.2.length<=140737488355328):v02 g=some (z06 g):=by
 have b:=H9 g c;have a:=O0q g;unfold z06;cases hg:W0 g;·grind[v02]
 have a:=a (by have:=(P2 hg).2.2.2;omega);obtain⟨r,n,es⟩:=g;unfold v02;simp only[b,hg,a,oB,cT];simp only at a;cases O9 es with
 |nil=>rfl
 |cons f l =>rw[iE oS,iE (by simp;omega),t0f rfl];rfl
def w0u(v:Int)(f:K6)(d:0<=v/\v<1000)(hf:0<=f.1/\f.1<f.2):A05 v f=some (mvV f v):=by
 obtain⟨a,b⟩:=f;simp only at hf;unfold A05 mvV;simp only;by_cases c:v=b;·rw[iP (by simp[c]),iE (by simp;omega),iP c]
 rw[iE (by simp[c]),iE c];by_cases c2:v>b;·rw[iP (by simp[c2]),iP c2,w64 oM oM]
 grind
def P0q(v:Int)(f:K6)(d:0<=v/\v<1000):P8 v f=some (mvV f v):=by
 obtain⟨a,b⟩:=f;unfold P8 mvV;simp only;by_cases c:v=b;·rw[iP (by simp[c]),iP c]
 rw[iE (by simp[c]),iE c];by_cases c2:v>b;·rw[iP (by simp[c2]),iP c2,w64 oM oM]
 grind
def U0o{f:K6}{v:Int}(a:0<=v/\v<1000)(hf:0<=f.1/\f.1<1000):I0 (mvV f v):=by
 unfold mvV;split;·exact⟨oM,oM⟩
 split;·exact⟨oM,oM⟩
 exact⟨oM,oM⟩
def Q0q(es:List Q0)(f:K6)(r n:Int)(s:es.length<=1000)(o:∀ e∈es,(0<=e.1/\e.1<1000)/\(0<=e.2.2/\e.2.2<1000))(hf:0<=f.1/\f.1<f.2)(q:f.2<1000):∀(d k fuel:Nat) (acc:List Q0),k+d=es.length->d<fuel->acc.length<=k -> N5 es f.1 f.2 fuel (k:Int) r n acc=some (r,n,H4 X0 acc ((es.drop k).map (mvE f)))
 |d,k,0,acc,l,m,j=>oM
 |0,k,fuel+1,acc,l,m,j=>by rw[N5.eq_2,iE (by simp;omega),J1 oM];rfl
 |d+1,k,fuel+1,acc,l,m,j=>by
  have c:k<es.length:=oM;have g:=V3 c;have a:=o _ (List.getElem_mem c);generalize es[k]=b at g a;obtain⟨h,p,i⟩:=b;simp only at a;have t:=M0a (mvE f (h,p,i)) acc;rw[N5.eq_2,iP (by simp;omega),E2 g,oB];simp only[];rw[w0u h (f.1,f.2) a.1 hf,oB,F0 (U0o a.1 ⟨hf.1,by show f.1<1000;omega⟩),oB,w0u i (f.1,f.2) a.2 hf,oB,F0 (U0o a.2 ⟨hf.1,by show f.1<1000;omega⟩),oB,
   D08 acc _ oM,oB,G2 c oM,L1 g,List.map_cons]
  exact Q0q es f r n s o hf q d (k+1) fuel _ oM oM (Nat.le_trans t oM)
def R0q{g:B0}{f:K6}(d:W0 g)(hf:okF g f):c00 g f=some (p04 g f,true):=by obtain⟨k,o,l,m⟩:=P2 d;have i:=H9 g oM;obtain⟨c,f2,f3⟩:=hf;obtain⟨r,n,es⟩:=g;obtain⟨a,b⟩:=f;simp only at c f2 f3 l m;have h:=Q0q es (a,b) r (i64.wrap (n-1)) oM (λe j=>by have:=k e j;grind) ⟨c,f2⟩ (by simp only;omega) es.length 0 U0 [] oM (F1 oM) (Nat.le_refl _);unfold c00;simp only[i,d,oB];rw[iE (by simp;omega),show(0:Int)=((0:Nat):Int) from rfl,h,w64 oM oM];rfl
def S0q(es:List Q0)(f:K6)(q:es.length<=1000)(l:∀ e∈es,(0<=e.1/\e.1<1000)/\(0<=e.2.2/\e.2.2<1000))(hf:0<=f.1/\f.1<1000):∀(d k fuel:Nat),k+d=es.length->d<fuel -> O5 es f.1 f.2 fuel (k:Int) ((es.take k).map (mvE f)++es.drop k)=some (es.map (mvE f))
 |d,k,0,i,j=>oM
 |0,k,fuel+1,i,j=>by rw[O5.eq_2,iE (by simp;omega),J1 oM,List.append_nil,List.take_of_length_le oM]
 |d+1,k,fuel+1,i,j=>by
  have c:k<es.length:=oM;have m:=V3 c;have a:=l _ (List.getElem_mem c);generalize es[k]=b at m a;have t:((es.take k).map (mvE f)).length=k:=by simp;omega
  have p:((es.take k).map (mvE f)++es.drop k)[k]?=some b:=by grind
  have s:∀ y,((es.take k).map (mvE f)++es.drop k).set k y=(es.take k).map (mvE f)++y::es.drop (k+1):=λy=>by simp_all[List.set_append_right,L1]
  obtain⟨g,o,h⟩:=b;simp only at a;have e:(es.take (k+1)).map (mvE f)++es.drop (k+1)=(es.take k).map (mvE f)++mvE f (g,o,h)::es.drop (k+1):=by rw[h0u m];simp
  have n:=S0q es f q l hf d (k+1) fuel oM oM;rw[e]at n;rw[O5.eq_2,iP (by simp;omega),E2 p,oB];simp only[];rw[P0q g (f.1,f.2) a.1,oB,F0 (U0o a.1 hf),oB,P0q h (f.1,f.2) a.2,oB,F0 (U0o a.2 hf),oB];simp only[oB];rw[show((k:Nat):Int).toNat=k from iN k,s,G2 c oM];exact n
def T0q{g:B0}{f:K6}(d:W0 g)(hf:okF g f):d00 g f=some (p04 g f,true):=by obtain⟨l,p,m,o⟩:=P2 d;have i:=k01 g oM;have j:=G02 g oM;obtain⟨c,f2,f3⟩:=hf;obtain⟨r,n,es⟩:=g;obtain⟨a,b⟩:=f;simp only at c f2 f3 m o;have h:=S0q es (a,b) oM (λe k=>by have:=l e k;grind) ⟨c,by simp only;omega⟩ es.length 0 U0 oM (F1 oM);simp only[List.take_zero,List.map_nil,nA,dZ]at h;unfold d00;simp only[i,j,d,oB];rw[iE (by simp;omega),show(0:Int)=((0:Nat):Int) from rfl,h,oB,P0c _ (by simp;omega),oB,w64 oM oM];rfl
def e05(g:B0):B0×K6×Bool:=bif W0 g then(match O9 g.2.2 with
 | []=>(g,(0,0),false)
 |f::_=>(p04 g f,f,true))else(g,(0,0),false)
def U0c(g:B0)(d:g.2.2.length<=1099511627776):B04 g=some (e05 g):=by have c:=f0j g oM;have e:=Z00 g d;have h:∀ f,W0 g->okF g f->c00 g f=some (p04 g f,true):=λf a b=>R0q a b;have i:W0 g->∀ f∈O9 g.2.2,okF g f:=R06;unfold z06 at c;unfold e05;obtain⟨r,n,es⟩:=g;unfold B04;grind
def V0c(g:B0)(d:g.2.2.length<=1099511627776):D04 g=some (e05 g):=by have c:=e0j g oM;have e:=G02 g d;have h:∀ f,W0 g->okF g f->d00 g f=some (p04 g f,true):=λf a b=>T0q a b;have i:W0 g->∀ f∈O9 g.2.2,okF g f:=R06;unfold z06 at c;unfold e05;obtain⟨r,n,es⟩:=g;unfold D04;grind
def F0A:(B0×n02) ⊕ (Int×Int×T0×(List K6))->Option (B0×n02):=λX=>T9 X (λS=>match S with
 |(a,b,c,e)=>some ((a,b,c),e))
def W0k:∀(d k fuel:Nat) (g:B0) (acc:List K6),k+d=40->d<fuel->W0 g->acc.length=k -> (O8 fuel (k:Int) g.1 g.2.1 g.2.2 acc).bind F0A=some ((z03 d g).1,acc++(z03 d g).2)
 |d,k,0,g,acc,h,hf,a,c=>oM
 |0,k,fuel+1,g,acc,h,hf,a,c=>by simp_all[O8.eq_2,iE,F0A,T9,z03]
 |d+1,k,fuel+1,g,acc,h,hf,a,c=>by
  have b:=U0c g (by have:=(P2 a).2.2.2;omega);have i:=R06 a;unfold e05 at b;rw[a]at b;simp only[cT]at b;rw[O8.eq_2,iP (by simp;omega),show(g.1,g.2.1,g.2.2)=g from rfl,b];unfold z03;cases e:O9 g.2.2 with
  |nil=>simp[F0A,T9]
  |cons f l =>have j:=W0k d (k+1) fuel (p04 g f) (acc ++ [f]) oM oM (Z07 a (i f oG)) (by simp[c]);simp only[oB,bT,fT,if_false];rw[F0 (by simp;omega),oB,G2 (show k<1000 by omega) oM];grind
def U0e(g:B0)(b:g.2.2.length<=1099511627776):c05 g=some (N8 g):=by
 have a:=U0c g b;have c:=Z00 g b;have d:=W0k 40 0 U0 g [] rfl (F1 oM);unfold N8;obtain⟨r,n,es⟩:=g;unfold c05;simp only[c,oB];cases hg:W0 (r,n,es);·unfold e05 at a;rw[hg]at a;simp only[zF]at a;rw[show U0=(U0-1)+1 from rfl,O8.eq_2,iP oS,a];rfl
 exact d hg rfl
def X0k:∀(d fuel:Nat) (g:B0) (acc:List K6),d<fuel->W0 g->O9 (z03 d g).1.2.2 = []->acc.length+d<=1000 -> e00 fuel g.1 g.2.1 g.2.2 acc=some (.inl ((z03 d g).1,acc++(z03 d g).2))
 |d,0,g,acc,hf,a,c,j=>oM
 |d,fuel+1,g,acc,hf,a,c,j=>by
  have b:=V0c g (by have:=(P2 a).2.2.2;omega);have i:=R06 a;unfold e05 at b;rw[a]at b;simp only[cT]at b;rw[e00.eq_2,show(g.1,g.2.1,g.2.2)=g from rfl,b];cases e:O9 g.2.2 with
  |nil =>
   have h:z03 d g=(g,[]):=by
    cases d with
    |zero=>rfl
    |succ d=>unfold z03;rw[e]
   rw[h];simp
  |cons f l =>
   cases d with
   |zero=>exact absurd e (by rw[show O9 g.2.2 = [] from c];simp)
   |succ d =>
    have h:z03 (d+1) g=((z03 d (p04 g f)).1,f::(z03 d (p04 g f)).2):=by show(match O9 g.2.2 with | []=>(g,[])|f::_=>((z03 d (p04 g f)).1,f::(z03 d (p04 g f)).2))=_;rw[e]
    rw[h]at c ⊢;have k:=X0k d fuel (p04 g f) (acc ++ [f]) oM (Z07 a (i f oG)) c (by simp;omega);simp only[oB,bT,fT,if_false];rw[F0 (by simp;omega),oB];grind
def V0e(g:B0)(c:g.2.2.length<=1099511627776):d05 g=some (N8 g):=by
 have b:=V0c g c;have d:=G02 g c;have e:=X0k 40 U0 g [] (F1 oM);have f:W0 g->O9 (z03 40 g).1.2.2 = []:=λa=>x0f 40 a (by have:=(P2 a).2.2.1;omega);unfold N8;obtain⟨r,n,es⟩:=g;unfold d05;simp only[d,oB];cases a:W0 (r,n,es);·unfold e05 at b;rw[a]at b;simp only[zF]at b;rw[show U0=(U0-1)+1 from rfl,e00.eq_2,b];rfl
 have h:=e a (f a) oS;simp only at h;rw[h];rfl
def B05{g:B0}(h:W0 g):Asc X0 g.2.2:=((O03 g).1 h).2.2.2.2
def stp(u x v:Int):Q0:=if x<0 then(v,-x,u)else(u,x,v)
def h02(v:Int):List Int->Int->Int->List Q0
 | [],_,_=>[]
 | [x],u,_=>[stp u x v]
 |x::y::r,u,n=>stp u x n::h02 v (y::r) n (n+1)
theorem P0a(v:Int):∀(w:List Int) (u n:Int),(h02 v w u n).length=w.length
 | [],_,_=>rfl
 | [x],_,_=>rfl
 |x::y::r,u,n=>by simp only[h02,lC,P0a v (y::r)]
def V0o(u x v:Int)(a:C3 x):i04 u x v=some (stp u x v):=by
 unfold i04 stp;by_cases c:x<0;·rw[iP (by simp[c]),iP c,X0b a.1 a.2]
 grind
def W0o(w:List Int)(v:Int)(r:Int)(e:∀ x∈w,C3 x)(j:w.length<=1000):∀(d k fuel:Nat) (u n:Int) (es:List Q0),k+d=w.length->d<fuel->0<=n->n<=1000+k->es.length<=1000+k -> Q8 w v fuel u (k:Int) r n es=some (r,n+((d-1:Nat):Int),es++h02 v (w.drop k) u n)
 |d,k,0,u,n,es,i,hf,h0,g,h=>oM
 |0,k,fuel+1,u,n,es,i,hf,h0,g,h=>by simp_all[Q8.eq_2,iE,J1,h02]
 |d+1,k,fuel+1,u,n,es,i,hf,h0,g,h=>by
  have a:k<w.length:=oM;have f:=V3 a;have b:=e _ (List.getElem_mem a);generalize w[k]=x at f b;rw[Q8.eq_2,iP (by simp;omega),E2 f,oB,B0g oM oM,L1 f];by_cases c:k+1<w.length;·rw[iP (by simp;omega),V0o u x n b,oB];have l:=V3 c;generalize w[k+1]=y at l;have m:=W0o w v r e j d (k+1) fuel n (n+1) (es ++ [stp u x n]) oM oM oM oM (by simp;omega);simp only[oB];rw[F0 (by simp;omega),oB,G2 a oM,w64 (show(-9223372036854775808:Int)<=n+1 by omega) oM];refine m.trans ?_;rw[L1 l];grind[h02,List.append_assoc,List.singleton_append]
  have o:d=0:=oM;subst o;rw[iE (by simp;omega),V0o u x v b,oB];have m:=W0o w v r e j 0 (k+1) fuel v n (es ++ [stp u x v]) oM oM h0 oM (by simp;omega);grind[F0,G2,J1,h02]
def X0o(w:List Int)(v:Int)(r:Int)(h:∀ x∈w,C3 x/\x≠0)(o:w.length<=1000):∀(d k fuel:Nat) (u n:Int) (es:List Q0),k+d=w.length->d<fuel->0<=n->n<=1000+k->es.length<=1000+k -> O6 w v fuel u (k:Int) r n es=some (r,n+((d-1:Nat):Int),H4 X0 es (h02 v (w.drop k) u n))
 |d,k,0,u,n,es,m,hf,h0,j,l=>oM
 |0,k,fuel+1,u,n,es,m,hf,h0,j,l=>by simp_all[O6.eq_2,iE,J1,h02,H4]
 |d+1,k,fuel+1,u,n,es,m,hf,h0,j,l=>by
  have f:k<w.length:=oM;have g:=V3 f;have a:=h _ (List.getElem_mem f);generalize w[k]=x at g a;have p:∀ e,(D02 X0 e es).length<=1000+(k+1):=λe=>by grind[M0a]
  rw[O6.eq_2,iP (by simp;omega),L1 g];by_cases c:k+1<w.length
  ·have i:=V3 c;generalize w[k+1]=y at i;have b:=X0o w v r h o d (k+1) fuel n (n+1) (D02 X0 (stp u x n) es) oM oM oM oM (p _);rw[L1 i]at b;rw[G2 f oM,iP (by simp;omega),E2 g,oB,w64 (show(-9223372036854775808:Int)<=n+1 by omega) oM,L1 i];have fin:some (r,n+1+((d-1:Nat):Int),H4 X0 (D02 X0 (stp u x n) es) (h02 v (y::w.drop (k+1+1)) n (n+1)))=some (r,n+((d+1-1:Nat):Int),H4 X0 es (h02 v (x::y::w.drop (k+1+1)) u n)):=by grind[h02,H4]
   by_cases c2:x>0
   ·have e:stp u x n=(u,x,n):=by unfold stp;rw[iE oM]
    rw[iP (by simp[c2])];grind[D08]
   have e:stp u x n=(n,-x,u):=by unfold stp;rw[iP oM]
   rw[iE (by simp;omega)];simp only[oB];rw[X0b a.1.1 a.1.2,D08 es _ oM,oB,←e];exact b.trans fin
  have q:d=0:=oM;subst q;have b:=X0o w v r h o 0 (k+1) fuel v n (D02 X0 (stp u x v) es) oM oM h0 oM (p _);rw[J1 (show k+1=w.length by omega)]at b ⊢;rw[G2 f oM,iE (by simp;omega),E2 g,oB];have fin:some (r,n+((0-1:Nat):Int),H4 X0 (D02 X0 (stp u x v) es) (h02 v [] v n))=some (r,n+((0+1-1:Nat):Int),H4 X0 es (h02 v [x] u n)):=by simp[h02,H4]
  by_cases c2:x>0
  ·have e:stp u x v=(u,x,v):=by unfold stp;rw[iE oM]
   rw[iP (by simp[c2])];grind[D08]
  have e:stp u x v=(v,-x,u):=by unfold stp;rw[iP oM]
  rw[iE (by simp;omega)];simp only[oB];rw[X0b a.1.1 a.1.2,D08 es _ oM,oB,←e];exact b.trans fin
def Y0k{es p:List Q0}(a:Asc X0 es):H4 X0 [] (es++p)=H4 X0 es p :=
 C0b Q3 (s03 Q3 _ _ .nil) (s03 Q3 _ _ a) λx=>by
  grind[O4,Q3]
def T1(g:B0)(u:Int)(w:List Int)(v:Int):B0×Bool :=
 bif !w.isEmpty&&decide (g.2.1+(w.length:Int)-1<=40)&&decide (g.2.2.length+w.length<=120)then((g.1,g.2.1+((w.length-1:Nat):Int),H4 X0 g.2.2 (h02 v w u g.2.1)),true)else(g,false)
theorem w00{r:Int}{w:List Int}(h:O1 r w):w.length<=24/\∀ x∈w,C3 x/\x≠0 /\ -r<=x/\x<=r:=by have a:=h;simp only[O1,aE,dE]at a;refine⟨a.1.2,λx c=>?_⟩;obtain⟨i,b⟩:=List.getElem?_of_mem c;have:=I0i h b;exact⟨⟨⟨oM,oM⟩,oM⟩,this.2.2⟩
def g0a{g:B0}{u v:Int}{w:List Int}(d:W0 g)(f:0<=u/\u<g.2.1)(i:0<=v/\v<g.2.1)(j:O1 g.1 w):I02 g u w v=some (T1 g u w v):=by
 obtain⟨t,y,p,q⟩:=P2 d;obtain⟨wl,k⟩:=w00 j;have l:=H9 g oM;have m:=Z00 g oM;have b:=h03 g.1 w oM;obtain⟨r,n,es⟩:=g;simp only at p q f i b;have o:i64.wrap (n-1)=n-1:=w64 oM oM;have e:∀ x:Int,0<=x/\x<n->inR 0 (n-1) x:=λx a=>by simp[inR];omega
 have h:=X0o w v r (λx a=>⟨(k x a).1,(k x a).2.1⟩) oM w.length 0 U0 u n es oM (F1 oM) oM oM oM;unfold I02 T1;simp only[l,m,d,oB,bT,bF,G1,zF,o,H03,e u f,e v i,b,j];rw[w64 (show(-9223372036854775808:Int)<=n+((w.length:Nat):Int) by omega) oM,w64 (show(-9223372036854775808:Int)<=n+((w.length:Nat):Int)-1 by omega) oM,w64 (show(-9223372036854775808:Int)<=((es.length:Nat):Int)+((w.length:Nat):Int) by omega) oM];by_cases c:(w≠[]/\n+(w.length:Int)-1<=40)/\es.length+w.length<=120
 ·have s:w.length≠0:=by simpa using c.1.1
  grind
 grind
def s0x{g:B0}(a:W0 g){u:Int}(b:0<=u/\u<g.2.1):G5 g u=some true:=by obtain⟨c,d,e,f⟩:=P2 a;grind[G5,y04,w64,inR]
def h0a{g:B0}{u v:Int}{w:List Int}(a:W0 g)(e:0<=u/\u<g.2.1)(f:0<=v/\v<g.2.1)(i:O1 g.1 w):P03 g u w v=some (T1 g u w v):=by
 obtain⟨y,z,p,q⟩:=P2 a;obtain⟨wl,s⟩:=w00 i;have j:=k01 g oM;have k:=G02 g oM;have b:=i03 g.1 w oM;have l:=s0x a e;have m:=s0x a f;have d:=B05 a;obtain⟨r,n,es⟩:=g;simp only at p q e f b d;have h:=W0o w v r (λx o=>(s x o).1) oM w.length 0 U0 u n es oM (F1 oM) oM oM oM;have t:=P0a v w u n;unfold P03 T1;simp only[j,k,a,oB,bT,bF,G1,zF,l,m];rw[w64 (show(-9223372036854775808:Int)<=n+((w.length:Nat):Int) by omega) oM,w64 (show(-9223372036854775808:Int)<=n+((w.length:Nat):Int)-1 by omega) oM,w64 (show(-9223372036854775808:Int)<=((es.length:Nat):Int)+((w.length:Nat):Int) by omega) oM];by_cases d1:w = [];·subst d1;simp[chk]
 rw[show decide (((w.length:Nat):Int)=0)=false by simp[d1],show(!false)=true from rfl,G1,b,oB,i];by_cases c:n+(w.length:Int)-1<=40/\es.length+w.length<=120;·rw[iE oG,show(0:Int)=((0:Nat):Int) from rfl,h,oB];rw[show(!w.isEmpty&&decide (n+(w.length:Int)-1<=40)&&decide (es.length+w.length<=120))=true by simp[d1,c.1,c.2]];simp only[dZ,cT];rw[P0c _ (by simp;omega),Y0k d];rfl
 grind
def M2(g:B0):B0×Bool:=bif decide (g.2.1<40)then((g.1,g.2.1+1,g.2.2),true)else(g,false)
def Y0b{g:B0}(a:W0 g):w02 g=some (M2 g):=by
 obtain⟨f,h,e,i⟩:=P2 a;have b:=H9 g oM;have d:=Z00 g oM;obtain⟨r,n,es⟩:=g;simp only at e;unfold w02 M2;simp only[b,d,a,oB,bT,zF];by_cases c:n<40;·rw[iE (by simp;omega),w64 oM oM];simp[c]
 grind
def Z0b{g:B0}(a:W0 g):Q03 g=some (M2 g):=by
 obtain⟨f,h,e,i⟩:=P2 a;have b:=k01 g oM;have d:=G02 g oM;obtain⟨r,n,es⟩:=g;simp only at e;unfold Q03 M2;simp only[b,d,a,oB,bT,zF];by_cases c:n<40;·rw[iE (by simp;omega),w64 oM oM];simp[c]
 grind
def Y01{g:B0}(b:W0 g):W0 (M2 g).1:=by
 unfold M2;by_cases c:g.2.1<40
 ·simp only[c,decide_true,cT];obtain⟨d,f,j,h,i⟩:=(O03 g).1 b;refine(O03 _).2 ⟨λe a=>?_,f,?_,h,i⟩;·have:=d e a;simp only;omega
  simp only;omega
 grind
def x0u(es:List Q0)(e:Q0)(j:es.length<=140737488355328):∀(d k fuel:Nat),k+d=es.length->d<fuel -> ∃ a,U1 es e.1 e.2.1 e.2.2 fuel (k:Int)=some a/\((∃ i:Nat,a = .inl (i:Int)/\i<es.length/\e∈es.drop k)∨(a = .inr ()/\e ∉ es.drop k))
 |d,k,0,g,hf=>oM
 |0,k,fuel+1,g,hf=>by simp_all[U1.eq_2,iE,J1]
 |d+1,k,fuel+1,g,hf=>by
  have h:k<es.length:=oM;have f:=V3 h;generalize es[k]=b at f;rw[U1.eq_2,iP (by simp;omega),E2 f,oB,L1 f];simp only[];by_cases c:eqE e b;·rw[iP c];grind[P06,List.mem_cons_self]
  rw[iE c,G2 h oM];obtain⟨a,l,m⟩:=x0u es e j d (k+1) fuel oM oM;grind[P06,mC]
def L0s(es:List Q0)(e:Q0)(b:es.length<=140737488355328):Z3 es e=some (decide (e∈es)):=by
 obtain⟨g,c,a⟩:=x0u es e b es.length 0 U0 oM (F1 b);obtain⟨h,j,k⟩:=e;unfold Z3 T2;simp only;simp only[dZ]at a;rw[show(0:Int)=((0:Nat):Int) from rfl,c];rcases a with⟨i,rfl,d,f⟩|⟨rfl,d⟩;·simp only[oB,Y2];rw[F0 (show I0 ((i:Nat):Int) from⟨oM,oM⟩)];simp[f]
 grind[V0,F0,I0]
def p08(g:B0)(v:Int):List Int->List Q0
 | []=>[]
 |x::r=>(bif decide (S0 g v x<0)then [(v,x,-1)]else [])++p08 g v r
def N09(g:B0):Nat->Nat->List Q0
 |0,_=>[]
 |d+1,v=>p08 g (v:Int) (Y5 g.1.toNat 1)++N09 g d (v+1)
def c0e(g:B0)(v:Int):∀ l,(p08 g v l).length<=l.length
 | []=>Nat.le_refl _
 |x::r=>by have:=c0e g v r;simp only[p08,lA,lC];cases decide (S0 g v x<0)<;>simp<;>omega
def U0q(g:B0)(j:W0 g)(v:Int)(a:List Int)(l:∀ x∈a,C3 x)(n:a.length<=1000):∀(d k fuel:Nat) (acc:List Q0),k+d=a.length->d<fuel->acc.length+d<=100000 -> M4 a g.1 g.2.1 g.2.2 v fuel (k:Int) acc=some (acc++p08 g v (a.drop k))
 |d,k,0,acc,i,hf,f=>oM
 |0,k,fuel+1,acc,i,hf,f=>by simp_all[M4.eq_2,iE,J1,p08]
 |d+1,k,fuel+1,acc,i,hf,f=>by
  obtain⟨p,s,q,t⟩:=P2 j;have c:k<a.length:=oM;have e:=V3 c;have m:=l _ (List.getElem_mem c);generalize a[k]=x at e m;have o:∀ b:List Q0,b.length+d<=100000->M4 a g.1 g.2.1 g.2.2 v fuel ((k+1:Nat):Int) b=some (b++p08 g v (a.drop (k+1))):=λb h=>U0q g j v a l n d (k+1) fuel b oM oM h;rw[M4.eq_2,iP (by simp;omega),E2 e,oB,show(g.1,g.2.1,g.2.2)=g from rfl,m04 g v x m oM,oB,F0 (V02 p q.2 v x),oB,G2 c oM,L1 e,p08];cases decide (S0 g v x<0);·grind
  rw[iP rfl,oB,F0 (by simp;omega),oB,o _ (by simp;omega)];simp
def V0q(g:B0)(j:W0 g)(v:Int)(a:List Int)(l:∀ x∈a,C3 x)(n:a.length<=1000):∀(d k fuel:Nat) (acc:List Q0),k+d=a.length->d<fuel->acc.length+d<=100000 -> N4 a g.1 g.2.1 g.2.2 v fuel (k:Int) acc=some (acc++p08 g v (a.drop k))
 |d,k,0,acc,i,hf,f=>oM
 |0,k,fuel+1,acc,i,hf,f=>by simp_all[N4.eq_2,iE,J1,p08]
 |d+1,k,fuel+1,acc,i,hf,f=>by
  obtain⟨p,s,q,t⟩:=P2 j;have c:k<a.length:=oM;have e:=V3 c;have m:=l _ (List.getElem_mem c);generalize a[k]=x at e m;have o:∀ b:List Q0,b.length+d<=100000->N4 a g.1 g.2.1 g.2.2 v fuel ((k+1:Nat):Int) b=some (b++p08 g v (a.drop (k+1))):=λb h=>V0q g j v a l n d (k+1) fuel b oM oM h;rw[N4.eq_2,iP (by simp;omega),E2 e,oB,show(g.1,g.2.1,g.2.2)=g from rfl,a05 g v x m oM,oB,F0 (V02 p q.2 v x),oB,G2 c oM,L1 e,p08];cases decide (S0 g v x<0);·grind
  rw[iP rfl,F0 (by simp;omega),oB,o _ (by simp;omega)];simp
theorem Q0a:∀(d i:Nat) (x:Int),x∈Y5 d i->∃ a:Nat,i<=a/\a<i+d/\(x=(a:Int)∨x = -(a:Int))
 |0,i,x,h=>by simp[Y5]at h
 |d+1,i,x,h=>by
  simp only[Y5,mE]at h;rcases h with rfl|rfl|h;·grind
  ·grind
  obtain⟨a,b,c,e⟩:=Q0a d (i+1) x h;grind
def W0q(g:B0)(a:H0 g):∀(d k fuel:Nat) (acc:List Q0),k+d=g.2.1.toNat->d<fuel->acc.length+100*d<=10000 -> C6 g.2.1 g.1 g.2.2 fuel (k:Int) acc=some (acc++N09 g d k)
 |d,k,0,acc,c,hf,b=>oM
 |0,k,fuel+1,acc,c,hf,b=>by grind[P0,C6.eq_2,decide,chk,N09]
 |d+1,k,fuel+1,acc,c,hf,b=>by
  obtain⟨q,s,t,u⟩:=P0 a;have e:=((n09 g).1 a).1;obtain⟨R,m⟩:∃ R:Nat,g.1=(R:Int):=⟨g.1.toNat,oM⟩;have f:∀ x∈Y5 g.1.toNat 1,C3 x:=λx h=>by obtain⟨p,i,j,l⟩:=Q0a _ _ _ h;refine⟨⟨oM,oM⟩,oM⟩
  have n:=M03 g.1.toNat 1;have o:=c0e g (k:Int) (Y5 g.1.toNat 1);have h0:=U0q g e (k:Int) (Y5 g.1.toNat 1) f oM (Y5 g.1.toNat 1).length 0 U0 acc oM (F1 oM) oM;rw[C6.eq_2,show decide (((k:Nat):Int)<g.2.1)=true by simp;omega,G1,show(g.1,g.2.1,g.2.2)=g from rfl,N6 g oM,oB,a];rw[iP (show(bif true then true else false)=true from rfl),show M8 g.1=some (Y5 g.1.toNat 1) by grind[Q0o],oB,show(0:Int)=((0:Nat):Int) from rfl,h0,oB,G2 (show k<1000 by omega) oM,W0q g a d (k+1) fuel _ oM oM (by simp;omega),N09];simp
def X0q(g:B0)(a:H0 g):∀(d k fuel:Nat) (acc:List Q0),k+d=g.2.1.toNat->d<fuel->acc.length+100*d<=10000 -> D6 g.2.1 g.1 g.2.2 fuel (k:Int) acc=some (acc++N09 g d k)
 |d,k,0,acc,c,hf,b=>oM
 |0,k,fuel+1,acc,c,hf,b=>by obtain⟨i,j,l,m⟩:=P0 a;rw[D6.eq_2,iE (by simp;omega)];simp[N09]
 |d+1,k,fuel+1,acc,c,hf,b=>by
  obtain⟨i,j,l,m⟩:=P0 a;have e:=((n09 g).1 a).1;obtain⟨R,q⟩:∃ R:Nat,g.1=(R:Int):=⟨g.1.toNat,oM⟩;have f:∀ x∈Y5 g.1.toNat 1,C3 x:=λx h=>by obtain⟨u,n,o,p⟩:=Q0a _ _ _ h;refine⟨⟨oM,oM⟩,oM⟩
  have s:=M03 g.1.toNat 1;have t:=c0e g (k:Int) (Y5 g.1.toNat 1);have h0:=V0q g e (k:Int) (Y5 g.1.toNat 1) f oM (Y5 g.1.toNat 1).length 0 U0 acc oM (F1 oM) oM;rw[D6.eq_2,iP (by simp;omega),show v01 g.1=some (Y5 g.1.toNat 1) by grind[H0s],oB,show(0:Int)=((0:Nat):Int) from rfl,h0,oB,G2 (show k<1000 by omega) oM,X0q g a d (k+1) fuel _ oM oM (by simp;omega),N09];simp
def L01(g:B0):List Q0:=N09 g g.2.1.toNat 0
def n0m{g:B0}(hf:H0 g):G00 g=some (L01 g):=by obtain⟨a,b,c,d⟩:=P0 hf;have h:=W0q g hf g.2.1.toNat 0 U0 [] oM (F1 oM) (by simp;omega);grind[G00,L01]
def o0m{g:B0}(hf:H0 g):H00 g=some (L01 g):=by obtain⟨b,c,d,e⟩:=P0 hf;have h:=X0q g hf g.2.1.toNat 0 U0 [] oM (F1 oM) (by simp;omega);have a:=v00 g oM;simp_all[H00,L01,oB,iE]
def O09{g:B0}(a:W0 g)(u:Int)(w:List Int)(v:Int):(T1 g u w v).1.2.2.length<=120:=by
 have q:=(P2 a).2.2.2;unfold T1;cases hc:(!w.isEmpty&&decide (g.2.1+(w.length:Int)-1<=40)&&decide (g.2.2.length+w.length<=120));·exact q
 simp only[aE,dE]at hc;have b:=r02 (h02 v w u g.2.1) g.2.2;have c:=P0a v w u g.2.1;simp only[cT];omega
theorem M0s(g:Nat):∀(d k:Nat) (x:Int),x∈wo g d k->∃ a:Nat,x=(a:Int)/\k<=a/\a<k+d
 |0,k,x,h=>nomatch h
 |d+1,k,x,h=>by
  unfold wo at h;split at h;·obtain⟨a,b,c,e⟩:=M0s g d (k+1) x h;grind
  rcases mE.1 h with rfl|h;·grind
  obtain⟨a,b,c,e⟩:=M0s g d (k+1) x h;grind
def T06(g:Nat):∀(d k:Nat),(wo g d k).Nodup
 |0,k=>List.nodup_nil
 |d+1,k=>by
  unfold wo;split;·exact T06 g d (k+1)
  refine List.nodup_cons.2 ⟨λh=>?_,T06 g d (k+1)⟩;grind[M0s]
theorem Z0k(P:List Int):∀(es:List Q0),∀ e∈pE P es,∃ a∈es,e=(getI P a.1,a.2.1,getI P a.2.2)/\0<=getI P a.1/\0<=getI P a.2.2
 | [],e,h=>nomatch h
 |b::r,e,h=>by
  unfold pE at h;cases hb:decide (0<=getI P b.1)&&decide (0<=getI P b.2.2);·rw[hb]at h;obtain⟨a,c,d⟩:=Z0k P r e h;grind
  rw[hb]at h;simp only[aE,dE]at hb;rcases mE.1 h with rfl|h;·grind
  obtain⟨a,c,d⟩:=Z0k P r e h;grind
def y0f{g:B0}{o:List Int}(d:W0 g)(l:inV g.2.1.toNat o)(i:1<=o.length)(j:o.length<=40):W0 (A6 g o):=by obtain⟨f,h,q,s⟩:=P2 d;have k:=N0o (plc g.2.1.toNat o) g.2.2;refine R0g h ⟨oM,oM⟩ oM λe c=>?_;obtain⟨a,b,rfl,n,p⟩:=Z0k _ _ e c;have m:=f a b;simp_all[b0e]
def a0l{n:Nat}:∀(o:List Int) (k:Nat) (A:List Int),A.length=n->inV n o->o.Nodup->(∀ x,0<=x->getI A x<(k:Int))->(∀ x y,0<=x->0<=y->0<=getI A x->getI A x=getI A y->x=y) -> ∀ x y,0<=x->0<=y->0<=getI (o04 A k o) x->getI (o04 A k o) x=getI (o04 A k o) y->x=y
 | [],k,A,e,c,f,b,h=>h
 |v::r,k,A,e,c,f,b,h=>by
  have d:=c v mS;refine a0l r (k+1) (A.set v.toNat (k:Int)) (by simp[e]) (λw j=>c w (mC _ j)) (List.nodup_cons.1 f).2 (λx a=>?_) (λx y a i h0 g=>?_);·rw[Y07 d.1 oM a];have:=b x a;split<;>omega
  rw[Y07 d.1 oM a]at h0 g;rw[Y07 d.1 oM i]at g;have l:=b x a;have m:=b y i;by_cases c1:x=v;all_goals grind
theorem S0g{n:Nat}{o:List Int}(d:inV n o)(b:o.Nodup){x y:Int}(a:0<=x)(e:0<=y)(h0:0<=getI (plc n o) x)(c:getI (plc n o) x=getI (plc n o) y):x=y:=by refine a0l o 0 (List.replicate n (-1)) oS d b (λx a=>by rw[Q0c];omega) (λx y _ _ h _=>by grind[Q0c]) x y a e h0 c
def t0x{es:List Q0}(h:es.Pairwise λa b=>F06 a b=false){a b:Q0}(d:a∈es)(e:b∈es)(f:a≠b):F06 a b=false:=by
 induction es with
 |nil=>cases d
 |cons c r g =>grind[List.pairwise_cons,absurd,X0d]
def c0z{es:List Q0}(i:Asc X0 es)(h:∀ a∈es,∀ b∈es,a≠b->F06 a b=false):es.Pairwise λa b=>F06 a b=false:=by
 induction es with
 |nil=>exact .nil
 |cons c r k =>obtain⟨f,g⟩:=List.pairwise_cons.1 i;refine List.pairwise_cons.2 ⟨λb d=>h c mS b (mC _ d) λe=>?_,k g λa j b d=>h a (mC _ j) b (mC _ d)⟩;have:=f b d;rw[e,Q3.refl]at this;omega
def w07{g:B0}(c:W0 g):H0 g↔∀ a∈g.2.2,∀ b∈g.2.2,a≠b->F06 a b=false:=by
 rw[n09,V0h]
 exact⟨λh a d b e f=>t0x h.2 d e f,λh=>⟨c,c0z (graph_asc' c) h⟩⟩
where graph_asc' {g:B0} (h:W0 g):Asc X0 g.2.2:=((O03 g).1 h).2.2.2.2
theorem f05{g:B0}{o:List Int}(hf:H0 g)(u:inV g.2.1.toNat o)(w:o.Nodup)(l:1<=o.length)(m:o.length<=40):H0 (A6 g o):=by
 have f:=Y1 hf;obtain⟨k,C,D,E⟩:=P2 f;refine(w07 (y0f f u l m)).2 λa n b p s=>?_;have mem:∀ e∈(A6 g o).2.2,∃ a∈g.2.2,e=(getI (plc g.2.1.toNat o) a.1,a.2.1,getI (plc g.2.1.toNat o) a.2.2)/\0<=getI (plc g.2.1.toNat o) a.1/\0<=getI (plc g.2.1.toNat o) a.2.2:=λe q=>by
  rcases(O4 Q3 e _ _).1 q with h|h;·cases h
  exact Z0k _ _ e h
 obtain⟨c,i,rfl,x,y⟩:=mem a n;obtain⟨d,j,rfl,z,A⟩:=mem b p;have t:c≠d:=λe=>s (by rw[e]);have v:=(w07 f).1 hf c i d j t;have F:=k c i;have G:=k d j;grind[F06,Bool.and_eq_false_iff,Bool.or_eq_false_iff,decide_eq_false_iff_not,S0g]
def T8:Nat->B0->B0
 |0,g=>g
 |d+1,g=>match J9 g with
  |none=>g
  |some k=>T8 d (A6 g (wo k g.2.1.toNat 0))
def d0e{g:B0}{k:Nat}(h:J9 g=some k):1<=k/\k<g.2.1.toNat:=by have:=T0c _ _ _ h;omega
def L08{g:B0}(a:W0 g){k:Nat}(h:J9 g=some k):inV g.2.1.toNat (wo k g.2.1.toNat 0)/\(wo k g.2.1.toNat 0).length=g.2.1.toNat-1/\1<=(wo k g.2.1.toNat 0).length/\(wo k g.2.1.toNat 0).length<=40:=by obtain⟨d,e,f,i⟩:=P2 a;have c:=d0e h;have b:=V0k k g.2.1.toNat 0;rw[iP oM]at b;grind[J0q]
def m01:∀(d:Nat) {g:B0},H0 g->H0 (T8 d g)
 |0,g,h=>h
 |d+1,g,h=>by
  unfold T8;cases e:J9 g with
  |none=>exact h
  |some k =>obtain⟨a,f,b,c⟩:=L08 (Y1 h) e;exact m01 d (f05 h a (T06 _ _ _) b c)
def b0l(n g:Nat)(i:n<=1000)(u:List Int)(j:u.length=n):∀(d k fuel:Nat) (acc a:List Int),k+d=n->d<fuel->acc.length<=k->a.length<=k -> ∃ v,G7 (n:Int) (g:Int) u fuel (k:Int) acc a=some (acc++wo g d k,v)/\v.length+acc.length=a.length+(acc++wo g d k).length
 |d,k,0,acc,a,h,hf,b,f=>oM
 |0,k,fuel+1,acc,a,h,hf,b,f=>by simp_all[G7.eq_2,iE,wo]
 |d+1,k,fuel+1,acc,a,h,hf,b,f=>by
  have l:=V3 (show k<u.length by omega);generalize u[k]=x at l;rw[G7.eq_2,iP (by simp;omega),G2 (show k<10000 by omega) oM];unfold wo;by_cases c:k=g;·have e:decide ((k:Int)=(g:Int)):=dT oM;rw[e,iE oS,iP c];exact b0l n g i u j d (k+1) fuel acc a oM oM oM oM
  have e:decide ((k:Int)=(g:Int))=false:=dF oM;rw[e,iP (show(!false)=true from rfl),iE c,F0 (by simp;omega),oB,E2 l,oB,F0 (by simp;omega),oB];obtain⟨v,m,o⟩:=b0l n g i u j d (k+1) fuel (acc ++ [(k:Int)]) (a ++ [x]) oM oM (by simp;omega) (by simp;omega);grind
def Y0q(g:B0)(a:W0 g):∀(d k fuel:Nat) (acc:List Int),k+d=g.2.1.toNat->d<fuel->acc.length=k -> ∃ u,B8 g.2.1 g.1 g.2.2 fuel (k:Int) acc=some u/\u.length=g.2.1.toNat
 |d,k,0,acc,c,hf,b=>oM
 |0,k,fuel+1,acc,c,hf,b=>by grind[P2,B8.eq_2,decide,chk]
 |d+1,k,fuel+1,acc,c,hf,b=>by obtain⟨h,i,j,l⟩:=P2 a;obtain⟨u,e,f⟩:=Y0q g a d (k+1) fuel (acc ++ [(k:Int)]) oM oM (by simp;omega);rw[B8.eq_2,show decide (((k:Nat):Int)<g.2.1)=true by simp;omega,G1,show(g.1,g.2.1,g.2.2)=g from rfl,H9 g oM,oB,a];rw[iP (show(bif true then true else false)=true from rfl),F0 (by simp;omega),oB,G2 (show k<1000 by omega) oM,e];exact⟨u,rfl,f⟩
def Z0q(f:B0)(n:W0 f):∀(d k fuel:Nat) (g:B0) (u:List Int),k+d=40->d<fuel->W0 g->u.length=g.2.1.toNat->g.2.1.toNat<=d+1 -> ∃ v,(A8 f.1 f.2.1 f.2.2 fuel u (k:Int) g.1 g.2.1 g.2.2).bind (λy=>T9 y (λx=>match x with|(a,b,c,e)=>some ((b,c,e),a)))=some (T8 d g,v)
 |d,k,0,g,u,q,hf,h,w,s=>oM
 |0,k,fuel+1,g,u,q,hf,h,w,s=>by rw[A8.eq_2,show decide (((k:Nat):Int)<40)=false by simp;omega];simp_all[chk,T9,T8]
 |d+1,k,fuel+1,g,u,q,hf,h,w,s=>by
  obtain⟨H,I,J,K⟩:=P2 n;obtain⟨L,M,O,P⟩:=P2 h;have D:=p0x g h;rw[A8.eq_2,show decide (((k:Nat):Int)<40)=true by simp;omega,G1,show(f.1,f.2.1,f.2.2)=f from rfl,H9 f oM,oB,n];rw[iP (show(bif true then true else false)=true from rfl),show(g.1,g.2.1,g.2.2)=g from rfl,D];unfold T8;cases e:J9 g with
  |none =>simp only[oB];rw[F0 (show I0 (-1) from⟨oM,oM⟩),oB,iP oS];exact⟨u,rfl⟩
  |some i =>obtain⟨o,A,m,C⟩:=L08 h e;have G:=d0e e;obtain⟨N,l⟩:∃ N:Nat,g.2.1=(N:Int):=⟨g.2.1.toNat,oM⟩;have j:g.2.1.toNat=N:=oM;obtain⟨v,w1,F⟩:=b0l N i oM u oM N 0 U0 [] [] oM (F1 oM) (Nat.le_refl _) (Nat.le_refl _);have t:=w0f g.1 N g.2.2 (wo i N 0) (by rw[←l];exact h) (by rw[←j];exact o) (T06 _ _ _) (by rw[←j];exact m) (by rw[←j];omega);rw[←l,show(g.1,g.2.1,g.2.2)=g from rfl]at t;have p:=y0f h o m C;rw[j]at p A m;obtain⟨E,z⟩:=Z0q f n d (k+1) fuel (A6 g (wo i N 0)) v oM oM p (by simp only[nA,lN]at F;show v.length=((wo i N 0).length:Int).toNat;omega) (by show((wo i N 0).length:Int).toNat<=d+1;omega);simp only[oB];rw[F0 (show I0 ((i:Nat):Int) from⟨oM,oM⟩),oB,iE oS,l,show(0:Int)=((0:Nat):Int) from rfl,w1];simp only[oB,nA];rw[←l,t];simp only[oB];rw[G2 (show k<1000 by omega) oM,j];exact⟨E,z⟩
def i0a(g:B0):B0:=T8 40 g
def c0l{g:B0}(a:W0 g):∃ v,R03 g=some (i0a g,v):=by obtain⟨f,h,i,j⟩:=P2 a;have e:=Z00 g oM;obtain⟨u,b,d⟩:=Y0q g a g.2.1.toNat 0 U0 [] oM (F1 oM) rfl;obtain⟨v,c⟩:=Z0q g a 40 0 U0 g u rfl (F1 oM) a d oM;refine⟨v,?_⟩;obtain⟨r,n,es⟩:=g;unfold R03;simp only[e,oB];simp only at b c;rw[show(0:Int)=((0:Nat):Int) from rfl,b,oB];exact c
def a0r:∀(n fuel d:Nat) (left:List Int) (r:Int) (es:List Q0),1<=n->n<=40->inN n es->es.length<=120->left.length=n->n<fuel->n<=d+1 -> ∃ f,F7 fuel left r (n:Int) es=some (.inl (T8 d (r,(n:Int),es),f))
 |n,0,d,left,r,es,i,j,b,A,C,hf,z=>oM
 |n,fuel+1,d,left,r,es,i,j,b,A,C,hf,z=>by
  obtain⟨c,w,lS,x⟩:=D0q r n es b oM i oM;have s:=R0o r n es oM c lS j (n-1) 1 U0 (Nat.le_refl _) oM oM (F1 oM);have y:lf (λv=>decide (Z02 (v:Int) es<2) || !A03 c (v:Int)) (n-1) 1=lf (N0a es) (n-1) 1:=U0k _ _ λk I J=>by
   unfold N0a;have:=x (k:Int) oM oM;have l:=Q06 es 0 (k:Int);congr 2;cases hb:A03 c (k:Int);·symm;exact dF λh=>by rw[this.2 (l.1 h)]at hb;cases hb
   symm;exact dT (l.2 (this.1 hb))
  rw[y]at s;have m:J9 (r,(n:Int),es)=lf (N0a es) (n-1) 1:=by simp only[J9,iN]
  rw[F7.eq_2,w,oB,show(1:Int)=((1:Nat):Int) from rfl,s,oB];cases hlf:lf (N0a es) (n-1) 1 with
  |none =>
   have g:T8 d (r,(n:Int),es)=(r,(n:Int),es):=by
    cases d with
    |zero=>rfl
    |succ d=>unfold T8;rw[m,hlf]
   simp_all
  |some k =>
   have G:=T0c _ _ _ hlf;have u:decide ((k:Int)=0)=false:=dF oM;have p:=J0q k n n 0 oM;have o:=V0k k n 0;rw[iP oM]at o;have q:=S0o n k oM n 0 U0 [] oM (F1 oM) (Nat.le_refl _);rw[show((0:Nat):Int)=0 from rfl,(nA)]at q;have D:=O0o r n es (wo k n 0) b p oM oM oM;have E:=v0f (r,(n:Int),es) (wo k n 0);have H:=h0n (r:=r) p b;have F:i64.wrap ((k:Int)+((1:Nat):Int))=((k+1:Nat):Int):=by grind[w64]
   obtain⟨a,rfl⟩:∃ a,d=a+1:=⟨d-1,oM⟩;have e:A6 (r,(n:Int),es) (wo k n 0)=(r,((n-1:Nat):Int),(A6 (r,(n:Int),es) (wo k n 0)).2.2):=by rw[←o];rfl
   obtain⟨f,t⟩:=a0r (n-1) fuel a (left.take k++left.drop (k+1)) r (A6 (r,(n:Int),es) (wo k n 0)).2.2 oM oM oG (by simp only at E;omega) oG oM oM;refine⟨f,?_⟩;rw[←e]at t;have g:T8 (a+1) (r,(n:Int),es)=T8 a (A6 (r,(n:Int),es) (wo k n 0)):=by show(match J9 (r,(n:Int),es)with|none=>(r,(n:Int),es)|some k=>T8 a (A6 (r,(n:Int),es) (wo k ((n:Int)).toNat 0)))=_;rw[m,hlf,(iN)]
   rw[g];simp only[u,fT,if_false,q,oB,D];generalize A6 (r,(n:Int),es) (wo k n 0)=gp at *;rw[e];simp only[F];rw[O0a oM,oB,n04 oM,oB,F0 oG,oB,t,←e]
def N0i{g:B0}(f:W0 g):∃ v,a00 g=some (i0a g,v):=by obtain⟨b,i,j,c⟩:=P2 f;have m:=k01 g oM;have k:=G02 g oM;obtain⟨r,n,es⟩:=g;simp only at i j c;obtain⟨N,rfl⟩:∃ N:Nat,n=(N:Int):=⟨n.toNat,oM⟩;have l:inN N es:=λe d=>⟨(b e d).1,(b e d).2.1⟩;obtain⟨u,a,h⟩:=T0o N oM N 0 U0 [] oM (F1 oM) rfl;obtain⟨o,p⟩:=a0r N U0 40 u r es oM oM l c h (F1 oM) oM;refine⟨o,?_⟩;unfold a00;rw[show((0:Nat):Int)=0 from rfl]at a;simp only[k,oB,m,f,bT,fT,if_false,a,p,T9];rfl
def S03(g:B0):B0:=R3 (i0a g)
def E0b{g:B0}(hf:H0 g):N8 g=(g,[]):=by obtain⟨a,b⟩:=(n09 g).1 hf;unfold N8;rw[a];show z03 40 g=_;unfold z03;rw[b]
def N0s{g:B0}(hf:H0 g):R7 g=some (S03 g):=by have a:=Y1 hf;obtain⟨e,f,h,i⟩:=P2 a;have b:=U0e g oM;rw[E0b hf]at b;obtain⟨v,c⟩:=c0l a;have d:=S0c (i0a g) (m01 40 hf);grind[R7,S03]
def O0s{g:B0}(hf:H0 g):S7 g=some (S03 g):=by have a:=Y1 hf;obtain⟨e,f,h,i⟩:=P2 a;have b:=V0e g oM;rw[E0b hf]at b;obtain⟨v,c⟩:=N0i a;have d:=R0c (i0a g) (m01 40 hf);grind[S7,S03]
def u0x{N r u x v:Int}(a:0<=u/\u<N)(b:0<=v/\v<N)(c:x≠0 /\ -r<=x/\x<=r):(0<=(stp u x v).1/\(stp u x v).1<N)/\(0<=(stp u x v).2.2/\(stp u x v).2.2<N)/\1<=(stp u x v).2.1/\(stp u x v).2.1<=r:=by unfold stp;split<;>(simp only;omega)
def b0r{N r v:Int}(f:0<=v/\v<N):∀(w:List Int) (u n:Int),(0<=u/\u<N)->0<=n->n+((w.length-1:Nat):Int)<=N->(∀ x∈w,x≠0 /\ -r<=x/\x<=r) -> ∀ e∈h02 v w u n,(0<=e.1/\e.1<N)/\(0<=e.2.2/\e.2.2<N)/\1<=e.2.1/\e.2.1<=r
 | [],u,n,c,h0,d,b,e,a=>nomatch a
 | [x],u,n,c,h0,d,b,e,a=>by simp only[h02,List.mem_singleton]at a;subst a;exact u0x c f (b x mS)
 |x::y::l,u,n,c,h0,d,b,e,a=>by
  simp only[lC]at d;simp only[h02]at a;rcases mE.1 a with rfl|a;·exact u0x c ⟨h0,oM⟩ (b x mS)
  exact b0r f (y::l) n (n+1) ⟨h0,oM⟩ oM oG (λz g=>b z (mC _ g)) e a
def r00{g:B0}{u v:Int}{w:List Int}(b:W0 g)(o:0<=u/\u<g.2.1)(p:0<=v/\v<g.2.1)(c:O1 g.1 w):W0 (T1 g u w v).1:=by
 obtain⟨f,i,q,s,j⟩:=(O03 g).1 b;obtain⟨wl,k⟩:=w00 c;unfold T1;cases hc:(!w.isEmpty&&decide (g.2.1+(w.length:Int)-1<=40)&&decide (g.2.2.length+w.length<=120));·exact b
 simp only[aE,dE,Bool.not_eq_true',List.isEmpty_eq_false_iff]at hc;have n:1<=w.length:=by grind
 have l:=r02 (h02 v w u g.2.1) g.2.2;have m:=P0a v w u g.2.1;simp only[cT];refine(O03 _).2 ⟨λe a=>?_,i,⟨by simp only;omega,by simp only;omega⟩,by simp only;omega,s03 Q3 _ _ j⟩;simp only at a ⊢;rcases(O4 Q3 e _ _).1 a with h|h;·have:=f e h;omega
 exact b0r ⟨oM,oM⟩ w u g.2.1 ⟨oM,oM⟩ oM (iR _) (λx d=>(k x d).2) e h
theorem q04(g:B0)(u:Int)(w:List Int)(v:Int):(T1 g u w v).1.1=g.1:=by unfold T1;cases (!w.isEmpty&&decide (g.2.1+(w.length:Int)-1<=40)&&decide (g.2.2.length+w.length<=120))<;>rfl
def a08:List (List Int)->B0->B0
 | [],g=>g
 |w::r,g=>a08 r (T1 g 0 w 0).1
theorem O0i:∀(ws:List (List Int)) {g:B0},W0 g->(∀ w∈ws,O1 g.1 w)->W0 (a08 ws g)
 | [],g,a,b=>a
 |w::r,g,a,b=>by obtain⟨d,e,f,h⟩:=P2 a;exact O0i r (r00 a ⟨iR _,oM⟩ ⟨iR _,oM⟩ (b w mS)) λi c=>by grind[q04,mC]
def P0i{g:B0}{w:List Int}(a:W0 g)(b:O1 g.1 w):b03 g w=some (T1 g 0 w 0):=by obtain⟨c,d,e,f⟩:=P2 a;have h:=g0a a (u:=0) (v:=0) ⟨iR _,oM⟩ ⟨iR _,oM⟩ b;grind[b03]
def Q0i{g:B0}{w:List Int}(a:W0 g)(b:O1 g.1 w):c03 g w=some (T1 g 0 w 0):=by obtain⟨c,d,e,f⟩:=P2 a;have h:=h0a a (u:=0) (v:=0) ⟨iR _,oM⟩ ⟨iR _,oM⟩ b;grind[c03]
def n0n(ws:List (List Int))(i:ws.length<=1000):∀(d k fuel:Nat) (g:B0),k+d=ws.length->d<fuel->W0 g->(∀ w∈ws,O1 g.1 w) -> p9 ws fuel (k:Int) g.1 g.2.1 g.2.2=some (a08 (ws.drop k) g)
 |d,k,0,g,h,hf,a,c=>oM
 |0,k,fuel+1,g,h,hf,a,c=>by rw[p9.eq_2,iE (by simp;omega),J1 oM];rfl
 |d+1,k,fuel+1,g,h,hf,a,c=>by have b:k<ws.length:=oM;have f:=V3 b;have e:=c _ (List.getElem_mem b);generalize ws[k]=w at f e;obtain⟨l,m,n,o⟩:=P2 a;have j:=n0n ws i d (k+1) fuel (T1 g 0 w 0).1 oM oM (r00 a ⟨iR _,oM⟩ ⟨iR _,oM⟩ e) (by simp_all[q04]);rw[p9.eq_2,iP (by simp;omega),E2 f,oB,show(g.1,g.2.1,g.2.2)=g from rfl,P0i a e,oB,G2 b oM,L1 f];exact j
def o0n(ws:List (List Int))(m:ws.length<=1000):∀(d k fuel:Nat) (g:B0),k+d=ws.length->d<fuel->W0 g->(∀ w∈ws,O1 g.1 w) -> l8 ws fuel (k:Int) g.1 g.2.1 g.2.2=some (a08 (ws.drop k) g)
 |d,k,0,g,l,hf,a,f=>oM
 |0,k,fuel+1,g,l,hf,a,f=>by rw[l8.eq_2,iE (by simp;omega),J1 oM];rfl
 |d+1,k,fuel+1,g,l,hf,a,f=>by
  have b:k<ws.length:=oM;have i:=V3 b;have h:=f _ (List.getElem_mem b);generalize ws[k]=w at i h;obtain⟨n,o,p,q⟩:=P2 a;have j:=o0n ws m d (k+1) fuel (T1 g 0 w 0).1 oM oM (r00 a ⟨iR _,oM⟩ ⟨iR _,oM⟩ h) (by simp_all[q04]);rw[l8.eq_2,iP (by simp;omega),E2 i,oB,G2 b oM,L1 i];by_cases c:w = [];·subst c;rw[iE oS];have e:(T1 g 0 [] 0).1=g:=rfl;rw[e]at j;rw[j];show _=some (a08 (ws.drop (k+1)) (T1 g 0 [] 0).1);rw[e]
  have:0<w.length:=List.length_pos_iff.2 c;rw[iP (by simp;omega),show(g.1,g.2.1,g.2.2)=g from rfl,Q0i a h,oB];exact j
def R0a(r:Int)(ws:List (List Int)):B0×Bool:=bif O2 r ws then(a08 ws (r,1,[]),true)else((0,0,[]),false)
def x07{r:Int}{ws:List (List Int)}(h:O2 r ws):(1<=r/\r<=3)/\ws.length<=6/\∀ w∈ws,O1 r w:=by
 simp only[O2,inR,aE,dE]at h;refine⟨h.1.1.1,h.1.1.2,?_⟩;have a:∀ {ws:List (List Int)},E0g r ws->∀ w∈ws,O1 r w:=by
  intro ws;induction ws with
  |nil=>intro _ w a;cases a
  |cons v l b =>simp_all[E0g,aE,mE]
 exact a h.1.2
theorem e0e{r:Int}(b:1<=r/\r<=3):W0 (r,1,[]):=(O03 _).2 ⟨(λe a=>by cases a),b,⟨oS,oS⟩,oS,List.Pairwise.nil⟩
def Y0o(r:Int)(ws:List (List Int))(b:ws.length<=140737488355328)(d:Y8 ws):A04 r ws=some (R0a r ws):=by
 have a:=i09 r ws b d;unfold A04 R0a;rw[a,oB];cases hA:O2 r ws;·rfl
 obtain⟨c,f,e⟩:=x07 hA;have h:=n0n ws oM ws.length 0 U0 (r,1,[]) oM (F1 oM) (e0e c) e;simp_all[f06,H03,oB,iE,inR]
def Z0o(r:Int)(ws:List (List Int))(b:ws.length<=140737488355328)(d:Y8 ws):C04 r ws=some (R0a r ws):=by
 have a:=k09 r ws b d;unfold C04 R0a;rw[a,oB];cases hA:O2 r ws;·rfl
 obtain⟨c,f,e⟩:=x07 hA;have h:=o0n ws oM ws.length 0 U0 (r,1,[]) oM (F1 oM) (e0e c) e;simp_all[g06,y04,oB,iE,inR]
theorem o09:∀(d:Nat) {g:B0},W0 g->g.2.1.toNat<=d+1->J9 (T8 d g)=none
 |0,g,a,h=>by
  cases e:J9 g with
  |none=>exact e
  |some k=>have:=d0e e;omega
 |d+1,g,a,h=>by
  unfold T8;cases e:J9 g with
  |none=>exact e
  |some k =>obtain⟨b,i,c,f⟩:=L08 a e;exact o09 d (y0f a b c f) (by show(((wo k g.2.1.toNat 0).length:Nat):Int).toNat<=d+1;omega)
theorem L0v{g:B0}(hf:H0 g){v x y z:Int}(q:y∈w01 v x g.2.2)(s:z∈w01 v x g.2.2):y=z:=by
 obtain⟨e,o,l⟩:=U2.1 q;obtain⟨k,p,m⟩:=U2.1 s;by_cases hne:e=k;·subst hne;rcases l with⟨a,b,c,rfl⟩|⟨a,b,c,rfl⟩<;>rcases m with⟨h,i,j,rfl⟩|⟨h,i,j,rfl⟩<;>first|rfl|omega
 have f:=(w07 (Y1 hf)).1 hf e o k p hne;unfold F06 at f;simp only[Bool.and_eq_false_iff,Bool.or_eq_false_iff,decide_eq_false_iff_not]at f;rcases l with⟨a,b,c,d⟩|⟨a,b,c,d⟩<;>rcases m with⟨h,i,j,n⟩|⟨h,i,j,n⟩<;>first|omega|(exfalso;rcases f with f|⟨t,u⟩<;>omega)
theorem r04(g:B0)(v x:Int):(S0 g v x = -1/\w01 v x g.2.2 = [])∨S0 g v x∈w01 v x g.2.2:=by
 unfold S0;cases e:e06 g v x with
 |nil =>simp_all[List.eq_nil_iff_forall_not_mem,e06,O4,T05]
 |cons a l=>grind[Z0m,List.mem_cons_self]
def K07{g:B0}(hf:H0 g){v x y:Int}(a:y∈w01 v x g.2.2):S0 g v x=y:=by grind[r04,L0v]
def p09:∀(d i e:Nat),i<=e->e<i+d->(e:Int)∈Y5 d i /\ -(e:Int)∈Y5 d i
 |0,i,e,f,g=>oM
 |d+1,i,e,f,g=>by
  simp only[Y5,mE];by_cases c:e=i;·subst c;simp
  obtain⟨a,b⟩:=p09 d (i+1) e oM oM;grind
theorem p0n(g:B0)(v:Int):∀(b u:List Int) (x:Int),x∈b->0<=S0 g v x->S0 g v x∈h04 g v b u
 |y::r,u,x,a,h0=>by
  rw[h04];rcases mE.1 a with rfl|a;·obtain⟨t,e⟩:=y06 g v r (f0a u (S0 g v x));rw[e];refine List.mem_append_left _ ?_;grind[f0a,List.mem_append_right,List.mem_singleton,S0,absurd]
  exact p0n g v r _ x a h0
def z0f(g:B0)(a:List Int):∀(f i:Nat) (u:List Int),∃ t,Q9 g a f i u=u++t
 |0,i,u=>⟨[],by simp[Q9]⟩
 |f+1,i,u=>by
  unfold Q9;split;·rename_i v _;obtain⟨d,b⟩:=y06 g v a u;obtain⟨e,c⟩:=z0f g a f (i+1) (h04 g v a u);grind
  simp_all
theorem d0l{r:Int}{n:Nat}{es:List Q0}(d:inG (r,(n:Int),es))(a:List Int):∀(f i:Nat) (u:List Int),gud n u->n+1<=f+i->i<=u.length ->
  (∀ c,c<i->∀ v,u[c]?=some v->∀ x∈a,0<=S0 (r,(n:Int),es) v x->S0 (r,(n:Int),es) v x∈u) ->
  ∀ v∈Q9 (r,(n:Int),es) a f i u,∀ x∈a,0<=S0 (r,(n:Int),es) v x->S0 (r,(n:Int),es) v x∈Q9 (r,(n:Int),es) a f i u
 |0,i,u,b,j,h,g=>by have:=I9 n u b.1 b.2;omega
 |f+1,i,u,b,j,h,g=>by
  unfold Q9
  cases e:u[i]? with
  |none =>
   grind[List.getElem?_eq_none_iff,S0,List.getElem?_of_mem,List.getElem?_eq_some_iff]
  |some w =>
   have l:=(List.getElem?_eq_some_iff.1 e).1
   obtain⟨t,k⟩:=y06 (r,(n:Int),es) w a u
   refine d0l d a f (i+1) _ (v07 d w a u b) (by omega) (by grind) λc m v o x p h0=>?_
   grind[List.getElem?_append_left,p0n,List.mem_append_left]
def q09(g:B0):∃ t,l3 g=0::t:=by obtain⟨t,e⟩:=z0f g (Y5 g.1.toNat 1) (g.2.1.toNat+1) 0 [0];exact⟨t,e⟩
def R0i{g:B0}(hf:H0 g){x:Int}(h:Rch g.2.2 0 x):x∈l3 g:=by
 obtain⟨d,f,i,t⟩:=P0 hf;have m:=q09 g;have j:∀ v∈l3 g,∀ x∈Y5 g.1.toNat 1,0<=S0 g v x->S0 g v x∈l3 g:=by obtain⟨r,n,es⟩:=g;simp only at f i;obtain⟨N,rfl⟩:∃ N:Nat,n=(N:Int):=⟨n.toNat,oM⟩;exact d0l d _ (((N:Int)).toNat+1) 0 [0] ⟨oS,λx l=>oG⟩ oG (Nat.zero_le _) (λa c=>oM)
 refine Rch.sub (P:=λx=>x∈l3 g) ?_ (λe b=>?_) h;·grind
 have k:=d e b;obtain⟨a,c⟩:∃ a:Nat,e.2.1=(a:Int):=⟨e.2.1.toNat,oM⟩;obtain⟨o,p⟩:=p09 g.1.toNat 1 a oM oM;have q:S0 g e.1 (a:Int)=e.2.2:=K07 hf (U2.2 ⟨e,b,.inl ⟨oM,c,rfl,rfl⟩⟩);have s:S0 g e.2.2 (-(a:Int))=e.1:=K07 hf (U2.2 ⟨e,b,.inr ⟨oM,oM,rfl,rfl⟩⟩);constructor;all_goals grind
def F0b{a:Nat->Bool}:∀ {d v:Nat},lf a d v=none->∀ k,v<=k->k<v+d->a k=false
 |0,v,h,k,b,e=>oM
 |d+1,v,h,k,b,e=>by
  unfold lf at h;cases hb:a v
  ·rw[hb]at h;by_cases c:k=v;·rw[c];exact hb
   exact F0b (d:=d) (v:=v+1) h k oM oM
  rw[hb]at h;cases h
def e0l{a:Nat->Bool}:∀ {d v:Nat},(∀ k,v<=k->k<v+d->a k=false)->lf a d v=none
 |0,v,h=>rfl
 |d+1,v,h=>by unfold lf;rw[h v (Nat.le_refl _) oM];exact e0l λk b c=>h k oM oM
theorem S0a{g:B0}(hf:H0 g)(b:J9 g=none){x:Int}(h0:0<=x)(d:x<g.2.1):x∈l3 g:=by
 refine R0i hf ?_;by_cases c:x=0;·subst c;exact .base
 have:=F0b b x.toNat oM oM;unfold N0a at this;simp only[Bool.or_eq_false_iff,Bool.not_eq_false',dE]at this;have a:=this.2;rw[show((x.toNat:Nat):Int)=x by omega]at a;exact(Q06 _ _ _).1 a
def q0n{n:Nat}:∀(o:List Int) (k:Nat) (A:List Int),A.length=n->inV n o->o.Nodup->∀(i:Nat) (v:Int),o[i]?=some v->getI (o04 A k o) v=((k+i:Nat):Int)
 | [],k,A,c,b,f,i,v,a=>by simp at a
 |w::r,k,A,c,b,f,i,v,a=>by
  have e:=b w mS;obtain⟨g,h⟩:=List.nodup_cons.1 f;cases i with
  |zero =>simp at a;subst a;rw[o04,Q0k r _ _ w (by simp[c]) (λu d=>b u (mC _ d)) e.1 g,Y07 e.1 oM e.1,iP rfl];rfl
  |succ i =>rw[o04,q0n r (k+1) _ (by simp[c]) (λu d=>b u (mC _ d)) h i v (by simpa using a)];omega
theorem W0c{n:Nat}{o:List Int}(c:inV n o)(a:o.Nodup){i:Nat}{v:Int}(b:o[i]?=some v):getI (plc n o) v=(i:Int):=by have:=q0n o 0 (List.replicate n (-1)) oS c a i v b;rw[Nat.zero_add]at this;exact this
def W0h(P:List Int):∀(es:List Q0),(∀ e∈es,0<=getI P e.1/\0<=getI P e.2.2)->pE P es=es.map λe=>(getI P e.1,e.2.1,getI P e.2.2)
 | [],h=>rfl
 |e::r,h=>by have a:=h e mS;unfold pE;rw[show(decide (0<=getI P e.1)&&decide (0<=getI P e.2.2))=true by simp[a.1,a.2],W0h P r λb c=>h b (mC _ c)];rfl
def r0n(e:Q0):∀ {l:List Q0},e ∉ l->(D02 X0 e l).Perm (e::l)
 | [],_=>List.Perm.refl _
 |y::l,h=>by
  have d:=r0n e (l:=l) λa=>h (mC _ a);unfold D02;split;·exact List.Perm.refl _
  split;·rename_i c;exact absurd (Q3.eq _ _ c) λb=>h oG
  grind
def S0i:∀(r acc:List Q0),(acc++r).Nodup->(H4 X0 acc r).Perm (acc++r)
 | [],acc,h=>by simp[H4]
 |x::r,acc,h=>by have a:(acc++x::r).Perm (x::(acc++r)):=List.perm_middle;have b:=a.nodup_iff.1 h;have f:x ∉ acc:=λd=>(List.nodup_cons.1 b).1 (List.mem_append_left _ d);have e:=r0n x f;have c:(D02 X0 x acc++r).Perm (x::(acc++r)):=e.append_right r;rw[H4];exact((S0i r _ (c.nodup_iff.2 b)).trans c).trans a.symm
def M0v(v:Int){l a:List Q0}(h:l.Perm a):Z02 v l=Z02 v a:=by
 induction h with
 |nil=>rfl
 |cons x _ d=>simp only[Z02,d]
 |swap x y l=>simp only[Z02];omega
 |trans _ _ b c=>rw[b,c]
def c0r{φ:Int->Int}{v:Int}:∀(es:List Q0),(∀ e∈es,(φ e.1=φ v↔e.1=v)/\(φ e.2.2=φ v↔e.2.2=v))->Z02 (φ v) (es.map λe=>(φ e.1,e.2.1,φ e.2.2))=Z02 v es
 | [],h=>rfl
 |e::r,h=>by obtain⟨c,d⟩:=h e mS;have f:=c0r r λa b=>h a (mC _ b);simp_all[List.map_cons,Z02,g08,iP,iE]
def a0p:∀(m:Nat) (o:List Int),(∀ i:Nat,i<m->(i:Int)∈o)->m<=o.length
 |0,o,h=>Nat.zero_le _
 |m+1,o,h=>by have c:=h m oM;have a:=a0p m (o.erase (m:Int)) λi b=>(List.mem_erase_of_ne oM).2 (h i oM);grind
def M08{es:List Q0}(c:Asc X0 es):es.Nodup:=by refine List.Pairwise.imp (λ{a b} h e=>?_) c;rw[e,Q3.refl]at h;omega
def d0r{es:List Q0}(a:Asc X0 es):H4 X0 [] es=es :=
 C0b Q3 (s03 Q3 _ _ .nil) a λx=>by rw[O4 Q3];simp
def P0s{t:B0}(hf:H0 t)(aa:J9 t=none):D1 (R3 t):=by
 have an:=Y1 hf;obtain⟨F,aV,aW,aX⟩:=P0 hf;have ah:=B05 an;obtain⟨⟨J,D⟩,ay⟩:=z05 hf;have ar:=I9 _ _ J D;have X:∀ x:Int,0<=x->x<t.2.1->x∈l3 t:=λx h0 d=>S0a hf aa h0 d;obtain⟨aY,aC⟩:=q09 t;obtain⟨n,aw⟩:∃ n:Nat,t.2.1=(n:Int):=⟨t.2.1.toNat,oM⟩;have T:t.2.1.toNat=n:=oM;rw[T]at D ar;have ad:(l3 t).length=n:=by have:=a0p n (l3 t) λi K=>X _ oM oM;omega
 let P:Int->Int:=getI (plc n (l3 t))
 have O:∀(i:Nat) (v:Int),(l3 t)[i]?=some v->P v=(i:Int):=λi v K=>W0c D J K;have V:∀ x:Int,0<=x->x<t.2.1->0<=P x/\P x<(n:Int):=λx h0 d=>by obtain⟨i,K⟩:=List.getElem?_of_mem (X x h0 d);grind
 have A:∀ x y:Int,0<=x->x<t.2.1->0<=y->y<t.2.1->P x=P y->x=y:=λx y h0 d m aL h=>S0g D J h0 m (V x h0 d).1 h;have Q:P 0=0:=O 0 0 (by rw[aC];rfl);have az:pE (plc n (l3 t)) t.2.2=t.2.2.map λe=>(P e.1,e.2.1,P e.2.2):=W0h _ _ λe g=>by have:=F e g;grind
 have I:R3 t=(t.1,(n:Int),H4 X0 [] (t.2.2.map λe=>(P e.1,e.2.1,P e.2.2))):=by unfold R3 A6;rw[T,az,ad]
 have ao:∀ e∈t.2.2,∀ j∈t.2.2,((P e.1,e.2.1,P e.2.2):Q0)=(P j.1,j.2.1,P j.2.2)->e=j:=λe g j R h=>by have a:=F e g;have b:=F j R;simp only[Prod.mk.injEq]at h;have d:=A _ _ a.1.1 a.1.2 b.1.1 b.1.2 h.1;have m:=A _ _ a.2.1.1 a.2.1.2 b.2.1.1 b.2.1.2 h.2.2;obtain⟨aH,G,U⟩:=e;obtain⟨aJ,aK,f2⟩:=j;simp only at d m h;rw[d,m,h.2.1]
 have av:(t.2.2.map λe=>((P e.1,e.2.1,P e.2.2):Q0)).Nodup:=by have:=M08 ah;rw[List.Nodup,List.pairwise_map];exact List.Pairwise.imp_of_mem (λ{a b} ak C h e=>h (ao a ak b C e)) this
 have L:∀ j,j∈(R3 t).2.2↔∃ e∈t.2.2,j=(P e.1,e.2.1,P e.2.2):=λj=>by rw[I];simp only;rw[O4 Q3];simp only[List.not_mem_nil,false_or,List.mem_map];exact⟨λ⟨e,d,m⟩=>⟨e,d,m.symm⟩,λ⟨e,d,m⟩=>⟨e,d,m.symm⟩⟩
 have H:H0 (R3 t):=f05 hf (by rw[T];exact D) J ay oM;have Y:=Y1 H;have M:(R3 t).2.1=(n:Int):=by rw[I]
 have aN:∀ v:Int,0<=v->v<t.2.1->Z02 (P v) (R3 t).2.2=Z02 v t.2.2:=λv h0 d=>by rw[I];simp only;rw[M0v _ (S0i _ [] (by simpa using av)),(nA)];refine c0r _ λe g=>?_;have:=F e g;exact⟨⟨λh=>A _ _ this.1.1 this.1.2 h0 d h,λh=>by rw[h]⟩,⟨λh=>A _ _ this.2.1.1 this.2.1.2 h0 d h,λh=>by rw[h]⟩⟩
 have aB:∀ x,Rch t.2.2 0 x->Rch (R3 t).2.2 0 (P x):=λx p =>
  Rch.sub (P:=λx=>Rch (R3 t).2.2 0 (P x)) (by show Rch _ 0 (P 0);rw[Q];exact .base) (λe g=>Rch.closed (P e.1,e.2.1,P e.2.2) ((L _).2 ⟨e,g,rfl⟩)) p
 have aq:J9 (R3 t)=none:=by
  unfold J9;refine e0l λk aU aF=>?_;rw[M,(iN)]at aF;obtain⟨v,E⟩:∃ v,(l3 t)[k]?=some v:=⟨_,gG oM⟩;have aS:=D v (mG E);have W:=O k v E;have aR:v≠0:=λh=>by rw[h,Q]at W;omega
  have C:=F0b aa v.toNat oM oM;unfold N0a at C ⊢;rw[show((v.toNat:Nat):Int)=v by omega]at C;simp only[Bool.or_eq_false_iff,Bool.not_eq_false',dE,decide_eq_false_iff_not]at C ⊢;refine⟨?_,?_⟩;·grind
  rw[←W];exact(Q06 _ _ _).2 (aB v ((Q06 _ _ _).1 C.2))
 have ax:∀ v x:Int,0<=v->v<t.2.1->(S0 t v x = -1/\S0 (R3 t) (P v) x = -1)∨((0<=S0 t v x/\S0 t v x<t.2.1)/\S0 (R3 t) (P v) x=P (S0 t v x)):=λv x h0 d=>by
  rcases r04 t v x with⟨G,U⟩|G
  ·left;refine⟨G,?_⟩;rcases r04 (R3 t) (P v) x with⟨N,aG⟩|N;·exact N
   exfalso;obtain⟨j,R,S⟩:=U2.1 N;obtain⟨e,g,rfl⟩:=(L j).1 R;have w:=F e g;have:∃ y,y∈w01 v x t.2.2:=by
    rcases S with⟨a,b,c,_⟩|⟨a,b,c,_⟩;·exact⟨_,U2.2 ⟨e,g,.inl ⟨a,b,A _ _ w.1.1 w.1.2 h0 d c,rfl⟩⟩⟩
    exact⟨_,U2.2 ⟨e,g,.inr ⟨a,b,A _ _ w.2.1.1 w.2.1.2 h0 d c,rfl⟩⟩⟩
   obtain⟨y,af⟩:=this;rw[U]at af;cases af
  right;generalize S0 t v x=y at G;obtain⟨e,g,S⟩:=U2.1 G;have w:=F e g;rcases S with⟨a,b,c,rfl⟩|⟨a,b,c,rfl⟩;·exact⟨w.2.1,K07 H (U2.2 ⟨_,(L _).2 ⟨e,g,rfl⟩,.inl ⟨a,b,by show P e.1=P v;rw[c],rfl⟩⟩)⟩
  exact⟨w.1,K07 H (U2.2 ⟨_,(L _).2 ⟨e,g,rfl⟩,.inr ⟨a,b,by show P e.2.2=P v;rw[c],rfl⟩⟩)⟩
 have aD:∀ u:List Int,gud n u->∀ x∈u,0<=x/\x<t.2.1:=λu o x p=>by have:=o.2 x p;omega
 have aP:inG (t.1,(n:Int),t.2.2):=by grind
 have aO:(t.1,(n:Int),t.2.2)=t:=by rw[←aw]
 have aj:∀(u:List Int) (y z:Int),gud n u->(y = -1/\z = -1)∨((0<=y/\y<t.2.1)/\z=P y)->f0a (u.map P) z=(f0a u y).map P:=λu y z o h=>by
  unfold f0a;rcases h with⟨rfl,rfl⟩|⟨⟨h0,d⟩,rfl⟩;·rw[iE oM,iE oM]
  have ab:P y∈u.map P↔y∈u:=by
   constructor;·intro h;obtain⟨x,p,e⟩:=List.mem_map.1 h;grind
   grind
  by_cases c:y∈u;·rw[iE λq=>q.2 (ab.2 c),iE λq=>q.2 c]
  rw[iP ⟨(V y h0 d).1,λq=>c (ab.1 q)⟩,iP ⟨h0,c⟩];simp
 have aM:∀(v:Int),0<=v->v<t.2.1->∀(s u:List Int),gud n u->h04 (R3 t) (P v) s (u.map P)=(h04 t v s u).map P:=λv h0 d s=>by
  induction s with
  |nil=>intro u o;rfl
  |cons x l ag =>
   intro u o;have p:S0 t v x = -1∨(0<=S0 t v x/\S0 t v x<(n:Int)):=by grind
   rw[h04,h04,aj u _ _ o (ax v x h0 d),ag _ (G0q o p)]
 have ai:∀(f i:Nat) (u:List Int) (s:List Int),gud n u->Q9 (R3 t) s f i (u.map P)=(Q9 t s f i u).map P:=λf=>by
  induction f with
  |zero=>intro i u s o;rfl
  |succ f ag =>
   intro i u s o;unfold Q9;rw[List.getElem?_map];cases e:u[i]? with
   |none=>rfl
   |some v =>have E:=aD u o v (mG e);grind[gud,h04,v07]
 have ae:l3 (R3 t)=(l3 t).map P:=by
  have d:(R3 t).1=t.1:=by rw[I]
  have m:=ai (n+1) 0 [0] (Y5 t.1.toNat 1) ⟨oS,λx p=>by simp at p;subst p;omega⟩;rw[List.map_cons,List.map_nil,Q]at m;show Q9 (R3 t) (Y5 (R3 t).1.toNat 1) ((R3 t).2.1.toNat+1) 0 [0]=(Q9 t (Y5 t.1.toNat 1) (t.2.1.toNat+1) 0 [0]).map P;grind
 have ap:∀ i:Nat,i<n->(l3 (R3 t))[i]?=some (i:Int):=λi K=>by rw[ae,List.getElem?_map];obtain⟨v,E⟩:∃ v,(l3 t)[i]?=some v:=⟨_,gG oM⟩;rw[E,Option.map_some,O i v E]
 obtain⟨⟨am,ac⟩,_⟩:=z05 H;rw[M,(iN)]at ac;have aQ:∀ x:Int,0<=x->x<(n:Int)->getI (plc n (l3 (R3 t))) x=x:=λx h0 d=>by have:=W0c ac am (ap x.toNat oM);rw[show((x.toNat:Nat):Int)=x by omega]at this;exact this
 have au:(l3 (R3 t)).length=n:=by rw[ae,List.length_map,ad]
 have Z:=(P2 Y).1;have al:R3 (R3 t)=R3 t:=by
  have aA:pE (plc n (l3 (R3 t))) (R3 t).2.2=(R3 t).2.2:=by rw[W0h _ _ λe g=>by have:=Z e g;grind];refine(List.map_congr_left λe g=>?_).trans (List.map_id _);have:=Z e g;grind
  show A6 (R3 t) (l3 (R3 t))=R3 t;unfold A6;rw[M,(iN),aA,d0r (B05 Y),au];rw[←M]
 unfold D1;rw[H,aq,al];simp[O06]
theorem f0e{g:B0}(hf:H0 g):D1 (S03 g):=by have a:=Y1 hf;have:=(P2 a).2.2.1;exact P0s (m01 40 hf) (o09 40 a oM)
def e0r{r:Int}{w:List Int}(h:O1 r w):∀ k,k<=w.length->Z8 [] (w.take k)=(w.take k).reverse
 |0,_=>rfl
 |k+1,j=>by
  have g:=e0r h k oM;have c:=V3 (show k<w.length by omega);generalize w[k]=x at c;have f:w.take (k+1)=w.take k ++ [x]:=h0u c;rw[f,K0a,g,List.reverse_append];show j8 (w.take k).reverse x=x::(w.take k).reverse;cases k with
  |zero=>rfl
  |succ a =>
   have d:=V3 (show a<w.length by omega);generalize w[a]=y at d;rw[h0u d,List.reverse_append];show j8 (y::(w.take a).reverse) x=_;have e:=h;simp only[O1,aE,dE]at e;have b:=V0d e.2 (a+1) (Nat.zero_le _) oM;unfold g09 at b;rw[c]at b;simp only[Nat.add_sub_cancel,d,Bool.or_eq_false_iff,show decide (0<a+1)=true by simp,Bool.true_and]at b;have i:N05 y x=false:=by unfold N05 ng;rw[b.2,Bool.and_false]
   simp_all[j8,zF]
theorem U06{r:Int}{w:List Int}(h:O1 r w):(Z8 [] w).reverse=w:=by have:=e0r h w.length (Nat.le_refl _);rw[List.take_length]at this;rw[this,List.reverse_reverse]
def S4(g:B0)(w:List Int):Bool:=decide ((A2 g 0 w).2=w.length)&&decide ((A2 g 0 w).1=0)
theorem V1{g:B0}(h:D1 g):H0 g:=by simp_all[D1,aE]
theorem g05{r:Int}{g:B0}{w:List Int}(m:D1 g=true)(i:O1 r w=true):J6 g w=some (S4 g w):=by
 have hf:=V1 m
 obtain⟨n,s,o,t⟩:=P0 hf
 obtain⟨wl,j⟩:=w00 i
 have f:=E00 w (λx e=>(j x e).1.1) (by omega)
 rw[U06 i]at f
 have k:=B0s g hf 0 ⟨iR _,by omega⟩ w (λx e=>(j x e).1) (by omega)
 have p:=D0b g (by omega)
 have h:Z2 g=some true:=by
  grind[Z2]
 have l:=X07 n o.2 w 0 ⟨by omega,by omega⟩
 have q:=k03 g w 0
 unfold S4
 obtain⟨a,b,c⟩:=g
 unfold J6
 simp only[f,oB,k]
 by_cases d:(A2 (a,b,c) 0 w).2<w.length
 ·simp only[decide_eq_true d,cond_true]
  rw[F0 (show I0 (-1) from⟨by omega,by omega⟩),oB,h]
  grind[decide,A2,decide_eq_false]
 ·simp only[decide_eq_false d,cond_false]
  rw[F0 l,oB,h]
  grind
theorem f0r{r:Int}{g:B0}{w:List Int}(i:D1 g=true)(j:O1 r w=true):H7 g w=some (S4 g w):=by
 have hf:=V1 i
 obtain⟨d,n,e,o⟩:=P0 hf
 obtain⟨wl,l⟩:=w00 j
 have f:=K0o g d e.2 (by omega) 0 w (λx k=>(l x k).1) (by omega)
 have h:=X07 d e.2 w 0 ⟨by omega,by omega⟩
 have m:=k03 g w 0
 unfold S4
 obtain⟨a,b,c⟩:=g
 unfold H7
 simp only[f,oB]
 rw[F0 h,oB,F0 (show I0 (((A2 (a,b,c) 0 w).2:Nat):Int) from⟨by omega,by omega⟩),oB]
 grind[A2,decide_eq_true,decide,decide_eq_false]
end Go.Proofs.YthkpbcnhdhfifaaGreat
