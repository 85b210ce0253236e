/- Plain laws over the model: a walk in two pieces: at the cut some slots are kept, and the struct variables. -/
import Derived.Test.YthkpbcnhdhfifaaGreatHE
namespace Go.H
set_option linter.all false
def B0y:Nat->Code->Code
 |k+1,.seq _ y=>B0y k y
 |_,c=>c
def U0A(P:Program)(Q:Ex->St->Hp->Prop)(N:St->Hp->Prop):Nat->Code->St->Hp->Prop
 |k+1,.seq x y,st,h=>evF P x (λe st h=>match e with
  | .normal=>U0A P Q N k y st h
  |e=>Q e st h) st h
 |_,_,st,h=>N st h
def d0v(bx:List BSt)(f:List (Nat×AV)):List (Nat×AV)->Prop
 | []=>True
 |(t,a)::r=>(K3 f t=a/\match a with
  | .val _=>True
  | .box i _=>i<bx.length
  |_=>False)/\d0v bx f r
def W0r:List BSt->List BSt->Prop
 | [],_=>True
 |a::r,b::s=>b=a/\W0r r s
 |_,_=>False
def V0A(P:Program)(fn:Func)(T:Value->Hp->Prop)(e:Ex)(st:St)(h:Hp):Prop:=match e with
 | .exit _=>False
 |_=>l0o P fn.results.toList st h λvs _ h=>T (f0g vs) h
def h0A(P:Program)(fn:Func)(v:Value)(k:Nat)(fr:List (Nat×AV))(h:Hp)(T:Value->Hp->Prop):Prop :=
 match fn.body with
 |some c=>match Nat.ble 1 fn.ntmps with
  |true=>∃ R:List BSt->Hp->Prop,U0A P (V0A P fn T) (λst h=>(st.n=fn.ntmps/\st.ow = [])/\∃ bx,d0v bx st.fr fr/\W0r bx st.bx/\R bx h) k c ⟨fn.ntmps,[(0,.val v)],[],[]⟩ h/\∀ bx h,R bx h->evF P (B0y k c) (V0A P fn T) ⟨fn.ntmps,fr,bx,[]⟩ h
  |false=>False
 |none=>False
theorem i0b:∀ {a b:List BSt} {i:Nat} {x:BSt},W0r a b->nth a i=some x->nth b i=some x
 | [],_,_,_,_,h=>nomatch h
 |_::_,[],_,_,k,_=>k.elim
 |a::r,b::s,0,x,k,h=>by rw[←oJ h,←k.1];rfl
 |a::r,b::s,i+1,x,k,h=>i0b (a:=r) (b:=s) k.2 h
section
variable {P:Program} {h0:Hp} {w0:World}
theorem c0m{st st':St}{oe:Nat->Value}(e:st'.ow=st.ow):∀ {cs:List j7} {vs:List Value},J2 st oe cs vs->J2 st' oe cs vs
 | [],[],h=>h
 | [],_::_,h=>h
 |_::_,[],h=>h
 | .val _::cs,_::vs,h=>⟨h.1,c0m e h.2⟩
 | .own i k::cs,_::vs,h=>⟨by obtain⟨c,a,b⟩:=h.1;exact⟨c,by unfold stamp at a ⊢;rw[e];exact a,b⟩,c0m e h.2⟩
theorem d0m{st st':St}{be:Nat->Nat}{oe:Nat->Value}{bx:List BSt}(d:st'.bx=bx):∀ {l:List (Nat×AV)} {b:Nat} {x:Value},d0v bx st.fr l->N2 st be oe (K3 st.fr b) x->N2 st' be oe (K3 l b) x
 | [],b,x,_,_=>trivial
 |(t,a)::l,b,x,k,g=>by
  rw[l4];by_cases c:t=b
  ·subst c;rw[if_pos rfl];obtain⟨⟨e,f⟩,_⟩:=k;rw[e]at g;cases a with
   |val v=>exact g
   |box i off=>exact⟨by rw[d];exact f,g.2⟩
   |_=>exact f.elim
  rw[if_neg c];exact d0m d k.2 g
theorem Sim.cut{be:Nat->Nat}{oe:Nat->Value}{H h:Hp}{st:St}{a:Act}{w:World}(d:Sim P h0 w0 be oe H st h a w){n:Nat}(p:st.n=n)(q:st.ow = []){bx:List BSt}{fr:List (Nat×AV)}(hf:d0v bx st.fr fr)(f:W0r bx st.bx): Sim P h0 w0 be oe H ⟨n,fr,bx,[]⟩ h a w:=by
 refine⟨d.mv,d.sub,λi cs ty c=>?_,λi b c=>d.pub i b (i0b f c),(λi d e sz by_ nn xs c=>nomatch c),(λi d v c=>nomatch c),λi k cs ty cs' s c j=>d.bb i k cs ty cs' s (i0b f c) (i0b f j),
  (λi k d e sz by_ nn xs z x A u y C g c=>nomatch c),(λi cs ty k d e sz by_ nn xs c j=>nomatch j),d.dfr,by rw[d.siz,p],λt=>d0m rfl hf (d.fr t)⟩
 obtain⟨l,vs,m,o⟩:=d.box i cs ty (i0b f c);exact⟨l,vs,c0m (by rw[q]) m,o⟩
theorem e0m{Q:Ex->St->Hp->Prop}{N:St->Hp->Prop}{R:Exit->Act->World->Prop}(j:∀ e a w,e ≠ .normal->q0s P h0 w0 Q e a w->R e a w):∀(k:Nat) (c:Code) (st:St) (h:Hp) (a:Act) (w:World) (be:Nat->Nat) (oe:Nat->Value) (H:Hp), (∀ a w st h be oe H,N st h->Sim P h0 w0 be oe H st h a w->(B0y k c).wp P R a w)->Sim P h0 w0 be oe H st h a w->U0A P Q N k c st h->c.wp P R a w
 |0,c,st,h,a,w,be,oe,H,d,b,f=>d a w st h be oe H f b
 |k+1,c,st,h,a,w,be,oe,H,d,b,f=>by
  cases c with
  |seq x y =>
   refine wp_seq (Code.wp_mono (λe a w g=>?_) (q0k x _ _ _ _ _ _ _ _ b (by rw[←u0s];exact f)));cases e with
   |normal=>obtain⟨st,h,be,oe,H,l,b⟩:=g;exact e0m j k y _ _ _ _ _ _ _ d b l
   |exit i=>exact j _ _ _ (λc=>nomatch c) g
   |ret=>exact j _ _ _ (λc=>nomatch c) g
   |_=>exact g.elim
  |_=>exact d a w st h be oe H f b
theorem F0B{f:FuncId}{fn:Func}{v:Value}(k:Nat)(fr:List (Nat×AV)){h:Hp}{o:Value->Hp->Prop}(hf:P.funcs[f]?=some fn)(n:h0A P fn v k fr h o):Tr P f #[v] h o:=by
 refine⟨λw J=>?_⟩;unfold h0A at n;split at n
 ·rename_i c D;split at n
  ·rename_i s;have s:=Nat.le_of_ble_eq_true s;have S:Sim P h w (λ_=>0) (λ_=>undef) h ⟨fn.ntmps,[(0,.val v)],[],[]⟩ h { tmps := #[v]++Array.replicate (fn.ntmps - #[v].size) undef,defers:=[] } w:=by
    refine⟨V2.refl J,λ_ _ h=>h,(λi cs ty d=>nomatch d),(λi b d=>nomatch d),(λi j e sz by_ nn xs d=>nomatch d),(λi j v d=>nomatch d),(λi u cs ty cs' Z d=>nomatch d),
     (λi u j e sz by_ nn xs W U Y T V aa g d=>nomatch d),(λi cs ty u j e sz by_ nn xs d=>nomatch d),rfl,by simp;omega,λt=>?_⟩
    show N2 _ _ _ (K3 [(0,AV.val v)] t) _;rw[l4];by_cases c:0=t;·subst c;rw[if_pos rfl];show _=_;rw[Array.getD_eq_getD_getElem?,Array.getElem?_append,if_pos oS];rfl
    rw[if_neg c];trivial
   obtain⟨R,E,F⟩:=n;refine calls_of_wp hf D (Code.wp_mono (λe p q l=>?_) (e0m (R:=q0s P h w (V0A P fn o)) (λe a w Q l=>?_) k c _ _ _ _ _ _ _ (λa w st h be oe H C j=>?_) S E));rotate_left
   ·cases e with
    |normal=>exact absurd rfl Q
    |exit i=>exact l
    |ret=>exact l
    |_=>exact l
   ·obtain⟨⟨K,L⟩,bx,M,N,O⟩:=C;exact q0k _ _ _ _ _ _ _ _ _ (j.cut K L M N) (by rw[←u0s];exact F bx h O)
   have fin:∀ {st h' be oe H},l0o P fn.results.toList st h' (λvs _ h=>o (f0g vs) h)->Sim P h w be oe H st h' p q->p.defers = []/\∃ v,(results fn p.tmps).run P q = .ok v q/\∃ y h',Ending.returned v = .returned y/\o y h'/\V2 h w h' q:=by
    intro st h' be oe H m j;obtain⟨vs,X,A,z,s2,G⟩:=y0b _ _ _ j m;refine⟨j.dfr,f0g vs,?_,f0g vs,A,rfl,z,s2.mv.less s2.sub⟩;have I:results fn p.tmps=(fn.results.mapM (R0w p.tmps) >>= λvs=>pure (if h:vs.size=1 then vs[0]else .tuple vs)):=by unfold results;congr 1
    rw[I,Array.mapM_eq_mapM_toList];simp only[Sem.run_bind,Sem.run_map,G,Result.andThen_ok,Sem.run_pure];cases vs with
    |nil=>rfl
    |cons x r=>cases r<;>rfl
   cases e with
   |normal=>obtain⟨st,h',be,oe,H,m,j⟩:=l;exact fin m j
   |ret=>obtain⟨st,h',be,oe,H,m,j⟩:=l;exact fin m j
   |exit i=>obtain⟨st,h',be,oe,H,m,j⟩:=l;exact m.elim
   |_=>exact l.elim
  exact n.elim
 exact n.elim
end
end Go.H
