/- Plain laws over the model: a walk in pieces: at each cut only the argument is kept. -/
import Derived.Test.YtfphndijjmdiiaaGreatHE
namespace Go.H
set_option linter.unusedVariables false
set_option linter.unusedSimpArgs false
def Z0r:Nat->Code->List Code×Code
 |k+1,.seq x y=>match Z0r k y with
  |(l,z)=>(x::l,z)
 |_,c=>([],c)
def a0s:List Code->Code->Code
 | [],y=>y
 |x::r,y => .seq x (a0s r y)
theorem v0i:∀(k:Nat) (c:Code),a0s (Z0r k c).1 (Z0r k c).2=c
 |0,c=>by cases c<;>rfl
 |k+1,c=>by
  cases c with
  |seq x y=>exact congrArg (Code.seq x) (v0i k y)
  |_=>rfl
def b0s(P:Program):List Code->(Ex->St->Hp->Prop)->St->Hp->Prop
 | [],Q,st,h=>Q .normal st h
 |c::r,Q,st,h=>evF P c (λe st h=>match e with
  | .normal=>b0s P r Q st h
  |e=>Q e st h) st h
def i0n(P:Program)(v:Value)(n:Nat)(Q:Ex->St->Hp->Prop):List Nat->Code->Hp->Prop
 | [],c,h=>evF P c Q ⟨n,[(0,.val v)],[],[]⟩ h
 |k::a,c,h=>∃ p:Prop,b0s P (Z0r k c).1 (λe st h'=>match e with
  | .normal=>(G3 st.fr 0 = .val v/\st.n=n)/\Sub h h'/\p
  |e=>Q e st h') ⟨n,[(0,.val v)],[],[]⟩ h/\(p->∀ h',Sub h h'->i0n P v n Q a (Z0r k c).2 h')
def L0t(P:Program)(fn:Func)(v:Value)(b:List Nat)(h:Hp)(a:Value->Hp->Prop):Prop :=
 match fn.body with
 |some c=>match Nat.ble 1 fn.ntmps with
  |true=>i0n P v fn.ntmps (λe st h=>match e with
   | .exit _=>False
   |_=>H0i P fn.results.toList st h λvs _ h=>a (w0a vs) h) b c h
  |false=>False
 |none=>False
section
variable {P:Program} {h0:Hp} {w0:World}
theorem O0d{Q:Ex->St->Hp->Prop}{R:Exit->Act->World->Prop}{j:Code}
  (m:∀ a w st h be oe H,Q .normal st h->Sim P h0 w0 be oe H st h a w->j.wp P R a w) (f:∀ e a w,e ≠ .normal->b0f P h0 w0 Q e a w->R e a w):∀(l:List Code) (st:St) (h:Hp) (a:Act) (w:World) (be:Nat->Nat) (oe:Nat->Value) (H:Hp),
  Sim P h0 w0 be oe H st h a w->b0s P l Q st h->(a0s l j).wp P R a w
 | [],st,h,a,w,be,oe,H,b,g=>m a w st h be oe H g b
 |c::r,st,h,a,w,be,oe,H,b,g=>by
  refine wp_seq (Code.wp_mono (λe a w d=>?_) (e0f c _ _ _ _ _ _ _ _ b (by rw[←A0m];exact g)))
  cases e with
  |normal=>obtain⟨st,h,be,oe,H,k,b⟩:=d;exact O0d m f r _ _ _ _ _ _ _ b k
  |exit i=>exact f _ _ _ (λc=>nomatch c) d
  |ret=>exact f _ _ _ (λc=>nomatch c) d
  |_=>exact d.elim
theorem O0b{Q:Ex->St->Hp->Prop}{v:Value}{n:Nat}:∀(o:List Nat) (c:Code) (h:Hp) (a:Act) (w:World) (be:Nat->Nat) (oe:Nat->Value) (H:Hp),
  Sim P h0 w0 be oe H ⟨n,[(0,.val v)],[],[]⟩ h a w->i0n P v n Q o c h->c.wp P (b0f P h0 w0 Q) a w
 | [],c,h,a,w,be,oe,H,f,l=>e0f c _ _ _ _ _ _ _ _ f (by rw[←A0m];exact l)
 |k::o,c,h,a,w,be,oe,H,f,l=>by
  obtain⟨p,q,s⟩:=l
  rw[←v0i k c]
  refine O0d (λa w st h' be oe H x f=>?_) (λe a w u m=>?_) _ _ _ _ _ _ _ _ f q
  ·obtain⟨⟨y,z⟩,A,B⟩:=x
   refine O0b o _ h' a w be oe H ⟨f.mv,f.sub,(λi cs ty d=>nomatch d),(λi b d=>nomatch d),(λi f e sz by_ nn xs d=>nomatch d),(λi f v d=>nomatch d),(λi j cs ty cs' I d=>nomatch d),
     (λi j f e sz by_ nn xs F D G C E J g d=>nomatch d),(λi cs ty j f e sz by_ nn xs d=>nomatch d),f.dfr,by rw[f.siz,z],λt=>?_⟩ (s B h' A)
   show Good _ be oe (G3 [(0,AV.val v)] t) _
   rw[Y3]
   by_cases c:0=t
   ·subst c
    rw[if_pos rfl]
    have g:=f.fr 0
    rw[y]at g
    exact g
   ·rw[if_neg c];trivial
  ·cases e with
   |normal=>exact absurd rfl u
   |exit i=>exact m
   |ret=>exact m
   |_=>exact m
theorem f0v{f:FuncId}{fn:Func}{v:Value}(s:List Nat){h:Hp}{n:Value->Hp->Prop}(hf:P.funcs[f]?=some fn)(l:L0t P fn v s h n):Tr P f #[v] h n:=by
 refine⟨λw D=>?_⟩
 unfold L0t at l
 split at l
 ·rename_i c A
  split at l
  ·rename_i q
   have q:=Nat.le_of_ble_eq_true q
   have E:Sim P h w (λ_=>0) (λ_=>undef) h ⟨fn.ntmps,[(0,.val v)],[],[]⟩ h { tmps := #[v]++Array.replicate (fn.ntmps - #[v].size) undef,defers:=[] } w:=by
    refine⟨U2.refl D,λ_ _ h=>h,(λi cs ty a=>nomatch a),(λi b a=>nomatch a),(λi d e sz by_ nn xs a=>nomatch a),(λi d v a=>nomatch a),(λi j cs ty cs' M a=>nomatch a),
     (λi j d e sz by_ nn xs J G L F I N g a=>nomatch a),(λi cs ty j d e sz by_ nn xs a=>nomatch a),rfl,by simp;omega,λt=>?_⟩
    show Good _ _ _ (G3 [(0,AV.val v)] t) _
    rw[Y3]
    by_cases c:0=t
    ·subst c
     rw[if_pos rfl]
     show _=_
     rw[Array.getD_eq_getD_getElem?,Array.getElem?_append,if_pos (by simp)];rfl
    ·rw[if_neg c];trivial
   refine calls_of_wp hf A (Code.wp_mono (λe m p o=>?_) (O0b s c _ _ _ _ _ _ E l))
   have fin:∀ {st h' be oe H},H0i P fn.results.toList st h' (λvs _ h=>n (w0a vs) h)->Sim P h w be oe H st h' m p->m.defers = []/\∃ v,(results fn m.tmps).run P p = .ok v p/\∃ u h',Ending.returned v = .returned u/\n u h'/\U2 h w h' p:=by
    intro st h' be oe H k d
    obtain⟨vs,K,z,y,s2,B⟩:=T06 _ _ _ d k
    refine⟨d.dfr,w0a vs,?_,w0a vs,z,rfl,y,s2.mv.less s2.sub⟩
    have C:results fn m.tmps=(fn.results.mapM (q0q m.tmps) >>= λvs=>pure (if h:vs.size=1 then vs[0]else .tuple vs)):=by
     unfold results
     congr 1
    rw[C,Array.mapM_eq_mapM_toList]
    simp only[Sem.run_bind,Sem.run_map,B,Result.andThen_ok,Sem.run_pure]
    cases vs with
    |nil=>rfl
    |cons x r=>cases r<;>rfl
   cases e with
   |normal=>obtain⟨st,h',be,oe,H,k,d⟩:=o;exact fin k d
   |ret=>obtain⟨st,h',be,oe,H,k,d⟩:=o;exact fin k d
   |exit i=>obtain⟨st,h',be,oe,H,k,d⟩:=o;exact k.elim
   |_=>exact o.elim
  ·exact l.elim
 ·exact l.elim
end
end Go.H
