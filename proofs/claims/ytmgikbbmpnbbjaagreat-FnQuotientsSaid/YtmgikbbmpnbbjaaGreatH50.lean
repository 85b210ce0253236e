/- Plain laws over the model: a walk in pieces: at each cut only the argument is kept. -/
import Derived.Test.YtmgikbbmpnbbjaaGreatHE
namespace Go.H
set_option linter.unusedVariables false
set_option linter.unusedSimpArgs false
def G0s:Nat->Code->List Code×Code
 |k+1,.seq x y=>match G0s k y with
  |(l,z)=>(x::l,z)
 |_,c=>([],c)
def H0s:List Code->Code->Code
 | [],y=>y
 |x::r,y => .seq x (H0s r y)
theorem p0j:∀(k:Nat) (c:Code),H0s (G0s k c).1 (G0s k c).2=c
 |0,c=>by cases c<;>rfl
 |k+1,c=>by
  cases c with
  |seq x y=>exact congrArg (Code.seq x) (p0j k y)
  |_=>rfl
def I0s(P:Program):List Code->(Ex->St->Hp->Prop)->St->Hp->Prop
 | [],Q,st,h=>Q .normal st h
 |c::r,Q,st,h=>evF P c (λe st h=>match e with
  | .normal=>I0s P r Q st h
  |e=>Q e st h) st h
def l0o(P:Program)(v:Value)(n:Nat)(Q:Ex->St->Hp->Prop):List Nat->Code->Hp->Prop
 | [],c,h=>evF P c Q ⟨n,[(0,.val v)],[],[]⟩ h
 |k::a,c,h=>∃ p:Prop,I0s P (G0s k c).1 (λe st h'=>match e with
  | .normal=>(E3 st.fr 0 = .val v/\st.n=n)/\Sub h h'/\p
  |e=>Q e st h') ⟨n,[(0,.val v)],[],[]⟩ h/\(p->∀ h',Sub h h'->l0o P v n Q a (G0s k c).2 h')
def g0u(P:Program)(fn:Func)(v:Value)(b:List Nat)(h:Hp)(a:Value->Hp->Prop):Prop :=
 match fn.body with
 |some c=>match Nat.ble 1 fn.ntmps with
  |true=>l0o P v fn.ntmps (λe st h=>match e with
   | .exit _=>False
   |_=>C0j P fn.results.toList st h λvs _ h=>a (P0b vs) h) b c h
  |false=>False
 |none=>False
section
variable {P:Program} {h0:Hp} {w0:World}
theorem P0e{Q:Ex->St->Hp->Prop}{R:Exit->Act->World->Prop}{j:Code}
  (m:∀ a w st h be oe H,Q .normal st h->Sim P h0 w0 be oe H st h a w->j.wp P R a w) (f:∀ e a w,e ≠ .normal->f0g P h0 w0 Q e a w->R e a w):∀(l:List Code) (st:St) (h:Hp) (a:Act) (w:World) (be:Nat->Nat) (oe:Nat->Value) (H:Hp),
  Sim P h0 w0 be oe H st h a w->I0s P l Q st h->(H0s l j).wp P R a w
 | [],st,h,a,w,be,oe,H,b,g=>m a w st h be oe H g b
 |c::r,st,h,a,w,be,oe,H,b,g=>by
  refine wp_seq (Code.wp_mono (λe a w d=>?_) (j0g c _ _ _ _ _ _ _ _ b (by rw[←q0n];exact g)))
  cases e with
  |normal=>obtain⟨st,h,be,oe,H,k,b⟩:=d;exact P0e m f r _ _ _ _ _ _ _ b k
  |exit i=>exact f _ _ _ (λc=>nomatch c) d
  |ret=>exact f _ _ _ (λc=>nomatch c) d
  |_=>exact d.elim
theorem X0c{Q:Ex->St->Hp->Prop}{v:Value}{n:Nat}:∀(o:List Nat) (c:Code) (h:Hp) (a:Act) (w:World) (be:Nat->Nat) (oe:Nat->Value) (H:Hp),
  Sim P h0 w0 be oe H ⟨n,[(0,.val v)],[],[]⟩ h a w->l0o P v n Q o c h->c.wp P (f0g P h0 w0 Q) a w
 | [],c,h,a,w,be,oe,H,f,l=>j0g c _ _ _ _ _ _ _ _ f (by rw[←q0n];exact l)
 |k::o,c,h,a,w,be,oe,H,f,l=>by
  obtain⟨p,q,s⟩:=l
  rw[←p0j k c]
  refine P0e (λa w st h' be oe H x f=>?_) (λe a w u m=>?_) _ _ _ _ _ _ _ _ f q
  ·obtain⟨⟨y,z⟩,A,C⟩:=x
   refine X0c o _ h' a w be oe H ⟨f.mv,f.sub,(λi cs ty d=>nomatch d),(λi b d=>nomatch d),(λi f e sz by_ nn xs d=>nomatch d),(λi f v d=>nomatch d),(λi j cs ty cs' J d=>nomatch d),
     (λi j f e sz by_ nn xs G E I D F K g d=>nomatch d),(λi cs ty j f e sz by_ nn xs d=>nomatch d),f.dfr,by rw[f.siz,z],λt=>?_⟩ (s C h' A)
   show I2 _ be oe (E3 [(0,AV.val v)] t) _
   rw[V3]
   by_cases c:0=t
   ·subst c
    rw[if_pos rfl]
    have g:=f.fr 0
    rw[y]at g
    exact g
   ·rw[if_neg c];trivial
  ·cases e with
   |normal=>exact absurd rfl u
   |exit i=>exact m
   |ret=>exact m
   |_=>exact m
theorem p0v{f:FuncId}{fn:Func}{v:Value}(s:List Nat){h:Hp}{n:Value->Hp->Prop}(hf:P.funcs[f]?=some fn)(l:g0u P fn v s h n):Tr P f #[v] h n:=by
 refine⟨λw E=>?_⟩
 unfold g0u at l
 split at l
 ·rename_i c A
  split at l
  ·rename_i q
   have q:=Nat.le_of_ble_eq_true q
   have F:Sim P h w (λ_=>0) (λ_=>undef) h ⟨fn.ntmps,[(0,.val v)],[],[]⟩ h { tmps := #[v]++Array.replicate (fn.ntmps - #[v].size) undef,defers:=[] } w:=by
    refine⟨T2.refl E,λ_ _ h=>h,(λi cs ty a=>nomatch a),(λi b a=>nomatch a),(λi d e sz by_ nn xs a=>nomatch a),(λi d v a=>nomatch a),(λi j cs ty cs' N a=>nomatch a),
     (λi j d e sz by_ nn xs K I M G J O g a=>nomatch a),(λi cs ty j d e sz by_ nn xs a=>nomatch a),rfl,by simp;omega,λt=>?_⟩
    show I2 _ _ _ (E3 [(0,AV.val v)] t) _
    rw[V3]
    by_cases c:0=t
    ·subst c
     rw[if_pos rfl]
     show _=_
     rw[Array.getD_eq_getD_getElem?,Array.getElem?_append,if_pos (by simp)];rfl
    ·rw[if_neg c];trivial
   refine calls_of_wp hf A (Code.wp_mono (λe m p o=>?_) (X0c s c _ _ _ _ _ _ F l))
   have fin:∀ {st h' be oe H},C0j P fn.results.toList st h' (λvs _ h=>n (P0b vs) h)->Sim P h w be oe H st h' m p->m.defers = []/\∃ v,(results fn m.tmps).run P p = .ok v p/\∃ u h',Ending.returned v = .returned u/\n u h'/\T2 h w h' p:=by
    intro st h' be oe H k d
    obtain⟨vs,L,z,y,s2,C⟩:=h08 _ _ _ d k
    refine⟨d.dfr,P0b vs,?_,P0b vs,z,rfl,y,s2.mv.less s2.sub⟩
    have D:results fn m.tmps=(fn.results.mapM (m0r m.tmps) >>= λvs=>pure (if h:vs.size=1 then vs[0]else .tuple vs)):=by
     unfold results
     congr 1
    rw[D,Array.mapM_eq_mapM_toList]
    simp only[Sem.run_bind,Sem.run_map,C,Result.andThen_ok,Sem.run_pure]
    cases vs with
    |nil=>rfl
    |cons x r=>cases r<;>rfl
   cases e with
   |normal=>obtain⟨st,h',be,oe,H,k,d⟩:=o;exact fin k d
   |ret=>obtain⟨st,h',be,oe,H,k,d⟩:=o;exact fin k d
   |exit i=>obtain⟨st,h',be,oe,H,k,d⟩:=o;exact k.elim
   |_=>exact o.elim
  ·exact l.elim
 ·exact l.elim
end
end Go.H
