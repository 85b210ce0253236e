/- Plain laws over the model: a walk in pieces: at each cut only the argument is kept. -/
import Derived.Test.YtmgikbbmpnbbjaaGreatHE
namespace Go.H
set_option linter.unusedVariables false
set_option linter.unusedSimpArgs false
def M0s:Nat->Code->List Code×Code
 |k+1,.seq x y=>match M0s k y with
  |(l,z)=>(x::l,z)
 |_,c=>([],c)
def N0s:List Code->Code->Code
 | [],y=>y
 |x::r,y => .seq x (N0s r y)
theorem J0i:∀(k:Nat) (c:Code),N0s (M0s k c).1 (M0s k c).2=c
 |0,c=>by cases c<;>rfl
 |k+1,c=>by
  cases c with
  |seq x y=>exact congrArg (Code.seq x) (J0i k y)
  |_=>rfl
def O0s(P:Program):List Code->(Ex->St->Hp->Prop)->St->Hp->Prop
 | [],Q,st,h=>Q .normal st h
 |c::r,Q,st,h=>evF P c (λe st h=>match e with
  | .normal=>O0s P r Q st h
  |e=>Q e st h) st h
def L0n(P:Program)(v:Value)(n:Nat)(Q:Ex->St->Hp->Prop):List Nat->Code->Hp->Prop
 | [],c,h=>evF P c Q ⟨n,[(0,.val v)],[],[]⟩ h
 |k::a,c,h=>∃ p:Prop,O0s P (M0s k c).1 (λe st h'=>match e with
  | .normal=>(O3 st.fr 0 = .val v/\st.n=n)/\Sub h h'/\p
  |e=>Q e st h') ⟨n,[(0,.val v)],[],[]⟩ h/\(p->∀ h',Sub h h'->L0n P v n Q a (M0s k c).2 h')
def g0u(P:Program)(fn:Func)(v:Value)(b:List Nat)(h:Hp)(a:Value->Hp->Prop):Prop :=
 match fn.body with
 |some c=>match Nat.ble 1 fn.ntmps with
  |true=>L0n P v fn.ntmps (λe st h=>match e with
   | .exit _=>False
   |_=>T0i P fn.results.toList st h λvs _ h=>a (l0b vs) h) b c h
  |false=>False
 |none=>False
section
variable {P:Program} {h0:Hp} {w0:World}
theorem f0e{Q:Ex->St->Hp->Prop}{R:Exit->Act->World->Prop}{g:Code}
  (j:∀ a w st h be oe H,Q .normal st h->Sim P h0 w0 be oe H st h a w->g.wp P R a w) (d:∀ e a w,e ≠ .normal->u0f P h0 w0 Q e a w->R e a w):∀(l:List Code) (st:St) (h:Hp) (a:Act) (w:World) (be:Nat->Nat) (oe:Nat->Value) (H:Hp),
  Sim P h0 w0 be oe H st h a w->O0s P l Q st h->(N0s l g).wp P R a w
 | [],st,h,a,w,be,oe,H,s,f=>j a w st h be oe H f s
 |c::r,st,h,a,w,be,oe,H,s,f=>by
  refine wp_seq (Code.wp_mono (λe a w b=>?_) (x0f c _ _ _ _ _ _ _ _ s (by rw[←O0m];exact f)))
  cases e with
  |normal=>obtain⟨st,h,be,oe,H,k,s⟩:=b;exact f0e j d r _ _ _ _ _ _ _ s k
  |exit i=>exact d _ _ _ (λc=>nomatch c) b
  |ret=>exact d _ _ _ (λc=>nomatch c) b
  |_=>exact b.elim
theorem B0c{Q:Ex->St->Hp->Prop}{v:Value}{n:Nat}:∀(m:List Nat) (c:Code) (h:Hp) (a:Act) (w:World) (be:Nat->Nat) (oe:Nat->Value) (H:Hp),
  Sim P h0 w0 be oe H ⟨n,[(0,.val v)],[],[]⟩ h a w->L0n P v n Q m c h->c.wp P (u0f P h0 w0 Q) a w
 | [],c,h,a,w,be,oe,H,s,f=>x0f c _ _ _ _ _ _ _ _ s (by rw[←O0m];exact f)
 |k::m,c,h,a,w,be,oe,H,s,f=>by
  obtain⟨p,o,q⟩:=f
  rw[←J0i k c]
  refine f0e (λa w st h' be oe H x s=>?_) (λe a w u l=>?_) _ _ _ _ _ _ _ _ s o
  ·obtain⟨⟨y,z⟩,A,B⟩:=x
   refine B0c m _ h' a w be oe H ⟨s.mv,s.sub,(λi cs ty d=>nomatch d),(λi b d=>nomatch d),(λi s e sz by_ nn xs d=>nomatch d),(λi s v d=>nomatch d),(λi j cs ty cs' G d=>nomatch d),
     (λi j s e sz by_ nn xs s' D F C E I g d=>nomatch d),(λi cs ty j s e sz by_ nn xs d=>nomatch d),s.dfr,by rw[s.siz,z],λt=>?_⟩ (q B h' A)
   show C3 _ be oe (O3 [(0,AV.val v)] t) _
   rw[i4]
   by_cases c:0=t
   ·subst c
    rw[if_pos rfl]
    have g:=s.fr 0
    rw[y]at g
    exact g
   ·rw[if_neg c];trivial
  ·cases e with
   |normal=>exact absurd rfl u
   |exit i=>exact l
   |ret=>exact l
   |_=>exact l
theorem t0v{f:FuncId}{fn:Func}{v:Value}(q:List Nat){h:Hp}{m:Value->Hp->Prop}(hf:P.funcs[f]?=some fn)(k:g0u P fn v q h m):Tr P f #[v] h m:=by
 refine⟨λw D=>?_⟩
 unfold g0u at k
 split at k
 ·rename_i c A
  split at k
  ·rename_i p
   have p:=Nat.le_of_ble_eq_true p
   have E:Sim P h w (λ_=>0) (λ_=>undef) h ⟨fn.ntmps,[(0,.val v)],[],[]⟩ h { tmps := #[v]++Array.replicate (fn.ntmps - #[v].size) undef,defers:=[] } w:=by
    refine⟨I3.refl D,λ_ _ h=>h,(λi cs ty a=>nomatch a),(λi b a=>nomatch a),(λi s e sz by_ nn xs a=>nomatch a),(λi s v a=>nomatch a),(λi j cs ty cs' L a=>nomatch a),
     (λi j s e sz by_ nn xs s' G K F I M g a=>nomatch a),(λi cs ty j s e sz by_ nn xs a=>nomatch a),rfl,by simp;omega,λt=>?_⟩
    show C3 _ _ _ (O3 [(0,AV.val v)] t) _
    rw[i4]
    by_cases c:0=t
    ·subst c
     rw[if_pos rfl]
     show _=_
     rw[Array.getD_eq_getD_getElem?,Array.getElem?_append,if_pos (by simp)];rfl
    ·rw[if_neg c];trivial
   refine calls_of_wp hf A (Code.wp_mono (λe l o n=>?_) (B0c q c _ _ _ _ _ _ E k))
   have fin:∀ {st h' be oe H},T0i P fn.results.toList st h' (λvs _ h=>m (l0b vs) h)->Sim P h w be oe H st h' l o->l.defers = []/\∃ v,(results fn l.tmps).run P o = .ok v o/\∃ u h',Ending.returned v = .returned u/\m u h'/\I3 h w h' o:=by
    intro st h' be oe H d s
    obtain⟨vs,J,z,y,s2,B⟩:=a08 _ _ _ s d
    refine⟨s.dfr,l0b vs,?_,l0b vs,z,rfl,y,s2.mv.less s2.sub⟩
    have C:results fn l.tmps=(fn.results.mapM (i0r l.tmps) >>= λvs=>pure (if h:vs.size=1 then vs[0]else .tuple vs)):=by
     unfold results
     congr 1
    rw[C,Array.mapM_eq_mapM_toList]
    simp only[Sem.run_bind,Sem.run_map,B,Result.andThen_ok,Sem.run_pure]
    cases vs with
    |nil=>rfl
    |cons x r=>cases r<;>rfl
   cases e with
   |normal=>obtain⟨st,h',be,oe,H,d,s⟩:=n;exact fin d s
   |ret=>obtain⟨st,h',be,oe,H,d,s⟩:=n;exact fin d s
   |exit i=>obtain⟨st,h',be,oe,H,d,s⟩:=n;exact d.elim
   |_=>exact n.elim
  ·exact k.elim
 ·exact k.elim
end
end Go.H
