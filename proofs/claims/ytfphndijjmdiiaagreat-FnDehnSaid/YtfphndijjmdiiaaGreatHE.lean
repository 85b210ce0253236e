/- The library of the walks, part HE: plain laws over the model. -/
import Derived.Test.YtfphndijjmdiiaaGreatHD
import Derived.Deep.Slices
import Derived.ChangeArms
import Derived.WideShapes
import Derived.Laws.Strings
namespace Go.H
set_option linter.unusedVariables false
set_option linter.unusedSimpArgs false
def z0m:Op->Bool
 | .move _ | .assign _ | .load .. | .binOp .. | .unOp .. | .index .. | .field .. | .fieldAddr .. | .indexAddr .. | .pick .. | .build .. | .convert ..=>true
 |_=>false
def R0a(b:Bool)(st:St)(K:St->Prop):Prop:=match b with
 |true=>K st
 |false=>match st with
  |⟨n,fr,bx,ow⟩=>d8 bx λbx=>d8 ow λow=>K ⟨n,fr,bx,ow⟩
theorem f0f(b:Bool)(st:St)(K:St->Prop):R0a b st K=K st:=by
 cases b
 all_goals simp_all[R0a,Y01]
def Y0i(d:Option Tmp)(i:Nat)(ch:List (Nat×Bool))(av:AV)(rs:RS)(K:RS->Prop):Prop:=match rs with
 |⟨⟨n,fr,bx,ow⟩,h,gf,bs⟩=>match d with
  |none=>K ⟨⟨n,fr,bx,ow⟩,h,gf,bs⟩
  |some d=>match Nat.blt d n,G07 ⟨⟨n,fr,bx,ow⟩,h,gf,bs⟩ d with
   |true,false=>match ch with
    | []=>Y00 av λav=>match av with
     | .val (.bool e)=>K ⟨⟨n,(d,.val (.bool e))::fr,bx,ow⟩,h,gf,⟨i,d,e,[]⟩::bs⟩
     |_=>K ⟨⟨n,(d,av)::fr,bx,ow⟩,h,gf,bs⟩
    |p::ch=>Y00 av λav=>match av with
     | .val (.bool e)=>K ⟨⟨n,(d,.dead)::fr,bx,ow⟩,h,(d,p::ch,.val (.bool e))::gf,⟨i,d,e,p::ch⟩::bs⟩
     |_=>K ⟨⟨n,(d,.dead)::fr,bx,ow⟩,h,(d,p::ch,av)::gf,bs⟩
   |_,_=>False
theorem Z0i(d:Option Tmp)(i:Nat)(ch:List (Nat×Bool))(av:AV)(rs:RS)(K:RS->Prop):Y0i d i ch av rs K=A0e d i ch av rs K:=by
 obtain⟨⟨n,fr,bx,ow⟩,h,gf,bs⟩:=rs
 cases d with
 |none=>rfl
 |some d =>
  simp only[Y0i,A0e]
  generalize G07 _ d=u
  generalize Nat.blt d n=b
  cases b
  ·rfl
  cases u
  ·cases ch with
   |nil =>
    simp only[J02]
    cases av with
    |val v=>cases v<;>rfl
    |_=>rfl
   |cons p ch =>
    simp only[J02]
    cases av with
    |val v=>cases v<;>rfl
    |_=>rfl
  ·rfl
def o0c(P:Program)(l:List Oper):Nat->RS->(RS->Prop)->Prop :=
 List.rec (motive:=λ_=>Nat->RS->(RS->Prop)->Prop) (λ_ rs K=>K rs) (λo _ a i rs K=>match rs with
  |⟨⟨n,fr,bx,ow⟩,h,gf,bs⟩=>match o.guard,j0m o.op with
   |none,false=>c8 P o ⟨n,fr,bx,ow⟩ h λav st h=>R0a (z0m o.op) st λst=>Y0i o.dst i [] av ⟨st,h,gf,bs⟩ λrs=>a (i+1) rs K
   |_,_=>match d00 bs o.guard with
    |some ch=>match cB bs ch with
     |some c=>evG P o ch c ⟨⟨n,fr,bx,ow⟩,h,gf,bs⟩ λav=>Y0i o.dst i ch av ⟨⟨n,fr,bx,ow⟩,h,gf,bs⟩ λrs=>a (i+1) rs K
     |none=>False
    |none=>False) l
theorem G0k(P:Program)(o:Oper)(r:List Oper)(i n:Nat)(fr:List (Nat×AV))(bx:List BSt)(ow:List Own)(h:Hp)(gf:List (Nat×List (Nat×Bool)×AV))(bs:List BE)(K:RS->Prop):
  o0c P (o::r) i ⟨⟨n,fr,bx,ow⟩,h,gf,bs⟩ K=match o.guard,j0m o.op with
   |none,false=>c8 P o ⟨n,fr,bx,ow⟩ h λav st h=>R0a (z0m o.op) st λst=>Y0i o.dst i [] av ⟨st,h,gf,bs⟩ λrs=>o0c P r (i+1) rs K
   |_,_=>match d00 bs o.guard with
    |some ch=>match cB bs ch with
     |some c=>evG P o ch c ⟨⟨n,fr,bx,ow⟩,h,gf,bs⟩ λav=>Y0i o.dst i ch av ⟨⟨n,fr,bx,ow⟩,h,gf,bs⟩ λrs=>o0c P r (i+1) rs K
     |none=>False
    |none=>False:=rfl
theorem s0h(P:Program):∀(l:List Oper) (i:Nat) (rs:RS) (K:RS->Prop),o0c P l i rs K=h0d P l i rs K
 | [],i,rs,K=>rfl
 |o::r,i,⟨⟨n,fr,bx,ow⟩,h,gf,bs⟩,K=>by
  simp only[G0k,h0d,f0f,Z0i,s0h P r]
  rfl
def s0q(P:Program)(l:List Oper):Nat->RS->(RS->Prop)->Prop :=
 List.rec (motive:=λ_=>Nat->RS->(RS->Prop)->Prop) (λ_ rs K=>K rs) (λo _ a i rs K=>match rs with
  |⟨⟨n,fr,bx,ow⟩,h,gf,bs⟩=>match d00 bs o.guard with
   |some ch=>match cB bs ch with
    |some c=>evG P o ch c ⟨⟨n,fr,bx,ow⟩,h,gf,bs⟩ λav=>Y0i o.dst i ch av ⟨⟨n,fr,bx,ow⟩,h,gf,bs⟩ λrs=>a (i+1) rs K
    |none=>False
   |none=>False) l
theorem Y0o(P:Program)(o:Oper)(r:List Oper)(i n:Nat)(fr:List (Nat×AV))(bx:List BSt)(ow:List Own)(h:Hp)(gf:List (Nat×List (Nat×Bool)×AV))(bs:List BE)(K:RS->Prop):
  s0q P (o::r) i ⟨⟨n,fr,bx,ow⟩,h,gf,bs⟩ K=match d00 bs o.guard with
   |some ch=>match cB bs ch with
    |some c=>evG P o ch c ⟨⟨n,fr,bx,ow⟩,h,gf,bs⟩ λav=>Y0i o.dst i ch av ⟨⟨n,fr,bx,ow⟩,h,gf,bs⟩ λrs=>s0q P r (i+1) rs K
    |none=>False
   |none=>False:=rfl
theorem E0n(P:Program):∀(l:List Oper) (i:Nat) (rs:RS) (K:RS->Prop),s0q P l i rs K=evQ P l i rs K
 | [],i,rs,K=>rfl
 |o::r,i,⟨⟨n,fr,bx,ow⟩,h,gf,bs⟩,K=>by
  simp only[Y0o,evQ,Z0i,E0n P r]
  rfl
def j0e:List (Nat×AV)->(List (Nat×AV)->Prop)->Prop
 | [],K=>K []
 |(s,av)::r,K=>Y00 av λav=>j0e r λr=>K ((s,av)::r)
theorem g0f:∀(l:List (Nat×AV)) (K:List (Nat×AV)->Prop),j0e l K=K l
 | [],K=>rfl
 |(s,av)::r,K=>by simp only[j0e,J02,g0f r]
def w0s{a:Type}:List a->List a->(List a->Prop)->Prop
 | [],b,K=>K b
 |x::r,b,K=>w0s r b λl=>K (x::l)
theorem F0n{c:Type}:∀(a b:List c) (K:List c->Prop),w0s a b K=K (a++b)
 | [],b,K=>rfl
 |x::r,b,K=>by simp only[w0s,F0n r,List.cons_append]
def a0u(A:Ann)(d b:List (Nat×AV))(a:St)(c:a0c)(μ:q07)(f:List Value)(m:Nat)(st:St)(h:Hp):Prop :=
 match Nat.beq st.n a.n,k0d a st d with
 |true,true=>b0h st.fr b=J0o b/\Y0b A a st 0 a.bx st.bx/\Z0b A 0 a.ow st.ow /\
   p0m A st λvs os=>d8 vs λvs=>match j0s vs f with
    |true=>M07 A.vars.length vs λ_ e=>X05 A.boxes e a.bx λ_=>Y05 A.owns os a.ow λ_=>k0s A c μ m vs os h
    |false=>False
 |_,_=>False
theorem x0s(A:Ann)(b d:List (Nat×AV))(c:St)(a:a0c)(μ:q07)(e:List Value)(m:Nat)(st:St)(h:Hp):
  a0u A b d c a μ e m st h=Y0p A b d c a μ e m st h:=by
 simp only[a0u,Y0p,Y01]
 rfl
def v05(k:(Ex->St->Hp->Prop)->St->Hp->Prop)(l:List Nat)(Q:Ex->St->Hp->Prop)(h:Hp)(A:Ann)(g:a0c)(μ:q07)(st:St):Prop:=match st with
 |⟨n,fr,bx,ow⟩=>d8 fr λfr=>d8 bx λa=>d8 ow λb=>p0m A ⟨n,fr,a,b⟩ λf j=>d8 f λf=>f0k A g f j h /\
  W0b l λds=>headD A ⟨n,fr,a,b⟩ ds [] λi=>Z05 A ds ⟨n,fr,a,b⟩ fr λd=>j0e d λd=>w0s i d λo =>
   u0a f.length λvs=>v0a j.length λos=>g0k A g μ vs os λm h' =>
    M07 A.vars.length vs λq s=>X05 A.boxes s a λbx=>Y05 A.owns os b λow=>d8 (X0b A.vars q o) λp=>d8 bx λbx=>d8 ow λow =>
     k (λe st' c=>match e with
      | .normal=>d0k A.pubs st' c λst' c=>a0u A i d ⟨n,fr,a,b⟩ g μ vs m st' c
      |e=>Q e st' c) ⟨n,p,bx,ow⟩ h'
def a0j(b:(Ex->St->Hp->Prop)->St->Hp->Prop)(c:List Nat)(Q:Ex->St->Hp->Prop)(st:St)(h:Hp):Prop :=
 ∃(A:Ann) (a:a0c) (μ:q07),c0k A.nils st λst=>G0e A.nilsB st λst=>d0k A.pubs st h λst h=>v05 b c Q h A a μ st
theorem Z0o(b:(Ex->St->Hp->Prop)->St->Hp->Prop)(c:List Nat)(Q:Ex->St->Hp->Prop)(st:St)(h:Hp):a0j b c Q st h=r0n b c Q st h:=by
 have k:∀ h A a μ,v05 b c Q h A a μ=λst=>p0m A st λj g=>f0k A a j g h /\
  W0b c λds=>headD A st ds [] λf=>Z05 A ds st st.fr λi =>
   u0a j.length λvs=>v0a g.length λos=>g0k A a μ vs os λm h' =>
    M07 A.vars.length vs λl o=>X05 A.boxes o st.bx λbx=>Y05 A.owns os st.ow λow =>
     b (λe st' d=>match e with
      | .normal=>d0k A.pubs st' d λst' d=>Y0p A f i st a μ vs m st' d
      |e=>Q e st' d) ⟨st.n,X0b A.vars l (f++i),bx,ow⟩ h':=by
  intro h A a μ
  funext st
  simp_all[v05,Y01,g0f,F0n,x0s]
 simp only[a0j,r0n,k]
 rfl
def h0f(P:Program)(o:Oper)(st:St)(h:Hp)(K:St->Hp->Prop):Prop:=match st with
 |⟨n,fr,bx,ow⟩=>c8 P o ⟨n,fr,bx,ow⟩ h λav st h=>R0a (z0m o.op) st λst=>Y0i o.dst 0 [] av ⟨st,h,[],[]⟩ λrs=>match rs with
  |⟨st,h,_,_⟩=>K st h
theorem H0k(P:Program)(o:Oper):h0f P o=K03 P o:=by
 funext st h K
 simp_all[h0f,K03,f0f,Z0i]
theorem a0p(P:Program):h0f P=K03 P:=funext (H0k P)
def evF(P:Program)(c:Code):(Ex->St->Hp->Prop)->St->Hp->Prop :=
 Code.rec (motive:=λ_=>(Ex->St->Hp->Prop)->St->Hp->Prop)
  (λQ st h=>Q .normal st h)
  (λ_ ops d Q st h=>match d with
   |false=>match g0s P ops.toList with
    |true=>E03 st.n ops.toList=true/\evU P ops.toList 0 [] [] st h λst h=>Q .normal st h
    |false=>o0c P ops.toList 0 ⟨st,h,[],[]⟩ λrs=>match rs with
     |⟨st,h,_,_⟩=>Q .normal st h
   |true=>((P.follows .mixedOrders=true/\Region.lexB .any ops=true) /\
     s0q P ops.toList 0 ⟨st,h,[],[]⟩ λrs=>match rs with
      |⟨st,h,_,_⟩=>Q .normal st h) ∨
     False ∨
     (match R0p ops.toList with
    |none=>(P.follows .mixedOrders=true/\w02 st.n ops.toList=true)/\v03 P st h ops.toList 0 [] [] [] λL X E=>evD (A9 L st ops.toList) ops.size P X E L st h λst h=>Q .normal st h
    |some o=>(P.follows .mixedOrders=true/\(w02 st.n (W00 ops.toList)&&i0d ops.toList 0)=true)/\v03 P st h (W00 ops.toList) 0 [] [] [] λL X E=>evD (A9 L st (W00 ops.toList)) (W00 ops.toList).length P X E L st h λst h=>h0f P o st h λst h=>Q .normal st h) ∨
     ((P.follows .mixedOrders=true/\E03 st.n ops.toList=true)/\evU P ops.toList 0 [] [] st h λst h=>Q .normal st h) ∨
     (∃ m,(P.follows .mixedOrders=true/\okZ P st.n m ops.toList=true)/\evT P (h0f P) m ops.toList st h λst h=>Q .normal st h))
  (λ_ _ g j Q st h=>g (λe st h=>match e with
   | .normal=>j Q st h
   |e=>Q e st h) st h)
  (λc _ _ k l Q st h=>match rdO st c with
   | .val (.bool b)=>Z0p b (k Q st h) (l Q st h)
   |_=>False)
  (λid _ a Q st h=>a (λe st h=>match e with
   | .exit i=>match Nat.beq i id with
    |true=>Q .normal st h
    |false=>Q (.exit i) st h
   |e=>Q e st h) st h)
  (λf a Q st h=>a0j (λQ=>a Q) (J0g f []) Q st h)
  (λ_ _ _ _ _ _ _ _ _=>False)
  (λid Q st h=>Q (.exit id) st h)
  (λ_ _ _ _ _=>False)
  (λ_ _ _ _=>False)
  (λ_ _ _ _=>False)
  (λQ st h=>Q .ret st h)
  (λ_ _ _ _=>False) c
theorem A0m(P:Program)(c:Code):evF P c=ev P c:=by
  induction c with
  |region id ops d =>
    funext Q st h
    cases d
    · show(match g0s P ops.toList with
        |true=>E03 st.n ops.toList=true/\evU P ops.toList 0 [] [] st h λst h=>Q .normal st h
        |false=>o0c P ops.toList 0 ⟨st,h,[],[]⟩ λrs=>match rs with
          |⟨st,h,_,_⟩=>Q .normal st h)=_
      grind[ev,s0h]
    · show(((P.follows .mixedOrders=true/\Region.lexB .any ops=true) /\
          s0q P ops.toList 0 ⟨st,h,[],[]⟩ λrs=>match rs with
            |⟨st,h,_,_⟩=>Q .normal st h) ∨
          False ∨
          (match R0p ops.toList with
        |none=>(P.follows .mixedOrders=true/\w02 st.n ops.toList=true)/\v03 P st h ops.toList 0 [] [] [] λL X E=>evD (A9 L st ops.toList) ops.size P X E L st h λst h=>Q .normal st h
        |some o=>(P.follows .mixedOrders=true/\(w02 st.n (W00 ops.toList)&&i0d ops.toList 0)=true)/\v03 P st h (W00 ops.toList) 0 [] [] [] λL X E=>evD (A9 L st (W00 ops.toList)) (W00 ops.toList).length P X E L st h λst h=>h0f P o st h λst h=>Q .normal st h) ∨
          ((P.follows .mixedOrders=true/\E03 st.n ops.toList=true)/\evU P ops.toList 0 [] [] st h λst h=>Q .normal st h) ∨
          (∃ m,(P.follows .mixedOrders=true/\okZ P st.n m ops.toList=true)/\evT P (h0f P) m ops.toList st h λst h=>Q .normal st h))=_
      simp only[ev,E0n,H0k,a0p]
      rfl
  |seq a b g j =>
    funext Q st h
    show evF P a (λe st h=>match e with
      | .normal=>evF P b Q st h
      |e=>Q e st h) st h=_
    simp only[ev,g,j];rfl
  |cond c x y k l =>
    funext Q st h
    show(match rdO st c with
      | .val (.bool b)=>Z0p b (evF P x Q st h) (evF P y Q st h)
      |_=>False)=_
    simp only[ev,k,l];rfl
  |block id c f =>
    funext Q st h
    show evF P c (λe st h=>match e with
      | .exit i=>match Nat.beq i id with
        |true=>Q .normal st h
        |false=>Q (.exit i) st h
      |e=>Q e st h) st h=_
    simp only[ev,f];rfl
  |loop c f =>
    funext Q st h
    show a0j (λQ=>evF P c Q) (J0g c []) Q st h=_
    grind[ev,Z0o]
  |_=>rfl
def y0t(P:Program)(fn:Func)(args:List Value)(h:Hp)(T:Value->Hp->Prop):Prop :=
 match fn.body with
 |some c=>match Nat.ble args.length fn.ntmps with
  |true=>d8 (x0a 0 args) λfr=>evF P c (λe st h=>match e with
   | .exit _=>False
   |_=>H0i P fn.results.toList st h λvs _ h=>T (w0a vs) h) ⟨fn.ntmps,fr,[],[]⟩ h
  |false=>False
 |none=>False
theorem T3{P:Program}{f:FuncId}{fn:Func}{args:List Value}{h:Hp}{b:Value->Hp->Prop}(hf:P.funcs[f]?=some fn)(a:y0t P fn args h b):Tr P f args.toArray h b:=by
 refine y0m hf ?_
 unfold y0t at a
 unfold Q0t
 simp only[Y01,A0m]at a
 exact a
theorem Sub.refl(h:Hp):Sub h h:=λ_ _ e=>e
theorem Sub.trans{h c d:Hp}(a:Sub h c)(b:Sub c d):Sub h d:=λx o e=>b x o (a x o e)
theorem Sub.set{h:Hp}{b:Nat}{o:Obj}(a:h b=none):Sub h (h.set b o):=λx y e=>by
 grind[Hp.set_other]
theorem Sub.cell{h h':Hp}(d:Sub h h'){b o:Nat}{v:Value}(a:Hp.cell h b o=some v):Hp.cell h' b o=some v:=by
 unfold Hp.cell at a ⊢
 split at a
 ·rename_i c;rw[d _ _ c];exact a
 ·cases a
theorem SlE.mono{h h':Hp}(q:Sub h h'){sz:Nat}{v:Value}{xs:List (List Value)}(e:SlE h sz v xs):SlE h' sz v xs:=by
 obtain⟨d,a,n,c,f,g,i,k⟩:=e
 refine⟨d,a,n,c,f,g,i,k.imp id ?_⟩
 rintro⟨b,o,l,m⟩
 exact⟨b,o,l,λj v p=>q.cell (m j v p)⟩
theorem U0.sub{h h':Hp}{v:Value}{e sz:Nat}{nn:Bool}{xs:List (List Value)}(f:U0 h h' v e sz nn xs):Sub h h':=by
 rcases f.2 with⟨_,_,_,rfl⟩|⟨g,cap,cur,_,a,rfl,_⟩
 all_goals simp_all[Sub.refl,Sub.set]
theorem U0.sle{h h':Hp}{v:Value}{e sz:Nat}{nn:Bool}{xs:List (List Value)}(f:U0 h h' v e sz nn xs):SlE h' sz v xs:=by
 refine⟨f.1,?_⟩
 rcases f.2 with⟨rfl,rfl,_,rfl⟩|⟨g,cap,cur,rfl,i,rfl,a,b,c,d⟩
 ·grind
 grind[Hp.cell,Hp.set_same]
theorem U0.slice{h h':Hp}{v:Value}{e sz:Nat}{nn:Bool}{xs:List (List Value)}(f:U0 h h' v e sz nn xs):∃ a c,v = .slice a xs.length c/\xs.length<=maxLen:=by
 rcases f.2 with⟨rfl,rfl,_,rfl⟩|⟨g,cap,cur,rfl,k,rfl,b,d,i,j⟩
 all_goals grind
def F2{c d:Type}(p:c->d->Prop):List c->List d->Prop
 | [],[]=>True
 |a::as,b::bs=>p a b/\F2 p as bs
 |_,_=>False
theorem F2.length{a b:Type}{p:a->b->Prop}:∀ {as:List a} {bs:List b},F2 p as bs->as.length=bs.length
 | [],[],_=>rfl
 |_::as,_::bs,h=>by simp[F2.length h.2]
 | [],_::_,h=>h.elim
 |_::_,[],h=>h.elim
theorem F2.get{f d:Type}{p:f->d->Prop}:∀ {as:List f} {bs:List d} {i:Nat} {b:d},F2 p as bs->bs[i]?=some b->∃ a,as[i]?=some a/\p a b
 |a::as,b::bs,0,e,h,c=>by cases c;exact⟨a,rfl,h.1⟩
 |a::as,b::bs,i+1,e,h,c=>by
  obtain⟨x,g,j⟩:=F2.get (i:=i) h.2 (by simpa using c)
  grind
 | [],[],i,e,h,c=>by simp at c
 | [],_::_,_,_,h,_=>h.elim
 |_::_,[],_,_,h,_=>h.elim
theorem F2.mono{d e:Type}{p q:d->e->Prop}(c:∀ a b,p a b->q a b):∀ {as:List d} {bs:List e},F2 p as bs->F2 q as bs
 | [],[],_=>trivial
 |_::as,_::bs,h=>⟨c _ _ h.1,F2.mono c h.2⟩
 | [],_::_,h=>h.elim
 |_::_,[],h=>h.elim
theorem F2.snoc{c d:Type}{p:c->d->Prop}{a:c}{b:d}(e:p a b):∀ {as:List c} {bs:List d},F2 p as bs->F2 p (as ++ [a]) (bs ++ [b])
 | [],[],_=>⟨e,trivial⟩
 |_::as,_::bs,h=>⟨h.1,F2.snoc e h.2⟩
 | [],_::_,h=>h.elim
 |_::_,[],h=>h.elim
theorem F2.set{c d:Type}{p:c->d->Prop}{a:c}{b:d}(e:p a b):∀ {as:List c} {bs:List d} (i:Nat),F2 p as bs->F2 p (as.set i a) (bs.set i b)
 | [],[],_,_=>trivial
 |_::as,_::bs,0,h=>⟨e,h.2⟩
 |_::as,_::bs,i+1,h=>⟨h.1,F2.set e i h.2⟩
 | [],_::_,_,h=>h.elim
 |_::_,[],_,h=>h.elim
structure Rp (α:Type) where
 sz:Nat
 R:Hp->List Value->α->Prop
 len:∀ {h cs x},R h cs x->cs.length=sz
 one:∀ {h cs x},R h cs x->∀ v∈cs,v.oneCell'=true
 mono:∀ {h h' cs x},Sub h h'->R h cs x->R h' cs x
def Rp.int:Rp Int:=⟨1,λ_ cs x=>cs = [.int .i64 x]/\H0 x,λh=>by rw[h.1];rfl,λh v a=>by rw[h.1]at a;simp at a;rw[a];rfl,λ_ h=>h⟩
def Rp.bool:Rp Bool:=⟨1,λ_ cs x=>cs = [.bool x],λh=>by rw[h];rfl,λh v a=>by rw[h]at a;simp at a;rw[a];rfl,λ_ h=>h⟩
def Rp.pair{g i:Type}(r:Rp g)(q:Rp i):Rp (g×i) where
 sz:=r.sz+q.sz
 R:=λh cs x=>∃ a b,cs=a++b/\r.R h a x.1/\q.R h b x.2
 len:=by rintro h cs x ⟨a,b,rfl,c,d⟩;rw[List.length_append,r.len c,q.len d]
 one:=by
  rintro h cs x ⟨a,b,rfl,c,d⟩ v e
  rcases List.mem_append.1 e with e|e
  ·exact r.one c v e
  ·exact q.one d v e
 mono:=by rintro h h' cs x f ⟨a,b,rfl,c,d⟩;exact⟨a,b,rfl,r.mono f c,q.mono f d⟩
def Rp.slice{e:Type}(r:Rp e):Rp (List e) where
 sz:=1
 R:=λh cs xs=>∃ a n c vs,cs = [.slice a n c]/\n=xs.length/\n<=9223372036854775807/\SlE h r.sz (.slice a n c) vs/\F2 (r.R h) vs xs
 len:=by grind
 one:=by rintro h cs x ⟨a,n,c,vs,rfl,_⟩ v b;simp at b;rw[b];rfl
 mono:=by rintro h h' cs x d ⟨a,n,c,vs,rfl,f,g,i,j⟩;exact⟨a,n,c,vs,rfl,f,g,i.mono d,j.mono λ_ _ h=>r.mono d h⟩
def Sl{a:Type}(r:Rp a)(h:Hp)(v:Value)(xs:List a):Prop:=r.slice.R h [v] xs
abbrev y0s(h:Hp)(v:Value)(xs:List Int):Prop:=Sl .int h v xs
theorem Sl.mono{a:Type}{r:Rp a}{h h':Hp}(b:Sub h h'){v:Value}{xs:List a}(e:Sl r h v xs):Sl r h' v xs:=r.slice.mono b e
theorem Sl.slice{b:Type}{r:Rp b}{h:Hp}{v:Value}{xs:List b}(e:Sl r h v xs):∃ a c,v = .slice a xs.length c/\xs.length<=9223372036854775807:=by
 obtain⟨a,n,c,vs,g,rfl,i,⟨_,d,l,f,j,_,k,_⟩,_⟩:=e
 grind
theorem Sl.len{b:Type}{r:Rp b}{h:Hp}{a:Option Addr}{n c:Nat}{xs:List b}(e:Sl r h (.slice a n c) xs):n=xs.length/\n<=9223372036854775807:=by
 obtain⟨d,f,g,i⟩:=e.slice
 grind
theorem Sl.get{g:Type}{r:Rp g}{h:Hp}{v:Value}{xs:List g}(e:Sl r h v xs){i:Nat}{x:g}(f:xs[i]?=some x)(G:0<r.sz):
  InB v i/\∃ cs,Z7 h v r.sz i cs/\r.R h cs x:=by
 obtain⟨a,n,c,vs,s,rfl,B,⟨t,y,I,A,u,C,D,d⟩,k⟩:=e
 cases s
 cases u
 obtain⟨cs,l,m⟩:=k.get f
 have F:=k.length
 obtain⟨E,H⟩:=List.getElem?_eq_some_iff.1 f
 have p:∀ x∈vs,x.length=r.sz:=λx f=>(t x f).1
 have q:cs.length=r.sz:=r.len m
 rcases d with d|⟨b,o,rfl,d⟩
 ·exfalso
  cases cs with
  |nil=>simp at q;omega
  |cons z cs =>
   have:=I04 vs i (z::cs) p l 0 z rfl
   grind
 ·refine⟨⟨b,o,_,_,rfl,by omega,by omega⟩,cs,⟨q,by omega,b,o,_,_,rfl,λj v w=>?_⟩,m⟩
  have:=d _ _ (I04 vs i cs p l j v w)
  grind
theorem b0p{a:Type}{xs:List a}{i:Nat}(d:a)(h:i<xs.length):xs[i]?=some (xs.getD i d):=by
 grind
theorem y0s.get{h:Hp}{v:Value}{xs:List Int}(e:y0s h v xs){i:Nat}(f:i<xs.length):InB v i/\Z7 h v 1 i [.int .i64 (xs.getD i 0)]/\H0 (xs.getD i 0):=by
 obtain⟨a,cs,b,c,d⟩:=Sl.get e (b0p 0 f) Nat.zero_lt_one
 subst c
 exact⟨a,b,d⟩
theorem U0.sl{d:Type}{r:Rp d}{h h':Hp}{v:Value}{e:Nat}{nn:Bool}{vs:List (List Value)}{xs:List d}(f:U0 h h' v e r.sz nn vs)(b:F2 (r.R h) vs xs):Sl r h' v xs:=by
 obtain⟨a,c,rfl,g⟩:=f.slice
 have i:=b.length
 refine⟨a,_,c,vs,rfl,i,by simpa [maxLen] using g,f.sle,b.mono λ_ _ h=>r.mono f.sub h⟩
theorem Tr.forget{P:Program}{f:FuncId}{args:Array Value}{h:Hp}{x:Value}(t:Tr P f args h λv h'=>v=x/\Sub h h'):Tr P f args h λv h'=>v=x/\h'=h :=
 ⟨λw d=>(t.run w d).mono λ_ _ ⟨v,h',a,⟨e,c⟩,b⟩=>⟨v,h,a,⟨e,rfl⟩,b.less c⟩⟩
structure Wp (α:Type) extends Rp α where
 W:Hp->List Value->α->List Nat->Prop
 toR:∀ {h cs x B},W h cs x B->R h cs x
 dom:∀ {h cs x B},W h cs x B->∀ b∈B,h b≠none
 frame:∀ {h h' cs x B},W h cs x B->(∀ b∈B,h' b=h b)->W h' cs x B
def Wp.plain{a:Type}(r:Rp a)(c:∀ h h' cs x,r.R h cs x->r.R h' cs x):Wp a :=
 { r with W:=λh cs x B=>r.R h cs x/\B = [],toR:=λh=>h.1,dom:=(λh b d=>by grind),frame:=λh _=>⟨c _ _ _ _ h.1,h.2⟩ }
def Wp.int:Wp Int := .plain .int λ_ _ _ _ h=>h
def Wp.bool:Wp Bool := .plain .bool λ_ _ _ _ h=>h
def Wp.pair{l m:Type}(r:Wp l)(q:Wp m):Wp (l×m) :=
 { Rp.pair r.toRp q.toRp with
  W:=λh cs x B=>∃ c d e f,cs=c++d/\B=e++f/\r.W h c x.1 e/\q.W h d x.2 f
  toR:=λ⟨c,d,e,f,j,_,g,i⟩=>⟨c,d,j,r.toR g,q.toR i⟩
  dom:=λ⟨c,d,e,f,_,k,g,i⟩ b a=>by
   subst k
   rcases List.mem_append.1 a with a|a
   ·exact r.dom g b a
   ·exact q.dom i b a
  frame:=λ⟨c,d,e,f,j,k,g,i⟩ hf=>by
   subst k
   exact⟨c,d,e,f,j,rfl,r.frame g λb a=>hf b (List.mem_append_left _ a),q.frame i λb a=>hf b (List.mem_append_right _ a)⟩ }
def F3{d e f:Type}(p:d->e->f->Prop):List d->List e->List f->Prop
 | [],[],[]=>True
 |a::as,b::bs,c::cs=>p a b c/\F3 p as bs cs
 |_,_,_=>False
theorem F3.f2{d e g:Type}{p:d->e->g->Prop}{q:d->e->Prop}(f:∀ a b c,p a b c->q a b):∀ {as:List d} {bs:List e} {cs:List g},F3 p as bs cs->F2 q as bs
 | [],[],[],_=>trivial
 |_::as,_::bs,_::cs,h=>⟨f _ _ _ h.1,F3.f2 f h.2⟩
 | [],[],_::_,h=>h.elim
 | [],_::_,_,h=>h.elim
 |_::_,[],_,h=>h.elim
 |_::_,_::_,[],h=>h.elim
theorem F3.mono{e f g:Type}{p q:e->f->g->Prop}:∀ {as:List e} {bs:List f} {cs:List g},(∀ a b c,c∈cs->p a b c->q a b c)->F3 p as bs cs->F3 q as bs cs
 | [],[],[],_,_=>trivial
 |_::as,_::bs,_::cs,d,h=>⟨d _ _ _ mS h.1,F3.mono (λa b c i=>d a b c (mC _ i)) h.2⟩
 | [],[],_::_,_,h=>h.elim
 | [],_::_,_,_,h=>h.elim
 |_::_,[],_,_,h=>h.elim
 |_::_,_::_,[],_,h=>h.elim
theorem F3.snoc{d e f:Type}{p:d->e->f->Prop}{a:d}{b:e}{c:f}(g:p a b c):∀ {as:List d} {bs:List e} {cs:List f},F3 p as bs cs->F3 p (as ++ [a]) (bs ++ [b]) (cs ++ [c])
 | [],[],[],_=>⟨g,trivial⟩
 |_::as,_::bs,_::cs,h=>⟨h.1,F3.snoc g h.2⟩
 | [],[],_::_,h=>h.elim
 | [],_::_,_,h=>h.elim
 |_::_,[],_,h=>h.elim
 |_::_,_::_,[],h=>h.elim
theorem F3.mem{f g e:Type}{p:f->g->e->Prop}:∀ {as:List f} {bs:List g} {cs:List e} {c:e},F3 p as bs cs->c∈cs->∃ a b,p a b c
 |_::as,_::bs,_::cs,c,h,d=>by
  rcases List.mem_cons.1 d with rfl|d
  ·exact⟨_,_,h.1⟩
  ·exact F3.mem h.2 d
 | [],[],[],c,_,d=>by cases d
 | [],[],_::_,_,h,_=>h.elim
 | [],_::_,_,_,h,_=>h.elim
 |_::_,[],_,_,h,_=>h.elim
 |_::_,_::_,[],_,h,_=>h.elim
def G0n(sz:Nat)(h:Hp)(v:Value)(vs:List (List Value))(B:List Nat):Prop :=
 (∀ x∈vs,x.length=sz/\∀ v∈x,v.oneCell'=true) /\
 ((v = .slice none 0 0/\vs = []/\B = [])∨∃ g o c cur ty,v = .slice (some ⟨g,o,none⟩) vs.length c/\vs.length<=c/\c<=9223372036854775807/\h g=some (.cells cur ty (0,0))/\B = [g] /\
  (∀ j u,vs.flatten[j]?=some u->cur[o+j]?=some u)/\o+c*sz<=cur.size)
theorem G0n.sle{sz:Nat}{h:Hp}{v:Value}{vs:List (List Value)}{B:List Nat}(w:G0n sz h v vs B):SlE h sz v vs:=by
 refine⟨w.1,?_⟩
 rcases w.2 with⟨rfl,rfl,_⟩|⟨g,o,c,cur,ty,rfl,a,b,d,_,e⟩
 ·grind
 grind[Hp.cell]
def Wp.slice{s:Type}(r:Wp s):Wp (List s) :=
 { Rp.slice r.toRp with
  W:=λh cs xs B=>∃ v vs e Bs,cs = [v]/\G0n r.sz h v vs e/\F3 (r.W h) vs xs Bs/\B=e++Bs.flatten
  toR:=by
   rintro h cs xs B ⟨v,vs,e,Bs,rfl,d,f,rfl⟩
   have j:=f.f2 (q:=r.R h) λ_ _ _ h=>r.toR h
   have p:=d.sle
   have n:=j.length
   rcases d.2 with⟨rfl,rfl,_⟩|⟨g,o,c,cur,ty,rfl,l,m,_⟩
   ·exact⟨none,0,0,[],rfl,n,Nat.zero_le _,p,j⟩
   ·exact⟨_,_,c,vs,rfl,n,Nat.le_trans l m,p,j⟩
  dom:=by
   rintro h cs xs B ⟨v,vs,e,Bs,rfl,d,f,rfl⟩ b i
   rcases List.mem_append.1 i with i|i
   ·rcases d.2 with⟨_,_,rfl⟩|⟨g,o,c,cur,ty,_,_,_,y,rfl,_⟩
    all_goals grind
   ·obtain⟨C,t,u⟩:=List.mem_flatten.1 i
    obtain⟨a,x,k⟩:=f.mem t
    exact r.dom k b u
  frame:=by
   rintro h h' cs xs B ⟨v,vs,e,Bs,rfl,d,f,rfl⟩ hf
   refine⟨v,vs,e,Bs,rfl,⟨d.1,?_⟩,f.mono λa b c w k=>r.frame k λx z=>hf x (List.mem_append_right _ (List.mem_flatten.2 ⟨c,w,z⟩)),rfl⟩
   rcases d.2 with⟨rfl,rfl,rfl⟩|⟨g,o,c,cur,ty,rfl,l,m,y,rfl,A⟩
   ·grind
   ·exact .inr ⟨g,o,c,cur,ty,rfl,l,m,by grind,rfl,A⟩ }
def R4(h:Hp)(B:List Nat):Prop:=B.Nodup/\∀ b∈B,h b=none
theorem U0.rows{h h':Hp}{v:Value}{e sz:Nat}{nn:Bool}{vs:List (List Value)}(f:U0 h h' v e sz nn vs):∃ B,G0n sz h' v vs B/\R4 h B:=by
 rcases f.2 with⟨rfl,rfl,_,rfl⟩|⟨g,cap,cur,rfl,d,rfl,a,b,c,i⟩
 ·exact⟨[],⟨by simp,.inl ⟨rfl,rfl,rfl⟩⟩,by simp[R4]⟩
 ·refine⟨[g],⟨f.1,.inr ⟨g,0,cap,cur,e,rfl,a,by simpa [maxLen] using b,Hp.set_same _ _ _,rfl,λj u k=>?_,by rw[c];omega⟩⟩,by simp,by simpa using d⟩
  grind
theorem U0.fresh{p:Type}{r:Wp p}{h0 h h':Hp}{v:Value}{e:Nat}{nn:Bool}{vs:List (List Value)}{xs:List p}{Bs:List (List Nat)}(f:U0 h h' v e r.sz nn vs)(m:F3 (r.W h) vs xs Bs)
  (n:Sub h0 h) (l:R4 h0 Bs.flatten):∃ B,r.slice.W h' [v] xs B/\R4 h0 B/\Sub h0 h':=by
 obtain⟨j,q,i⟩:=f.rows
 have w:∀ b∈Bs.flatten,h b≠none:=λb d=>by
  obtain⟨z,s,u⟩:=List.mem_flatten.1 d
  obtain⟨a,x,g⟩:=m.mem s
  exact r.dom g b u
 refine⟨j++Bs.flatten,⟨v,vs,j,Bs,rfl,q,m.mono λa b c A g=>r.frame g λx y=>?_,rfl⟩,⟨?_,λb d=>?_⟩,n.trans f.sub⟩
 ·have:=r.dom g x y
  cases ho:h x with
  |none=>exact absurd ho this
  |some o=>exact f.sub x o ho
 ·rw[List.nodup_append]
  refine⟨i.1,l.1,λa t b d e=>?_⟩
  exact w b d (by rw[←e];exact i.2 a t)
 ·rcases List.mem_append.1 d with d|d
  ·have k:=i.2 b d
   cases ho:h0 b with
   |none=>rfl
   |some o=>rw[n b o ho]at k;cases k
  ·exact l.2 b d
def New{a:Type}(r:Wp a)(h h':Hp)(cs:List Value)(x:a):Prop:=∃ B,r.W h' cs x B/\R4 h B/\Sub h h'
theorem New.sub{a:Type}{r:Wp a}{h h':Hp}{cs:List Value}{x:a}(w:New r h h' cs x):Sub h h':=let ⟨_,_,_,s⟩:=w;s
theorem New.r{a:Type}{r:Wp a}{h h':Hp}{cs:List Value}{x:a}(w:New r h h' cs x):r.R h' cs x:=let ⟨_,hw,_,_⟩:=w;r.toR hw
theorem I0k{a:Type}(xs:List a):(xs.map λ_=>([]:List Nat)).flatten = []:=by induction xs<;>simp_all
theorem y0s.all{h:Hp}{v:Value}{xs:List Int}(e:y0s h v xs):∀ x∈xs,H0 x:=by
 obtain⟨a,n,c,vs,_,_,_,_,b⟩:=e
 intro x g
 obtain⟨i,f⟩:=List.getElem?_of_mem g
 obtain⟨cs,_,d⟩:=b.get f
 exact d.2
theorem Wp.sub{a:Type}{r:Wp a}{h h':Hp}{cs:List Value}{x:a}{B:List Nat}(w:r.W h cs x B)(d:Sub h h'):r.W h' cs x B :=
 r.frame w λb c=>by
  have:=r.dom w b c
  cases ho:h b with
  |none=>exact absurd ho this
  |some o=>exact d b o ho
theorem M2{a:Type}{r:Wp a}{h h':Hp}{L:List (List Value)}{xs:List a}{Bs:List (List Nat)}(w:F3 (r.W h) L xs Bs)(c:Sub h h'):F3 (r.W h') L xs Bs :=
 w.mono λ_ _ _ _ b=>Wp.sub b c
theorem V0{g:Type}{r:Wp g}{h0 h:Hp}{L:List (List Value)}{xs:List g}{Bs:List (List Nat)}{B:List Nat}(w:F3 (r.W h) L xs Bs)(n:Sub h0 h)(hf:R4 h0 Bs.flatten)(d:R4 h B):
  R4 h0 (Bs ++ [B]).flatten:=by
 have l:∀ b∈Bs.flatten,h b≠none:=λb c=>by
  obtain⟨q,i,k⟩:=List.mem_flatten.1 c
  obtain⟨a,x,p⟩:=w.mem i
  exact r.dom p b k
 have m:(Bs ++ [B]).flatten=Bs.flatten++B:=by simp
 rw[m]
 refine⟨?_,λb c=>?_⟩
 ·rw[List.nodup_append]
  exact⟨hf.1,d.1,λa j b c e=>l a j (by rw[e];exact d.2 b c)⟩
 ·rcases List.mem_append.1 c with c|c
  ·exact hf.2 b c
  ·have f:=d.2 b c
   cases ho:h0 b with
   |none=>rfl
   |some o=>rw[n b o ho]at f;cases f
open Go.WideShapes Go.Deep
def Q03(P:Program)(t:TypeId){e:Type}(r:Rp e):Prop :=
 ∀ {H:Type} (enc:TypeId×Value->H) (w:World) (base:Nat) (c:Nat->Bool) (a:Bool) (n:Nat) (cs:List Value) (x:DataW H×List MemPlace),
  DataW.trod enc P w base c a n t cs=some x->∃ d,r.R (λb=>w.heap[b]?) cs d
theorem Q03.int{P:Program}{t:TypeId}(a:P.underlying t=some (.int .i64)):Q03 P t Rp.int:=by
 intro H enc w base e d n cs x c
 obtain⟨k,rfl,_,b⟩:=DataW.trod_int a c
 exact⟨k,rfl,l0v b⟩
theorem Q03.bool{P:Program}{t:TypeId}(a:P.underlying t=some .bool):Q03 P t Rp.bool:=by
 intro H enc w base d c n cs x b
 obtain⟨k,rfl,_⟩:=DataW.trod_bool a b
 exact⟨k,rfl⟩
def t0h(P:Program)(a:List Field)(off:Nat){g:Type}(r:Rp g):Prop :=
 ∀ {H:Type} (enc:TypeId×Value->H) (w:World) (base:Nat) (e:Nat->Bool) (c:Bool) (n:Nat) (cs:List Value),
  (∀ f∈a,∃ y,DataW.trod enc P w base e c n f.type ((cs.drop f.offset).take (P.cellsOf f.type))=some y)->off+r.sz=cs.length->∃ d,r.R (λb=>w.heap[b]?) (cs.drop off) d
theorem t0h.one{P:Program}{f:Field}{off:Nat}{g:Type}{r:Rp g}(c:f.offset=off)(d:P.cellsOf f.type=r.sz)(h:Q03 P f.type r):t0h P [f] off r:=by
 intro H enc w base e b n cs hf i
 obtain⟨y,a⟩:=hf f (List.mem_singleton.2 rfl)
 rw[d,c,List.take_of_length_le (by simp;omega)]at a
 exact h enc w base e b n _ y a
theorem t0h.cons{P:Program}{f:Field}{a:List Field}{off:Nat}{u v:Type}{r:Rp u}{q:Rp v}(p:f.offset=off)(t:P.cellsOf f.type=r.sz)(h:Q03 P f.type r)(s:t0h P a (off+r.sz) q):
  t0h P (f::a) off (r.pair q):=by
 intro H enc w base d b n cs hf m
 obtain⟨y,c⟩:=hf f mS
 rw[t,p]at c
 obtain⟨e,j⟩:=h enc w base d b n _ y c
 have o:off+r.sz+q.sz=cs.length:=by rw[←m];show _=off+(r.sz+q.sz);omega
 obtain⟨i,k⟩:=s enc w base d b n cs (λg l=>hf g (mC _ l)) o
 refine⟨(e,i),_,_,?_,j,k⟩
 grind[List.drop_drop,List.take_append_drop]
theorem Q03.struct{P:Program}{t:TypeId}{a:Array Field}{g:Type}{r:Rp g}(c:P.underlying t=some (.struct a))(l:P.cellsOf t=r.sz)(h:t0h P a.toList 0 r):Q03 P t r:=by
 intro H enc w base e b n cs x d
 obtain⟨xs,m,_,_,i,j,hf⟩:=DataW.trod_struct c d
 have:=h enc w base e b m cs (λf k=>by
  grind[List.getElem?_of_mem,Array.getElem?_eq_some_iff]) (by omega)
 simpa using this
theorem H0n{e c:Type}[Inhabited c]{p:Nat->List e->c->Prop}:∀(n:Nat),(∀ i,i<n->∃ a b,p i a b)->∃(as:List (List e)) (bs:List c),as.length=n/\bs.length=n/\∀ i,i<n->p i (as.getD i []) (bs.getD i default)
 |0,_=>⟨[],[],rfl,rfl,λi d=>by omega⟩
 |n+1,h=>by
  obtain⟨as,bs,f,g,j⟩:=H0n n λi d=>h i (by omega)
  obtain⟨a,b,k⟩:=h n (by omega)
  refine⟨as ++ [a],bs ++ [b],by simp[f],by simp[g],λi d=>?_⟩
  grind
theorem F2.of_get{e d:Type}{p:List e->d->Prop}[Inhabited d]:∀(as:List (List e)) (bs:List d),as.length=bs.length->(∀ i,i<as.length->p (as.getD i []) (bs.getD i default))->F2 p as bs
 | [],[],_,_=>trivial
 |a::as,b::bs,c,h=>⟨h 0 (by simp),F2.of_get as bs (by simpa using c) λi f=>h (i+1) (by simpa using f)⟩
 | [],_::_,c,_=>by cases c
 |_::_,[],c,_=>by cases c
theorem I0n{sz:Nat}:∀(xs:List (List Value)) (j:Nat) (v:Value),(∀ x∈xs,x.length=sz)->xs.flatten[j]?=some v->j / sz<xs.length/\(xs.getD (j / sz) [])[j % sz]?=some v
 | [],j,v,_,h=>by simp at h
 |x::r,j,v,a,h=>by
  have b:=a x mS
  rw[List.flatten_cons,List.getElem?_append]at h
  by_cases hj:j<x.length
  ·simp_all[Nat.div_eq_of_lt,Nat.mod_eq_of_lt]
  ·rw[if_neg hj,b]at h
   rw[b]at hj
   obtain⟨f,g⟩:=I0n r (j-sz) v (λy c=>a y (mC _ c)) h
   have h0:0<sz:=by
    grind
   have d:j / sz=(j-sz) / sz+1:=by
    conv=>lhs;rw[show j=(j-sz)+sz from by omega,Nat.add_div_right _ h0]
   have e:j % sz=(j-sz) % sz:=by
    conv=>lhs;rw[show j=(j-sz)+sz from by omega,Nat.add_mod_right]
   grind
theorem Q03.slice{P:Program}{t e:TypeId}{u:Type}{r:Rp u}(Q:P.underlying t=some (.slice e))(O:P.cellsOf e=r.sz)(h0:0<r.sz)(z:Q03 P e r):Q03 P t r.slice:=by
 intro H enc w base D B n cs x h
 rcases open_slice Q h with⟨rfl,_⟩|⟨a,len,cap,m,k,T,U,rfl,X,s,L,M,_,A⟩
 ·exact⟨[],none,0,0,[],rfl,rfl,Nat.zero_le _,⟨by simp,none,0,0,rfl,rfl,Nat.le_refl _,.inl rfl⟩,trivial⟩
 have aa:len<=m:=by rw[M];split<;>omega
 rcases Nat.eq_zero_or_pos len with E|C
 ·subst E
  exact⟨[],_,_,_,[],rfl,rfl,Nat.zero_le _,⟨by simp,_,_,_,rfl,rfl,s,.inl rfl⟩,trivial⟩
 have S:Nonempty u:=by
  obtain⟨cs',_,f⟩:=A 0 (by omega)
  obtain⟨d,_⟩:=z enc w base D B k cs' _ f
  exact⟨d⟩
 letI:Inhabited u:=Classical.inhabited_of_nonempty S
 obtain⟨vs,xs,ad,ae,l⟩:=H0n (p:=λi cs' d=>w.cells? base (a.add (i*P.cellsOf e)) (P.cellsOf e)=some cs'/\r.R (λb=>w.heap[b]?) cs' d) len (λi g=>by
  obtain⟨cs',o,f⟩:=A i (by omega)
  obtain⟨d,Z⟩:=z enc w base D B k cs' _ f
  grind)
 have I:F2 (r.R λb=>w.heap[b]?) vs xs:=F2.of_get vs xs (by omega) λi g=>(l i (by omega)).2
 have y:∀ x∈vs,x.length=r.sz/\∀ v∈x,v.oneCell'=true:=λx h=>by
  obtain⟨i,g,e⟩:=List.getElem_of_mem h
  have:=(l i (by omega)).2
  rw[List.getD_eq_getElem?_getD,List.getElem?_eq_getElem g,e]at this
  exact⟨r.len this,r.one this⟩
 have cell:∀ i j,i<len->j<r.sz->w.cell? ((a.add (i*r.sz)).add j)=(vs.getD i [])[j]?:=λi j g q=>by
  have:=(l i g).1
  rw[O]at this
  obtain⟨_,_,J⟩:=World.cells?_some this
  exact J j q
 have ac:a.spot=none:=by
  have o:=cell 0 0 C h0
  have f:=(l 0 C).2
  have W:=r.len f
  have G:(a.add (0*r.sz)).add 0=a:=by simp[Addr.add]
  rw[G]at o
  have c:((vs.getD 0 [])[0]?).isSome=true:=by
   grind
  rw[←o]at c
  unfold World.cell? at c
  split at c
  ·split at c
   ·cases c
   ·rename_i N;simpa using N
  ·cases c
 refine⟨xs,_,_,_,vs,rfl,by omega,Nat.le_trans s (Z0t L),⟨y,_,_,_,rfl,by omega,s,.inr ⟨a.block,a.off,?_,λj v q=>?_⟩⟩,I⟩
 ·cases a;grind
 ·obtain⟨V,F⟩:=I0n vs j v (λx h=>(y x h).1) q
  have K:j % r.sz<r.sz:=Nat.mod_lt _ h0
  have:=cell (j / r.sz) (j % r.sz) (by omega) K
  rw[F,add_add,show j / r.sz*r.sz+j % r.sz=j from by rw[Nat.mul_comm];exact Nat.div_add_mod ..]at this
  unfold Hp.cell
  unfold World.cell? at this
  have Y:(a.add j).block=a.block:=by unfold Addr.add;split<;>rfl
  have ab:(a.add j).off=a.off+j:=by unfold Addr.add;split<;>simp_all
  grind
theorem c0p{P:Program}{H:Type}{enc:TypeId×Value->H}{w:World}{base i:Nat}{g:Nat->Bool}{f:Bool}{s:Reach}{t e:TypeId}{v:Value}{d:DataW H}{q:List MemPlace}{u:Type}{r:Rp u}
  (k:Q03 P t r) (m:P.underlying t=some (.slice e)) (o:Value.okWide P w s i t v) (h:DataW.Trod enc P w base g f t v d q):∃ x,r.R (λb=>w.heap[b]?) [v] x:=by
 obtain⟨a,l,c,rfl⟩:=okWide_slice m o
 obtain⟨n,j⟩:=h
 obtain⟨x,p⟩:=k enc w base g f n _ _ j
 exact⟨x,p⟩
theorem Z2{n:Nat}{m:Nat}(h:n<m)(a:m<=9223372036854775807):IntKind.i64.wrap ((n:Int)+1)=((n+1:Nat):Int):=by
 grind[w64]
theorem R4.nil(h:Hp):R4 h []:=⟨List.nodup_nil,λb a=>nomatch a⟩
theorem New.pair{n p:Type}{r:Wp n}{q:Wp p}{h k l:Hp}{d f:List Value}{x:n}{y:p}(a:New r h k d x)(b:New q k l f y):New (r.pair q) h l (d++f) (x,y):=by
 obtain⟨g,m,j,s1⟩:=a
 obtain⟨i,w,f2,s2⟩:=b
 refine⟨g++i,⟨d,f,g,i,rfl,rfl,Wp.sub m s2,w⟩,⟨?_,λz c=>?_⟩,s1.trans s2⟩
 ·rw[List.nodup_append]
  refine⟨j.1,f2.1,λu s v t e=>?_⟩
  have:=r.dom m u s
  rw[e]at this
  exact this (f2.2 v t)
 ·rcases List.mem_append.1 c with c|c
  ·exact j.2 z c
  ·have:=f2.2 z c
   cases ho:h z with
   |none=>rfl
   |some o=>rw[s1 z o ho]at this;cases this
theorem New.int{h:Hp}{x:Int}(a:H0 x):New Wp.int h h [.int .i64 x] x:=⟨[],⟨⟨rfl,a⟩,rfl⟩,R4.nil h,Sub.refl h⟩
theorem New.bool{h:Hp}{x:Bool}:New Wp.bool h h [.bool x] x:=⟨[],⟨rfl,rfl⟩,R4.nil h,Sub.refl h⟩
theorem New.nilSlice{a:Type}{r:Wp a}{h:Hp}:New r.slice h h [.slice none 0 0] []:=⟨[],⟨_,[],[],[],rfl,⟨by simp,.inl ⟨rfl,rfl,rfl⟩⟩,trivial,rfl⟩,R4.nil h,Sub.refl h⟩
theorem Wp.slice_cell{b:Type}{r:Rp b}{h:Hp}{cs:List Value}{xs:List b}(d:r.slice.R h cs xs):∃ a n c,cs = [.slice a n c]:=by
 obtain⟨a,n,c,vs,rfl,_⟩:=d
 grind
theorem F3.get{g e j:Type}{p:g->e->j->Prop}:∀ {as:List g} {bs:List e} {cs:List j} {i:Nat} {b:e},F3 p as bs cs->bs[i]?=some b->∃ a c,as[i]?=some a/\cs[i]?=some c/\p a b c
 |a::as,b::bs,c::cs,0,f,h,d=>by cases d;exact⟨a,c,rfl,rfl,h.1⟩
 |a::as,b::bs,c::cs,i+1,f,h,d=>by
  obtain⟨x,y,k,l,m⟩:=F3.get (i:=i) h.2 (by simpa using d)
  grind
 | [],[],[],i,f,h,d=>by simp at d
 | [],[],_::_,_,_,h,_=>h.elim
 | [],_::_,_,_,_,h,_=>h.elim
 |_::_,[],_,_,_,h,_=>h.elim
 |_::_,_::_,[],_,_,h,_=>h.elim
theorem F3.lens{a b c:Type}{p:a->b->c->Prop}:∀ {as:List a} {bs:List b} {cs:List c},F3 p as bs cs->as.length=bs.length/\cs.length=bs.length
 | [],[],[],_=>⟨rfl,rfl⟩
 |_::as,_::bs,_::cs,h=>by have:=F3.lens h.2;simp[this]
 | [],[],_::_,h=>h.elim
 | [],_::_,_,h=>h.elim
 |_::_,[],_,h=>h.elim
 |_::_,_::_,[],h=>h.elim
theorem F3.step{n o:Type}{p q:n->o->List Nat->Prop}:∀ {as:List n} {bs:List o} {Bs:List (List Nat)} {i:Nat} {a:n} {b:o} {c:List Nat},F3 p as bs Bs->Bs.flatten.Nodup->Bs[i]?=some c->q a b c ->
  (∀ a b d,d∈Bs->(∀ y∈d,y ∉ c)->p a b d->q a b d)->F3 q (as.set i a) (bs.set i b) Bs
 |u::as,w::bs,x::cs,0,a,b,c,h,e,f,k,j=>by
  cases f
  rw[List.flatten_cons,List.nodup_append]at e
  exact⟨k,h.2.mono λt v d g z=>j t v d (mC _ g) (λy l m=>e.2.2 y m y (List.mem_flatten.2 ⟨d,g,l⟩) rfl) z⟩
 |u::as,w::bs,x::cs,i+1,a,b,c,h,e,f,k,j=>by
  rw[List.flatten_cons,List.nodup_append]at e
  have s:cs[i]?=some c:=by simpa using f
  refine⟨j _ _ _ mS (λy l m=>e.2.2 y l y (List.mem_flatten.2 ⟨c,List.mem_of_getElem? s,m⟩) rfl) h.1,F3.step h.2 e.2.1 s k λa b d g=>j a b d (mC _ g)⟩
 | [],[],[],i,_,_,_,h,_,f,_,_=>by simp at f
 | [],[],_::_,_,_,_,_,h,_,_,_,_=>h.elim
 | [],_::_,_,_,_,_,_,h,_,_,_,_=>h.elim
 |_::_,[],_,_,_,_,_,h,_,_,_,_=>h.elim
 |_::_,_::_,[],_,_,_,_,h,_,_,_,_=>h.elim
theorem J0k{sz:Nat}:∀(vs:List (List Value)) (i k:Nat) (x:List Value) (u:Value),(∀ y∈vs,y.length=sz)->vs[i]?=some x->k<sz->(vs.set i (x.set k u)).flatten=vs.flatten.set (i*sz+k) u
 |y::r,0,k,x,u,b,a,c=>by
  cases a
  have d:=b _ mS
  rw[List.set_cons_zero,List.flatten_cons,List.flatten_cons,Nat.zero_mul,Nat.zero_add,List.set_append_left (h:=by omega)]
 |y::r,i+1,k,x,u,b,a,c=>by
  have d:=b y mS
  have e:r[i]?=some x:=by simpa using a
  rw[List.set_cons_succ,List.flatten_cons,List.flatten_cons,J0k r i k x u (λz f=>b z (mC _ f)) e c,List.set_append_right (h:=by grind),d]
  grind
 | [],i,k,x,u,_,a,_=>by simp at a
theorem Wp.at{K:Type}{r:Wp K}{h:Hp}{a:Option Addr}{n c:Nat}{xs:List K}{B:List Nat}(w:r.slice.W h [.slice a n c] xs B)(M:B.Nodup){i:Nat}{x:K}(o:xs[i]?=some x)(h0:0<r.sz):
  InB (.slice a n c) i/\∃ cs f b of cur ty,a=some ⟨b,of,none⟩/\Z7 h (.slice a n c) r.sz i cs/\r.W h cs x f/\h b=some (.cells cur ty (0,0))/\(∀ k,k<r.sz->of+(i*r.sz+k)<cur.size)/\b∈B/\b ∉ f/\(∀ y∈f,y∈B)/\f.Nodup /\
   (∀ h' m,(∀ y,y ∉ f->h' y=h y)->r.W h' cs m f->r.slice.W h' [.slice a n c] (xs.set i m) B) /\
   (∀ k u m,k<r.sz->(∀ h',(∀ y∈f,h' y=h y)->r.W h' (cs.set k u) m f)->r.slice.W (h.set b (.cells (cur.setIfInBounds (of+(i*r.sz+k)) u) ty (0,0))) [.slice a n c] (xs.set i m) B):=by
 have Z:r.slice.R h [.slice a n c] xs:=r.slice.toR w
 obtain⟨ae,_⟩:=Sl.get (r:=r.toRp) Z o h0
 refine⟨ae,?_⟩
 obtain⟨v,vs,aj,Bs,Y,⟨A,ah⟩,s,rfl⟩:=w
 cases Y
 obtain⟨cs,f,p,D,L⟩:=s.get o
 obtain⟨ak,al⟩:=s.lens
 have ab:cs.length=r.sz:=r.len (r.toR L)
 rcases ah with⟨e,rfl,_⟩|⟨b,of,cc,cur,ty,e,S,T,U,rfl,J⟩
 ·simp at p
 cases e
 rw[List.nodup_append]at M
 obtain⟨_,N,ac⟩:=M
 have t:∀ y∈f,y∈Bs.flatten:=λy g=>List.mem_flatten.2 ⟨f,List.mem_of_getElem? D,g⟩
 have E:b ∉ Bs.flatten:=λl=>ac b (List.mem_singleton.2 rfl) b l rfl
 have aa:∀ j u,cs[j]?=some u->cur[of+(i*r.sz+j)]?=some u:=λj u C=>J.1 _ _ (I04 vs i cs (λx o=>(A x o).1) p j u C)
 have af:∀ k,k<r.sz->of+(i*r.sz+k)<cur.size:=λk P=>by
  have:=aa k cs[k] (List.getElem?_eq_getElem (by omega))
  grind
 have ai:f.Nodup:=by
  grind
 refine⟨cs,f,b,of,cur,ty,rfl,⟨ab,by omega,b,of,_,_,rfl,λj u C=>?_⟩,L,U,af,by simp,λl=>E (t b l),λy g=>List.mem_append_right _ (t y g),ai,?_,?_⟩
 ·simp_all[Hp.cell,Nat.add_assoc]
 ·intro h' m hf G
  have l:h' b=h b:=hf b λl=>E (t b l)
  refine⟨_,vs,[b],Bs,rfl,⟨A,.inr ⟨b,of,_,cur,ty,rfl,S,T,by rw[l];exact U,rfl,J⟩⟩,?_,rfl⟩
  have:=F3.step (q:=r.W h') s N D G λV X d _ O F=>r.frame F λy g=>hf y (O y g)
  rwa [show vs.set i cs=vs from by obtain⟨ad,e⟩:=List.getElem?_eq_some_iff.1 p;rw[←e];exact List.set_getElem_self ad]at this
 ·intro k u m P G
  have Q:∀ y∈Bs.flatten,(h.set b (.cells (cur.setIfInBounds (of+(i*r.sz+k)) u) ty (0,0))) y=h y:=λy g=>Hp.set_other h _ λe=>E (by rw[←e];exact g)
  have H:=G (h.set b (.cells (cur.setIfInBounds (of+(i*r.sz+k)) u) ty (0,0))) λy g=>Q y (t y g)
  refine⟨_,vs.set i (cs.set k u),[b],Bs,rfl,⟨λz I=>?_,.inr ⟨b,of,_,_,ty,by simp,by simpa using S,T,Hp.set_same _ _ _,rfl,λj z C=>?_,by simpa using J.2⟩⟩,?_,rfl⟩
  ·rcases List.mem_or_eq_of_mem_set I with I|rfl
   ·exact A z I
   ·exact⟨r.len (r.toR H),r.one (r.toR H)⟩
  ·rw[J0k vs i k cs u (λx o=>(A x o).1) p P]at C
   grind
  ·exact F3.step (q:=r.W _) s N D H λV X d ag O F=>r.frame F λy g=>Q y (List.mem_flatten.2 ⟨d,ag,g⟩)
theorem F2.take{a b:Type}{p:a->b->Prop}:∀ {as:List a} {bs:List b} (k:Nat),F2 p as bs->F2 p (as.take k) (bs.take k)
 | [],[],k,_=>by simp[F2]
 |_::as,_::bs,0,_=>by simp[F2]
 |_::as,_::bs,k+1,h=>⟨h.1,F2.take k h.2⟩
 | [],_::_,_,h=>h.elim
 |_::_,[],_,h=>h.elim
theorem F2.drop{a b:Type}{p:a->b->Prop}:∀ {as:List a} {bs:List b} (k:Nat),F2 p as bs->F2 p (as.drop k) (bs.drop k)
 | [],[],k,_=>by simp[F2]
 |_::as,_::bs,0,h=>h
 |_::as,_::bs,k+1,h=>F2.drop k h.2
 | [],_::_,_,h=>h.elim
 |_::_,[],_,h=>h.elim
theorem F2.append{a b:Type}{p:a->b->Prop}:∀ {as:List a} {bs:List b} {c:List a} {d:List b},F2 p as bs->F2 p c d->F2 p (as++c) (bs++d)
 | [],[],_,_,_,h=>h
 |_::as,_::bs,_,_,h,h'=>⟨h.1,F2.append h.2 h'⟩
 | [],_::_,_,_,h,_=>h.elim
 |_::_,[],_,_,h,_=>h.elim
theorem F3.take{a b c:Type}{p:a->b->c->Prop}:∀ {as:List a} {bs:List b} {cs:List c} (k:Nat),F3 p as bs cs->F3 p (as.take k) (bs.take k) (cs.take k)
 | [],[],[],k,_=>by simp[F3]
 |_::as,_::bs,_::cs,0,_=>by simp[F3]
 |_::as,_::bs,_::cs,k+1,h=>⟨h.1,F3.take k h.2⟩
 | [],[],_::_,_,h=>h.elim
 | [],_::_,_,_,h=>h.elim
 |_::_,[],_,_,h=>h.elim
 |_::_,_::_,[],_,h=>h.elim
theorem F3.append{a b c:Type}{p:a->b->c->Prop}:∀ {as:List a} {bs:List b} {cs:List c} {d:List a} {e:List b} {cs':List c},F3 p as bs cs->F3 p d e cs'->F3 p (as++d) (bs++e) (cs++cs')
 | [],[],[],_,_,_,_,h=>h
 |_::as,_::bs,_::cs,_,_,_,h,h'=>⟨h.1,F3.append h.2 h'⟩
 | [],[],_::_,_,_,_,h,_=>h.elim
 | [],_::_,_,_,_,_,h,_=>h.elim
 |_::_,[],_,_,_,_,h,_=>h.elim
 |_::_,_::_,[],_,_,_,h,_=>h.elim
theorem F3.set{d e f:Type}{p:d->e->f->Prop}{a:d}{b:e}{c:f}(g:p a b c):∀ {as:List d} {bs:List e} {cs:List f} (i:Nat),F3 p as bs cs->F3 p (as.set i a) (bs.set i b) (cs.set i c)
 | [],[],[],_,_=>trivial
 |_::as,_::bs,_::cs,0,h=>⟨g,h.2⟩
 |_::as,_::bs,_::cs,i+1,h=>⟨h.1,F3.set g i h.2⟩
 | [],[],_::_,_,h=>h.elim
 | [],_::_,_,_,h=>h.elim
 |_::_,[],_,_,h=>h.elim
 |_::_,_::_,[],_,h=>h.elim
theorem Sl.cut{i:Type}{r:Rp i}{h:Hp}{a:Option Addr}{n c:Nat}{xs:List i}(e:Sl r h (.slice a n c) xs):
  ∃ vs,SlE h r.sz (.slice a n c) vs/\∀ v l m,m<=xs.length->SlE h r.sz v ((vs.take m).drop l)->∃ b f d,v = .slice b f d/\Sl r h (.slice b f d) ((xs.take m).drop l):=by
 obtain⟨u,A,w,vs,j,rfl,x,k,g⟩:=e
 cases j
 refine⟨vs,k,λv l m z o=>?_⟩
 obtain⟨p,b,f,d,rfl,q,s,t⟩:=o
 have y:=g.length
 refine⟨b,f,d,rfl,b,f,d,_,rfl,?_,?_,⟨p,b,f,d,rfl,q,s,t⟩,(g.take m).drop l⟩
 all_goals grind
theorem S0j.take{sz m g o n c:Nat}{v:Value}(h:S0j sz (.slice (some ⟨g,o,none⟩) n c) 0 m v):v = .slice (some ⟨g,o,none⟩) m c:=by
 rw[h _ _ _ rfl]
 grind[Addr.add]
theorem New.mono{d:Type}{r:Wp d}{h0 a b:Hp}{cs:List Value}{x:d}(w:New r h0 a cs x)(c:Sub a b):New r h0 b cs x:=by
 obtain⟨B,e,f,s1⟩:=w
 exact⟨B,Wp.sub e c,f,s1.trans c⟩
theorem New.from{e:Type}{r:Wp e}{h0 a c:Hp}{cs:List Value}{x:e}(w:New r a c cs x)(d:Sub h0 a):New r h0 c cs x:=by
 obtain⟨B,h,f,s1⟩:=w
 refine⟨B,h,⟨f.1,λb g=>?_⟩,d.trans s1⟩
 have:=f.2 b g
 cases ho:h0 b with
 |none=>rfl
 |some o=>rw[d b o ho]at this;cases this
theorem h06{c:Type}{r:Wp c}{h:Hp}{vs:List (List Value)}{xs:List c}{Bs:List (List Nat)}(w:F3 (r.W h) vs xs Bs):∀ b∈Bs.flatten,h b≠none:=λb e=>by
 obtain⟨i,d,f⟩:=List.mem_flatten.1 e
 obtain⟨a,x,g⟩:=w.mem d
 exact r.dom g b f
theorem S04{d:Type}{r:Wp d}{h h':Hp}{vs:List (List Value)}{xs:List d}{Bs:List (List Nat)}(w:F3 (r.W h) vs xs Bs)(hf:∀ b∈Bs.flatten,h' b=h b):F3 (r.W h') vs xs Bs :=
 w.mono λa b c e f=>r.frame f λx g=>hf x (List.mem_flatten.2 ⟨c,e,g⟩)
theorem New.app{z:Type}{r:Wp z}{h0 p h:Hp}{g o n c:Nat}{xs:List z}(w:New r.slice h0 p [.slice (some ⟨g,o,none⟩) n c] xs)(k:Sub p h):
  ∃ vs,w0e h r.sz (.slice (some ⟨g,o,none⟩) n c) vs/\vs.length=xs.length/\∀(m:List (List Value)) (y:List z) (Bs:List (List Nat)) (h':Hp) (l:Value),F3 (r.W h) m y Bs->R4 p Bs.flatten ->
   B0i h h' r.sz g l (vs++m)->New r.slice h0 h' [l] (xs++y)/\∃ D I H A,l = .slice (some ⟨D,I,none⟩) H A:=by
 obtain⟨B,⟨v,vs,an,i,L,⟨P,Z⟩,F,rfl⟩,M,u⟩:=w
 cases L
 rcases Z with⟨e,_⟩|⟨ap,av,ao,cur,ty,e,ac,ad,ae,rfl,af,ag⟩
 ·cases e
 cases e
 have U:=F.lens
 have T:=k g _ ae
 have N:F3 (r.W h) vs xs i:=M2 F k
 refine⟨vs,⟨P,g,o,c,cur,ty,rfl,ac,by simpa [maxLen] using ad,ag,T,af⟩,U.1,?_⟩
 rintro m y Bs h' l ab j ⟨⟨Q,f,J,C,Q0j,am,rfl,ah,ai,aj,ak,al⟩,D,I,H,A,K,G,s⟩
 cases K
 have E:=M
 rw[R4,List.nodup_append]at E
 obtain⟨⟨_,V,R⟩,ar⟩:=E
 have au:∀ b∈i.flatten,b≠g:=λb d e=>R g (List.mem_singleton.2 rfl) b d e.symm
 have X:∀ b∈i.flatten,b≠f:=λb d e=>by
  grind[h06]
 have Y:∀ b∈Bs.flatten,b≠f:=λb d e=>by
  rcases G with rfl|t
  ·have:=j.2 b d
   grind
  grind[h06]
 have aq:h0 f=none:=by
  rcases G with rfl|t
  ·grind
  ·cases ho:h0 f with
   |none=>rfl
   |some x=>rw[k _ _ (u _ _ ho)]at t;cases t
 have S:∀ a∈i.flatten,∀ b∈Bs.flatten,a≠b:=λa O b d e=>by
  have q:=j.2 b d
  grind[h06]
 refine⟨⟨[f]++(i++Bs).flatten,⟨_,vs++m,[f],i++Bs,rfl,⟨Q,.inr ⟨f,J,C,Q0j,am,rfl,ah,by simpa [maxLen] using ai,ak,rfl,al,aj⟩⟩,?_,rfl⟩,⟨?_,?_⟩,?_⟩,f,J,_,C,rfl⟩
 ·exact(S04 N λb d=>s b (X b d)).append (S04 ab λb d=>s b (Y b d))
 ·rw[List.flatten_append,List.nodup_append,List.nodup_append]
  refine⟨by simp,⟨V,j.1,S⟩,λa O b d=>?_⟩
  grind
 ·intro b d
  rcases List.mem_append.1 d with d|d
  ·grind
  ·rw[List.flatten_append]at d
   rcases List.mem_append.1 d with d|d
   ·grind
   ·have q:=j.2 b d
    cases ho:h0 b with
    |none=>rfl
    |some x=>rw[u _ _ ho]at q;cases q
 ·intro b x aa
  rw[s b (λe=>by grind)]
  exact k _ _ (u _ _ aa)
theorem u0h{sz:Nat}:∀(vs:List (List Value)) (i:Nat) (new:List Value) (j:Nat),(∀ x∈vs,x.length=sz)->i<vs.length->new.length=sz ->
  (vs.set i new).flatten[j]?=if i*sz<=j/\j<i*sz+sz then new[j-i*sz]? else vs.flatten[j]?
 |x::r,0,new,j,a,_,c=>by
  grind
 |x::r,i+1,new,j,a,b,c=>by
  have d:=a x mS
  rw[List.set_cons_succ,List.flatten_cons,List.flatten_cons,Nat.add_mul,Nat.one_mul]
  by_cases hj:j<sz
  ·rw[if_neg (by omega),List.getElem?_append_left (by omega),List.getElem?_append_left (by omega)]
  ·rw[List.getElem?_append_right (by omega),List.getElem?_append_right (by omega),d,u0h r i new (j-sz) (λy e=>a y (mC _ e)) (by simpa using b) c]
   grind
 | [],i,new,j,_,b,_=>by simp at b
theorem v0h{a:List Nat}(d:a.Nodup):∀(Bs:List (List Nat)) (i:Nat),Bs.flatten.Nodup->(∀ b∈a,b ∉ Bs.flatten)->(Bs.set i a).flatten.Nodup/\∀ b∈(Bs.set i a).flatten,b∈Bs.flatten∨b∈a
 | [],i,h,_=>by simp
 |B::Bs,0,h,c=>by
  grind
 |B::Bs,i+1,h,c=>by
  rw[List.flatten_cons,List.nodup_append]at h
  obtain⟨f,g⟩:=v0h d Bs i h.2.1 (λb e j=>c b e (by grind))
  grind
theorem New.put{q:Type}{r:Wp q}{h0 l h:Hp}{g o n c:Nat}{xs:List q}(w:New r.slice h0 l [.slice (some ⟨g,o,none⟩) n c] xs)(p:Sub l h){i:Nat}(ag:i<xs.length){new:List Value}{y:q}{k:List Nat}
  (E:r.W h new y k) (hf:R4 l k) {K:Hp->Prop} {off:Nat} (M:off=i*r.sz) {idx:Int} (O:0<=idx)
  (Q:∀ h',New r.slice h0 h' [.slice (some ⟨g,o,none⟩) n c] (xs.set i y)->(∀ b,b≠g->h' b=h b)->l g≠none->K h'):x08 h (.slice (some ⟨g,o,none⟩) n c) idx off new K:=by
 subst M
 obtain⟨B,⟨v,vs,Z,f,G,⟨z,T⟩,m,rfl⟩,H,D⟩:=w
 cases G
 rcases T with⟨e,_⟩|⟨ab,ak,aa,cur,ty,e,U,V,F,rfl,ai,X⟩
 ·cases e
 cases e
 have ah:=m.lens
 have N:=p g _ F
 have ac:F3 (r.W h) vs xs f:=M2 m p
 have C:new.length=r.sz:=r.len (r.toR E)
 have t:=H
 rw[R4,List.nodup_append]at t
 obtain⟨⟨_,S,J⟩,ad⟩:=t
 have ae:∀ b∈f.flatten,b≠g:=λb a e=>J g (List.mem_singleton.2 rfl) b a e.symm
 have af:∀ b∈k,b≠g:=λb a e=>by have:=hf.2 b a;grind
 have A:o+i*r.sz+new.length<=cur.size:=by
  have:(i+1)*r.sz<=c*r.sz:=Nat.mul_le_mul_right _ (by omega)
  grind
 have L:∀ b∈k,b ∉ f.flatten:=λb a R=>h06 m b R (hf.2 b a)
 obtain⟨aj,Y⟩:=v0h hf.1 f i S L
 refine⟨g,o,_,c,cur,ty,⟨rfl,O,N,A⟩,Q _ ?_ (λb a=>Hp.set_other _ _ a) (by rw[F];simp)⟩
 rw[C08]
 refine⟨[g]++(f.set i k).flatten,⟨_,vs.set i new,[g],f.set i k,rfl,⟨?_,.inr ⟨g,o,c,_,ty,by simp,by simpa using U,V,Hp.set_same _ _ _,rfl,λj u P=>?_,by simpa [W8] using X⟩⟩,?_,rfl⟩,⟨?_,?_⟩,?_⟩
 ·intro x d
  rcases List.mem_or_eq_of_mem_set d with d|rfl
  ·exact z x d
  ·exact⟨C,r.one (r.toR E)⟩
 ·rw[u0h vs i new j (λx d=>(z x d).1) (by omega) C]at P
  rw[List.getElem?_toArray,Q07 _ _ _ _ (by simpa using A)]
  grind
 ·grind[F3.set,Hp.set_other,S04]
 ·grind
 ·intro b a
  rcases List.mem_append.1 a with a|a
  ·grind
  ·rcases Y b a with a|a
   ·grind
   ·have s:=hf.2 b a
    cases ho:h0 b with
    |none=>rfl
    |some x=>rw[D _ _ ho]at s;cases s
 ·intro b x d
  have I:b≠g:=λe=>by grind
  rw[Hp.set_other _ _ I]
  exact p _ _ (D _ _ d)
theorem b0j:∀(Bs:List (List Nat)) (k:Nat),Bs.flatten.Nodup->(Bs.take k).flatten.Nodup/\∀ b∈(Bs.take k).flatten,b∈Bs.flatten:=λBs k h=>by
 grind[List.flatten_append,List.take_append_drop,List.nodup_append,List.mem_append_left]
theorem New.take{i:Type}{r:Wp i}{h0 d:Hp}{g o n c:Nat}{xs:List i}(w:New r.slice h0 d [.slice (some ⟨g,o,none⟩) n c] xs){k:Nat}(M:k<=xs.length):New r.slice h0 d [.slice (some ⟨g,o,none⟩) k c] (xs.take k):=by
 obtain⟨B,⟨v,vs,F,a,l,⟨p,s⟩,h,rfl⟩,m,t⟩:=w
 cases l
 rcases s with⟨e,_⟩|⟨H,P,G,cur,ty,e,O,A,C,rfl,D,E⟩
 ·cases e
 cases e
 have N:=h.lens
 have f:=m
 rw[R4,List.nodup_append]at f
 obtain⟨⟨_,q,J⟩,K⟩:=f
 obtain⟨Q,R⟩:=b0j a k q
 have y:(vs.take k).length=k:=by simp;omega
 refine⟨[g]++(a.take k).flatten,⟨_,vs.take k,[g],a.take k,rfl,⟨λx z=>p x (List.mem_of_mem_take z),.inr ⟨g,o,c,cur,ty,by rw[y],by omega,A,C,rfl,λj u L=>D j u ?_,E⟩⟩,h.take k,rfl⟩,⟨?_,λb I=>?_⟩,t⟩
 ·grind[List.flatten_append,List.take_append_drop,List.getElem?_append_left,List.getElem?_eq_some_iff]
 all_goals grind
def gi{a:Type}(xs:List a)(i:Int):Option a:=if 0<=i then xs[i.toNat]? else none
def chk{a:Type}(c:Bool)(o:Option a)(d:a):Option a:=match c with
 |true=>o
 |false=>some d
def grd(p:Prop)[Decidable p]:Option Unit:=if p then some ()else none
def X02{a:Type}(xs:List a)(l m:Int):Option (List a):=if 0<=l/\l<=m/\m<=(xs.length:Int)then some ((xs.take m.toNat).drop l.toNat)else none
def p7{R S:Type}(x:R ⊕ S)(k:S->Option R):Option R:=match x with
 | .inl r=>some r
 | .inr s=>k s
def S0a{R S T:Type}(x:R ⊕ S)(k:S->Option (R ⊕ T)):Option (R ⊕ T):=match x with
 | .inl r=>some (.inl r)
 | .inr s=>k s
def W0:Nat:=9223372036854775808
def W1:List Value->Nat
 | .int _ n::_=>n.toNat
 |_=>0
theorem P2{R S:Type}(r:R)(k:S->Option R):p7 (.inl r) k=some r:=rfl
theorem Z0{R S:Type}(s:S)(k:S->Option R):p7 (.inr s) k=k s:=rfl
theorem Q2{R S T:Type}(r:R)(k:S->Option (R ⊕ T)):S0a (.inl r) k=some (.inl r):=rfl
theorem D1{R S T:Type}(s:S)(k:S->Option (R ⊕ T)):S0a (.inr s) k=k s:=rfl
theorem B0{a b:Type}{o:Option a}{k:a->Option b}{r:b}(h:o.bind k=some r):∃ x,o=some x/\k x=some r:=Option.bind_eq_some_iff.1 h
theorem C1{p:Prop}[Decidable p]{u:Unit}(h:grd p=some u):p:=by
 grind[grd]
theorem r9{a:Type}{c:Bool}{o:Option a}{d x:a}(h:chk c o d=some x)(b:c=true):o=some x:=by rw[b]at h;exact h
theorem m0v{b:Bool}(h:b=false): ¬ b=true:=by grind
theorem c0j{a:Type}{xs:List a}{i:Int}{x:a}(h:gi xs i=some x):0<=i/\xs[i.toNat]?=some x:=by
 grind[gi]
theorem t0q{a:Type}(xs:List a)(n:Nat):gi xs (n:Int)=xs[n]?:=by simp[gi]
theorem I08{b:Type}{xs a:List b}{l m:Int}(h:X02 xs l m=some a):(0<=l/\l<=m/\m<=(xs.length:Int))/\a=(xs.take m.toNat).drop l.toNat:=by
 grind[X02,oJ]
theorem F0(x:Int):H0 (IntKind.i64.wrap x):=by
 grind[H0,IntKind.wrap,IntKind.signed,IntKind.bits]
theorem q00{n:Nat}(h:n<=9223372036854775807):H0 (n:Int):=⟨by omega,by omega⟩
theorem c64{x:Int}(a : -9223372036854775808<=x)(b:x<=9223372036854775807):H0 x:=⟨a,b⟩
instance (x:Int):Decidable (H0 x):=inferInstanceAs (Decidable (_/\_))
theorem l3{p:Prop}[Decidable p]{x y:Int}(a:H0 x)(b:H0 y):H0 (if p then x else y):=by split<;>assumption
theorem Sl.getI{a:Type}{r:Rp a}{h:Hp}{v:Value}{xs:List a}(e:Sl r h v xs){i:Int}{x:a}(b:gi xs i=some x)(c:0<r.sz):InB v i/\∃ cs,Z7 h v r.sz i cs/\r.R h cs x:=by
 obtain⟨h0,b⟩:=c0j b
 grind[Int.eq_ofNat_of_zero_le,Sl.get]
theorem Sl.getG{a:Type}{r:Rp a}{h:Hp}{v:Value}{xs:List a}(e:Sl r h v xs){c:Bool}{i:Int}{d x:a}(f:chk c (gi xs i) d=some x)(g:0<r.sz)(b:∃ cs,r.R h cs d):
  ∃ cs,(c=true->InB v i/\Z7 h v r.sz i cs)/\r.R h cs x:=by
 cases c with
 |true =>
  obtain⟨j,cs,k,l⟩:=Sl.getI e (r9 f rfl) g
  grind
 |false =>
  obtain⟨cs,b⟩:=b
  cases f
  grind
theorem Z7.up{h h':Hp}(l:Sub h h'){v:Value}{sz:Nat}{i:Int}{cs:List Value}(e:Z7 h v sz i cs):Z7 h' v sz i cs:=by
 obtain⟨c,d,b,o,n,a,f,g⟩:=e
 exact⟨c,d,b,o,n,a,f,λj v k=>l.cell (g j v k)⟩
theorem g01{n:Nat}{fr:List (Nat×AV)}{bx:List BSt}{ow:List Own}:n0m ⟨n,fr,bx,ow⟩ ⟨n,fr,bx,ow⟩:=⟨rfl,rfl,rfl,[],(List.append_nil _).symm⟩
theorem Sl.rows{b:Type}{r:Rp b}{h:Hp}{a:Option Addr}{n c:Nat}{xs:List b}(e:Sl r h (.slice a n c) xs):∃ vs,SlE h r.sz (.slice a n c) vs/\F2 (r.R h) vs xs:=by
 obtain⟨d,l,f,vs,g,rfl,i,j,k⟩:=e
 grind
theorem Sl.cutI{g:Type}{r:Rp g}{h:Hp}{a:Option Addr}{n c:Nat}{xs b:List g}(e:Sl r h (.slice a n c) xs){l m:Int}(s:X02 xs l m=some b):
  (0<=l/\l<=m/\m<=(n:Int))/\∃ vs,SlE h r.sz (.slice a n c) vs/\∀ v,SlE h r.sz v ((vs.take m.toNat).drop l.toNat)->∃ d f,v = .slice d b.length f/\Sl r h (.slice d b.length f) b:=by
 obtain⟨⟨o,p,q⟩,rfl⟩:=I08 s
 obtain⟨rfl,_⟩:=Sl.len e
 obtain⟨vs,i,j⟩:=Sl.cut e
 refine⟨⟨o,p,q⟩,vs,i,λv t=>?_⟩
 obtain⟨d,w,f,rfl,k⟩:=j v l.toNat m.toNat (by omega) t
 obtain⟨u,_⟩:=Sl.len k
 grind
theorem i0f{sz:Nat}:∀(vs:List (List Value)) (l:Nat),(∀ x∈vs,x.length=sz)->l<=vs.length->(vs.drop l).flatten=vs.flatten.drop (l*sz)
 |vs,0,_,_=>by simp
 | [],l+1,_,h=>by simp at h
 |x::r,l+1,a,h=>by
  have e:=a x mS
  rw[List.drop_succ_cons,i0f r l (λy b=>a y (mC _ b)) (by simpa using h),List.flatten_cons,show(l+1)*sz=x.length+l*sz by grind,List.drop_append]
  simp
theorem Sl.cutX{q:Type}{r:Rp q}{h:Hp}{a:Option Addr}{n c:Nat}{xs d:List q}(e:Sl r h (.slice a n c) xs){l m:Int}(H:X02 xs l m=some d):
  ∃(A:Option Addr) (C:Nat),(∀ v,S0j r.sz (.slice a n c) l.toNat m.toNat v->v = .slice A d.length C)/\Sl r h (.slice A d.length C) d/\(0<=l/\l<=m/\m<=(n:Int))/\∀ h',Sub h h'->∃ vs,SlE h' r.sz (.slice a n c) vs:=by
 obtain⟨⟨B,D,E⟩,rfl⟩:=I08 H
 obtain⟨rfl,_⟩:=Sl.len e
 obtain⟨vs,y,z⟩:=Sl.cut e
 have p:((xs.take m.toNat).drop l.toNat).length=m.toNat-l.toNat:=by grind
 obtain⟨i,P,R,Q,s,J,K,k⟩:=y
 cases s
 have G:SlE h r.sz (.slice (if c=l.toNat then a else a.map (·.add (l.toNat*r.sz))) (m.toNat-l.toNat) (c-l.toNat)) ((vs.take m.toNat).drop l.toNat):=by
  refine⟨λx g=>i x (List.mem_of_mem_take (List.mem_of_mem_drop g)),_,_,_,rfl,?_,by omega,?_⟩
  ·grind
  ·by_cases hcl:c=l.toNat
   ·grind
   ·rcases k with k|⟨b,o,rfl,L⟩
    ·grind[List.flatten_eq_nil_iff,List.mem_of_mem_take,List.mem_of_mem_drop]
    ·right
     refine⟨b,o+l.toNat*r.sz,by rw[if_neg hcl];simp[Addr.add],λj v f=>?_⟩
     rw[i0f _ _ (λx g=>(i x (List.mem_of_mem_take g)).1) (by grind),List.getElem?_drop]at f
     rw[Nat.add_assoc]
     refine L _ v ?_
     grind[List.flatten_append,List.take_append_drop,List.getElem?_append_left,List.getElem?_eq_some_iff]
 obtain⟨A,O,C,w,F⟩:=z _ l.toNat m.toNat (by omega) G
 cases w
 refine⟨_,_,λv I=>?_,by rw[p];exact F,⟨B,D,E⟩,λh' N=>⟨vs,i,_,_,_,rfl,J,K,?_⟩⟩
 ·rw[I _ _ _ rfl,p]
 ·exact k.imp id λ⟨b,o,t,u⟩=>⟨b,o,t,λj v f=>by
   have:=u j v f
   unfold Hp.cell at this ⊢
   cases hb:h b with
   |none=>grind
   |some M=>rw[N b M hb];grind⟩
theorem F2.up{a:Type}{r:Rp a}{h h':Hp}(b:Sub h h'){vs:List (List Value)}{xs:List a}(f:F2 (r.R h) vs xs):F2 (r.R h') vs xs:=f.mono λ_ _ q=>r.mono b q
theorem U0.out{d:Type}{r:Rp d}{h h':Hp}{v:Value}{e:Nat}{nn:Bool}{vs:List (List Value)}{xs:List d}(f:U0 h h' v e r.sz nn vs)(i:F2 (r.R h) vs xs):
  ∃ a c,v = .slice a xs.length c/\Sl r h' (.slice a xs.length c) xs/\Sub h h'/\xs.length<=9223372036854775807:=by
 have b:=U0.sl f i
 obtain⟨a,c,rfl,g⟩:=b.slice
 exact⟨a,c,rfl,b,f.sub,g⟩
theorem F2.rep{c d:Type}{p:c->d->Prop}{a:c}{b:d}(h:p a b):∀ n:Nat,F2 p (List.replicate n a) (List.replicate n b)
 |0=>trivial
 |n+1=>⟨h,F2.rep h n⟩
def Rp.u8:Rp Int:=⟨1,λ_ cs x=>cs = [.int .u8 x],λh=>by rw[h];rfl,λh v a=>by rw[h]at a;simp at a;rw[a];rfl,λ_ h=>h⟩
theorem F2.u8{h:Hp}:∀ {vs:List (List Value)} {xs:List Int},F2 (Rp.u8.R h) vs xs->vs=xs.map λn=>[.int .u8 n]
 | [],[],_=>rfl
 |v::vs,x::xs,f=>by rw[show v = [.int .u8 x] from f.1,F2.u8 f.2];rfl
 | [],_::_,f=>f.elim
 |_::_,[],f=>f.elim
theorem T0{n m by_:Nat}{u:Unit}(g:grd (n*by_<=140737488355328)=some u)(e:m=n):V05 m by_:=by
 subst e
 exact show m*by_<=140737488355328 from C1 g
theorem f03{b:Type}{p:List Value->b->Prop}{vs:List (List Value)}{xs:List b}(f:F2 p vs xs){i:Int}{x:b}(a:gi xs i=some x):(0<=i/\i<(vs.length:Int))/\∃ cs,vs[i.toNat]?=some cs/\p cs x:=by
 obtain⟨h0,a⟩:=c0j a
 obtain⟨cs,c,d⟩:=f.get a
 grind
theorem T04{a:Type}{p:List Value->a->Prop}{vs:List (List Value)}{xs:List a}(f:F2 p vs xs){c:Bool}{i:Int}{d x:a}(e:chk c (gi xs i) d=some x)(b:∃ cs,p cs d):
  ∃ cs,(c=true->(0<=i/\i<(vs.length:Int))/\vs[i.toNat]?=some cs)/\p cs x:=by
 cases c with
 |true =>
  obtain⟨g,cs,h,j⟩:=f03 f (r9 e rfl)
  grind
 |false =>
  obtain⟨cs,b⟩:=b
  cases e
  grind
theorem F2.f3{b:Type}{r:Wp b}{h h':Hp}(a:∀ cs x,r.R h cs x->r.W h' cs x []):∀ {vs:List (List Value)} {xs:List b},F2 (r.R h) vs xs->F3 (r.W h') vs xs (xs.map λ_=>[])
 | [],[],_=>trivial
 |_::_,_::_,f=>⟨a _ _ f.1,F2.f3 a f.2⟩
 | [],_::_,f=>f.elim
 |_::_,[],f=>f.elim
theorem U0.newPlain{a:Type}{r:Wp a}{h h':Hp}{v:Value}{e:Nat}{nn:Bool}{vs:List (List Value)}{xs:List a}(f:U0 h h' v e r.sz nn vs)(c:F2 (r.R h) vs xs)(b:∀ cs x,r.R h cs x->r.W h cs x []):New r.slice h h' [v] xs :=
 U0.fresh (r:=r) (h0:=h) f (F2.f3 b c) (Sub.refl _) (by grind[I0k,R4.nil])
theorem U04(h:Hp)(cs:List Value)(x:Int)(q:Wp.int.R h cs x):Wp.int.W h cs x []:=⟨q,rfl⟩
theorem t0d(h:Hp):∃ cs,Wp.int.R h cs 0:=⟨_,rfl,by decide,by decide⟩
theorem d0j{a:Type}(r:Wp a)(h:Hp):r.slice.R h [.slice none 0 0] []:=New.nilSlice.r
theorem z0s{a:Type}(r:Wp a)(h:Hp):∃ cs,r.slice.R h cs []:=⟨_,d0j r h⟩
end Go.H
