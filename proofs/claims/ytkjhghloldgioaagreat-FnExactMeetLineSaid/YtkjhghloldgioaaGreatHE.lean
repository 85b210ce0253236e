/- The library of the walks, part HE: plain laws over the model. -/
import Derived.Test.YtkjhghloldgioaaGreatHD
import Derived.Deep.Slices
import Derived.ChangeArms
import Derived.WideShapes
import Derived.Laws.Strings
namespace Go.H
set_option linter.unusedVariables false
set_option linter.unusedSimpArgs false
def y0l:Op->Bool
 | .move _ | .assign _ | .load .. | .binOp .. | .unOp .. | .index .. | .field .. | .fieldAddr .. | .indexAddr .. | .pick .. | .build .. | .convert ..=>true
 |_=>false
def r0a(b:Bool)(st:St)(K:St->Prop):Prop:=match b with
 |true=>K st
 |false=>match st with
  |⟨n,fr,bx,ow⟩=>d8 bx λbx=>d8 ow λow=>K ⟨n,fr,bx,ow⟩
theorem V0d(b:Bool)(st:St)(K:St->Prop):r0a b st K=K st:=by
 cases b
 all_goals simp_all[r0a,Y01]
def U0h(d:Option Tmp)(i:Nat)(ch:List (Nat×Bool))(av:AV)(rs:RS)(K:RS->Prop):Prop:=match rs with
 |⟨⟨n,fr,bx,ow⟩,h,gf,bs⟩=>match d with
  |none=>K ⟨⟨n,fr,bx,ow⟩,h,gf,bs⟩
  |some d=>match Nat.blt d n,q07 ⟨⟨n,fr,bx,ow⟩,h,gf,bs⟩ d with
   |true,false=>match ch with
    | []=>d01 av λav=>match av with
     | .val (.bool e)=>K ⟨⟨n,(d,.val (.bool e))::fr,bx,ow⟩,h,gf,⟨i,d,e,[]⟩::bs⟩
     |_=>K ⟨⟨n,(d,av)::fr,bx,ow⟩,h,gf,bs⟩
    |p::ch=>d01 av λav=>match av with
     | .val (.bool e)=>K ⟨⟨n,(d,.dead)::fr,bx,ow⟩,h,(d,p::ch,.val (.bool e))::gf,⟨i,d,e,p::ch⟩::bs⟩
     |_=>K ⟨⟨n,(d,.dead)::fr,bx,ow⟩,h,(d,p::ch,av)::gf,bs⟩
   |_,_=>False
theorem V0h(d:Option Tmp)(i:Nat)(ch:List (Nat×Bool))(av:AV)(rs:RS)(K:RS->Prop):U0h d i ch av rs K=r0d d i ch av rs K:=by
 obtain⟨⟨n,fr,bx,ow⟩,h,gf,bs⟩:=rs
 cases d with
 |none=>rfl
 |some d =>
  simp only[U0h,r0d]
  generalize q07 _ d=u
  generalize Nat.blt d n=b
  cases b
  ·rfl
  cases u
  ·cases ch with
   |nil =>
    simp only[C02]
    cases av with
    |val v=>cases v<;>rfl
    |_=>rfl
   |cons p ch =>
    simp only[C02]
    cases av with
    |val v=>cases v<;>rfl
    |_=>rfl
  ·rfl
def E0b(P:Program)(l:List Oper):Nat->RS->(RS->Prop)->Prop :=
 List.rec (motive:=λ_=>Nat->RS->(RS->Prop)->Prop) (λ_ rs K=>K rs) (λo _ a i rs K=>match rs with
  |⟨⟨n,fr,bx,ow⟩,h,gf,bs⟩=>match o.guard,i0l o.op with
   |none,false=>c8 P o ⟨n,fr,bx,ow⟩ h λav st h=>r0a (y0l o.op) st λst=>U0h o.dst i [] av ⟨st,h,gf,bs⟩ λrs=>a (i+1) rs K
   |_,_=>match p00 bs o.guard with
    |some ch=>match cB bs ch with
     |some c=>evG P o ch c ⟨⟨n,fr,bx,ow⟩,h,gf,bs⟩ λav=>U0h o.dst i ch av ⟨⟨n,fr,bx,ow⟩,h,gf,bs⟩ λrs=>a (i+1) rs K
     |none=>False
    |none=>False) l
theorem z0j(P:Program)(o:Oper)(r:List Oper)(i n:Nat)(fr:List (Nat×AV))(bx:List BSt)(ow:List Own)(h:Hp)(gf:List (Nat×List (Nat×Bool)×AV))(bs:List BE)(K:RS->Prop):
  E0b P (o::r) i ⟨⟨n,fr,bx,ow⟩,h,gf,bs⟩ K=match o.guard,i0l o.op with
   |none,false=>c8 P o ⟨n,fr,bx,ow⟩ h λav st h=>r0a (y0l o.op) st λst=>U0h o.dst i [] av ⟨st,h,gf,bs⟩ λrs=>E0b P r (i+1) rs K
   |_,_=>match p00 bs o.guard with
    |some ch=>match cB bs ch with
     |some c=>evG P o ch c ⟨⟨n,fr,bx,ow⟩,h,gf,bs⟩ λav=>U0h o.dst i ch av ⟨⟨n,fr,bx,ow⟩,h,gf,bs⟩ λrs=>E0b P r (i+1) rs K
     |none=>False
    |none=>False:=rfl
theorem z0g(P:Program):∀(l:List Oper) (i:Nat) (rs:RS) (K:RS->Prop),E0b P l i rs K=r0c P l i rs K
 | [],i,rs,K=>rfl
 |o::r,i,⟨⟨n,fr,bx,ow⟩,h,gf,bs⟩,K=>by
  simp only[z0j,r0c,V0d,V0h,z0g P r]
  rfl
def G0p(P:Program)(l:List Oper):Nat->RS->(RS->Prop)->Prop :=
 List.rec (motive:=λ_=>Nat->RS->(RS->Prop)->Prop) (λ_ rs K=>K rs) (λo _ a i rs K=>match rs with
  |⟨⟨n,fr,bx,ow⟩,h,gf,bs⟩=>match p00 bs o.guard with
   |some ch=>match cB bs ch with
    |some c=>evG P o ch c ⟨⟨n,fr,bx,ow⟩,h,gf,bs⟩ λav=>U0h o.dst i ch av ⟨⟨n,fr,bx,ow⟩,h,gf,bs⟩ λrs=>a (i+1) rs K
    |none=>False
   |none=>False) l
theorem f0o(P:Program)(o:Oper)(r:List Oper)(i n:Nat)(fr:List (Nat×AV))(bx:List BSt)(ow:List Own)(h:Hp)(gf:List (Nat×List (Nat×Bool)×AV))(bs:List BE)(K:RS->Prop):
  G0p P (o::r) i ⟨⟨n,fr,bx,ow⟩,h,gf,bs⟩ K=match p00 bs o.guard with
   |some ch=>match cB bs ch with
    |some c=>evG P o ch c ⟨⟨n,fr,bx,ow⟩,h,gf,bs⟩ λav=>U0h o.dst i ch av ⟨⟨n,fr,bx,ow⟩,h,gf,bs⟩ λrs=>G0p P r (i+1) rs K
    |none=>False
   |none=>False:=rfl
theorem D0m(P:Program):∀(l:List Oper) (i:Nat) (rs:RS) (K:RS->Prop),G0p P l i rs K=evQ P l i rs K
 | [],i,rs,K=>rfl
 |o::r,i,⟨⟨n,fr,bx,ow⟩,h,gf,bs⟩,K=>by
  simp only[f0o,evQ,V0h,D0m P r]
  rfl
def d0d:List (Nat×AV)->(List (Nat×AV)->Prop)->Prop
 | [],K=>K []
 |(s,av)::r,K=>d01 av λav=>d0d r λr=>K ((s,av)::r)
theorem W0d:∀(l:List (Nat×AV)) (K:List (Nat×AV)->Prop),d0d l K=K l
 | [],K=>rfl
 |(s,av)::r,K=>by simp only[d0d,C02,W0d r]
def V0r{a:Type}:List a->List a->(List a->Prop)->Prop
 | [],b,K=>K b
 |x::r,b,K=>V0r r b λl=>K (x::l)
theorem E0m{c:Type}:∀(a b:List c) (K:List c->Prop),V0r a b K=K (a++b)
 | [],b,K=>rfl
 |x::r,b,K=>by simp only[V0r,E0m r,List.cons_append]
def k0t(A:Ann)(d b:List (Nat×AV))(a:St)(c:q0b)(μ:W06)(f:List Value)(m:Nat)(st:St)(h:Hp):Prop :=
 match Nat.beq st.n a.n,u0c a st d with
 |true,true=>i0g st.fr b=P0n b/\o0b A a st 0 a.bx st.bx/\p0b A 0 a.ow st.ow /\
   n0l A st λvs os=>d8 vs λvs=>match H0r vs f with
    |true=>u07 A.vars.length vs λ_ e=>L05 A.boxes e a.bx λ_=>M05 A.owns os a.ow λ_=>I0r A c μ m vs os h
    |false=>False
 |_,_=>False
theorem W0r(A:Ann)(b d:List (Nat×AV))(c:St)(a:q0b)(μ:W06)(e:List Value)(m:Nat)(st:St)(h:Hp):
  k0t A b d c a μ e m st h=m0p A b d c a μ e m st h:=by
 simp only[k0t,m0p,Y01]
 rfl
def H03(k:(Ex->St->Hp->Prop)->St->Hp->Prop)(l:List Nat)(Q:Ex->St->Hp->Prop)(h:Hp)(A:Ann)(g:q0b)(μ:W06)(st:St):Prop:=match st with
 |⟨n,fr,bx,ow⟩=>d8 fr λfr=>d8 bx λa=>d8 ow λb=>n0l A ⟨n,fr,a,b⟩ λf j=>d8 f λf=>Y0i A g f j h /\
  m0b l λds=>P08 A ⟨n,fr,a,b⟩ ds [] λi=>N05 A ds ⟨n,fr,a,b⟩ fr λd=>d0d d λd=>V0r i d λo =>
   W09 f.length λvs=>X09 j.length λos=>Z0i A g μ vs os λm q =>
    u07 A.vars.length vs λs t=>L05 A.boxes t a λbx=>M05 A.owns os b λow=>d8 (n0b A.vars s o) λp=>d8 bx λbx=>d8 ow λow =>
     k (λe st' c=>match e with
      | .normal=>W0i A.pubs st' c λst' c=>k0t A i d ⟨n,fr,a,b⟩ g μ vs m st' c
      |e=>Q e st' c) ⟨n,p,bx,ow⟩ q
def W0h(b:(Ex->St->Hp->Prop)->St->Hp->Prop)(c:List Nat)(Q:Ex->St->Hp->Prop)(st:St)(h:Hp):Prop :=
 ∃(A:Ann) (a:q0b) (μ:W06),V0i A.nils st λst=>y0d A.nilsB st λst=>W0i A.pubs st h λst h=>H03 b c Q h A a μ st
theorem g0o(b:(Ex->St->Hp->Prop)->St->Hp->Prop)(c:List Nat)(Q:Ex->St->Hp->Prop)(st:St)(h:Hp):W0h b c Q st h=q0m b c Q st h:=by
 have l:∀ h A a μ,H03 b c Q h A a μ=λst=>n0l A st λj g=>Y0i A a j g h /\
  m0b c λds=>P08 A st ds [] λf=>N05 A ds st st.fr λi =>
   W09 j.length λvs=>X09 g.length λos=>Z0i A a μ vs os λm k =>
    u07 A.vars.length vs λo p=>L05 A.boxes p st.bx λbx=>M05 A.owns os st.ow λow =>
     b (λe st' d=>match e with
      | .normal=>W0i A.pubs st' d λst' d=>m0p A f i st a μ vs m st' d
      |e=>Q e st' d) ⟨st.n,n0b A.vars o (f++i),bx,ow⟩ k:=by
  intro h A a μ
  funext st
  simp_all[H03,Y01,W0d,E0m,W0r]
 simp only[W0h,q0m,l]
 rfl
def X0d(P:Program)(o:Oper)(st:St)(h:Hp)(K:St->Hp->Prop):Prop:=match st with
 |⟨n,fr,bx,ow⟩=>c8 P o ⟨n,fr,bx,ow⟩ h λav st h=>r0a (y0l o.op) st λst=>U0h o.dst 0 [] av ⟨st,h,[],[]⟩ λrs=>match rs with
  |⟨st,h,_,_⟩=>K st h
theorem A0j(P:Program)(o:Oper):X0d P o=A03 P o:=by
 funext st h K
 simp_all[X0d,A03,V0d,V0h]
theorem h0o(P:Program):X0d P=A03 P:=funext (A0j P)
def evF(P:Program)(c:Code):(Ex->St->Hp->Prop)->St->Hp->Prop :=
 Code.rec (motive:=λ_=>(Ex->St->Hp->Prop)->St->Hp->Prop)
  (λQ st h=>Q .normal st h)
  (λ_ ops d Q st h=>match d with
   |false=>match E0r P ops.toList with
    |true=>u03 st.n ops.toList=true/\evU P ops.toList 0 [] [] st h λst h=>Q .normal st h
    |false=>E0b P ops.toList 0 ⟨st,h,[],[]⟩ λrs=>match rs with
     |⟨st,h,_,_⟩=>Q .normal st h
   |true=>((P.follows .mixedOrders=true/\Region.lexB .any ops=true) /\
     G0p P ops.toList 0 ⟨st,h,[],[]⟩ λrs=>match rs with
      |⟨st,h,_,_⟩=>Q .normal st h) ∨
     False ∨
     (match f0p ops.toList with
    |none=>(P.follows .mixedOrders=true/\r02 st.n ops.toList=true)/\m03 P st h ops.toList 0 [] [] [] λL X E=>evD (H9 L st ops.toList) ops.size P X E L st h λst h=>Q .normal st h
    |some o=>(P.follows .mixedOrders=true/\(r02 st.n (c01 ops.toList)&&s0c ops.toList 0)=true)/\m03 P st h (c01 ops.toList) 0 [] [] [] λL X E=>evD (H9 L st (c01 ops.toList)) (c01 ops.toList).length P X E L st h λst h=>X0d P o st h λst h=>Q .normal st h) ∨
     ((P.follows .mixedOrders=true/\u03 st.n ops.toList=true)/\evU P ops.toList 0 [] [] st h λst h=>Q .normal st h) ∨
     (∃ m,(P.follows .mixedOrders=true/\okZ P st.n m ops.toList=true)/\evT P (X0d P) m ops.toList st h λst h=>Q .normal st h))
  (λ_ _ g j Q st h=>g (λe st h=>match e with
   | .normal=>j Q st h
   |e=>Q e st h) st h)
  (λc _ _ k l Q st h=>match rdO st c with
   | .val (.bool b)=>n0p b (k Q st h) (l Q st h)
   |_=>False)
  (λid _ a Q st h=>a (λe st h=>match e with
   | .exit i=>match Nat.beq i id with
    |true=>Q .normal st h
    |false=>Q (.exit i) st h
   |e=>Q e st h) st h)
  (λf a Q st h=>W0h (λQ=>a Q) (R0f f []) Q st h)
  (λ_ _ _ _ _ _ _ _ _=>False)
  (λid Q st h=>Q (.exit id) st h)
  (λ_ _ _ _ _=>False)
  (λ_ _ _ _=>False)
  (λ_ _ _ _=>False)
  (λQ st h=>Q .ret st h)
  (λ_ _ _ _=>False) c
theorem l0t(P:Program)(c:Code):evF P c=ev P c:=by
  induction c with
  |region id ops d =>
    funext Q st h
    cases d
    · show(match E0r P ops.toList with
        |true=>u03 st.n ops.toList=true/\evU P ops.toList 0 [] [] st h λst h=>Q .normal st h
        |false=>E0b P ops.toList 0 ⟨st,h,[],[]⟩ λrs=>match rs with
          |⟨st,h,_,_⟩=>Q .normal st h)=_
      grind[ev,z0g]
    · show(((P.follows .mixedOrders=true/\Region.lexB .any ops=true) /\
          G0p P ops.toList 0 ⟨st,h,[],[]⟩ λrs=>match rs with
            |⟨st,h,_,_⟩=>Q .normal st h) ∨
          False ∨
          (match f0p ops.toList with
        |none=>(P.follows .mixedOrders=true/\r02 st.n ops.toList=true)/\m03 P st h ops.toList 0 [] [] [] λL X E=>evD (H9 L st ops.toList) ops.size P X E L st h λst h=>Q .normal st h
        |some o=>(P.follows .mixedOrders=true/\(r02 st.n (c01 ops.toList)&&s0c ops.toList 0)=true)/\m03 P st h (c01 ops.toList) 0 [] [] [] λL X E=>evD (H9 L st (c01 ops.toList)) (c01 ops.toList).length P X E L st h λst h=>X0d P o st h λst h=>Q .normal st h) ∨
          ((P.follows .mixedOrders=true/\u03 st.n ops.toList=true)/\evU P ops.toList 0 [] [] st h λst h=>Q .normal st h) ∨
          (∃ m,(P.follows .mixedOrders=true/\okZ P st.n m ops.toList=true)/\evT P (X0d P) m ops.toList st h λst h=>Q .normal st h))=_
      simp only[ev,D0m,A0j,h0o]
      rfl
  |seq a b g j =>
    funext Q st h
    show evF P a (λe st h=>match e with
      | .normal=>evF P b Q st h
      |e=>Q e st h) st h=_
    simp only[ev,g,j];rfl
  |cond c x y k l =>
    funext Q st h
    show(match rdO st c with
      | .val (.bool b)=>n0p b (evF P x Q st h) (evF P y Q st h)
      |_=>False)=_
    simp only[ev,k,l];rfl
  |block id c f =>
    funext Q st h
    show evF P c (λe st h=>match e with
      | .exit i=>match Nat.beq i id with
        |true=>Q .normal st h
        |false=>Q (.exit i) st h
      |e=>Q e st h) st h=_
    simp only[ev,f];rfl
  |loop c f =>
    funext Q st h
    show W0h (λQ=>evF P c Q) (R0f c []) Q st h=_
    grind[ev,g0o]
  |_=>rfl
def D0s(P:Program)(fn:Func)(args:List Value)(h:Hp)(T:Value->Hp->Prop):Prop :=
 match fn.body with
 |some c=>match Nat.ble args.length fn.ntmps with
  |true=>d8 (Y09 0 args) λfr=>evF P c (λe st h=>match e with
   | .exit _=>False
   |_=>q0l P fn.results.toList st h λvs _ h=>T (a0j vs) h) ⟨fn.ntmps,fr,[],[]⟩ h
  |false=>False
 |none=>False
theorem I3{P:Program}{f:FuncId}{fn:Func}{args:List Value}{h:Hp}{b:Value->Hp->Prop}(hf:P.funcs[f]?=some fn)(a:D0s P fn args h b):Tr P f args.toArray h b:=by
 refine x0l hf ?_
 unfold D0s at a
 unfold b0t
 simp only[Y01,l0t]at a
 exact a
end Go.H
namespace Go.H
set_option linter.unusedVariables false
theorem Sub.refl(h:Hp):Sub h h:=λ_ _ e=>e
theorem Sub.trans{h c d:Hp}(a:Sub h c)(b:Sub c d):Sub h d:=λx o e=>b x o (a x o e)
theorem Sub.set{h:Hp}{b:Nat}{o:Obj}(a:h b=none):Sub h (h.set b o):=λx y e=>by
 grind[Hp.set_other]
theorem Sub.cell{h c:Hp}(s:Sub h c){b o:Nat}{v:Value}(a:Hp.cell h b o=some v):Hp.cell c b o=some v:=by
 unfold Hp.cell at a ⊢
 split at a
 ·rename_i d;rw[s _ _ d];exact a
 ·cases a
theorem SlE.mono{h d:Hp}(s:Sub h d){sz:Nat}{v:Value}{xs:List (List Value)}(e:SlE h sz v xs):SlE d sz v xs:=by
 obtain⟨f,a,n,c,g,i,k,l⟩:=e
 refine⟨f,a,n,c,g,i,k,l.imp id ?_⟩
 rintro⟨b,o,m,p⟩
 exact⟨b,o,m,λj v q=>s.cell (p j v q)⟩
theorem G1.sub{h a:Hp}{v:Value}{e sz:Nat}{nn:Bool}{xs:List (List Value)}(f:G1 h a v e sz nn xs):Sub h a:=by
 rcases f.2 with⟨_,_,_,rfl⟩|⟨g,cap,cur,_,b,rfl,_⟩
 all_goals simp_all[Sub.refl,Sub.set]
theorem G1.sle{h a:Hp}{v:Value}{e sz:Nat}{nn:Bool}{xs:List (List Value)}(f:G1 h a v e sz nn xs):SlE a sz v xs:=by
 refine⟨f.1,?_⟩
 rcases f.2 with⟨rfl,rfl,_,rfl⟩|⟨g,cap,cur,rfl,j,rfl,b,c,d,i⟩
 ·grind
 grind[Hp.cell,Hp.set_same]
theorem G1.slice{h b:Hp}{v:Value}{e sz:Nat}{nn:Bool}{xs:List (List Value)}(f:G1 h b v e sz nn xs):∃ a c,v = .slice a xs.length c/\xs.length<=maxLen:=by
 rcases f.2 with⟨rfl,rfl,_,rfl⟩|⟨g,cap,cur,rfl,l,rfl,d,i,j,k⟩
 all_goals grind
def F2{c d:Type}(p:c->d->Prop):List c->List d->Prop
 | [],[]=>True
 |a::as,b::bs=>p a b/\F2 p as bs
 |_,_=>False
theorem F2.length{a b:Type}{p:a->b->Prop}:∀ {as:List a} {bs:List b},F2 p as bs->as.length=bs.length
 | [],[],_=>rfl
 |_::as,_::bs,h=>by simp[F2.length h.2]
 | [],_::_,h=>h.elim
 |_::_,[],h=>h.elim
theorem F2.get{f d:Type}{p:f->d->Prop}:∀ {as:List f} {bs:List d} {i:Nat} {b:d},F2 p as bs->bs[i]?=some b->∃ a,as[i]?=some a/\p a b
 |a::as,b::bs,0,e,h,c=>by cases c;exact⟨a,rfl,h.1⟩
 |a::as,b::bs,i+1,e,h,c=>by
  obtain⟨x,g,j⟩:=F2.get (i:=i) h.2 (by simpa using c)
  grind
 | [],[],i,e,h,c=>by simp at c
 | [],_::_,_,_,h,_=>h.elim
 |_::_,[],_,_,h,_=>h.elim
theorem F2.mono{d e:Type}{p q:d->e->Prop}(c:∀ a b,p a b->q a b):∀ {as:List d} {bs:List e},F2 p as bs->F2 q as bs
 | [],[],_=>trivial
 |_::as,_::bs,h=>⟨c _ _ h.1,F2.mono c h.2⟩
 | [],_::_,h=>h.elim
 |_::_,[],h=>h.elim
theorem F2.snoc{c d:Type}{p:c->d->Prop}{a:c}{b:d}(e:p a b):∀ {as:List c} {bs:List d},F2 p as bs->F2 p (as ++ [a]) (bs ++ [b])
 | [],[],_=>⟨e,trivial⟩
 |_::as,_::bs,h=>⟨h.1,F2.snoc e h.2⟩
 | [],_::_,h=>h.elim
 |_::_,[],h=>h.elim
theorem F2.set{c d:Type}{p:c->d->Prop}{a:c}{b:d}(e:p a b):∀ {as:List c} {bs:List d} (i:Nat),F2 p as bs->F2 p (as.set i a) (bs.set i b)
 | [],[],_,_=>trivial
 |_::as,_::bs,0,h=>⟨e,h.2⟩
 |_::as,_::bs,i+1,h=>⟨h.1,F2.set e i h.2⟩
 | [],_::_,_,h=>h.elim
 |_::_,[],_,h=>h.elim
structure Rp (α:Type) where
 sz:Nat
 R:Hp->List Value->α->Prop
 len:∀ {h cs x},R h cs x->cs.length=sz
 one:∀ {h cs x},R h cs x->∀ v∈cs,v.oneCell'=true
 mono:∀ {h h' cs x},Sub h h'->R h cs x->R h' cs x
def Rp.int:Rp Int:=⟨1,λ_ cs x=>cs = [.int .i64 x]/\I0 x,λh=>by rw[h.1];rfl,λh v a=>by rw[h.1]at a;simp at a;rw[a];rfl,λ_ h=>h⟩
def Rp.bool:Rp Bool:=⟨1,λ_ cs x=>cs = [.bool x],λh=>by rw[h];rfl,λh v a=>by rw[h]at a;simp at a;rw[a];rfl,λ_ h=>h⟩
def Rp.str:Rp ByteArray:=⟨1,λ_ cs x=>cs = [.string x]/\x.size<=9223372036854775807,λh=>by rw[h.1];rfl,λh v a=>by rw[h.1]at a;simp at a;rw[a];rfl,λ_ h=>h⟩
def Rp.pair{f g:Type}(r:Rp f)(q:Rp g):Rp (f×g) where
 sz:=r.sz+q.sz
 R:=λh cs x=>∃ a b,cs=a++b/\r.R h a x.1/\q.R h b x.2
 len:=by rintro h cs x ⟨a,b,rfl,c,d⟩;rw[List.length_append,r.len c,q.len d]
 one:=by
  rintro h cs x ⟨a,b,rfl,c,d⟩ v e
  rcases List.mem_append.1 e with e|e
  ·exact r.one c v e
  ·exact q.one d v e
 mono:=by rintro h i cs x s ⟨a,b,rfl,c,d⟩;exact⟨a,b,rfl,r.mono s c,q.mono s d⟩
def Rp.slice{d:Type}(r:Rp d):Rp (List d) where
 sz:=1
 R:=λh cs xs=>∃ a n c vs,cs = [.slice a n c]/\n=xs.length/\n<=9223372036854775807/\SlE h r.sz (.slice a n c) vs/\F2 (r.R h) vs xs
 len:=by grind
 one:=by rintro h cs x ⟨a,n,c,vs,rfl,_⟩ v b;simp at b;rw[b];rfl
 mono:=by rintro h j cs x s ⟨a,n,c,vs,rfl,e,f,g,i⟩;exact⟨a,n,c,vs,rfl,e,f,g.mono s,i.mono λ_ _ h=>r.mono s h⟩
def Sl{a:Type}(r:Rp a)(h:Hp)(v:Value)(xs:List a):Prop:=r.slice.R h [v] xs
abbrev i0o(h:Hp)(v:Value)(xs:List Int):Prop:=Sl .int h v xs
theorem Sl.mono{b:Type}{r:Rp b}{h a:Hp}(s:Sub h a){v:Value}{xs:List b}(e:Sl r h v xs):Sl r a v xs:=r.slice.mono s e
theorem Sl.slice{b:Type}{r:Rp b}{h:Hp}{v:Value}{xs:List b}(e:Sl r h v xs):∃ a c,v = .slice a xs.length c/\xs.length<=9223372036854775807:=by
 obtain⟨a,n,c,vs,g,rfl,i,⟨_,d,l,f,j,_,k,_⟩,_⟩:=e
 grind
theorem Sl.len{b:Type}{r:Rp b}{h:Hp}{a:Option Addr}{n c:Nat}{xs:List b}(e:Sl r h (.slice a n c) xs):n=xs.length/\n<=9223372036854775807:=by
 obtain⟨d,f,g,i⟩:=e.slice
 grind
theorem Sl.get{g:Type}{r:Rp g}{h:Hp}{v:Value}{xs:List g}(e:Sl r h v xs){i:Nat}{x:g}(f:xs[i]?=some x)(H:0<r.sz):
  InB v i/\∃ cs,D01 h v r.sz i cs/\r.R h cs x:=by
 obtain⟨a,n,c,vs,s,rfl,C,⟨t,y,J,A,u,D,E,d⟩,k⟩:=e
 cases s
 cases u
 obtain⟨cs,l,m⟩:=k.get f
 have G:=k.length
 obtain⟨F,I⟩:=List.getElem?_eq_some_iff.1 f
 have p:∀ x∈vs,x.length=r.sz:=λx f=>(t x f).1
 have q:cs.length=r.sz:=r.len m
 rcases d with d|⟨b,o,rfl,d⟩
 ·exfalso
  cases cs with
  |nil=>simp at q;omega
  |cons z cs =>
   have:=C03 vs i (z::cs) p l 0 z rfl
   grind
 ·refine⟨⟨b,o,_,_,rfl,by omega,by omega⟩,cs,⟨q,by omega,b,o,_,_,rfl,λj v w=>?_⟩,m⟩
  have:=d _ _ (C03 vs i cs p l j v w)
  grind
theorem j0o{a:Type}{xs:List a}{i:Nat}(d:a)(h:i<xs.length):xs[i]?=some (xs.getD i d):=by
 grind
theorem i0o.get{h:Hp}{v:Value}{xs:List Int}(e:i0o h v xs){i:Nat}(f:i<xs.length):InB v i/\D01 h v 1 i [.int .i64 (xs.getD i 0)]/\I0 (xs.getD i 0):=by
 obtain⟨a,cs,b,c,d⟩:=Sl.get e (j0o 0 f) Nat.zero_lt_one
 subst c
 exact⟨a,b,d⟩
theorem G1.sl{g:Type}{r:Rp g}{h b:Hp}{v:Value}{e:Nat}{nn:Bool}{vs:List (List Value)}{xs:List g}(f:G1 h b v e r.sz nn vs)(d:F2 (r.R h) vs xs):Sl r b v xs:=by
 obtain⟨a,c,rfl,i⟩:=f.slice
 have j:=d.length
 refine⟨a,_,c,vs,rfl,j,by simpa [maxLen] using i,f.sle,d.mono λ_ _ h=>r.mono f.sub h⟩
theorem Tr.forget{P:Program}{f:FuncId}{args:Array Value}{h:Hp}{x:Value}(t:Tr P f args h λv a=>v=x/\Sub h a):Tr P f args h λv a=>v=x/\a=h :=
 ⟨λw e=>(t.run w e).mono λ_ _ ⟨v,a,b,⟨g,d⟩,c⟩=>⟨v,h,b,⟨g,rfl⟩,c.less d⟩⟩
end Go.H
namespace Go.H
set_option linter.unusedVariables false
structure Wp (α:Type) extends Rp α where
 W:Hp->List Value->α->List Nat->Prop
 toR:∀ {h cs x B},W h cs x B->R h cs x
 dom:∀ {h cs x B},W h cs x B->∀ b∈B,h b≠none
 frame:∀ {h h' cs x B},W h cs x B->(∀ b∈B,h' b=h b)->W h' cs x B
def Wp.plain{a:Type}(r:Rp a)(d:∀ h c cs x,r.R h cs x->r.R c cs x):Wp a :=
 { r with W:=λh cs x B=>r.R h cs x/\B = [],toR:=λh=>h.1,dom:=(λh b e=>by grind),frame:=λh _=>⟨d _ _ _ _ h.1,h.2⟩ }
def Wp.int:Wp Int := .plain .int λ_ _ _ _ h=>h
def Wp.bool:Wp Bool := .plain .bool λ_ _ _ _ h=>h
def Wp.str:Wp ByteArray := .plain .str λ_ _ _ _ h=>h
def Wp.pair{l m:Type}(r:Wp l)(q:Wp m):Wp (l×m) :=
 { Rp.pair r.toRp q.toRp with
  W:=λh cs x B=>∃ c d e f,cs=c++d/\B=e++f/\r.W h c x.1 e/\q.W h d x.2 f
  toR:=λ⟨c,d,e,f,j,_,g,i⟩=>⟨c,d,j,r.toR g,q.toR i⟩
  dom:=λ⟨c,d,e,f,_,k,g,i⟩ b a=>by
   subst k
   rcases List.mem_append.1 a with a|a
   ·exact r.dom g b a
   ·exact q.dom i b a
  frame:=λ⟨c,d,e,f,j,k,g,i⟩ hf=>by
   subst k
   exact⟨c,d,e,f,j,rfl,r.frame g λb a=>hf b (List.mem_append_left _ a),q.frame i λb a=>hf b (List.mem_append_right _ a)⟩ }
def F3{d e f:Type}(p:d->e->f->Prop):List d->List e->List f->Prop
 | [],[],[]=>True
 |a::as,b::bs,c::cs=>p a b c/\F3 p as bs cs
 |_,_,_=>False
theorem F3.f2{d e g:Type}{p:d->e->g->Prop}{q:d->e->Prop}(f:∀ a b c,p a b c->q a b):∀ {as:List d} {bs:List e} {cs:List g},F3 p as bs cs->F2 q as bs
 | [],[],[],_=>trivial
 |_::as,_::bs,_::cs,h=>⟨f _ _ _ h.1,F3.f2 f h.2⟩
 | [],[],_::_,h=>h.elim
 | [],_::_,_,h=>h.elim
 |_::_,[],_,h=>h.elim
 |_::_,_::_,[],h=>h.elim
theorem F3.mono{e f g:Type}{p q:e->f->g->Prop}:∀ {as:List e} {bs:List f} {cs:List g},(∀ a b c,c∈cs->p a b c->q a b c)->F3 p as bs cs->F3 q as bs cs
 | [],[],[],_,_=>trivial
 |_::as,_::bs,_::cs,d,h=>⟨d _ _ _ mS h.1,F3.mono (λa b c i=>d a b c (mC _ i)) h.2⟩
 | [],[],_::_,_,h=>h.elim
 | [],_::_,_,_,h=>h.elim
 |_::_,[],_,_,h=>h.elim
 |_::_,_::_,[],_,h=>h.elim
theorem F3.snoc{d e f:Type}{p:d->e->f->Prop}{a:d}{b:e}{c:f}(g:p a b c):∀ {as:List d} {bs:List e} {cs:List f},F3 p as bs cs->F3 p (as ++ [a]) (bs ++ [b]) (cs ++ [c])
 | [],[],[],_=>⟨g,trivial⟩
 |_::as,_::bs,_::cs,h=>⟨h.1,F3.snoc g h.2⟩
 | [],[],_::_,h=>h.elim
 | [],_::_,_,h=>h.elim
 |_::_,[],_,h=>h.elim
 |_::_,_::_,[],h=>h.elim
theorem F3.mem{f g e:Type}{p:f->g->e->Prop}:∀ {as:List f} {bs:List g} {cs:List e} {c:e},F3 p as bs cs->c∈cs->∃ a b,p a b c
 |_::as,_::bs,_::cs,c,h,d=>by
  rcases List.mem_cons.1 d with rfl|d
  ·exact⟨_,_,h.1⟩
  ·exact F3.mem h.2 d
 | [],[],[],c,_,d=>by cases d
 | [],[],_::_,_,h,_=>h.elim
 | [],_::_,_,_,h,_=>h.elim
 |_::_,[],_,_,h,_=>h.elim
 |_::_,_::_,[],_,h,_=>h.elim
def F0m(sz:Nat)(h:Hp)(v:Value)(vs:List (List Value))(B:List Nat):Prop :=
 (∀ x∈vs,x.length=sz/\∀ v∈x,v.oneCell'=true) /\
 ((v = .slice none 0 0/\vs = []/\B = [])∨∃ g o c cur ty,v = .slice (some ⟨g,o,none⟩) vs.length c/\vs.length<=c/\c<=9223372036854775807/\h g=some (.cells cur ty (0,0))/\B = [g] /\
  (∀ j u,vs.flatten[j]?=some u->cur[o+j]?=some u)/\o+c*sz<=cur.size)
theorem F0m.sle{sz:Nat}{h:Hp}{v:Value}{vs:List (List Value)}{B:List Nat}(w:F0m sz h v vs B):SlE h sz v vs:=by
 refine⟨w.1,?_⟩
 rcases w.2 with⟨rfl,rfl,_⟩|⟨g,o,c,cur,ty,rfl,a,b,d,_,e⟩
 ·grind
 grind[Hp.cell]
def Wp.slice{s:Type}(r:Wp s):Wp (List s) :=
 { Rp.slice r.toRp with
  W:=λh cs xs B=>∃ v vs e Bs,cs = [v]/\F0m r.sz h v vs e/\F3 (r.W h) vs xs Bs/\B=e++Bs.flatten
  toR:=by
   rintro h cs xs B ⟨v,vs,e,Bs,rfl,d,f,rfl⟩
   have j:=f.f2 (q:=r.R h) λ_ _ _ h=>r.toR h
   have p:=d.sle
   have n:=j.length
   rcases d.2 with⟨rfl,rfl,_⟩|⟨g,o,c,cur,ty,rfl,l,m,_⟩
   ·exact⟨none,0,0,[],rfl,n,Nat.zero_le _,p,j⟩
   ·exact⟨_,_,c,vs,rfl,n,Nat.le_trans l m,p,j⟩
  dom:=by
   rintro h cs xs B ⟨v,vs,e,Bs,rfl,d,f,rfl⟩ b i
   rcases List.mem_append.1 i with i|i
   ·rcases d.2 with⟨_,_,rfl⟩|⟨g,o,c,cur,ty,_,_,_,y,rfl,_⟩
    all_goals grind
   ·obtain⟨C,t,u⟩:=List.mem_flatten.1 i
    obtain⟨a,x,k⟩:=f.mem t
    exact r.dom k b u
  frame:=by
   rintro h D cs xs B ⟨v,vs,e,Bs,rfl,d,f,rfl⟩ hf
   refine⟨v,vs,e,Bs,rfl,⟨d.1,?_⟩,f.mono λa b c w k=>r.frame k λx z=>hf x (List.mem_append_right _ (List.mem_flatten.2 ⟨c,w,z⟩)),rfl⟩
   rcases d.2 with⟨rfl,rfl,rfl⟩|⟨g,o,c,cur,ty,rfl,l,m,y,rfl,A⟩
   ·grind
   ·exact .inr ⟨g,o,c,cur,ty,rfl,l,m,by grind,rfl,A⟩ }
def K7(h:Hp)(B:List Nat):Prop:=B.Nodup/\∀ b∈B,h b=none
theorem G1.rows{h a:Hp}{v:Value}{e sz:Nat}{nn:Bool}{vs:List (List Value)}(f:G1 h a v e sz nn vs):∃ B,F0m sz a v vs B/\K7 h B:=by
 rcases f.2 with⟨rfl,rfl,_,rfl⟩|⟨g,cap,cur,rfl,i,rfl,b,c,d,k⟩
 ·exact⟨[],⟨by simp,.inl ⟨rfl,rfl,rfl⟩⟩,by simp[K7]⟩
 ·refine⟨[g],⟨f.1,.inr ⟨g,0,cap,cur,e,rfl,b,by simpa [maxLen] using c,Hp.set_same _ _ _,rfl,λj u l=>?_,by rw[d];omega⟩⟩,by simp,by simpa using i⟩
  grind
theorem G1.fresh{q:Type}{r:Wp q}{h0 h i:Hp}{v:Value}{e:Nat}{nn:Bool}{vs:List (List Value)}{xs:List q}{Bs:List (List Nat)}(f:G1 h i v e r.sz nn vs)(n:F3 (r.W h) vs xs Bs)
  (p:Sub h0 h) (m:K7 h0 Bs.flatten):∃ B,r.slice.W i [v] xs B/\K7 h0 B/\Sub h0 i:=by
 obtain⟨k,s,j⟩:=f.rows
 have y:∀ b∈Bs.flatten,h b≠none:=λb d=>by
  obtain⟨A,t,w⟩:=List.mem_flatten.1 d
  obtain⟨a,x,g⟩:=n.mem t
  exact r.dom g b w
 refine⟨k++Bs.flatten,⟨v,vs,k,Bs,rfl,s,n.mono λa b c C g=>r.frame g λx z=>?_,rfl⟩,⟨?_,λb d=>?_⟩,p.trans f.sub⟩
 ·have:=r.dom g x z
  cases ho:h x with
  |none=>exact absurd ho this
  |some o=>exact f.sub x o ho
 ·rw[List.nodup_append]
  refine⟨j.1,m.1,λa u b d e=>?_⟩
  exact y b d (by rw[←e];exact j.2 a u)
 ·rcases List.mem_append.1 d with d|d
  ·have l:=j.2 b d
   cases ho:h0 b with
   |none=>rfl
   |some o=>rw[p b o ho]at l;cases l
  ·exact m.2 b d
def X06{a:Type}(L:List a)(n:Nat)(z:a):List a:=L++List.replicate (n-L.length) z
theorem X0h{a:Type}{L:List a}{n:Nat}{z:a}(h:L.length<=n):(X06 L n z).length=n:=by simp[X06];omega
theorem k0o{a:Type}{L:List a}{n k:Nat}{z:a}(b:L.length=k)(h:k<n):(X06 L n z)[k]?=some z:=by
 subst b
 unfold X06
 rw[List.getElem?_append_right (Nat.le_refl _),Nat.sub_self,List.getElem?_replicate,if_pos (by omega)]
theorem l0o{a:Type}{L:List a}{n k:Nat}{z r:a}(b:L.length=k)(h:k<n):(X06 L n z).set k r=X06 (L ++ [r]) n z:=by
 subst b
 unfold X06
 rw[List.set_append_right (h:=Nat.le_refl _),Nat.sub_self]
 have:n-L.length=(n-(L ++ [r]).length)+1:=by simp;omega
 grind
theorem m0o{a:Type}{L:List a}{n:Nat}{z:a}(h:L.length=n):X06 L n z=L:=by simp[X06,h]
def New{b:Type}(r:Wp b)(h a:Hp)(cs:List Value)(x:b):Prop:=∃ B,r.W a cs x B/\K7 h B/\Sub h a
theorem New.sub{b:Type}{r:Wp b}{h a:Hp}{cs:List Value}{x:b}(w:New r h a cs x):Sub h a:=let ⟨_,_,_,s⟩:=w;s
theorem New.r{b:Type}{r:Wp b}{h a:Hp}{cs:List Value}{x:b}(w:New r h a cs x):r.R a cs x:=let ⟨_,hw,_,_⟩:=w;r.toR hw
theorem F3.ints{h:Hp}:∀(xs:List Int),(∀ x∈xs,I0 x)->F3 (Wp.int.W h) (xs.map λx=>[.int .i64 x]) xs (xs.map λ_=>[])
 | [],_=>trivial
 |x::r,a=>⟨⟨⟨rfl,a x mS⟩,rfl⟩,F3.ints r λy b=>a y (mC _ b)⟩
theorem B0j{a:Type}(xs:List a):(xs.map λ_=>([]:List Nat)).flatten = []:=by induction xs<;>simp_all
theorem i0o.all{h:Hp}{v:Value}{xs:List Int}(e:i0o h v xs):∀ x∈xs,I0 x:=by
 obtain⟨a,n,c,vs,_,_,_,_,b⟩:=e
 intro x g
 obtain⟨i,f⟩:=List.getElem?_of_mem g
 obtain⟨cs,_,d⟩:=b.get f
 exact d.2
theorem Wp.sub{c:Type}{r:Wp c}{h a:Hp}{cs:List Value}{x:c}{B:List Nat}(w:r.W h cs x B)(s:Sub h a):r.W a cs x B :=
 r.frame w λb d=>by
  have:=r.dom w b d
  cases ho:h b with
  |none=>exact absurd ho this
  |some o=>exact s b o ho
theorem Y0d{b:Type}{r:Wp b}{h a:Hp}{L:List (List Value)}{xs:List b}{Bs:List (List Nat)}(w:F3 (r.W h) L xs Bs)(s:Sub h a):F3 (r.W a) L xs Bs :=
 w.mono λ_ _ _ _ c=>Wp.sub c s
theorem z0l{g:Type}{r:Wp g}{h0 h:Hp}{L:List (List Value)}{xs:List g}{Bs:List (List Nat)}{B:List Nat}(w:F3 (r.W h) L xs Bs)(n:Sub h0 h)(hf:K7 h0 Bs.flatten)(d:K7 h B):
  K7 h0 (Bs ++ [B]).flatten:=by
 have l:∀ b∈Bs.flatten,h b≠none:=λb c=>by
  obtain⟨q,i,k⟩:=List.mem_flatten.1 c
  obtain⟨a,x,p⟩:=w.mem i
  exact r.dom p b k
 have m:(Bs ++ [B]).flatten=Bs.flatten++B:=by simp
 rw[m]
 refine⟨?_,λb c=>?_⟩
 ·rw[List.nodup_append]
  exact⟨hf.1,d.1,λa j b c e=>l a j (by rw[e];exact d.2 b c)⟩
 ·rcases List.mem_append.1 c with c|c
  ·exact hf.2 b c
  ·have f:=d.2 b c
   cases ho:h0 b with
   |none=>rfl
   |some o=>rw[n b o ho]at f;cases f
end Go.H
namespace Go.H
open Go.WideShapes Go.Deep
set_option linter.unusedVariables false
def i02(P:Program)(t:TypeId){e:Type}(r:Rp e):Prop :=
 ∀ {H:Type} (enc:TypeId×Value->H) (w:World) (base:Nat) (c:Nat->Bool) (a:Bool) (n:Nat) (cs:List Value) (x:DataW H×List MemPlace),
  DataW.trod enc P w base c a n t cs=some x->∃ d,r.R (λb=>w.heap[b]?) cs d
theorem i02.int{P:Program}{t:TypeId}(a:P.underlying t=some (.int .i64)):i02 P t Rp.int:=by
 intro H enc w base e d n cs x c
 obtain⟨k,rfl,_,b⟩:=DataW.trod_int a c
 exact⟨k,rfl,g0u b⟩
theorem i02.bool{P:Program}{t:TypeId}(a:P.underlying t=some .bool):i02 P t Rp.bool:=by
 intro H enc w base d c n cs x b
 obtain⟨k,rfl,_⟩:=DataW.trod_bool a b
 exact⟨k,rfl⟩
theorem i02.str{P:Program}{t:TypeId}(a:P.underlying t=some .string):i02 P t Rp.str:=by
 intro H enc w base e d n cs x c
 obtain⟨k,rfl,_,b⟩:=DataW.trod_string a c
 exact⟨k,rfl,e0o b⟩
def Y06(P:Program)(a:List Field)(off:Nat){g:Type}(r:Rp g):Prop :=
 ∀ {H:Type} (enc:TypeId×Value->H) (w:World) (base:Nat) (e:Nat->Bool) (c:Bool) (n:Nat) (cs:List Value),
  (∀ f∈a,∃ y,DataW.trod enc P w base e c n f.type ((cs.drop f.offset).take (P.cellsOf f.type))=some y)->off+r.sz=cs.length->∃ d,r.R (λb=>w.heap[b]?) (cs.drop off) d
theorem Y06.one{P:Program}{f:Field}{off:Nat}{g:Type}{r:Rp g}(c:f.offset=off)(d:P.cellsOf f.type=r.sz)(h:i02 P f.type r):Y06 P [f] off r:=by
 intro H enc w base e b n cs hf i
 obtain⟨y,a⟩:=hf f (List.mem_singleton.2 rfl)
 rw[d,c,List.take_of_length_le (by simp;omega)]at a
 exact h enc w base e b n _ y a
theorem Y06.cons{P:Program}{f:Field}{a:List Field}{off:Nat}{u v:Type}{r:Rp u}{q:Rp v}(p:f.offset=off)(t:P.cellsOf f.type=r.sz)(h:i02 P f.type r)(s:Y06 P a (off+r.sz) q):
  Y06 P (f::a) off (r.pair q):=by
 intro H enc w base d b n cs hf m
 obtain⟨y,c⟩:=hf f mS
 rw[t,p]at c
 obtain⟨e,j⟩:=h enc w base d b n _ y c
 have o:off+r.sz+q.sz=cs.length:=by rw[←m];show _=off+(r.sz+q.sz);omega
 obtain⟨i,k⟩:=s enc w base d b n cs (λg l=>hf g (mC _ l)) o
 refine⟨(e,i),_,_,?_,j,k⟩
 grind[List.drop_drop,List.take_append_drop]
theorem i02.struct{P:Program}{t:TypeId}{a:Array Field}{g:Type}{r:Rp g}(c:P.underlying t=some (.struct a))(l:P.cellsOf t=r.sz)(h:Y06 P a.toList 0 r):i02 P t r:=by
 intro H enc w base e b n cs x d
 obtain⟨xs,m,_,_,i,j,hf⟩:=DataW.trod_struct c d
 have:=h enc w base e b m cs (λf k=>by
  grind[List.getElem?_of_mem,Array.getElem?_eq_some_iff]) (by omega)
 simpa using this
theorem G0m{e c:Type}[Inhabited c]{p:Nat->List e->c->Prop}:∀(n:Nat),(∀ i,i<n->∃ a b,p i a b)->∃(as:List (List e)) (bs:List c),as.length=n/\bs.length=n/\∀ i,i<n->p i (as.getD i []) (bs.getD i default)
 |0,_=>⟨[],[],rfl,rfl,λi d=>by omega⟩
 |n+1,h=>by
  obtain⟨as,bs,f,g,j⟩:=G0m n λi d=>h i (by omega)
  obtain⟨a,b,k⟩:=h n (by omega)
  refine⟨as ++ [a],bs ++ [b],by simp[f],by simp[g],λi d=>?_⟩
  grind
theorem F2.of_get{e d:Type}{p:List e->d->Prop}[Inhabited d]:∀(as:List (List e)) (bs:List d),as.length=bs.length->(∀ i,i<as.length->p (as.getD i []) (bs.getD i default))->F2 p as bs
 | [],[],_,_=>trivial
 |a::as,b::bs,c,h=>⟨h 0 (by simp),F2.of_get as bs (by simpa using c) λi f=>h (i+1) (by simpa using f)⟩
 | [],_::_,c,_=>by cases c
 |_::_,[],c,_=>by cases c
theorem H0m{sz:Nat}:∀(xs:List (List Value)) (j:Nat) (v:Value),(∀ x∈xs,x.length=sz)->xs.flatten[j]?=some v->j / sz<xs.length/\(xs.getD (j / sz) [])[j % sz]?=some v
 | [],j,v,_,h=>by simp at h
 |x::r,j,v,a,h=>by
  have b:=a x mS
  rw[List.flatten_cons,List.getElem?_append]at h
  by_cases hj:j<x.length
  ·simp_all[Nat.div_eq_of_lt,Nat.mod_eq_of_lt]
  ·rw[if_neg hj,b]at h
   rw[b]at hj
   obtain⟨f,g⟩:=H0m r (j-sz) v (λy c=>a y (mC _ c)) h
   have h0:0<sz:=by
    grind
   have d:j / sz=(j-sz) / sz+1:=by
    conv=>lhs;rw[show j=(j-sz)+sz from by omega,Nat.add_div_right _ h0]
   have e:j % sz=(j-sz) % sz:=by
    conv=>lhs;rw[show j=(j-sz)+sz from by omega,Nat.add_mod_right]
   grind
theorem i02.slice{P:Program}{t e:TypeId}{u:Type}{r:Rp u}(S:P.underlying t=some (.slice e))(Q:P.cellsOf e=r.sz)(h0:0<r.sz)(z:i02 P e r):i02 P t r.slice:=by
 intro H enc w base E C n cs x h
 rcases open_slice S h with⟨rfl,_⟩|⟨a,len,cap,m,k,U,V,rfl,Y,s,M,N,_,A⟩
 ·exact⟨[],none,0,0,[],rfl,rfl,Nat.zero_le _,⟨by simp,none,0,0,rfl,rfl,Nat.le_refl _,.inl rfl⟩,trivial⟩
 have ab:len<=m:=by rw[N];split<;>omega
 rcases Nat.eq_zero_or_pos len with F|D
 ·subst F
  exact⟨[],_,_,_,[],rfl,rfl,Nat.zero_le _,⟨by simp,_,_,_,rfl,rfl,s,.inl rfl⟩,trivial⟩
 have T:Nonempty u:=by
  obtain⟨cs',_,f⟩:=A 0 (by omega)
  obtain⟨d,_⟩:=z enc w base E C k cs' _ f
  exact⟨d⟩
 letI:Inhabited u:=Classical.inhabited_of_nonempty T
 obtain⟨vs,xs,ae,af,l⟩:=G0m (p:=λi cs' d=>w.cells? base (a.add (i*P.cellsOf e)) (P.cellsOf e)=some cs'/\r.R (λb=>w.heap[b]?) cs' d) len (λi g=>by
  obtain⟨cs',o,f⟩:=A i (by omega)
  obtain⟨d,aa⟩:=z enc w base E C k cs' _ f
  grind)
 have J:F2 (r.R λb=>w.heap[b]?) vs xs:=F2.of_get vs xs (by omega) λi g=>(l i (by omega)).2
 have y:∀ x∈vs,x.length=r.sz/\∀ v∈x,v.oneCell'=true:=λx h=>by
  obtain⟨i,g,e⟩:=List.getElem_of_mem h
  have:=(l i (by omega)).2
  rw[List.getD_eq_getElem?_getD,List.getElem?_eq_getElem g,e]at this
  exact⟨r.len this,r.one this⟩
 have cell:∀ i j,i<len->j<r.sz->w.cell? ((a.add (i*r.sz)).add j)=(vs.getD i [])[j]?:=λi j g q=>by
  have:=(l i g).1
  rw[Q]at this
  obtain⟨_,_,K⟩:=World.cells?_some this
  exact K j q
 have ad:a.spot=none:=by
  have o:=cell 0 0 D h0
  have f:=(l 0 D).2
  have X:=r.len f
  have I:(a.add (0*r.sz)).add 0=a:=by simp[Addr.add]
  rw[I]at o
  have c:((vs.getD 0 [])[0]?).isSome=true:=by
   grind
  rw[←o]at c
  unfold World.cell? at c
  split at c
  ·split at c
   ·cases c
   ·rename_i O;simpa using O
  ·cases c
 refine⟨xs,_,_,_,vs,rfl,by omega,Nat.le_trans s (e0o M),⟨y,_,_,_,rfl,by omega,s,.inr ⟨a.block,a.off,?_,λj v q=>?_⟩⟩,J⟩
 ·cases a;grind
 ·obtain⟨W,G⟩:=H0m vs j v (λx h=>(y x h).1) q
  have L:j % r.sz<r.sz:=Nat.mod_lt _ h0
  have:=cell (j / r.sz) (j % r.sz) (by omega) L
  rw[G,add_add,show j / r.sz*r.sz+j % r.sz=j from by rw[Nat.mul_comm];exact Nat.div_add_mod ..]at this
  unfold Hp.cell
  unfold World.cell? at this
  have Z:(a.add j).block=a.block:=by unfold Addr.add;split<;>rfl
  have ac:(a.add j).off=a.off+j:=by unfold Addr.add;split<;>simp_all
  grind
theorem Z0d{P:Program}{H:Type}{enc:TypeId×Value->H}{w:World}{base e:Nat}{c:Nat->Bool}{a:Bool}{m:Reach}{t:TypeId}{f:Array Field}{v:Value}{d:DataW H}{ps:List MemPlace}{o:Type}{r:Rp o}
  (i:i02 P t r) (j:P.underlying t=some (.struct f)) (k:Value.okWide P w m e t v) (h:DataW.Trod enc P w base c a t v d ps):∃ cs x,v = .agg cs.toArray/\r.R (λb=>w.heap[b]?) cs x:=by
 obtain⟨cs,rfl,_⟩:=okWide_struct j k
 obtain⟨n,g⟩:=h
 obtain⟨x,l⟩:=i enc w base c a n _ _ g
 exact⟨cs.toList,x,by simp,l⟩
end Go.H
namespace Go.H
set_option linter.unusedVariables false
def szR(left s:Int):Int:=if s<=left then left-s else -1
theorem X0r{left a:Int}(h:szR left a<0)(b:0<=left):left<a/\szR left a = -1:=by
 unfold szR at *
 grind
theorem A0l{left a:Int}(h:0<=szR left a):a<=left/\szR left a=left-a:=by
 unfold szR at *
 grind
theorem H0p{left a b:Int}(h:szR left a<0)(c:0<=left)(e:a<=b):szR left b = -1:=by
 obtain⟨d,_⟩:=X0r h c
 unfold szR
 rw[if_neg (by omega)]
theorem m0t{left a:Int}(h:left<a):szR left a = -1:=by
 unfold szR
 rw[if_neg (by omega)]
theorem n0t{left a:Int}(h:a<=left):szR left a=left-a:=by
 unfold szR
 rw[if_pos h]
theorem G2{n:Nat}{m:Nat}(h:n<m)(a:m<=9223372036854775807):IntKind.i64.wrap ((n:Int)+1)=((n+1:Nat):Int):=by
 grind[w64]
theorem F0b{a:Type}{l:List a}{k:Nat}{x:a}(h:l[k]?=some x):l.take (k+1)=l.take k ++ [x]:=by
 simp_all[List.take_add_one]
theorem Y0h{a:Type}{l:List a}{k:Nat}(h:k<l.length):∃ x,l[k]?=some x:=⟨_,List.getElem?_eq_getElem h⟩
theorem I0m{p:Prop}[Decidable p](h:(!decide p)=true): ¬ p:=by simpa using h
theorem C0j{p:Prop}[Decidable p](h:(!decide p)=false):p:=by simpa using h
theorem K7.nil(h:Hp):K7 h []:=⟨List.nodup_nil,λb a=>nomatch a⟩
theorem New.pair{n p:Type}{r:Wp n}{q:Wp p}{h k l:Hp}{d f:List Value}{x:n}{y:p}(a:New r h k d x)(b:New q k l f y):New (r.pair q) h l (d++f) (x,y):=by
 obtain⟨g,m,j,s1⟩:=a
 obtain⟨i,w,f2,s2⟩:=b
 refine⟨g++i,⟨d,f,g,i,rfl,rfl,Wp.sub m s2,w⟩,⟨?_,λz c=>?_⟩,s1.trans s2⟩
 ·rw[List.nodup_append]
  refine⟨j.1,f2.1,λu s v t e=>?_⟩
  have:=r.dom m u s
  rw[e]at this
  exact this (f2.2 v t)
 ·rcases List.mem_append.1 c with c|c
  ·exact j.2 z c
  ·have:=f2.2 z c
   cases ho:h z with
   |none=>rfl
   |some o=>rw[s1 z o ho]at this;cases this
theorem New.int{h:Hp}{x:Int}(a:I0 x):New Wp.int h h [.int .i64 x] x:=⟨[],⟨⟨rfl,a⟩,rfl⟩,K7.nil h,Sub.refl h⟩
theorem New.str{h:Hp}{x:ByteArray}(a:x.size<=9223372036854775807):New Wp.str h h [.string x] x:=⟨[],⟨⟨rfl,a⟩,rfl⟩,K7.nil h,Sub.refl h⟩
theorem New.bool{h:Hp}{x:Bool}:New Wp.bool h h [.bool x] x:=⟨[],⟨rfl,rfl⟩,K7.nil h,Sub.refl h⟩
theorem New.nilSlice{a:Type}{r:Wp a}{h:Hp}:New r.slice h h [.slice none 0 0] []:=⟨[],⟨_,[],[],[],rfl,⟨by simp,.inl ⟨rfl,rfl,rfl⟩⟩,trivial,rfl⟩,K7.nil h,Sub.refl h⟩
theorem Wp.slice_cell{b:Type}{r:Rp b}{h:Hp}{cs:List Value}{xs:List b}(d:r.slice.R h cs xs):∃ a n c,cs = [.slice a n c]:=by
 obtain⟨a,n,c,vs,rfl,_⟩:=d
 grind
theorem F3.get{g e j:Type}{p:g->e->j->Prop}:∀ {as:List g} {bs:List e} {cs:List j} {i:Nat} {b:e},F3 p as bs cs->bs[i]?=some b->∃ a c,as[i]?=some a/\cs[i]?=some c/\p a b c
 |a::as,b::bs,c::cs,0,f,h,d=>by cases d;exact⟨a,c,rfl,rfl,h.1⟩
 |a::as,b::bs,c::cs,i+1,f,h,d=>by
  obtain⟨x,y,k,l,m⟩:=F3.get (i:=i) h.2 (by simpa using d)
  grind
 | [],[],[],i,f,h,d=>by simp at d
 | [],[],_::_,_,_,h,_=>h.elim
 | [],_::_,_,_,_,h,_=>h.elim
 |_::_,[],_,_,_,h,_=>h.elim
 |_::_,_::_,[],_,_,h,_=>h.elim
theorem F3.lens{a b c:Type}{p:a->b->c->Prop}:∀ {as:List a} {bs:List b} {cs:List c},F3 p as bs cs->as.length=bs.length/\cs.length=bs.length
 | [],[],[],_=>⟨rfl,rfl⟩
 |_::as,_::bs,_::cs,h=>by have:=F3.lens h.2;simp[this]
 | [],[],_::_,h=>h.elim
 | [],_::_,_,h=>h.elim
 |_::_,[],_,h=>h.elim
 |_::_,_::_,[],h=>h.elim
theorem F3.step{n o:Type}{p q:n->o->List Nat->Prop}:∀ {as:List n} {bs:List o} {Bs:List (List Nat)} {i:Nat} {a:n} {b:o} {c:List Nat},F3 p as bs Bs->Bs.flatten.Nodup->Bs[i]?=some c->q a b c ->
  (∀ a b d,d∈Bs->(∀ y∈d,y ∉ c)->p a b d->q a b d)->F3 q (as.set i a) (bs.set i b) Bs
 |u::as,w::bs,x::cs,0,a,b,c,h,e,f,k,j=>by
  cases f
  rw[List.flatten_cons,List.nodup_append]at e
  exact⟨k,h.2.mono λt v d g z=>j t v d (mC _ g) (λy l m=>e.2.2 y m y (List.mem_flatten.2 ⟨d,g,l⟩) rfl) z⟩
 |u::as,w::bs,x::cs,i+1,a,b,c,h,e,f,k,j=>by
  rw[List.flatten_cons,List.nodup_append]at e
  have s:cs[i]?=some c:=by simpa using f
  refine⟨j _ _ _ mS (λy l m=>e.2.2 y l y (List.mem_flatten.2 ⟨c,List.mem_of_getElem? s,m⟩) rfl) h.1,F3.step h.2 e.2.1 s k λa b d g=>j a b d (mC _ g)⟩
 | [],[],[],i,_,_,_,h,_,f,_,_=>by simp at f
 | [],[],_::_,_,_,_,_,h,_,_,_,_=>h.elim
 | [],_::_,_,_,_,_,_,h,_,_,_,_=>h.elim
 |_::_,[],_,_,_,_,_,h,_,_,_,_=>h.elim
 |_::_,_::_,[],_,_,_,_,h,_,_,_,_=>h.elim
theorem D0j{sz:Nat}:∀(vs:List (List Value)) (i k:Nat) (x:List Value) (u:Value),(∀ y∈vs,y.length=sz)->vs[i]?=some x->k<sz->(vs.set i (x.set k u)).flatten=vs.flatten.set (i*sz+k) u
 |y::r,0,k,x,u,b,a,c=>by
  cases a
  have d:=b _ mS
  rw[List.set_cons_zero,List.flatten_cons,List.flatten_cons,Nat.zero_mul,Nat.zero_add,List.set_append_left (h:=by omega)]
 |y::r,i+1,k,x,u,b,a,c=>by
  have d:=b y mS
  have e:r[i]?=some x:=by simpa using a
  rw[List.set_cons_succ,List.flatten_cons,List.flatten_cons,D0j r i k x u (λz f=>b z (mC _ f)) e c,List.set_append_right (h:=by grind),d]
  grind
 | [],i,k,x,u,_,a,_=>by simp at a
theorem Wp.at{L:Type}{r:Wp L}{h:Hp}{a:Option Addr}{n c:Nat}{xs:List L}{B:List Nat}(w:r.slice.W h [.slice a n c] xs B)(N:B.Nodup){i:Nat}{x:L}(p:xs[i]?=some x)(h0:0<r.sz):
  InB (.slice a n c) i/\∃ cs f b of cur ty,a=some ⟨b,of,none⟩/\D01 h (.slice a n c) r.sz i cs/\r.W h cs x f/\h b=some (.cells cur ty (0,0))/\(∀ k,k<r.sz->of+(i*r.sz+k)<cur.size)/\b∈B/\b ∉ f/\(∀ y∈f,y∈B)/\f.Nodup /\
   (∀ l o,(∀ y,y ∉ f->l y=h y)->r.W l cs o f->r.slice.W l [.slice a n c] (xs.set i o) B) /\
   (∀ k u o,k<r.sz->(∀ l,(∀ y∈f,l y=h y)->r.W l (cs.set k u) o f)->r.slice.W (h.set b (.cells (cur.setIfInBounds (of+(i*r.sz+k)) u) ty (0,0))) [.slice a n c] (xs.set i o) B):=by
 have aa:r.slice.R h [.slice a n c] xs:=r.slice.toR w
 obtain⟨af,_⟩:=Sl.get (r:=r.toRp) aa p h0
 refine⟨af,?_⟩
 obtain⟨v,vs,ak,Bs,Z,⟨C,ai⟩,t,rfl⟩:=w
 cases Z
 obtain⟨cs,f,s,E,M⟩:=t.get p
 obtain⟨am,an⟩:=t.lens
 have ac:cs.length=r.sz:=r.len (r.toR M)
 rcases ai with⟨e,rfl,_⟩|⟨b,of,al,cur,ty,e,T,U,V,rfl,K⟩
 ·simp at s
 cases e
 rw[List.nodup_append]at N
 obtain⟨_,O,ad⟩:=N
 have A:∀ y∈f,y∈Bs.flatten:=λy g=>List.mem_flatten.2 ⟨f,List.mem_of_getElem? E,g⟩
 have F:b ∉ Bs.flatten:=λm=>ad b (List.mem_singleton.2 rfl) b m rfl
 have ab:∀ j u,cs[j]?=some u->cur[of+(i*r.sz+j)]?=some u:=λj u D=>K.1 _ _ (C03 vs i cs (λx p=>(C x p).1) s j u D)
 have ag:∀ k,k<r.sz->of+(i*r.sz+k)<cur.size:=λk Q=>by
  have:=ab k cs[k] (List.getElem?_eq_getElem (by omega))
  grind
 have aj:f.Nodup:=by
  grind
 refine⟨cs,f,b,of,cur,ty,rfl,⟨ac,by omega,b,of,_,_,rfl,λj u D=>?_⟩,M,V,ag,by simp,λm=>F (A b m),λy g=>List.mem_append_right _ (A y g),aj,?_,?_⟩
 ·simp_all[Hp.cell,Nat.add_assoc]
 ·intro l o hf H
  have m:l b=h b:=hf b λm=>F (A b m)
  refine⟨_,vs,[b],Bs,rfl,⟨C,.inr ⟨b,of,_,cur,ty,rfl,T,U,by rw[m];exact V,rfl,K⟩⟩,?_,rfl⟩
  have:=F3.step (q:=r.W l) t O E H λX Y d _ P G=>r.frame G λy g=>hf y (P y g)
  rwa [show vs.set i cs=vs from by obtain⟨ae,e⟩:=List.getElem?_eq_some_iff.1 s;rw[←e];exact List.set_getElem_self ae]at this
 ·intro k u o Q H
  have S:∀ y∈Bs.flatten,(h.set b (.cells (cur.setIfInBounds (of+(i*r.sz+k)) u) ty (0,0))) y=h y:=λy g=>Hp.set_other h _ λe=>F (by rw[←e];exact g)
  have I:=H (h.set b (.cells (cur.setIfInBounds (of+(i*r.sz+k)) u) ty (0,0))) λy g=>S y (A y g)
  refine⟨_,vs.set i (cs.set k u),[b],Bs,rfl,⟨λz J=>?_,.inr ⟨b,of,_,_,ty,by simp,by simpa using T,U,Hp.set_same _ _ _,rfl,λj z D=>?_,by simpa using K.2⟩⟩,?_,rfl⟩
  ·rcases List.mem_or_eq_of_mem_set J with J|rfl
   ·exact C z J
   ·exact⟨r.len (r.toR I),r.one (r.toR I)⟩
  ·rw[D0j vs i k cs u (λx p=>(C x p).1) s Q]at D
   grind
  ·exact F3.step (q:=r.W _) t O E I λX Y d ah P G=>r.frame G λy g=>S y (List.mem_flatten.2 ⟨d,ah,g⟩)
end Go.H
namespace Go.H
set_option linter.unusedVariables false
theorem F2.take{a b:Type}{p:a->b->Prop}:∀ {as:List a} {bs:List b} (k:Nat),F2 p as bs->F2 p (as.take k) (bs.take k)
 | [],[],k,_=>by simp[F2]
 |_::as,_::bs,0,_=>by simp[F2]
 |_::as,_::bs,k+1,h=>⟨h.1,F2.take k h.2⟩
 | [],_::_,_,h=>h.elim
 |_::_,[],_,h=>h.elim
theorem F2.drop{a b:Type}{p:a->b->Prop}:∀ {as:List a} {bs:List b} (k:Nat),F2 p as bs->F2 p (as.drop k) (bs.drop k)
 | [],[],k,_=>by simp[F2]
 |_::as,_::bs,0,h=>h
 |_::as,_::bs,k+1,h=>F2.drop k h.2
 | [],_::_,_,h=>h.elim
 |_::_,[],_,h=>h.elim
theorem F2.append{a b:Type}{p:a->b->Prop}:∀ {as:List a} {bs:List b} {c:List a} {d:List b},F2 p as bs->F2 p c d->F2 p (as++c) (bs++d)
 | [],[],_,_,_,h=>h
 |_::as,_::bs,_,_,h,e=>⟨h.1,F2.append h.2 e⟩
 | [],_::_,_,_,h,_=>h.elim
 |_::_,[],_,_,h,_=>h.elim
theorem F3.take{a b c:Type}{p:a->b->c->Prop}:∀ {as:List a} {bs:List b} {cs:List c} (k:Nat),F3 p as bs cs->F3 p (as.take k) (bs.take k) (cs.take k)
 | [],[],[],k,_=>by simp[F3]
 |_::as,_::bs,_::cs,0,_=>by simp[F3]
 |_::as,_::bs,_::cs,k+1,h=>⟨h.1,F3.take k h.2⟩
 | [],[],_::_,_,h=>h.elim
 | [],_::_,_,_,h=>h.elim
 |_::_,[],_,_,h=>h.elim
 |_::_,_::_,[],_,h=>h.elim
theorem F3.append{a b c:Type}{p:a->b->c->Prop}:∀ {as:List a} {bs:List b} {cs:List c} {d:List a} {e:List b} {cs':List c},F3 p as bs cs->F3 p d e cs'->F3 p (as++d) (bs++e) (cs++cs')
 | [],[],[],_,_,_,_,h=>h
 |_::as,_::bs,_::cs,_,_,_,h,f=>⟨h.1,F3.append h.2 f⟩
 | [],[],_::_,_,_,_,h,_=>h.elim
 | [],_::_,_,_,_,_,h,_=>h.elim
 |_::_,[],_,_,_,_,h,_=>h.elim
 |_::_,_::_,[],_,_,_,h,_=>h.elim
theorem F3.set{d e f:Type}{p:d->e->f->Prop}{a:d}{b:e}{c:f}(g:p a b c):∀ {as:List d} {bs:List e} {cs:List f} (i:Nat),F3 p as bs cs->F3 p (as.set i a) (bs.set i b) (cs.set i c)
 | [],[],[],_,_=>trivial
 |_::as,_::bs,_::cs,0,h=>⟨g,h.2⟩
 |_::as,_::bs,_::cs,i+1,h=>⟨h.1,F3.set g i h.2⟩
 | [],[],_::_,_,h=>h.elim
 | [],_::_,_,_,h=>h.elim
 |_::_,[],_,_,h=>h.elim
 |_::_,_::_,[],_,h=>h.elim
theorem Sl.cut{i:Type}{r:Rp i}{h:Hp}{a:Option Addr}{n c:Nat}{xs:List i}(e:Sl r h (.slice a n c) xs):
  ∃ vs,SlE h r.sz (.slice a n c) vs/\∀ v l m,m<=xs.length->SlE h r.sz v ((vs.take m).drop l)->∃ b f d,v = .slice b f d/\Sl r h (.slice b f d) ((xs.take m).drop l):=by
 obtain⟨u,A,w,vs,j,rfl,x,k,g⟩:=e
 cases j
 refine⟨vs,k,λv l m z o=>?_⟩
 obtain⟨p,b,f,d,rfl,q,s,t⟩:=o
 have y:=g.length
 refine⟨b,f,d,rfl,b,f,d,_,rfl,?_,?_,⟨p,b,f,d,rfl,q,s,t⟩,(g.take m).drop l⟩
 all_goals grind
theorem g0l.take{sz m g o n c:Nat}{v:Value}(h:g0l sz (.slice (some ⟨g,o,none⟩) n c) 0 m v):v = .slice (some ⟨g,o,none⟩) m c:=by
 rw[h _ _ _ rfl]
 grind[Addr.add]
theorem New.mono{c:Type}{r:Wp c}{h0 a b:Hp}{cs:List Value}{x:c}(w:New r h0 a cs x)(s:Sub a b):New r h0 b cs x:=by
 obtain⟨B,d,f,s1⟩:=w
 exact⟨B,Wp.sub d s,f,s1.trans s⟩
theorem New.from{d:Type}{r:Wp d}{h0 a c:Hp}{cs:List Value}{x:d}(w:New r a c cs x)(s:Sub h0 a):New r h0 c cs x:=by
 obtain⟨B,g,f,s1⟩:=w
 refine⟨B,g,⟨f.1,λb e=>?_⟩,s.trans s1⟩
 have:=f.2 b e
 cases ho:h0 b with
 |none=>rfl
 |some o=>rw[s b o ho]at this;cases this
theorem K04{c:Type}{r:Wp c}{h:Hp}{vs:List (List Value)}{xs:List c}{Bs:List (List Nat)}(w:F3 (r.W h) vs xs Bs):∀ b∈Bs.flatten,h b≠none:=λb e=>by
 obtain⟨i,d,f⟩:=List.mem_flatten.1 e
 obtain⟨a,x,g⟩:=w.mem d
 exact r.dom g b f
theorem L04{e:Type}{r:Wp e}{h d:Hp}{vs:List (List Value)}{xs:List e}{Bs:List (List Nat)}(w:F3 (r.W h) vs xs Bs)(hf:∀ b∈Bs.flatten,d b=h b):F3 (r.W d) vs xs Bs :=
 w.mono λa b c f g=>r.frame g λx i=>hf x (List.mem_flatten.2 ⟨c,f,i⟩)
theorem New.app{A:Type}{r:Wp A}{h0 p h:Hp}{g o n c:Nat}{xs:List A}(w:New r.slice h0 p [.slice (some ⟨g,o,none⟩) n c] xs)(s:Sub p h):
  ∃ vs,M0n h r.sz (.slice (some ⟨g,o,none⟩) n c) vs/\vs.length=xs.length/\∀(l:List (List Value)) (z:List A) (Bs:List (List Nat)) (m:Hp) (k:Value),F3 (r.W h) l z Bs->K7 p Bs.flatten ->
   b0p h m r.sz g k (vs++l)->New r.slice h0 m [k] (xs++z)/\∃ E J I C,k = .slice (some ⟨E,J,none⟩) I C:=by
 obtain⟨B,⟨v,vs,ap,i,N,⟨R,ab⟩,G,rfl⟩,O,y⟩:=w
 cases N
 rcases ab with⟨e,_⟩|⟨ar,ax,aq,cur,ty,e,ae,af,ag,rfl,ah,ai⟩
 ·cases e
 cases e
 have X:=G.lens
 have V:=s g _ ag
 have P:F3 (r.W h) vs xs i:=Y0d G s
 refine⟨vs,⟨R,g,o,c,cur,ty,rfl,ae,by simpa [maxLen] using af,ai,V,ah⟩,X.1,?_⟩
 rintro l z Bs m k ad j ⟨⟨S,f,K,D,L,ao,rfl,aj,ak,al,am,an⟩,E,J,I,C,M,H,t⟩
 cases M
 have F:=O
 rw[K7,List.nodup_append]at F
 obtain⟨⟨_,Y,T⟩,av⟩:=F
 have aw:∀ b∈i.flatten,b≠g:=λb d e=>T g (List.mem_singleton.2 rfl) b d e.symm
 have Z:∀ b∈i.flatten,b≠f:=λb d e=>by
  grind[K04]
 have aa:∀ b∈Bs.flatten,b≠f:=λb d e=>by
  rcases H with rfl|u
  ·have:=j.2 b d
   grind
  grind[K04]
 have au:h0 f=none:=by
  rcases H with rfl|u
  ·grind
  ·cases ho:h0 f with
   |none=>rfl
   |some x=>rw[s _ _ (y _ _ ho)]at u;cases u
 have U:∀ a∈i.flatten,∀ b∈Bs.flatten,a≠b:=λa Q b d e=>by
  have q:=j.2 b d
  grind[K04]
 refine⟨⟨[f]++(i++Bs).flatten,⟨_,vs++l,[f],i++Bs,rfl,⟨S,.inr ⟨f,K,D,L,ao,rfl,aj,by simpa [maxLen] using ak,am,rfl,an,al⟩⟩,?_,rfl⟩,⟨?_,?_⟩,?_⟩,f,K,_,D,rfl⟩
 ·exact(L04 P λb d=>t b (Z b d)).append (L04 ad λb d=>t b (aa b d))
 ·rw[List.flatten_append,List.nodup_append,List.nodup_append]
  refine⟨by simp,⟨Y,j.1,U⟩,λa Q b d=>?_⟩
  grind
 ·intro b d
  rcases List.mem_append.1 d with d|d
  ·grind
  ·rw[List.flatten_append]at d
   rcases List.mem_append.1 d with d|d
   ·grind
   ·have q:=j.2 b d
    cases ho:h0 b with
    |none=>rfl
    |some x=>rw[y _ _ ho]at q;cases q
 ·intro b x ac
  rw[t b (λe=>by grind)]
  exact s _ _ (y _ _ ac)
theorem A0g{sz:Nat}:∀(vs:List (List Value)) (i:Nat) (new:List Value) (j:Nat),(∀ x∈vs,x.length=sz)->i<vs.length->new.length=sz ->
  (vs.set i new).flatten[j]?=if i*sz<=j/\j<i*sz+sz then new[j-i*sz]? else vs.flatten[j]?
 |x::r,0,new,j,a,_,c=>by
  grind
 |x::r,i+1,new,j,a,b,c=>by
  have d:=a x mS
  rw[List.set_cons_succ,List.flatten_cons,List.flatten_cons,Nat.add_mul,Nat.one_mul]
  by_cases hj:j<sz
  ·rw[if_neg (by omega),List.getElem?_append_left (by omega),List.getElem?_append_left (by omega)]
  ·rw[List.getElem?_append_right (by omega),List.getElem?_append_right (by omega),d,A0g r i new (j-sz) (λy e=>a y (mC _ e)) (by simpa using b) c]
   grind
 | [],i,new,j,_,b,_=>by simp at b
theorem G0b{By:List Nat}(c:By.Nodup):∀(Bs:List (List Nat)) (i:Nat),Bs.flatten.Nodup->(∀ b∈By,b ∉ Bs.flatten)->(Bs.set i By).flatten.Nodup/\∀ b∈(Bs.set i By).flatten,b∈Bs.flatten∨b∈By
 | [],i,h,_=>by simp
 |B::Bs,0,h,a=>by
  grind
 |B::Bs,i+1,h,a=>by
  rw[List.flatten_cons,List.nodup_append]at h
  obtain⟨e,f⟩:=G0b c Bs i h.2.1 (λb d g=>a b d (by grind))
  grind
theorem New.put{p:Type}{r:Wp p}{h0 k h:Hp}{g o n c:Nat}{xs:List p}(w:New r.slice h0 k [.slice (some ⟨g,o,none⟩) n c] xs)(s:Sub k h){i:Nat}(ag:i<xs.length){new:List Value}{y:p}{By:List Nat}
  (E:r.W h new y By) (hf:K7 k By) {K:Hp->Prop} {off:Nat} (M:off=i*r.sz) {idx:Int} (O:0<=idx)
  (Q:∀ l,New r.slice h0 l [.slice (some ⟨g,o,none⟩) n c] (xs.set i y)->(∀ b,b≠g->l b=h b)->k g≠none->K l):I05 h (.slice (some ⟨g,o,none⟩) n c) idx off new K:=by
 subst M
 obtain⟨B,⟨v,vs,Z,f,G,⟨z,T⟩,m,rfl⟩,H,D⟩:=w
 cases G
 rcases T with⟨e,_⟩|⟨ab,ak,aa,cur,ty,e,U,V,F,rfl,ai,X⟩
 ·cases e
 cases e
 have ah:=m.lens
 have N:=s g _ F
 have ac:F3 (r.W h) vs xs f:=Y0d m s
 have C:new.length=r.sz:=r.len (r.toR E)
 have t:=H
 rw[K7,List.nodup_append]at t
 obtain⟨⟨_,S,J⟩,ad⟩:=t
 have ae:∀ b∈f.flatten,b≠g:=λb a e=>J g (List.mem_singleton.2 rfl) b a e.symm
 have af:∀ b∈By,b≠g:=λb a e=>by have:=hf.2 b a;grind
 have A:o+i*r.sz+new.length<=cur.size:=by
  have:(i+1)*r.sz<=c*r.sz:=Nat.mul_le_mul_right _ (by omega)
  grind
 have L:∀ b∈By,b ∉ f.flatten:=λb a R=>K04 m b R (hf.2 b a)
 obtain⟨aj,Y⟩:=G0b hf.1 f i S L
 refine⟨g,o,_,c,cur,ty,⟨rfl,O,N,A⟩,Q _ ?_ (λb a=>Hp.set_other _ _ a) (by rw[F];simp)⟩
 rw[S05]
 refine⟨[g]++(f.set i By).flatten,⟨_,vs.set i new,[g],f.set i By,rfl,⟨?_,.inr ⟨g,o,c,_,ty,by simp,by simpa using U,V,Hp.set_same _ _ _,rfl,λj u P=>?_,by simpa [Y8] using X⟩⟩,?_,rfl⟩,⟨?_,?_⟩,?_⟩
 ·intro x d
  rcases List.mem_or_eq_of_mem_set d with d|rfl
  ·exact z x d
  ·exact⟨C,r.one (r.toR E)⟩
 ·rw[A0g vs i new j (λx d=>(z x d).1) (by omega) C]at P
  rw[List.getElem?_toArray,z07 _ _ _ _ (by simpa using A)]
  grind
 ·grind[F3.set,Hp.set_other,L04]
 ·grind
 ·intro b a
  rcases List.mem_append.1 a with a|a
  ·grind
  ·rcases Y b a with a|a
   ·grind
   ·have q:=hf.2 b a
    cases ho:h0 b with
    |none=>rfl
    |some x=>rw[D _ _ ho]at q;cases q
 ·intro b x d
  have I:b≠g:=λe=>by grind
  rw[Hp.set_other _ _ I]
  exact s _ _ (D _ _ d)
theorem Z0h:∀(Bs:List (List Nat)) (k:Nat),Bs.flatten.Nodup->(Bs.take k).flatten.Nodup/\∀ b∈(Bs.take k).flatten,b∈Bs.flatten:=λBs k h=>by
 grind[List.flatten_append,List.take_append_drop,List.nodup_append,List.mem_append_left]
theorem New.take{i:Type}{r:Wp i}{h0 d:Hp}{g o n c:Nat}{xs:List i}(w:New r.slice h0 d [.slice (some ⟨g,o,none⟩) n c] xs){k:Nat}(M:k<=xs.length):New r.slice h0 d [.slice (some ⟨g,o,none⟩) k c] (xs.take k):=by
 obtain⟨B,⟨v,vs,F,a,l,⟨p,s⟩,h,rfl⟩,m,t⟩:=w
 cases l
 rcases s with⟨e,_⟩|⟨H,P,G,cur,ty,e,O,A,C,rfl,D,E⟩
 ·cases e
 cases e
 have N:=h.lens
 have f:=m
 rw[K7,List.nodup_append]at f
 obtain⟨⟨_,q,J⟩,K⟩:=f
 obtain⟨Q,R⟩:=Z0h a k q
 have y:(vs.take k).length=k:=by simp;omega
 refine⟨[g]++(a.take k).flatten,⟨_,vs.take k,[g],a.take k,rfl,⟨λx z=>p x (List.mem_of_mem_take z),.inr ⟨g,o,c,cur,ty,by rw[y],by omega,A,C,rfl,λj u L=>D j u ?_,E⟩⟩,h.take k,rfl⟩,⟨?_,λb I=>?_⟩,t⟩
 ·grind[List.flatten_append,List.take_append_drop,List.getElem?_append_left,List.getElem?_eq_some_iff]
 all_goals grind
end Go.H
namespace Go.H
set_option linter.unusedVariables false
def gi{a:Type}(xs:List a)(i:Int):Option a:=if 0<=i then xs[i.toNat]? else none
def chk{a:Type}(c:Bool)(o:Option a)(d:a):Option a:=match c with
 |true=>o
 |false=>some d
def grd(p:Prop)[Decidable p]:Option Unit:=if p then some ()else none
def D06{a:Type}(xs:List a)(l m:Int):Option (List a):=if 0<=l/\l<=m/\m<=(xs.length:Int)then some ((xs.take m.toNat).drop l.toNat)else none
def I9{R S:Type}(x:R ⊕ S)(k:S->Option R):Option R:=match x with
 | .inl r=>some r
 | .inr s=>k s
def V0f{R S T:Type}(x:R ⊕ S)(k:S->Option (R ⊕ T)):Option (R ⊕ T):=match x with
 | .inl r=>some (.inl r)
 | .inr s=>k s
def U0:Nat:=9223372036854775808
def J1:List Value->Nat
 | .int _ n::_=>n.toNat
 |_=>0
theorem l4{R S:Type}(r:R)(k:S->Option R):I9 (.inl r) k=some r:=rfl
theorem W0{R S:Type}(s:S)(k:S->Option R):I9 (.inr s) k=k s:=rfl
theorem C4{R S T:Type}(r:R)(k:S->Option (R ⊕ T)):V0f (.inl r) k=some (.inl r):=rfl
theorem Y0{R S T:Type}(s:S)(k:S->Option (R ⊕ T)):V0f (.inr s) k=k s:=rfl
theorem B0{a b:Type}{o:Option a}{k:a->Option b}{r:b}(h:o.bind k=some r):∃ x,o=some x/\k x=some r:=Option.bind_eq_some_iff.1 h
theorem N0{p:Prop}[Decidable p]{u:Unit}(h:grd p=some u):p:=by
 grind[grd]
theorem a9{a:Type}{c:Bool}{o:Option a}{d x:a}(h:chk c o d=some x)(b:c=true):o=some x:=by rw[b]at h;exact h
theorem h0u{b:Bool}(h:b=false): ¬ b=true:=by grind
theorem s0a{a:Type}{xs:List a}{i:Int}{x:a}(h:gi xs i=some x):0<=i/\xs[i.toNat]?=some x:=by
 grind[gi]
theorem H0b{a:Type}(xs:List a)(n:Nat):gi xs (n:Int)=xs[n]?:=by simp[gi]
theorem X05{b:Type}{xs a:List b}{l m:Int}(h:D06 xs l m=some a):(0<=l/\l<=m/\m<=(xs.length:Int))/\a=(xs.take m.toNat).drop l.toNat:=by
 grind[D06,oJ]
theorem J0(x:Int):I0 (IntKind.i64.wrap x):=by
 grind[I0,IntKind.wrap,IntKind.signed,IntKind.bits]
theorem E0j{n:Nat}(h:n<=9223372036854775807):I0 (n:Int):=⟨by omega,by omega⟩
theorem c64{x:Int}(a : -9223372036854775808<=x)(b:x<=9223372036854775807):I0 x:=⟨a,b⟩
theorem a0i{x y:Int}(h:I0 x):I0 (x.tmod y):=by
 have b:=h.1
 have c:=h.2
 have d:(x.tmod y).natAbs<=x.natAbs:=by simp_all[Int.natAbs_tmod,Nat.mod_le]
 by_cases h0:0<=x
 ·have:=Int.tmod_nonneg y h0
  exact⟨by omega,by omega⟩
 ·have a:0<=(-x).tmod y:=Int.tmod_nonneg y (by omega)
  rw[Int.neg_tmod]at a
  exact⟨by omega,by omega⟩
theorem a0e{a b:ByteArray}(h:a.size+b.size<=9223372036854775807):(a++b).size<=9223372036854775807:=by grind
instance (x:Int):Decidable (I0 x):=inferInstanceAs (Decidable (_/\_))
theorem G8{p:Prop}[Decidable p]{x y:Int}(a:I0 x)(b:I0 y):I0 (if p then x else y):=by split<;>assumption
theorem Sl.getI{a:Type}{r:Rp a}{h:Hp}{v:Value}{xs:List a}(e:Sl r h v xs){i:Int}{x:a}(b:gi xs i=some x)(c:0<r.sz):InB v i/\∃ cs,D01 h v r.sz i cs/\r.R h cs x:=by
 obtain⟨h0,b⟩:=s0a b
 grind[Int.eq_ofNat_of_zero_le,Sl.get]
theorem Sl.getG{a:Type}{r:Rp a}{h:Hp}{v:Value}{xs:List a}(e:Sl r h v xs){c:Bool}{i:Int}{d x:a}(f:chk c (gi xs i) d=some x)(g:0<r.sz)(b:∃ cs,r.R h cs d):
  ∃ cs,(c=true->InB v i/\D01 h v r.sz i cs)/\r.R h cs x:=by
 cases c with
 |true =>
  obtain⟨j,cs,k,l⟩:=Sl.getI e (a9 f rfl) g
  grind
 |false =>
  obtain⟨cs,b⟩:=b
  cases f
  grind
theorem D01.up{h a:Hp}(s:Sub h a){v:Value}{sz:Nat}{i:Int}{cs:List Value}(e:D01 h v sz i cs):D01 a v sz i cs:=by
 obtain⟨d,f,b,o,n,c,g,k⟩:=e
 exact⟨d,f,b,o,n,c,g,λj v l=>s.cell (k j v l)⟩
theorem g03{n:Nat}{fr:List (Nat×AV)}{bx:List BSt}{ow:List Own}:l0l ⟨n,fr,bx,ow⟩ ⟨n,fr,bx,ow⟩:=⟨rfl,rfl,rfl,[],(List.append_nil _).symm⟩
theorem Sl.rows{b:Type}{r:Rp b}{h:Hp}{a:Option Addr}{n c:Nat}{xs:List b}(e:Sl r h (.slice a n c) xs):∃ vs,SlE h r.sz (.slice a n c) vs/\F2 (r.R h) vs xs:=by
 obtain⟨d,l,f,vs,g,rfl,i,j,k⟩:=e
 grind
theorem Sl.cutI{g:Type}{r:Rp g}{h:Hp}{a:Option Addr}{n c:Nat}{xs b:List g}(e:Sl r h (.slice a n c) xs){l m:Int}(s:D06 xs l m=some b):
  (0<=l/\l<=m/\m<=(n:Int))/\∃ vs,SlE h r.sz (.slice a n c) vs/\∀ v,SlE h r.sz v ((vs.take m.toNat).drop l.toNat)->∃ d f,v = .slice d b.length f/\Sl r h (.slice d b.length f) b:=by
 obtain⟨⟨o,p,q⟩,rfl⟩:=X05 s
 obtain⟨rfl,_⟩:=Sl.len e
 obtain⟨vs,i,j⟩:=Sl.cut e
 refine⟨⟨o,p,q⟩,vs,i,λv t=>?_⟩
 obtain⟨d,w,f,rfl,k⟩:=j v l.toNat m.toNat (by omega) t
 obtain⟨u,_⟩:=Sl.len k
 grind
theorem F2.up{b:Type}{r:Rp b}{h a:Hp}(s:Sub h a){vs:List (List Value)}{xs:List b}(f:F2 (r.R h) vs xs):F2 (r.R a) vs xs:=f.mono λ_ _ q=>r.mono s q
theorem G1.out{g:Type}{r:Rp g}{h b:Hp}{v:Value}{e:Nat}{nn:Bool}{vs:List (List Value)}{xs:List g}(f:G1 h b v e r.sz nn vs)(j:F2 (r.R h) vs xs):
  ∃ a c,v = .slice a xs.length c/\Sl r b (.slice a xs.length c) xs/\Sub h b/\xs.length<=9223372036854775807:=by
 have d:=G1.sl f j
 obtain⟨a,c,rfl,i⟩:=d.slice
 exact⟨a,c,rfl,d,f.sub,i⟩
theorem F2.rep{c d:Type}{p:c->d->Prop}{a:c}{b:d}(h:p a b):∀ n:Nat,F2 p (List.replicate n a) (List.replicate n b)
 |0=>trivial
 |n+1=>⟨h,F2.rep h n⟩
def Rp.u8:Rp Int:=⟨1,λ_ cs x=>cs = [.int .u8 x],λh=>by rw[h];rfl,λh v a=>by rw[h]at a;simp at a;rw[a];rfl,λ_ h=>h⟩
theorem F2.u8{h:Hp}:∀ {vs:List (List Value)} {xs:List Int},F2 (Rp.u8.R h) vs xs->vs=xs.map λn=>[.int .u8 n]
 | [],[],_=>rfl
 |v::vs,x::xs,f=>by rw[show v = [.int .u8 x] from f.1,F2.u8 f.2];rfl
 | [],_::_,f=>f.elim
 |_::_,[],f=>f.elim
theorem Y1{n m by_:Nat}{u:Unit}(g:grd (n*by_<=140737488355328)=some u)(e:m=n):p07 m by_:=by
 subst e
 exact show m*by_<=140737488355328 from N0 g
theorem V1{b:Type}{p:List Value->b->Prop}{vs:List (List Value)}{xs:List b}(f:F2 p vs xs){i:Int}{x:b}(a:gi xs i=some x):(0<=i/\i<(vs.length:Int))/\∃ cs,vs[i.toNat]?=some cs/\p cs x:=by
 obtain⟨h0,a⟩:=s0a a
 obtain⟨cs,c,d⟩:=f.get a
 grind
theorem n02{a:Type}{p:List Value->a->Prop}{vs:List (List Value)}{xs:List a}(f:F2 p vs xs){c:Bool}{i:Int}{d x:a}(e:chk c (gi xs i) d=some x)(b:∃ cs,p cs d):
  ∃ cs,(c=true->(0<=i/\i<(vs.length:Int))/\vs[i.toNat]?=some cs)/\p cs x:=by
 cases c with
 |true =>
  obtain⟨g,cs,h,j⟩:=V1 f (a9 e rfl)
  grind
 |false =>
  obtain⟨cs,b⟩:=b
  cases e
  grind
theorem F2.f3{c:Type}{r:Wp c}{h a:Hp}(b:∀ cs x,r.R h cs x->r.W a cs x []):∀ {vs:List (List Value)} {xs:List c},F2 (r.R h) vs xs->F3 (r.W a) vs xs (xs.map λ_=>[])
 | [],[],_=>trivial
 |_::_,_::_,f=>⟨b _ _ f.1,F2.f3 b f.2⟩
 | [],_::_,f=>f.elim
 |_::_,[],f=>f.elim
theorem G1.newPlain{b:Type}{r:Wp b}{h a:Hp}{v:Value}{e:Nat}{nn:Bool}{vs:List (List Value)}{xs:List b}(f:G1 h a v e r.sz nn vs)(d:F2 (r.R h) vs xs)(c:∀ cs x,r.R h cs x->r.W h cs x []):New r.slice h a [v] xs :=
 G1.fresh (r:=r) (h0:=h) f (F2.f3 c d) (Sub.refl _) (by grind[B0j,K7.nil])
theorem b0e(h:Hp)(cs:List Value)(x:Int)(q:Wp.int.R h cs x):Wp.int.W h cs x []:=⟨q,rfl⟩
theorem c0e(h:Hp):∃ cs,Wp.int.R h cs 0:=⟨_,rfl,by decide,by decide⟩
theorem I0p(h:Hp):∃ cs,Wp.bool.R h cs false:=⟨_,rfl⟩
theorem F0j{a:Type}(r:Wp a)(h:Hp):r.slice.R h [.slice none 0 0] []:=New.nilSlice.r
end Go.H
