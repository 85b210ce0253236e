/- The library of the walks, part HE: plain laws over the model. -/
import Derived.Test.YtohcdjhocpakkaaGreatHD
import Derived.Deep.Slices
import Derived.ChangeArms
import Derived.WideShapes
import Derived.Laws.Strings
namespace Go.H
set_option linter.unusedVariables false
set_option linter.unusedSimpArgs false
def a0l:Op->Bool
 | .move _ | .assign _ | .load .. | .binOp .. | .unOp .. | .index .. | .field .. | .fieldAddr .. | .indexAddr .. | .pick .. | .build .. | .convert ..=>true
 |_=>false
def w0a(b:Bool)(st:St)(K:St->Prop):Prop:=match b with
 |true=>K st
 |false=>match st with
  |⟨n,fr,bx,ow⟩=>S7 bx λbx=>S7 ow λow=>K ⟨n,fr,bx,ow⟩
theorem c0e(b:Bool)(st:St)(K:St->Prop):w0a b st K=K st:=by
 cases b
 all_goals simp_all[w0a,d02]
def J0h(d:Option Tmp)(i:Nat)(ch:List (Nat×Bool))(av:AV)(rs:RS)(K:RS->Prop):Prop:=match rs with
 |⟨⟨n,fr,bx,ow⟩,h,gf,bs⟩=>match d with
  |none=>K ⟨⟨n,fr,bx,ow⟩,h,gf,bs⟩
  |some d=>match Nat.blt d n,v07 ⟨⟨n,fr,bx,ow⟩,h,gf,bs⟩ d with
   |true,false=>match ch with
    | []=>X00 av λav=>match av with
     | .val (.bool e)=>K ⟨⟨n,(d,.val (.bool e))::fr,bx,ow⟩,h,gf,⟨i,d,e,[]⟩::bs⟩
     |_=>K ⟨⟨n,(d,av)::fr,bx,ow⟩,h,gf,bs⟩
    |p::ch=>X00 av λav=>match av with
     | .val (.bool e)=>K ⟨⟨n,(d,.dead)::fr,bx,ow⟩,h,(d,p::ch,.val (.bool e))::gf,⟨i,d,e,p::ch⟩::bs⟩
     |_=>K ⟨⟨n,(d,.dead)::fr,bx,ow⟩,h,(d,p::ch,av)::gf,bs⟩
   |_,_=>False
theorem K0h(d:Option Tmp)(i:Nat)(ch:List (Nat×Bool))(av:AV)(rs:RS)(K:RS->Prop):J0h d i ch av rs K=z0d d i ch av rs K:=by
 obtain⟨⟨n,fr,bx,ow⟩,h,gf,bs⟩:=rs
 cases d with
 |none=>rfl
 |some d =>
  simp only[J0h,z0d]
  generalize v07 _ d=u
  generalize Nat.blt d n=b
  cases b
  ·rfl
  cases u
  ·cases ch with
   |nil =>
    simp only[I02]
    cases av with
    |val v=>cases v<;>rfl
    |_=>rfl
   |cons p ch =>
    simp only[I02]
    cases av with
    |val v=>cases v<;>rfl
    |_=>rfl
  ·rfl
def H0b(P:Program)(l:List Oper):Nat->RS->(RS->Prop)->Prop :=
 List.rec (motive:=λ_=>Nat->RS->(RS->Prop)->Prop) (λ_ rs K=>K rs) (λo _ a i rs K=>match rs with
  |⟨⟨n,fr,bx,ow⟩,h,gf,bs⟩=>match o.guard,J0k o.op with
   |none,false=>R7 P o ⟨n,fr,bx,ow⟩ h λav st h=>w0a (a0l o.op) st λst=>J0h o.dst i [] av ⟨st,h,gf,bs⟩ λrs=>a (i+1) rs K
   |_,_=>match W9 bs o.guard with
    |some ch=>match cB bs ch with
     |some c=>evG P o ch c ⟨⟨n,fr,bx,ow⟩,h,gf,bs⟩ λav=>J0h o.dst i ch av ⟨⟨n,fr,bx,ow⟩,h,gf,bs⟩ λrs=>a (i+1) rs K
     |none=>False
    |none=>False) l
theorem m0j(P:Program)(o:Oper)(r:List Oper)(i n:Nat)(fr:List (Nat×AV))(bx:List BSt)(ow:List Own)(h:Hp)(gf:List (Nat×List (Nat×Bool)×AV))(bs:List BE)(K:RS->Prop):
  H0b P (o::r) i ⟨⟨n,fr,bx,ow⟩,h,gf,bs⟩ K=match o.guard,J0k o.op with
   |none,false=>R7 P o ⟨n,fr,bx,ow⟩ h λav st h=>w0a (a0l o.op) st λst=>J0h o.dst i [] av ⟨st,h,gf,bs⟩ λrs=>H0b P r (i+1) rs K
   |_,_=>match W9 bs o.guard with
    |some ch=>match cB bs ch with
     |some c=>evG P o ch c ⟨⟨n,fr,bx,ow⟩,h,gf,bs⟩ λav=>J0h o.dst i ch av ⟨⟨n,fr,bx,ow⟩,h,gf,bs⟩ λrs=>H0b P r (i+1) rs K
     |none=>False
    |none=>False:=rfl
theorem k0g(P:Program):∀(l:List Oper) (i:Nat) (rs:RS) (K:RS->Prop),H0b P l i rs K=o0c P l i rs K
 | [],i,rs,K=>rfl
 |o::r,i,⟨⟨n,fr,bx,ow⟩,h,gf,bs⟩,K=>by
  simp only[m0j,o0c,c0e,K0h,k0g P r]
  rfl
def c0p(P:Program)(l:List Oper):Nat->RS->(RS->Prop)->Prop :=
 List.rec (motive:=λ_=>Nat->RS->(RS->Prop)->Prop) (λ_ rs K=>K rs) (λo _ a i rs K=>match rs with
  |⟨⟨n,fr,bx,ow⟩,h,gf,bs⟩=>match W9 bs o.guard with
   |some ch=>match cB bs ch with
    |some c=>evG P o ch c ⟨⟨n,fr,bx,ow⟩,h,gf,bs⟩ λav=>J0h o.dst i ch av ⟨⟨n,fr,bx,ow⟩,h,gf,bs⟩ λrs=>a (i+1) rs K
    |none=>False
   |none=>False) l
theorem B0n(P:Program)(o:Oper)(r:List Oper)(i n:Nat)(fr:List (Nat×AV))(bx:List BSt)(ow:List Own)(h:Hp)(gf:List (Nat×List (Nat×Bool)×AV))(bs:List BE)(K:RS->Prop):
  c0p P (o::r) i ⟨⟨n,fr,bx,ow⟩,h,gf,bs⟩ K=match W9 bs o.guard with
   |some ch=>match cB bs ch with
    |some c=>evG P o ch c ⟨⟨n,fr,bx,ow⟩,h,gf,bs⟩ λav=>J0h o.dst i ch av ⟨⟨n,fr,bx,ow⟩,h,gf,bs⟩ λrs=>c0p P r (i+1) rs K
    |none=>False
   |none=>False:=rfl
theorem h0m(P:Program):∀(l:List Oper) (i:Nat) (rs:RS) (K:RS->Prop),c0p P l i rs K=evQ P l i rs K
 | [],i,rs,K=>rfl
 |o::r,i,⟨⟨n,fr,bx,ow⟩,h,gf,bs⟩,K=>by
  simp only[B0n,evQ,K0h,h0m P r]
  rfl
def n0d:List (Nat×AV)->(List (Nat×AV)->Prop)->Prop
 | [],K=>K []
 |(s,av)::r,K=>X00 av λav=>n0d r λr=>K ((s,av)::r)
theorem d0e:∀(l:List (Nat×AV)) (K:List (Nat×AV)->Prop),n0d l K=K l
 | [],K=>rfl
 |(s,av)::r,K=>by simp only[n0d,I02,d0e r]
def a0r{a:Type}:List a->List a->(List a->Prop)->Prop
 | [],b,K=>K b
 |x::r,b,K=>a0r r b λl=>K (x::l)
theorem i0m{c:Type}:∀(a b:List c) (K:List c->Prop),a0r a b K=K (a++b)
 | [],b,K=>rfl
 |x::r,b,K=>by simp only[a0r,i0m r,List.cons_append]
def q0s(A:Ann)(d b:List (Nat×AV))(a:St)(c:t0b)(μ:b07)(g:List Value)(m:Nat)(st:St)(h:Hp):Prop :=
 match Nat.beq st.n a.n,r0c a st d with
 |true,true=>S0f st.fr b=l0n b/\r0b A a st 0 a.bx st.bx/\s0b A 0 a.ow st.ow /\
   P0k A st λvs os=>S7 vs λvs=>match M0q vs g with
    |true=>B07 A.vars.length vs λ_ f=>T05 A.boxes f a.bx λ_=>U05 A.owns os a.ow λ_=>N0q A c μ m vs os h
    |false=>False
 |_,_=>False
theorem b0r(A:Ann)(b d:List (Nat×AV))(c:St)(a:t0b)(μ:b07)(f:List Value)(m:Nat)(st:St)(h:Hp):
  q0s A b d c a μ f m st h=I0o A b d c a μ f m st h:=by
 simp only[q0s,I0o,d02]
 rfl
def A0c(k:(Ex->St->Hp->Prop)->St->Hp->Prop)(l:List Nat)(Q:Ex->St->Hp->Prop)(h:Hp)(A:Ann)(g:t0b)(μ:b07)(st:St):Prop:=match st with
 |⟨n,fr,bx,ow⟩=>S7 fr λfr=>S7 bx λa=>S7 ow λb=>P0k A ⟨n,fr,a,b⟩ λf j=>S7 f λf=>K0i A g f j h /\
  p0b l λds=>headD A ⟨n,fr,a,b⟩ ds [] λi=>V05 A ds ⟨n,fr,a,b⟩ fr λd=>n0d d λd=>a0r i d λo =>
   a0a f.length λvs=>b0a j.length λos=>L0i A g μ vs os λm q =>
    B07 A.vars.length vs λs t=>T05 A.boxes t a λbx=>U05 A.owns os b λow=>S7 (q0b A.vars s o) λp=>S7 bx λbx=>S7 ow λow =>
     k (λe st' c=>match e with
      | .normal=>I0i A.pubs st' c λst' c=>q0s A i d ⟨n,fr,a,b⟩ g μ vs m st' c
      |e=>Q e st' c) ⟨n,p,bx,ow⟩ q
def L0h(b:(Ex->St->Hp->Prop)->St->Hp->Prop)(c:List Nat)(Q:Ex->St->Hp->Prop)(st:St)(h:Hp):Prop :=
 ∃(A:Ann) (a:t0b) (μ:b07),H0i A.nils st λst=>F0d A.nilsB st λst=>I0i A.pubs st h λst h=>A0c b c Q h A a μ st
theorem C0n(b:(Ex->St->Hp->Prop)->St->Hp->Prop)(c:List Nat)(Q:Ex->St->Hp->Prop)(st:St)(h:Hp):L0h b c Q st h=U0l b c Q st h:=by
 have l:∀ h A a μ,A0c b c Q h A a μ=λst=>P0k A st λj g=>K0i A a j g h /\
  p0b c λds=>headD A st ds [] λf=>V05 A ds st st.fr λi =>
   a0a j.length λvs=>b0a g.length λos=>L0i A a μ vs os λm k =>
    B07 A.vars.length vs λo p=>T05 A.boxes p st.bx λbx=>U05 A.owns os st.ow λow =>
     b (λe st' d=>match e with
      | .normal=>I0i A.pubs st' d λst' d=>I0o A f i st a μ vs m st' d
      |e=>Q e st' d) ⟨st.n,q0b A.vars o (f++i),bx,ow⟩ k:=by
  intro h A a μ
  funext st
  simp_all[A0c,d02,d0e,i0m,b0r]
 simp only[L0h,U0l,l]
 rfl
def e0e(P:Program)(o:Oper)(st:St)(h:Hp)(K:St->Hp->Prop):Prop:=match st with
 |⟨n,fr,bx,ow⟩=>R7 P o ⟨n,fr,bx,ow⟩ h λav st h=>w0a (a0l o.op) st λst=>J0h o.dst 0 [] av ⟨st,h,[],[]⟩ λrs=>match rs with
  |⟨st,h,_,_⟩=>K st h
theorem n0j(P:Program)(o:Oper):e0e P o=H03 P o:=by
 funext st h K
 simp_all[e0e,H03,c0e,K0h]
theorem D0n(P:Program):e0e P=H03 P:=funext (n0j P)
def evF(P:Program)(c:Code):(Ex->St->Hp->Prop)->St->Hp->Prop :=
 Code.rec (motive:=λ_=>(Ex->St->Hp->Prop)->St->Hp->Prop)
  (λQ st h=>Q .normal st h)
  (λ_ ops d Q st h=>match d with
   |false=>match J0q P ops.toList with
    |true=>C03 st.n ops.toList=true/\evU P ops.toList 0 [] [] st h λst h=>Q .normal st h
    |false=>H0b P ops.toList 0 ⟨st,h,[],[]⟩ λrs=>match rs with
     |⟨st,h,_,_⟩=>Q .normal st h
   |true=>((P.follows .mixedOrders=true/\Region.lexB .any ops=true) /\
     c0p P ops.toList 0 ⟨st,h,[],[]⟩ λrs=>match rs with
      |⟨st,h,_,_⟩=>Q .normal st h) ∨
     False ∨
     (match B0o ops.toList with
    |none=>(P.follows .mixedOrders=true/\A02 st.n ops.toList=true)/\q03 P st h ops.toList 0 [] [] [] λL X E=>evD (o9 L st ops.toList) ops.size P X E L st h λst h=>Q .normal st h
    |some o=>(P.follows .mixedOrders=true/\(A02 st.n (W00 ops.toList)&&p0c ops.toList 0)=true)/\q03 P st h (W00 ops.toList) 0 [] [] [] λL X E=>evD (o9 L st (W00 ops.toList)) (W00 ops.toList).length P X E L st h λst h=>e0e P o st h λst h=>Q .normal st h) ∨
     ((P.follows .mixedOrders=true/\C03 st.n ops.toList=true)/\evU P ops.toList 0 [] [] st h λst h=>Q .normal st h) ∨
     (∃ m,(P.follows .mixedOrders=true/\okZ P st.n m ops.toList=true)/\evT P (e0e P) m ops.toList st h λst h=>Q .normal st h))
  (λ_ _ g j Q st h=>g (λe st h=>match e with
   | .normal=>j Q st h
   |e=>Q e st h) st h)
  (λc _ _ k l Q st h=>match rdO st c with
   | .val (.bool b)=>J0o b (k Q st h) (l Q st h)
   |_=>False)
  (λid _ a Q st h=>a (λe st h=>match e with
   | .exit i=>match Nat.beq i id with
    |true=>Q .normal st h
    |false=>Q (.exit i) st h
   |e=>Q e st h) st h)
  (λf a Q st h=>L0h (λQ=>a Q) (z0f f []) Q st h)
  (λ_ _ _ _ _ _ _ _ _=>False)
  (λid Q st h=>Q (.exit id) st h)
  (λ_ _ _ _ _=>False)
  (λ_ _ _ _=>False)
  (λ_ _ _ _=>False)
  (λQ st h=>Q .ret st h)
  (λ_ _ _ _=>False) c
theorem r0s(P:Program)(c:Code):evF P c=ev P c:=by
  induction c with
  |region id ops d =>
    funext Q st h
    cases d
    · show(match J0q P ops.toList with
        |true=>C03 st.n ops.toList=true/\evU P ops.toList 0 [] [] st h λst h=>Q .normal st h
        |false=>H0b P ops.toList 0 ⟨st,h,[],[]⟩ λrs=>match rs with
          |⟨st,h,_,_⟩=>Q .normal st h)=_
      grind[ev,k0g]
    · show(((P.follows .mixedOrders=true/\Region.lexB .any ops=true) /\
          c0p P ops.toList 0 ⟨st,h,[],[]⟩ λrs=>match rs with
            |⟨st,h,_,_⟩=>Q .normal st h) ∨
          False ∨
          (match B0o ops.toList with
        |none=>(P.follows .mixedOrders=true/\A02 st.n ops.toList=true)/\q03 P st h ops.toList 0 [] [] [] λL X E=>evD (o9 L st ops.toList) ops.size P X E L st h λst h=>Q .normal st h
        |some o=>(P.follows .mixedOrders=true/\(A02 st.n (W00 ops.toList)&&p0c ops.toList 0)=true)/\q03 P st h (W00 ops.toList) 0 [] [] [] λL X E=>evD (o9 L st (W00 ops.toList)) (W00 ops.toList).length P X E L st h λst h=>e0e P o st h λst h=>Q .normal st h) ∨
          ((P.follows .mixedOrders=true/\C03 st.n ops.toList=true)/\evU P ops.toList 0 [] [] st h λst h=>Q .normal st h) ∨
          (∃ m,(P.follows .mixedOrders=true/\okZ P st.n m ops.toList=true)/\evT P (e0e P) m ops.toList st h λst h=>Q .normal st h))=_
      simp only[ev,h0m,n0j,D0n]
      rfl
  |seq a b g j =>
    funext Q st h
    show evF P a (λe st h=>match e with
      | .normal=>evF P b Q st h
      |e=>Q e st h) st h=_
    simp only[ev,g,j];rfl
  |cond c x p k l =>
    funext Q st h
    show(match rdO st c with
      | .val (.bool b)=>J0o b (evF P x Q st h) (evF P p Q st h)
      |_=>False)=_
    simp only[ev,k,l];rfl
  |block id c f =>
    funext Q st h
    show evF P c (λe st h=>match e with
      | .exit i=>match Nat.beq i id with
        |true=>Q .normal st h
        |false=>Q (.exit i) st h
      |e=>Q e st h) st h=_
    simp only[ev,f];rfl
  |loop c f =>
    funext Q st h
    show L0h (λQ=>evF P c Q) (z0f c []) Q st h=_
    grind[ev,C0n]
  |_=>rfl
def R0r(P:Program)(fn:Func)(args:List Value)(h:Hp)(T:Value->Hp->Prop):Prop :=
 match fn.body with
 |some c=>match Nat.ble args.length fn.ntmps with
  |true=>S7 (c0a 0 args) λfr=>evF P c (λe st h=>match e with
   | .exit _=>False
   |_=>S0k P fn.results.toList st h λvs _ h=>T (M0i vs) h) ⟨fn.ntmps,fr,[],[]⟩ h
  |false=>False
 |none=>False
theorem G2{P:Program}{f:FuncId}{fn:Func}{args:List Value}{h:Hp}{b:Value->Hp->Prop}(hf:P.funcs[f]?=some fn)(a:R0r P fn args h b):Tr P f args.toArray h b:=by
 refine Z0k hf ?_
 unfold R0r at a
 unfold h0s
 simp only[d02,r0s]at a
 exact a
theorem Sub.refl(h:Hp):Sub h h:=λ_ _ e=>e
theorem Sub.trans{h c d:Hp}(a:Sub h c)(b:Sub c d):Sub h d:=λx o e=>b x o (a x o e)
theorem Sub.set{h:Hp}{b:Nat}{o:Obj}(a:h b=none):Sub h (h.set b o):=λx c e=>by
 grind[Hp.set_other]
theorem Sub.cell{h c:Hp}(s:Sub h c){b o:Nat}{v:Value}(a:Hp.cell h b o=some v):Hp.cell c b o=some v:=by
 unfold Hp.cell at a ⊢
 split at a
 ·rename_i d;rw[s _ _ d];exact a
 ·cases a
theorem SlE.mono{h d:Hp}(s:Sub h d){sz:Nat}{v:Value}{xs:List (List Value)}(e:SlE h sz v xs):SlE d sz v xs:=by
 obtain⟨f,a,n,c,g,i,k,l⟩:=e
 refine⟨f,a,n,c,g,i,k,l.imp id ?_⟩
 rintro⟨b,o,m,p⟩
 exact⟨b,o,m,λj v q=>s.cell (p j v q)⟩
theorem V0.sub{h a:Hp}{v:Value}{e sz:Nat}{nn:Bool}{xs:List (List Value)}(f:V0 h a v e sz nn xs):Sub h a:=by
 rcases f.2 with⟨_,_,_,rfl⟩|⟨g,cap,cur,_,b,rfl,_⟩
 all_goals simp_all[Sub.refl,Sub.set]
theorem V0.sle{h a:Hp}{v:Value}{e sz:Nat}{nn:Bool}{xs:List (List Value)}(f:V0 h a v e sz nn xs):SlE a sz v xs:=by
 refine⟨f.1,?_⟩
 rcases f.2 with⟨rfl,rfl,_,rfl⟩|⟨g,cap,cur,rfl,j,rfl,b,c,d,i⟩
 ·grind
 grind[Hp.cell,Hp.set_same]
theorem V0.slice{h b:Hp}{v:Value}{e sz:Nat}{nn:Bool}{xs:List (List Value)}(f:V0 h b v e sz nn xs):∃ a c,v = .slice a xs.length c/\xs.length<=maxLen:=by
 rcases f.2 with⟨rfl,rfl,_,rfl⟩|⟨g,cap,cur,rfl,l,rfl,d,i,j,k⟩
 all_goals grind
def F2{c d:Type}(p:c->d->Prop):List c->List d->Prop
 | [],[]=>True
 |a::as,b::bs=>p a b/\F2 p as bs
 |_,_=>False
theorem F2.length{a b:Type}{p:a->b->Prop}:∀ {as:List a} {bs:List b},F2 p as bs->as.length=bs.length
 | [],[],_=>rfl
 |_::as,_::bs,h=>by simp[F2.length h.2]
 | [],_::_,h=>h.elim
 |_::_,[],h=>h.elim
theorem F2.get{g d:Type}{p:g->d->Prop}:∀ {as:List g} {bs:List d} {i:Nat} {b:d},F2 p as bs->bs[i]?=some b->∃ a,as[i]?=some a/\p a b
 |a::as,b::bs,0,f,h,c=>by cases c;exact⟨a,rfl,h.1⟩
 |a::as,b::bs,i+1,f,h,c=>by
  obtain⟨x,j,k⟩:=F2.get (i:=i) h.2 (by simpa using c)
  grind
 | [],[],i,f,h,c=>by simp at c
 | [],_::_,_,_,h,_=>h.elim
 |_::_,[],_,_,h,_=>h.elim
theorem F2.mono{d f:Type}{p q:d->f->Prop}(c:∀ a b,p a b->q a b):∀ {as:List d} {bs:List f},F2 p as bs->F2 q as bs
 | [],[],_=>trivial
 |_::as,_::bs,h=>⟨c _ _ h.1,F2.mono c h.2⟩
 | [],_::_,h=>h.elim
 |_::_,[],h=>h.elim
theorem F2.snoc{c d:Type}{p:c->d->Prop}{a:c}{b:d}(f:p a b):∀ {as:List c} {bs:List d},F2 p as bs->F2 p (as ++ [a]) (bs ++ [b])
 | [],[],_=>⟨f,trivial⟩
 |_::as,_::bs,h=>⟨h.1,F2.snoc f h.2⟩
 | [],_::_,h=>h.elim
 |_::_,[],h=>h.elim
theorem F2.set{c d:Type}{p:c->d->Prop}{a:c}{b:d}(f:p a b):∀ {as:List c} {bs:List d} (i:Nat),F2 p as bs->F2 p (as.set i a) (bs.set i b)
 | [],[],_,_=>trivial
 |_::as,_::bs,0,h=>⟨f,h.2⟩
 |_::as,_::bs,i+1,h=>⟨h.1,F2.set f i h.2⟩
 | [],_::_,_,h=>h.elim
 |_::_,[],_,h=>h.elim
structure Rp (α:Type) where
 sz:Nat
 R:Hp->List Value->α->Prop
 len:∀ {h cs x},R h cs x->cs.length=sz
 one:∀ {h cs x},R h cs x->∀ v∈cs,v.oneCell'=true
 mono:∀ {h h' cs x},Sub h h'->R h cs x->R h' cs x
def Rp.int:Rp Int:=⟨1,λ_ cs x=>cs = [.int .i64 x]/\K0 x,λh=>by rw[h.1];rfl,λh v hv=>by rw[h.1]at hv;simp at hv;rw[hv];rfl,λ_ h=>h⟩
def Rp.bool:Rp Bool:=⟨1,λ_ cs x=>cs = [.bool x],λh=>by rw[h];rfl,λh v hv=>by rw[h]at hv;simp at hv;rw[hv];rfl,λ_ h=>h⟩
def Rp.str:Rp ByteArray:=⟨1,λ_ cs x=>cs = [.string x]/\x.size<=9223372036854775807,λh=>by rw[h.1];rfl,λh v hv=>by rw[h.1]at hv;simp at hv;rw[hv];rfl,λ_ h=>h⟩
def Rp.pair{f g:Type}(r:Rp f)(q:Rp g):Rp (f×g) where
 sz:=r.sz+q.sz
 R:=λh cs x=>∃ a b,cs=a++b/\r.R h a x.1/\q.R h b x.2
 len:=by rintro h cs x ⟨a,b,rfl,c,d⟩;rw[List.length_append,r.len c,q.len d]
 one:=by
  rintro h cs x ⟨a,b,rfl,c,d⟩ v hv
  rcases List.mem_append.1 hv with hv|hv
  ·exact r.one c v hv
  ·exact q.one d v hv
 mono:=by rintro h i cs x s ⟨a,b,rfl,c,d⟩;exact⟨a,b,rfl,r.mono s c,q.mono s d⟩
def Rp.slice{b:Type}(r:Rp b):Rp (List b) where
 sz:=1
 R:=λh cs xs=>∃ a n c vs,cs = [.slice a n c]/\n=xs.length/\n<=9223372036854775807/\SlE h r.sz (.slice a n c) vs/\F2 (r.R h) vs xs
 len:=by grind
 one:=by rintro h cs x ⟨a,n,c,vs,rfl,_⟩ v hv;simp at hv;rw[hv];rfl
 mono:=by rintro h j cs x s ⟨a,n,c,vs,rfl,d,f,g,i⟩;exact⟨a,n,c,vs,rfl,d,f,g.mono s,i.mono λ_ _ h=>r.mono s h⟩
def Sl{a:Type}(r:Rp a)(h:Hp)(v:Value)(xs:List a):Prop:=r.slice.R h [v] xs
abbrev E0n(h:Hp)(v:Value)(xs:List Int):Prop:=Sl .int h v xs
theorem Sl.mono{b:Type}{r:Rp b}{h a:Hp}(s:Sub h a){v:Value}{xs:List b}(e:Sl r h v xs):Sl r a v xs:=r.slice.mono s e
theorem Sl.slice{b:Type}{r:Rp b}{h:Hp}{v:Value}{xs:List b}(e:Sl r h v xs):∃ a c,v = .slice a xs.length c/\xs.length<=9223372036854775807:=by
 obtain⟨a,n,c,vs,g,rfl,i,⟨_,d,l,f,j,_,k,_⟩,_⟩:=e
 grind
theorem Sl.len{b:Type}{r:Rp b}{h:Hp}{a:Option Addr}{n c:Nat}{xs:List b}(e:Sl r h (.slice a n c) xs):n=xs.length/\n<=9223372036854775807:=by
 obtain⟨d,f,g,i⟩:=e.slice
 grind
theorem Sl.get{g:Type}{r:Rp g}{h:Hp}{v:Value}{xs:List g}(e:Sl r h v xs){i:Nat}{x:g}(f:xs[i]?=some x)(H:0<r.sz):
  InB v i/\∃ cs,N4 h v r.sz i cs/\r.R h cs x:=by
 obtain⟨a,n,c,vs,s,rfl,C,⟨t,y,J,A,u,D,E,d⟩,k⟩:=e
 cases s
 cases u
 obtain⟨cs,l,m⟩:=k.get f
 have G:=k.length
 obtain⟨F,I⟩:=List.getElem?_eq_some_iff.1 f
 have p:∀ x∈vs,x.length=r.sz:=λx f=>(t x f).1
 have q:cs.length=r.sz:=r.len m
 rcases d with d|⟨b,o,rfl,d⟩
 ·exfalso
  cases cs with
  |nil=>simp at q;omega
  |cons z cs =>
   have:=J03 vs i (z::cs) p l 0 z rfl
   grind
 ·refine⟨⟨b,o,_,_,rfl,by omega,by omega⟩,cs,⟨q,by omega,b,o,_,_,rfl,λj v w=>?_⟩,m⟩
  have:=d _ _ (J03 vs i cs p l j v w)
  grind
theorem F0n{a:Type}{xs:List a}{i:Nat}(d:a)(h:i<xs.length):xs[i]?=some (xs.getD i d):=by
 grind
theorem E0n.get{h:Hp}{v:Value}{xs:List Int}(e:E0n h v xs){i:Nat}(f:i<xs.length):InB v i/\N4 h v 1 i [.int .i64 (xs.getD i 0)]/\K0 (xs.getD i 0):=by
 obtain⟨a,cs,b,c,d⟩:=Sl.get e (F0n 0 f) Nat.zero_lt_one
 subst c
 exact⟨a,b,d⟩
theorem V0.sl{g:Type}{r:Rp g}{h b:Hp}{v:Value}{e:Nat}{nn:Bool}{vs:List (List Value)}{xs:List g}(f:V0 h b v e r.sz nn vs)(d:F2 (r.R h) vs xs):Sl r b v xs:=by
 obtain⟨a,c,rfl,i⟩:=f.slice
 have j:=d.length
 refine⟨a,_,c,vs,rfl,j,by simpa [maxLen] using i,f.sle,d.mono λ_ _ h=>r.mono f.sub h⟩
theorem Tr.forget{P:Program}{f:FuncId}{args:Array Value}{h:Hp}{x:Value}(t:Tr P f args h λv a=>v=x/\Sub h a):Tr P f args h λv a=>v=x/\a=h :=
 ⟨λw hv=>(t.run w hv).mono λ_ _ ⟨v,a,b,⟨g,d⟩,c⟩=>⟨v,h,b,⟨g,rfl⟩,c.less d⟩⟩
structure Wp (α:Type) extends Rp α where
 W:Hp->List Value->α->List Nat->Prop
 toR:∀ {h cs x B},W h cs x B->R h cs x
 dom:∀ {h cs x B},W h cs x B->∀ b∈B,h b≠none
 frame:∀ {h h' cs x B},W h cs x B->(∀ b∈B,h' b=h b)->W h' cs x B
def Wp.plain{a:Type}(r:Rp a)(d:∀ h c cs x,r.R h cs x->r.R c cs x):Wp a :=
 { r with W:=λh cs x B=>r.R h cs x/\B = [],toR:=λh=>h.1,dom:=(λh b f=>by grind),frame:=λh _=>⟨d _ _ _ _ h.1,h.2⟩ }
def Wp.int:Wp Int := .plain .int λ_ _ _ _ h=>h
def Wp.bool:Wp Bool := .plain .bool λ_ _ _ _ h=>h
def Wp.str:Wp ByteArray := .plain .str λ_ _ _ _ h=>h
def Wp.pair{m n:Type}(r:Wp m)(q:Wp n):Wp (m×n) :=
 { Rp.pair r.toRp q.toRp with
  W:=λh cs x B=>∃ c d f g,cs=c++d/\B=f++g/\r.W h c x.1 f/\q.W h d x.2 g
  toR:=λ⟨c,d,f,g,k,_,i,j⟩=>⟨c,d,k,r.toR i,q.toR j⟩
  dom:=λ⟨c,d,f,g,_,l,i,j⟩ b a=>by
   subst l
   rcases List.mem_append.1 a with a|a
   ·exact r.dom i b a
   ·exact q.dom j b a
  frame:=λ⟨c,d,f,g,k,l,i,j⟩ hf=>by
   subst l
   exact⟨c,d,f,g,k,rfl,r.frame i λb a=>hf b (List.mem_append_left _ a),q.frame j λb a=>hf b (List.mem_append_right _ a)⟩ }
def F3{d f γ:Type}(p:d->f->γ->Prop):List d->List f->List γ->Prop
 | [],[],[]=>True
 |a::as,b::bs,c::cs=>p a b c/\F3 p as bs cs
 |_,_,_=>False
theorem F3.f2{d f γ:Type}{p:d->f->γ->Prop}{q:d->f->Prop}(g:∀ a b c,p a b c->q a b):∀ {as:List d} {bs:List f} {cs:List γ},F3 p as bs cs->F2 q as bs
 | [],[],[],_=>trivial
 |_::as,_::bs,_::cs,h=>⟨g _ _ _ h.1,F3.f2 g h.2⟩
 | [],[],_::_,h=>h.elim
 | [],_::_,_,h=>h.elim
 |_::_,[],_,h=>h.elim
 |_::_,_::_,[],h=>h.elim
theorem F3.mono{f g γ:Type}{p q:f->g->γ->Prop}:∀ {as:List f} {bs:List g} {cs:List γ},(∀ a b c,c∈cs->p a b c->q a b c)->F3 p as bs cs->F3 q as bs cs
 | [],[],[],_,_=>trivial
 |_::as,_::bs,_::cs,d,h=>⟨d _ _ _ mS h.1,F3.mono (λa b c i=>d a b c (mC _ i)) h.2⟩
 | [],[],_::_,_,h=>h.elim
 | [],_::_,_,_,h=>h.elim
 |_::_,[],_,_,h=>h.elim
 |_::_,_::_,[],_,h=>h.elim
theorem F3.snoc{d f γ:Type}{p:d->f->γ->Prop}{a:d}{b:f}{c:γ}(g:p a b c):∀ {as:List d} {bs:List f} {cs:List γ},F3 p as bs cs->F3 p (as ++ [a]) (bs ++ [b]) (cs ++ [c])
 | [],[],[],_=>⟨g,trivial⟩
 |_::as,_::bs,_::cs,h=>⟨h.1,F3.snoc g h.2⟩
 | [],[],_::_,h=>h.elim
 | [],_::_,_,h=>h.elim
 |_::_,[],_,h=>h.elim
 |_::_,_::_,[],h=>h.elim
theorem F3.mem{f g γ:Type}{p:f->g->γ->Prop}:∀ {as:List f} {bs:List g} {cs:List γ} {c:γ},F3 p as bs cs->c∈cs->∃ a b,p a b c
 |_::as,_::bs,_::cs,c,h,d=>by
  rcases List.mem_cons.1 d with rfl|d
  ·exact⟨_,_,h.1⟩
  ·exact F3.mem h.2 d
 | [],[],[],c,_,d=>by cases d
 | [],[],_::_,_,h,_=>h.elim
 | [],_::_,_,_,h,_=>h.elim
 |_::_,[],_,_,h,_=>h.elim
 |_::_,_::_,[],_,h,_=>h.elim
def j0m(sz:Nat)(h:Hp)(v:Value)(vs:List (List Value))(B:List Nat):Prop :=
 (∀ x∈vs,x.length=sz/\∀ v∈x,v.oneCell'=true) /\
 ((v = .slice none 0 0/\vs = []/\B = [])∨∃ g o c cur ty,v = .slice (some ⟨g,o,none⟩) vs.length c/\vs.length<=c/\c<=9223372036854775807/\h g=some (.cells cur ty (0,0))/\B = [g] /\
  (∀ j u,vs.flatten[j]?=some u->cur[o+j]?=some u)/\o+c*sz<=cur.size)
theorem j0m.sle{sz:Nat}{h:Hp}{v:Value}{vs:List (List Value)}{B:List Nat}(w:j0m sz h v vs B):SlE h sz v vs:=by
 refine⟨w.1,?_⟩
 rcases w.2 with⟨rfl,rfl,_⟩|⟨g,o,c,cur,ty,rfl,a,b,d,_,f⟩
 ·grind
 grind[Hp.cell]
def Wp.slice{t:Type}(r:Wp t):Wp (List t) :=
 { Rp.slice r.toRp with
  W:=λh cs xs B=>∃ v vs f Bs,cs = [v]/\j0m r.sz h v vs f/\F3 (r.W h) vs xs Bs/\B=f++Bs.flatten
  toR:=by
   rintro h cs xs B ⟨v,vs,f,Bs,rfl,d,i,rfl⟩
   have k:=i.f2 (q:=r.R h) λ_ _ _ h=>r.toR h
   have s:=d.sle
   have p:=k.length
   rcases d.2 with⟨rfl,rfl,_⟩|⟨g,o,c,cur,ty,rfl,m,n,_⟩
   ·exact⟨none,0,0,[],rfl,p,Nat.zero_le _,s,k⟩
   ·exact⟨_,_,c,vs,rfl,p,Nat.le_trans m n,s,k⟩
  dom:=by
   rintro h cs xs B ⟨v,vs,f,Bs,rfl,d,i,rfl⟩ b j
   rcases List.mem_append.1 j with j|j
   ·rcases d.2 with⟨_,_,rfl⟩|⟨g,o,c,cur,ty,_,_,_,z,rfl,_⟩
    all_goals grind
   ·obtain⟨D,u,w⟩:=List.mem_flatten.1 j
    obtain⟨a,x,l⟩:=i.mem u
    exact r.dom l b w
  frame:=by
   rintro h E cs xs B ⟨v,vs,f,Bs,rfl,d,i,rfl⟩ hf
   refine⟨v,vs,f,Bs,rfl,⟨d.1,?_⟩,i.mono λa b c y l=>r.frame l λx A=>hf x (List.mem_append_right _ (List.mem_flatten.2 ⟨c,y,A⟩)),rfl⟩
   rcases d.2 with⟨rfl,rfl,rfl⟩|⟨g,o,c,cur,ty,rfl,m,n,z,rfl,C⟩
   ·grind
   ·exact .inr ⟨g,o,c,cur,ty,rfl,m,n,by grind,rfl,C⟩ }
def c6(h:Hp)(B:List Nat):Prop:=B.Nodup/\∀ b∈B,h b=none
theorem V0.rows{h a:Hp}{v:Value}{e sz:Nat}{nn:Bool}{vs:List (List Value)}(f:V0 h a v e sz nn vs):∃ B,j0m sz a v vs B/\c6 h B:=by
 rcases f.2 with⟨rfl,rfl,_,rfl⟩|⟨g,cap,cur,rfl,i,rfl,b,c,d,k⟩
 ·exact⟨[],⟨by simp,.inl ⟨rfl,rfl,rfl⟩⟩,by simp[c6]⟩
 ·refine⟨[g],⟨f.1,.inr ⟨g,0,cap,cur,e,rfl,b,by simpa [maxLen] using c,Hp.set_same _ _ _,rfl,λj u l=>?_,by rw[d];omega⟩⟩,by simp,by simpa using i⟩
  grind
theorem V0.fresh{q:Type}{r:Wp q}{h0 h i:Hp}{v:Value}{e:Nat}{nn:Bool}{vs:List (List Value)}{xs:List q}{Bs:List (List Nat)}(f:V0 h i v e r.sz nn vs)(n:F3 (r.W h) vs xs Bs)
  (p:Sub h0 h) (m:c6 h0 Bs.flatten):∃ B,r.slice.W i [v] xs B/\c6 h0 B/\Sub h0 i:=by
 obtain⟨k,s,j⟩:=f.rows
 have y:∀ b∈Bs.flatten,h b≠none:=λb d=>by
  obtain⟨A,t,w⟩:=List.mem_flatten.1 d
  obtain⟨a,x,g⟩:=n.mem t
  exact r.dom g b w
 refine⟨k++Bs.flatten,⟨v,vs,k,Bs,rfl,s,n.mono λa b c C g=>r.frame g λx z=>?_,rfl⟩,⟨?_,λb d=>?_⟩,p.trans f.sub⟩
 ·have:=r.dom g x z
  cases ho:h x with
  |none=>exact absurd ho this
  |some o=>exact f.sub x o ho
 ·rw[List.nodup_append]
  refine⟨j.1,m.1,λa u b d e=>?_⟩
  exact y b d (by rw[←e];exact j.2 a u)
 ·rcases List.mem_append.1 d with d|d
  ·have l:=j.2 b d
   cases ho:h0 b with
   |none=>rfl
   |some o=>rw[p b o ho]at l;cases l
  ·exact m.2 b d
def S04{a:Type}(L:List a)(n:Nat)(z:a):List a:=L++List.replicate (n-L.length) z
theorem x0a{a:Type}{L:List a}{n:Nat}{z:a}(h:L.length<=n):(S04 L n z).length=n:=by simp[S04];omega
theorem l0g{a:Type}{L:List a}{n k:Nat}{z:a}(b:L.length=k)(h:k<n):(S04 L n z)[k]?=some z:=by
 subst b
 unfold S04
 rw[List.getElem?_append_right (Nat.le_refl _),Nat.sub_self,List.getElem?_replicate,if_pos (by omega)]
theorem m0g{a:Type}{L:List a}{n k:Nat}{z r:a}(b:L.length=k)(h:k<n):(S04 L n z).set k r=S04 (L ++ [r]) n z:=by
 subst b
 unfold S04
 rw[List.set_append_right (h:=Nat.le_refl _),Nat.sub_self]
 have:n-L.length=(n-(L ++ [r]).length)+1:=by simp;omega
 grind
theorem n0g{a:Type}{L:List a}{n:Nat}{z:a}(h:L.length=n):S04 L n z=L:=by simp[S04,h]
def New{b:Type}(r:Wp b)(h a:Hp)(cs:List Value)(x:b):Prop:=∃ B,r.W a cs x B/\c6 h B/\Sub h a
theorem New.sub{b:Type}{r:Wp b}{h a:Hp}{cs:List Value}{x:b}(w:New r h a cs x):Sub h a:=let ⟨_,_,_,s⟩:=w;s
theorem New.r{b:Type}{r:Wp b}{h a:Hp}{cs:List Value}{x:b}(w:New r h a cs x):r.R a cs x:=let ⟨_,hw,_,_⟩:=w;r.toR hw
theorem F3.ints{h:Hp}:∀(xs:List Int),(∀ x∈xs,K0 x)->F3 (Wp.int.W h) (xs.map λx=>[.int .i64 x]) xs (xs.map λ_=>[])
 | [],_=>trivial
 |x::r,a=>⟨⟨⟨rfl,a x mS⟩,rfl⟩,F3.ints r λc b=>a c (mC _ b)⟩
theorem o0j{a:Type}(xs:List a):(xs.map λ_=>([]:List Nat)).flatten = []:=by induction xs<;>simp_all
theorem E0n.all{h:Hp}{v:Value}{xs:List Int}(e:E0n h v xs):∀ x∈xs,K0 x:=by
 obtain⟨a,n,c,vs,_,_,_,_,b⟩:=e
 intro x g
 obtain⟨i,f⟩:=List.getElem?_of_mem g
 obtain⟨cs,_,d⟩:=b.get f
 exact d.2
theorem Wp.sub{c:Type}{r:Wp c}{h a:Hp}{cs:List Value}{x:c}{B:List Nat}(w:r.W h cs x B)(s:Sub h a):r.W a cs x B :=
 r.frame w λb d=>by
  have:=r.dom w b d
  cases ho:h b with
  |none=>exact absurd ho this
  |some o=>exact s b o ho
theorem f0e{b:Type}{r:Wp b}{h a:Hp}{L:List (List Value)}{xs:List b}{Bs:List (List Nat)}(w:F3 (r.W h) L xs Bs)(s:Sub h a):F3 (r.W a) L xs Bs :=
 w.mono λ_ _ _ _ c=>Wp.sub c s
theorem M06{g:Type}{r:Wp g}{h0 h:Hp}{L:List (List Value)}{xs:List g}{Bs:List (List Nat)}{B:List Nat}(w:F3 (r.W h) L xs Bs)(n:Sub h0 h)(hf:c6 h0 Bs.flatten)(d:c6 h B):
  c6 h0 (Bs ++ [B]).flatten:=by
 have l:∀ b∈Bs.flatten,h b≠none:=λb c=>by
  obtain⟨q,i,k⟩:=List.mem_flatten.1 c
  obtain⟨a,x,p⟩:=w.mem i
  exact r.dom p b k
 have m:(Bs ++ [B]).flatten=Bs.flatten++B:=by simp
 rw[m]
 refine⟨?_,λb c=>?_⟩
 ·rw[List.nodup_append]
  exact⟨hf.1,d.1,λa j b c e=>l a j (by rw[e];exact d.2 b c)⟩
 ·rcases List.mem_append.1 c with c|c
  ·exact hf.2 b c
  ·have f:=d.2 b c
   cases ho:h0 b with
   |none=>rfl
   |some o=>rw[n b o ho]at f;cases f
open Go.WideShapes Go.Deep
def q02(P:Program)(t:TypeId){f:Type}(r:Rp f):Prop :=
 ∀ {H:Type} (enc:TypeId×Value->H) (w:World) (base:Nat) (c:Nat->Bool) (a:Bool) (n:Nat) (cs:List Value) (x:DataW H×List MemPlace),
  DataW.trod enc P w base c a n t cs=some x->∃ d,r.R (λb=>w.heap[b]?) cs d
theorem q02.int{P:Program}{t:TypeId}(a:P.underlying t=some (.int .i64)):q02 P t Rp.int:=by
 intro H enc w base f d n cs x c
 obtain⟨k,rfl,_,b⟩:=DataW.trod_int a c
 exact⟨k,rfl,C0t b⟩
theorem q02.bool{P:Program}{t:TypeId}(a:P.underlying t=some .bool):q02 P t Rp.bool:=by
 intro H enc w base d c n cs x b
 obtain⟨k,rfl,_⟩:=DataW.trod_bool a b
 exact⟨k,rfl⟩
theorem q02.str{P:Program}{t:TypeId}(a:P.underlying t=some .string):q02 P t Rp.str:=by
 intro H enc w base f d n cs x c
 obtain⟨k,rfl,_,b⟩:=DataW.trod_string a c
 exact⟨k,rfl,A0n b⟩
def B0c(P:Program)(a:List Field)(off:Nat){i:Type}(r:Rp i):Prop :=
 ∀ {H:Type} (enc:TypeId×Value->H) (w:World) (base:Nat) (g:Nat->Bool) (c:Bool) (n:Nat) (cs:List Value),
  (∀ f∈a,∃ h,DataW.trod enc P w base g c n f.type ((cs.drop f.offset).take (P.cellsOf f.type))=some h)->off+r.sz=cs.length->∃ d,r.R (λb=>w.heap[b]?) (cs.drop off) d
theorem B0c.one{P:Program}{f:Field}{off:Nat}{j:Type}{r:Rp j}(c:f.offset=off)(d:P.cellsOf f.type=r.sz)(h:q02 P f.type r):B0c P [f] off r:=by
 intro H enc w base g b n cs hf k
 obtain⟨i,a⟩:=hf f (List.mem_singleton.2 rfl)
 rw[d,c,List.take_of_length_le (by simp;omega)]at a
 exact h enc w base g b n _ i a
theorem B0c.cons{P:Program}{f:Field}{a:List Field}{off:Nat}{x y:Type}{r:Rp x}{q:Rp y}(s:f.offset=off)(u:P.cellsOf f.type=r.sz)(h:q02 P f.type r)(t:B0c P a (off+r.sz) q):
  B0c P (f::a) off (r.pair q):=by
 intro H enc w base d b n cs hf o
 obtain⟨v,c⟩:=hf f mS
 rw[u,s]at c
 obtain⟨i,k⟩:=h enc w base d b n _ v c
 have p:off+r.sz+q.sz=cs.length:=by rw[←o];show _=off+(r.sz+q.sz);omega
 obtain⟨j,l⟩:=t enc w base d b n cs (λg m=>hf g (mC _ m)) p
 refine⟨(i,j),_,_,?_,k,l⟩
 grind[List.drop_drop,List.take_append_drop]
theorem q02.struct{P:Program}{t:TypeId}{a:Array Field}{i:Type}{r:Rp i}(c:P.underlying t=some (.struct a))(o:P.cellsOf t=r.sz)(h:B0c P a.toList 0 r):q02 P t r:=by
 intro H enc w base g b n cs x d
 obtain⟨xs,m,_,_,j,k,hf⟩:=DataW.trod_struct c d
 have:=h enc w base g b m cs (λf l=>by
  grind[List.getElem?_of_mem,Array.getElem?_eq_some_iff]) (by omega)
 simpa using this
theorem k0m{f c:Type}[Inhabited c]{p:Nat->List f->c->Prop}:∀(n:Nat),(∀ i,i<n->∃ a b,p i a b)->∃(as:List (List f)) (bs:List c),as.length=n/\bs.length=n/\∀ i,i<n->p i (as.getD i []) (bs.getD i default)
 |0,_=>⟨[],[],rfl,rfl,λi d=>by omega⟩
 |n+1,h=>by
  obtain⟨as,bs,g,j,k⟩:=k0m n λi d=>h i (by omega)
  obtain⟨a,b,l⟩:=h n (by omega)
  refine⟨as ++ [a],bs ++ [b],by simp[g],by simp[j],λi d=>?_⟩
  grind
theorem F2.of_get{f d:Type}{p:List f->d->Prop}[Inhabited d]:∀(as:List (List f)) (bs:List d),as.length=bs.length->(∀ i,i<as.length->p (as.getD i []) (bs.getD i default))->F2 p as bs
 | [],[],_,_=>trivial
 |a::as,b::bs,c,h=>⟨h 0 (by simp),F2.of_get as bs (by simpa using c) λi g=>h (i+1) (by simpa using g)⟩
 | [],_::_,c,_=>by cases c
 |_::_,[],c,_=>by cases c
theorem l0m{sz:Nat}:∀(xs:List (List Value)) (j:Nat) (v:Value),(∀ x∈xs,x.length=sz)->xs.flatten[j]?=some v->j / sz<xs.length/\(xs.getD (j / sz) [])[j % sz]?=some v
 | [],j,v,_,h=>by simp at h
 |x::r,j,v,a,h=>by
  have b:=a x mS
  rw[List.flatten_cons,List.getElem?_append]at h
  by_cases hj:j<x.length
  ·simp_all[Nat.div_eq_of_lt,Nat.mod_eq_of_lt]
  ·rw[if_neg hj,b]at h
   rw[b]at hj
   obtain⟨i,k⟩:=l0m r (j-sz) v (λd c=>a d (mC _ c)) h
   have h0:0<sz:=by
    grind
   have f:j / sz=(j-sz) / sz+1:=by
    conv=>lhs;rw[show j=(j-sz)+sz from by omega,Nat.add_div_right _ h0]
   have g:j % sz=(j-sz) % sz:=by
    conv=>lhs;rw[show j=(j-sz)+sz from by omega,Nat.add_mod_right]
   grind
theorem q02.slice{P:Program}{t e:TypeId}{u:Type}{r:Rp u}(S:P.underlying t=some (.slice e))(Q:P.cellsOf e=r.sz)(h0:0<r.sz)(z:q02 P e r):q02 P t r.slice:=by
 intro H enc w base F C n cs x h
 rcases open_slice S h with⟨rfl,_⟩|⟨a,len,cap,m,k,D,U,rfl,W,s,M,N,_,A⟩
 ·exact⟨[],none,0,0,[],rfl,rfl,Nat.zero_le _,⟨by simp,none,0,0,rfl,rfl,Nat.le_refl _,.inl rfl⟩,trivial⟩
 have Z:len<=m:=by rw[N];split<;>omega
 rcases Nat.eq_zero_or_pos len with G|E
 ·subst G
  exact⟨[],_,_,_,[],rfl,rfl,Nat.zero_le _,⟨by simp,_,_,_,rfl,rfl,s,.inl rfl⟩,trivial⟩
 have T:Nonempty u:=by
  obtain⟨cs',_,f⟩:=A 0 (by omega)
  obtain⟨d,_⟩:=z enc w base F C k cs' _ f
  exact⟨d⟩
 letI:Inhabited u:=Classical.inhabited_of_nonempty T
 obtain⟨vs,xs,l1,ac,l⟩:=k0m (p:=λi cs' d=>w.cells? base (a.add (i*P.cellsOf e)) (P.cellsOf e)=some cs'/\r.R (λb=>w.heap[b]?) cs' d) len (λi g=>by
  obtain⟨cs',o,f⟩:=A i (by omega)
  obtain⟨d,Y⟩:=z enc w base F C k cs' _ f
  grind)
 have J:F2 (r.R λb=>w.heap[b]?) vs xs:=F2.of_get vs xs (by omega) λi g=>(l i (by omega)).2
 have y:∀ x∈vs,x.length=r.sz/\∀ v∈x,v.oneCell'=true:=λx h=>by
  obtain⟨i,g,e⟩:=List.getElem_of_mem h
  have:=(l i (by omega)).2
  rw[List.getD_eq_getElem?_getD,List.getElem?_eq_getElem g,e]at this
  exact⟨r.len this,r.one this⟩
 have cell:∀ i j,i<len->j<r.sz->w.cell? ((a.add (i*r.sz)).add j)=(vs.getD i [])[j]?:=λi j g q=>by
  have:=(l i g).1
  rw[Q]at this
  obtain⟨_,_,K⟩:=World.cells?_some this
  exact K j q
 have ab:a.spot=none:=by
  have o:=cell 0 0 E h0
  have f:=(l 0 E).2
  have V:=r.len f
  have I:(a.add (0*r.sz)).add 0=a:=by simp[Addr.add]
  rw[I]at o
  have c:((vs.getD 0 [])[0]?).isSome=true:=by
   grind
  rw[←o]at c
  unfold World.cell? at c
  split at c
  ·split at c
   ·cases c
   ·rename_i O;simpa using O
  ·cases c
 refine⟨xs,_,_,_,vs,rfl,by omega,Nat.le_trans s (A0n M),⟨y,_,_,_,rfl,by omega,s,.inr ⟨a.block,a.off,?_,λj v q=>?_⟩⟩,J⟩
 ·cases a;grind
 ·obtain⟨g1,g2⟩:=l0m vs j v (λx h=>(y x h).1) q
  have L:j % r.sz<r.sz:=Nat.mod_lt _ h0
  have:=cell (j / r.sz) (j % r.sz) (by omega) L
  rw[g2,add_add,show j / r.sz*r.sz+j % r.sz=j from by rw[Nat.mul_comm];exact Nat.div_add_mod ..]at this
  unfold Hp.cell
  unfold World.cell? at this
  have X:(a.add j).block=a.block:=by unfold Addr.add;split<;>rfl
  have aa:(a.add j).off=a.off+j:=by unfold Addr.add;split<;>simp_all
  grind
theorem b0l{P:Program}{H:Type}{enc:TypeId×Value->H}{w:World}{base f:Nat}{c:Nat->Bool}{a:Bool}{o:Reach}{t:TypeId}{g:Array Field}{v:Value}{d:DataW H}{ps:List MemPlace}{p:Type}{r:Rp p}
  (j:q02 P t r) (k:P.underlying t=some (.struct g)) (l:Value.okWide P w o f t v) (h:DataW.Trod enc P w base c a t v d ps):∃ cs x,v = .agg cs.toArray/\r.R (λb=>w.heap[b]?) cs x:=by
 obtain⟨cs,rfl,_⟩:=okWide_struct k l
 obtain⟨n,i⟩:=h
 obtain⟨x,m⟩:=j enc w base c a n _ _ i
 exact⟨cs.toList,x,by simp,m⟩
def szR(left s:Int):Int:=if s<=left then left-s else -1
theorem c0r{left a b:Int}(h:0<=szR left a)(c:0<=a)(d:0<=b):szR (szR left a) b=szR left (a+b):=by
 unfold szR at *
 grind
theorem d0r{left a:Int}(h:szR left a<0)(b:0<=left):left<a/\szR left a = -1:=by
 unfold szR at *
 grind
theorem c0l{left a:Int}(h:0<=szR left a):a<=left/\szR left a=left-a:=by
 unfold szR at *
 grind
theorem p0j{left a b:Int}(h:szR left a<0)(c:0<=left)(f:a<=b):szR left b = -1:=by
 obtain⟨d,_⟩:=d0r h c
 unfold szR
 rw[if_neg (by omega)]
theorem d0p{left a:Int}(h:left<a):szR left a = -1:=by
 unfold szR
 rw[if_neg (by omega)]
theorem e0p{left a:Int}(h:a<=left):szR left a=left-a:=by
 unfold szR
 rw[if_pos h]
theorem C2{n:Nat}{m:Nat}(h:n<m)(a:m<=9223372036854775807):IntKind.i64.wrap ((n:Int)+1)=((n+1:Nat):Int):=by
 grind[w64]
theorem u03{a:Type}{l:List a}{k:Nat}{x:a}(h:l[k]?=some x):l.take (k+1)=l.take k ++ [x]:=by
 simp_all[List.take_add_one]
theorem N06{a:Type}{l:List a}{k:Nat}(h:k<l.length):∃ x,l[k]?=some x:=⟨_,List.getElem?_eq_getElem h⟩
theorem m0m{p:Prop}[Decidable p](h:(!decide p)=true): ¬ p:=by simpa using h
theorem q0j{p:Prop}[Decidable p](h:(!decide p)=false):p:=by simpa using h
def V03{a:Type}(m:a->Nat):List a->Nat
 | []=>0
 |x::r=>m x+V03 m r
theorem P07{c:Type}(m:c->Nat):∀ a b,V03 m (a++b)=V03 m a+V03 m b
 | [],b=>by simp[V03]
 |x::r,b=>by simp only[List.cons_append,V03,P07 m r b];omega
theorem G0n{a:Type}{m:a->Nat}{l:List a}{k:Nat}{x:a}(h:l[k]?=some x):V03 m (l.take (k+1))=V03 m (l.take k)+m x:=by
 simp_all[u03,P07,V03]
theorem H0n{a:Type}(m:a->Nat)(l:List a)(k:Nat):V03 m (l.take k)<=V03 m l:=by
 grind[P07,List.take_append_drop]
theorem g0e{a:Type}{m:a->Nat}:∀ {l:List a} {x:a},x∈l->m x<=V03 m l
 |b::r,x,h=>by
  simp only[V03]
  rcases List.mem_cons.1 h with rfl|h
  ·omega
  ·have:=g0e (m:=m) h;omega
theorem f0p{a:Type}{m:a->Nat}{l:List a}{k:Nat}{x:a}(h:l[k]?=some x):m x<=V03 m l:=g0e (List.mem_of_getElem? h)
theorem c6.nil(h:Hp):c6 h []:=⟨List.nodup_nil,λb a=>nomatch a⟩
theorem New.pair{p s:Type}{r:Wp p}{q:Wp s}{h k l:Hp}{d f:List Value}{x:p}{n:s}(a:New r h k d x)(b:New q k l f n):New (r.pair q) h l (d++f) (x,n):=by
 obtain⟨g,m,j,s1⟩:=a
 obtain⟨i,w,f2,s2⟩:=b
 refine⟨g++i,⟨d,f,g,i,rfl,rfl,Wp.sub m s2,w⟩,⟨?_,λz c=>?_⟩,s1.trans s2⟩
 ·rw[List.nodup_append]
  refine⟨j.1,f2.1,λu t v hv e=>?_⟩
  have:=r.dom m u t
  rw[e]at this
  exact this (f2.2 v hv)
 ·rcases List.mem_append.1 c with c|c
  ·exact j.2 z c
  ·have:=f2.2 z c
   cases ho:h z with
   |none=>rfl
   |some o=>rw[s1 z o ho]at this;cases this
theorem New.int{h:Hp}{x:Int}(a:K0 x):New Wp.int h h [.int .i64 x] x:=⟨[],⟨⟨rfl,a⟩,rfl⟩,c6.nil h,Sub.refl h⟩
theorem New.str{h:Hp}{x:ByteArray}(a:x.size<=9223372036854775807):New Wp.str h h [.string x] x:=⟨[],⟨⟨rfl,a⟩,rfl⟩,c6.nil h,Sub.refl h⟩
theorem New.bool{h:Hp}{x:Bool}:New Wp.bool h h [.bool x] x:=⟨[],⟨rfl,rfl⟩,c6.nil h,Sub.refl h⟩
theorem New.nilSlice{a:Type}{r:Wp a}{h:Hp}:New r.slice h h [.slice none 0 0] []:=⟨[],⟨_,[],[],[],rfl,⟨by simp,.inl ⟨rfl,rfl,rfl⟩⟩,trivial,rfl⟩,c6.nil h,Sub.refl h⟩
theorem Wp.slice_cell{b:Type}{r:Rp b}{h:Hp}{cs:List Value}{xs:List b}(d:r.slice.R h cs xs):∃ a n c,cs = [.slice a n c]:=by
 obtain⟨a,n,c,vs,rfl,_⟩:=d
 grind
theorem F3.get{j f γ:Type}{p:j->f->γ->Prop}:∀ {as:List j} {bs:List f} {cs:List γ} {i:Nat} {b:f},F3 p as bs cs->bs[i]?=some b->∃ a c,as[i]?=some a/\cs[i]?=some c/\p a b c
 |a::as,b::bs,c::cs,0,g,h,d=>by cases d;exact⟨a,c,rfl,rfl,h.1⟩
 |a::as,b::bs,c::cs,i+1,g,h,d=>by
  obtain⟨x,n,k,l,m⟩:=F3.get (i:=i) h.2 (by simpa using d)
  grind
 | [],[],[],i,g,h,d=>by simp at d
 | [],[],_::_,_,_,h,_=>h.elim
 | [],_::_,_,_,_,h,_=>h.elim
 |_::_,[],_,_,_,h,_=>h.elim
 |_::_,_::_,[],_,_,h,_=>h.elim
theorem F3.lens{a b γ:Type}{p:a->b->γ->Prop}:∀ {as:List a} {bs:List b} {cs:List γ},F3 p as bs cs->as.length=bs.length/\cs.length=bs.length
 | [],[],[],_=>⟨rfl,rfl⟩
 |_::as,_::bs,_::cs,h=>by have:=F3.lens h.2;simp[this]
 | [],[],_::_,h=>h.elim
 | [],_::_,_,h=>h.elim
 |_::_,[],_,h=>h.elim
 |_::_,_::_,[],h=>h.elim
theorem F3.step{s t:Type}{p q:s->t->List Nat->Prop}:∀ {as:List s} {bs:List t} {Bs:List (List Nat)} {i:Nat} {a:s} {b:t} {c:List Nat},F3 p as bs Bs->Bs.flatten.Nodup->Bs[i]?=some c->q a b c ->
  (∀ a b d,d∈Bs->(∀ f∈d,f ∉ c)->p a b d->q a b d)->F3 q (as.set i a) (bs.set i b) Bs
 |w::as,y::bs,z::cs,0,a,b,c,h,g,j,m,l=>by
  cases j
  rw[List.flatten_cons,List.nodup_append]at g
  exact⟨m,h.2.mono λv x d k A=>l v x d (mC _ k) (λf n o=>g.2.2 f o f (List.mem_flatten.2 ⟨d,k,n⟩) rfl) A⟩
 |w::as,y::bs,z::cs,i+1,a,b,c,h,g,j,m,l=>by
  rw[List.flatten_cons,List.nodup_append]at g
  have u:cs[i]?=some c:=by simpa using j
  refine⟨l _ _ _ mS (λf n o=>g.2.2 f n f (List.mem_flatten.2 ⟨c,List.mem_of_getElem? u,o⟩) rfl) h.1,F3.step h.2 g.2.1 u m λa b d k=>l a b d (mC _ k)⟩
 | [],[],[],i,_,_,_,h,_,j,_,_=>by simp at j
 | [],[],_::_,_,_,_,_,h,_,_,_,_=>h.elim
 | [],_::_,_,_,_,_,_,h,_,_,_,_=>h.elim
 |_::_,[],_,_,_,_,_,h,_,_,_,_=>h.elim
 |_::_,_::_,[],_,_,_,_,h,_,_,_,_=>h.elim
theorem r0j{sz:Nat}:∀(vs:List (List Value)) (i k:Nat) (x:List Value) (u:Value),(∀ c∈vs,c.length=sz)->vs[i]?=some x->k<sz->(vs.set i (x.set k u)).flatten=vs.flatten.set (i*sz+k) u
 |c::r,0,k,x,u,b,a,d=>by
  cases a
  have f:=b _ mS
  rw[List.set_cons_zero,List.flatten_cons,List.flatten_cons,Nat.zero_mul,Nat.zero_add,List.set_append_left (h:=by omega)]
 |c::r,i+1,k,x,u,b,a,d=>by
  have f:=b c mS
  have g:r[i]?=some x:=by simpa using a
  rw[List.set_cons_succ,List.flatten_cons,List.flatten_cons,r0j r i k x u (λz j=>b z (mC _ j)) g d,List.set_append_right (h:=by grind),f]
  grind
 | [],i,k,x,u,_,a,_=>by simp at a
theorem Wp.at{J:Type}{r:Wp J}{h:Hp}{a:Option Addr}{n c:Nat}{xs:List J}{B:List Nat}(w:r.slice.W h [.slice a n c] xs B)(K:B.Nodup){i:Nat}{x:J}(s:xs[i]?=some x)(h0:0<r.sz):
  InB (.slice a n c) i/\∃ cs g b of cur ty,a=some ⟨b,of,none⟩/\N4 h (.slice a n c) r.sz i cs/\r.W h cs x g/\h b=some (.cells cur ty (0,0))/\(∀ k,k<r.sz->of+(i*r.sz+k)<cur.size)/\b∈B/\b ∉ g/\(∀ f∈g,f∈B)/\g.Nodup /\
   (∀ m p,(∀ f,f ∉ g->m f=h f)->r.W m cs p g->r.slice.W m [.slice a n c] (xs.set i p) B) /\
   (∀ k u p,k<r.sz->(∀ m,(∀ f∈g,m f=h f)->r.W m (cs.set k u) p g)->r.slice.W (h.set b (.cells (cur.setIfInBounds (of+(i*r.sz+k)) u) ty (0,0))) [.slice a n c] (xs.set i p) B):=by
 have X:r.slice.R h [.slice a n c] xs:=r.slice.toR w
 obtain⟨ac,_⟩:=Sl.get (r:=r.toRp) X s h0
 refine⟨ac,?_⟩
 obtain⟨v,vs,ah,Bs,V,⟨A,af⟩,t,rfl⟩:=w
 cases V
 obtain⟨cs,g,g1,g2,g3⟩:=t.get s
 obtain⟨aj,ak⟩:=t.lens
 have Z:cs.length=r.sz:=r.len (r.toR g3)
 rcases af with⟨e,rfl,_⟩|⟨b,of,ai,cur,ty,e,P,Q,S,rfl,I⟩
 ·simp at g1
 cases e
 rw[List.nodup_append]at K
 obtain⟨_,L,aa⟩:=K
 have y:∀ f∈g,f∈Bs.flatten:=λf l=>List.mem_flatten.2 ⟨g,List.mem_of_getElem? g2,l⟩
 have D:b ∉ Bs.flatten:=λo=>aa b (List.mem_singleton.2 rfl) b o rfl
 have Y:∀ j u,cs[j]?=some u->cur[of+(i*r.sz+j)]?=some u:=λj u C=>I.1 _ _ (J03 vs i cs (λx s=>(A x s).1) g1 j u C)
 have ad:∀ k,k<r.sz->of+(i*r.sz+k)<cur.size:=λk N=>by
  have:=Y k cs[k] (List.getElem?_eq_getElem (by omega))
  grind
 have ag:g.Nodup:=by
  grind
 refine⟨cs,g,b,of,cur,ty,rfl,⟨Z,by omega,b,of,_,_,rfl,λj u C=>?_⟩,g3,S,ad,by simp,λo=>D (y b o),λf l=>List.mem_append_right _ (y f l),ag,?_,?_⟩
 ·simp_all[Hp.cell,Nat.add_assoc]
 ·intro m p hf F
  have o:m b=h b:=hf b λo=>D (y b o)
  refine⟨_,vs,[b],Bs,rfl,⟨A,.inr ⟨b,of,_,cur,ty,rfl,P,Q,by rw[o];exact S,rfl,I⟩⟩,?_,rfl⟩
  have:=F3.step (q:=r.W m) t L g2 F λT U d _ M E=>r.frame E λf l=>hf f (M f l)
  rwa [show vs.set i cs=vs from by obtain⟨ab,e⟩:=List.getElem?_eq_some_iff.1 g1;rw[←e];exact List.set_getElem_self ab]at this
 ·intro k u p N F
  have O:∀ f∈Bs.flatten,(h.set b (.cells (cur.setIfInBounds (of+(i*r.sz+k)) u) ty (0,0))) f=h f:=λf l=>Hp.set_other h _ λe=>D (by rw[←e];exact l)
  have G:=F (h.set b (.cells (cur.setIfInBounds (of+(i*r.sz+k)) u) ty (0,0))) λf l=>O f (y f l)
  refine⟨_,vs.set i (cs.set k u),[b],Bs,rfl,⟨λz H=>?_,.inr ⟨b,of,_,_,ty,by simp,by simpa using P,Q,Hp.set_same _ _ _,rfl,λj z C=>?_,by simpa using I.2⟩⟩,?_,rfl⟩
  ·rcases List.mem_or_eq_of_mem_set H with H|rfl
   ·exact A z H
   ·exact⟨r.len (r.toR G),r.one (r.toR G)⟩
  ·rw[r0j vs i k cs u (λx s=>(A x s).1) g1 N]at C
   grind
  ·exact F3.step (q:=r.W _) t L g2 G λT U d ae M E=>r.frame E λf l=>O f (List.mem_flatten.2 ⟨d,ae,l⟩)
theorem F2.take{a b:Type}{p:a->b->Prop}:∀ {as:List a} {bs:List b} (k:Nat),F2 p as bs->F2 p (as.take k) (bs.take k)
 | [],[],k,_=>by simp[F2]
 |_::as,_::bs,0,_=>by simp[F2]
 |_::as,_::bs,k+1,h=>⟨h.1,F2.take k h.2⟩
 | [],_::_,_,h=>h.elim
 |_::_,[],_,h=>h.elim
theorem F2.drop{a b:Type}{p:a->b->Prop}:∀ {as:List a} {bs:List b} (k:Nat),F2 p as bs->F2 p (as.drop k) (bs.drop k)
 | [],[],k,_=>by simp[F2]
 |_::as,_::bs,0,h=>h
 |_::as,_::bs,k+1,h=>F2.drop k h.2
 | [],_::_,_,h=>h.elim
 |_::_,[],_,h=>h.elim
theorem F2.append{a b:Type}{p:a->b->Prop}:∀ {as:List a} {bs:List b} {c:List a} {d:List b},F2 p as bs->F2 p c d->F2 p (as++c) (bs++d)
 | [],[],_,_,_,h=>h
 |_::as,_::bs,_,_,h,f=>⟨h.1,F2.append h.2 f⟩
 | [],_::_,_,_,h,_=>h.elim
 |_::_,[],_,_,h,_=>h.elim
theorem F3.take{a b γ:Type}{p:a->b->γ->Prop}:∀ {as:List a} {bs:List b} {cs:List γ} (k:Nat),F3 p as bs cs->F3 p (as.take k) (bs.take k) (cs.take k)
 | [],[],[],k,_=>by simp[F3]
 |_::as,_::bs,_::cs,0,_=>by simp[F3]
 |_::as,_::bs,_::cs,k+1,h=>⟨h.1,F3.take k h.2⟩
 | [],[],_::_,_,h=>h.elim
 | [],_::_,_,_,h=>h.elim
 |_::_,[],_,_,h=>h.elim
 |_::_,_::_,[],_,h=>h.elim
theorem F3.append{a b γ:Type}{p:a->b->γ->Prop}:∀ {as:List a} {bs:List b} {cs:List γ} {c:List a} {d:List b} {cs':List γ},F3 p as bs cs->F3 p c d cs'->F3 p (as++c) (bs++d) (cs++cs')
 | [],[],[],_,_,_,_,h=>h
 |_::as,_::bs,_::cs,_,_,_,h,f=>⟨h.1,F3.append h.2 f⟩
 | [],[],_::_,_,_,_,h,_=>h.elim
 | [],_::_,_,_,_,_,h,_=>h.elim
 |_::_,[],_,_,_,_,h,_=>h.elim
 |_::_,_::_,[],_,_,_,h,_=>h.elim
theorem F3.set{d f γ:Type}{p:d->f->γ->Prop}{a:d}{b:f}{c:γ}(g:p a b c):∀ {as:List d} {bs:List f} {cs:List γ} (i:Nat),F3 p as bs cs->F3 p (as.set i a) (bs.set i b) (cs.set i c)
 | [],[],[],_,_=>trivial
 |_::as,_::bs,_::cs,0,h=>⟨g,h.2⟩
 |_::as,_::bs,_::cs,i+1,h=>⟨h.1,F3.set g i h.2⟩
 | [],[],_::_,_,h=>h.elim
 | [],_::_,_,_,h=>h.elim
 |_::_,[],_,_,h=>h.elim
 |_::_,_::_,[],_,h=>h.elim
theorem Sl.cut{i:Type}{r:Rp i}{h:Hp}{a:Option Addr}{n c:Nat}{xs:List i}(e:Sl r h (.slice a n c) xs):
  ∃ vs,SlE h r.sz (.slice a n c) vs/\∀ v l m,m<=xs.length->SlE h r.sz v ((vs.take m).drop l)->∃ b f d,v = .slice b f d/\Sl r h (.slice b f d) ((xs.take m).drop l):=by
 obtain⟨t,z,u,vs,j,rfl,w,k,g⟩:=e
 cases j
 refine⟨vs,k,λv l m y hv=>?_⟩
 obtain⟨o,b,f,d,rfl,p,q,s⟩:=hv
 have x:=g.length
 refine⟨b,f,d,rfl,b,f,d,_,rfl,?_,?_,⟨o,b,f,d,rfl,p,q,s⟩,(g.take m).drop l⟩
 all_goals grind
theorem H0k.take{sz m g o n c:Nat}{v:Value}(h:H0k sz (.slice (some ⟨g,o,none⟩) n c) 0 m v):v = .slice (some ⟨g,o,none⟩) m c:=by
 rw[h _ _ _ rfl]
 grind[Addr.add]
theorem New.mono{c:Type}{r:Wp c}{h0 a b:Hp}{cs:List Value}{x:c}(w:New r h0 a cs x)(s:Sub a b):New r h0 b cs x:=by
 obtain⟨B,d,f,s1⟩:=w
 exact⟨B,Wp.sub d s,f,s1.trans s⟩
theorem New.from{d:Type}{r:Wp d}{h0 a c:Hp}{cs:List Value}{x:d}(w:New r a c cs x)(s:Sub h0 a):New r h0 c cs x:=by
 obtain⟨B,h,f,s1⟩:=w
 refine⟨B,h,⟨f.1,λb g=>?_⟩,s.trans s1⟩
 have:=f.2 b g
 cases ho:h0 b with
 |none=>rfl
 |some o=>rw[s b o ho]at this;cases this
theorem Q07{c:Type}{r:Wp c}{h:Hp}{vs:List (List Value)}{xs:List c}{Bs:List (List Nat)}(w:F3 (r.W h) vs xs Bs):∀ b∈Bs.flatten,h b≠none:=λb f=>by
 obtain⟨j,d,g⟩:=List.mem_flatten.1 f
 obtain⟨a,x,i⟩:=w.mem d
 exact r.dom i b g
theorem O06{f:Type}{r:Wp f}{h d:Hp}{vs:List (List Value)}{xs:List f}{Bs:List (List Nat)}(w:F3 (r.W h) vs xs Bs)(hf:∀ b∈Bs.flatten,d b=h b):F3 (r.W d) vs xs Bs :=
 w.mono λa b c g i=>r.frame i λx j=>hf x (List.mem_flatten.2 ⟨c,g,j⟩)
theorem New.app{z:Type}{r:Wp z}{h0 m h:Hp}{g o n c:Nat}{xs:List z}(w:New r.slice h0 m [.slice (some ⟨g,o,none⟩) n c] xs)(s:Sub m h):
  ∃ vs,i0n h r.sz (.slice (some ⟨g,o,none⟩) n c) vs/\vs.length=xs.length/\∀(k:List (List Value)) (y:List z) (Bs:List (List Nat)) (l:Hp) (j:Value),F3 (r.W h) k y Bs->c6 m Bs.flatten ->
   x0o h l r.sz g j (vs++k)->New r.slice h0 l [j] (xs++y)/\∃ D I H A,j = .slice (some ⟨D,I,none⟩) H A:=by
 obtain⟨B,⟨v,vs,ao,f,M,⟨Q,aa⟩,F,rfl⟩,N,u⟩:=w
 cases M
 rcases aa with⟨e,_⟩|⟨aq,aw,ap,cur,ty,e,ad,ae,af,rfl,ag,ah⟩
 ·cases e
 cases e
 have V:=F.lens
 have U:=s g _ af
 have O:F3 (r.W h) vs xs f:=f0e F s
 refine⟨vs,⟨Q,g,o,c,cur,ty,rfl,ad,by simpa [maxLen] using ae,ah,U,ag⟩,V.1,?_⟩
 rintro k y Bs l j ac i ⟨⟨R,g1,J,C,K,an,rfl,ai,aj,ak,al,am⟩,D,I,H,A,L,G,q⟩
 cases L
 have E:=N
 rw[c6,List.nodup_append]at E
 obtain⟨⟨_,X,S⟩,au⟩:=E
 have av:∀ b∈f.flatten,b≠g:=λb d e=>S g (List.mem_singleton.2 rfl) b d e.symm
 have Y:∀ b∈f.flatten,b≠g1:=λb d e=>by
  grind[Q07]
 have Z:∀ b∈Bs.flatten,b≠g1:=λb d e=>by
  rcases G with rfl|t
  ·have:=i.2 b d
   grind
  grind[Q07]
 have ar:h0 g1=none:=by
  rcases G with rfl|t
  ·grind
  ·cases ho:h0 g1 with
   |none=>rfl
   |some x=>rw[s _ _ (u _ _ ho)]at t;cases t
 have T:∀ a∈f.flatten,∀ b∈Bs.flatten,a≠b:=λa P b d e=>by
  have p:=i.2 b d
  grind[Q07]
 refine⟨⟨[g1]++(f++Bs).flatten,⟨_,vs++k,[g1],f++Bs,rfl,⟨R,.inr ⟨g1,J,C,K,an,rfl,ai,by simpa [maxLen] using aj,al,rfl,am,ak⟩⟩,?_,rfl⟩,⟨?_,?_⟩,?_⟩,g1,J,_,C,rfl⟩
 ·exact(O06 O λb d=>q b (Y b d)).append (O06 ac λb d=>q b (Z b d))
 ·rw[List.flatten_append,List.nodup_append,List.nodup_append]
  refine⟨by simp,⟨X,i.1,T⟩,λa P b d=>?_⟩
  grind
 ·intro b d
  rcases List.mem_append.1 d with d|d
  ·grind
  ·rw[List.flatten_append]at d
   rcases List.mem_append.1 d with d|d
   ·grind
   ·have p:=i.2 b d
    cases ho:h0 b with
    |none=>rfl
    |some x=>rw[u _ _ ho]at p;cases p
 ·intro b x ab
  rw[q b (λe=>by grind)]
  exact s _ _ (u _ _ ab)
theorem o0g{sz:Nat}:∀(vs:List (List Value)) (i:Nat) (new:List Value) (j:Nat),(∀ x∈vs,x.length=sz)->i<vs.length->new.length=sz ->
  (vs.set i new).flatten[j]?=if i*sz<=j/\j<i*sz+sz then new[j-i*sz]? else vs.flatten[j]?
 |x::r,0,new,j,a,_,c=>by
  grind
 |x::r,i+1,new,j,a,b,c=>by
  have d:=a x mS
  rw[List.set_cons_succ,List.flatten_cons,List.flatten_cons,Nat.add_mul,Nat.one_mul]
  by_cases hj:j<sz
  ·rw[if_neg (by omega),List.getElem?_append_left (by omega),List.getElem?_append_left (by omega)]
  ·rw[List.getElem?_append_right (by omega),List.getElem?_append_right (by omega),d,o0g r i new (j-sz) (λg f=>a g (mC _ f)) (by simpa using b) c]
   grind
 | [],i,new,j,_,b,_=>by simp at b
theorem p0g{By:List Nat}(c:By.Nodup):∀(Bs:List (List Nat)) (i:Nat),Bs.flatten.Nodup->(∀ b∈By,b ∉ Bs.flatten)->(Bs.set i By).flatten.Nodup/\∀ b∈(Bs.set i By).flatten,b∈Bs.flatten∨b∈By
 | [],i,h,_=>by simp
 |B::Bs,0,h,a=>by
  grind
 |B::Bs,i+1,h,a=>by
  rw[List.flatten_cons,List.nodup_append]at h
  obtain⟨f,g⟩:=p0g c Bs i h.2.1 (λb d j=>a b d (by grind))
  grind
theorem New.put{p:Type}{r:Wp p}{h0 k h:Hp}{g o n c:Nat}{xs:List p}(w:New r.slice h0 k [.slice (some ⟨g,o,none⟩) n c] xs)(s:Sub k h){i:Nat}(ag:i<xs.length){new:List Value}{F:p}{By:List Nat}
  (D:r.W h new F By) (hf:c6 k By) {K:Hp->Prop} {off:Nat} (M:off=i*r.sz) {idx:Int} (O:0<=idx)
  (Q:∀ l,New r.slice h0 l [.slice (some ⟨g,o,none⟩) n c] (xs.set i F)->(∀ b,b≠g->l b=h b)->k g≠none->K l):r04 h (.slice (some ⟨g,o,none⟩) n c) idx off new K:=by
 subst M
 obtain⟨B,⟨v,vs,Z,f,G,⟨y,T⟩,m,rfl⟩,H,C⟩:=w
 cases G
 rcases T with⟨e,_⟩|⟨ab,ak,aa,cur,ty,e,U,V,E,rfl,ai,X⟩
 ·cases e
 cases e
 have ah:=m.lens
 have N:=s g _ E
 have ac:F3 (r.W h) vs xs f:=f0e m s
 have A:new.length=r.sz:=r.len (r.toR D)
 have t:=H
 rw[c6,List.nodup_append]at t
 obtain⟨⟨_,S,J⟩,ad⟩:=t
 have ae:∀ b∈f.flatten,b≠g:=λb a e=>J g (List.mem_singleton.2 rfl) b a e.symm
 have af:∀ b∈By,b≠g:=λb a e=>by have:=hf.2 b a;grind
 have z:o+i*r.sz+new.length<=cur.size:=by
  have:(i+1)*r.sz<=c*r.sz:=Nat.mul_le_mul_right _ (by omega)
  grind
 have L:∀ b∈By,b ∉ f.flatten:=λb a R=>Q07 m b R (hf.2 b a)
 obtain⟨aj,Y⟩:=p0g hf.1 f i S L
 refine⟨g,o,_,c,cur,ty,⟨rfl,O,N,z⟩,Q _ ?_ (λb a=>Hp.set_other _ _ a) (by rw[E];simp)⟩
 rw[s04]
 refine⟨[g]++(f.set i By).flatten,⟨_,vs.set i new,[g],f.set i By,rfl,⟨?_,.inr ⟨g,o,c,_,ty,by simp,by simpa using U,V,Hp.set_same _ _ _,rfl,λj u P=>?_,by simpa [H8] using X⟩⟩,?_,rfl⟩,⟨?_,?_⟩,?_⟩
 ·intro x d
  rcases List.mem_or_eq_of_mem_set d with d|rfl
  ·exact y x d
  ·exact⟨A,r.one (r.toR D)⟩
 ·rw[o0g vs i new j (λx d=>(y x d).1) (by omega) A]at P
  rw[List.getElem?_toArray,F07 _ _ _ _ (by simpa using z)]
  grind
 ·grind[F3.set,Hp.set_other,O06]
 ·grind
 ·intro b a
  rcases List.mem_append.1 a with a|a
  ·grind
  ·rcases Y b a with a|a
   ·grind
   ·have q:=hf.2 b a
    cases ho:h0 b with
    |none=>rfl
    |some x=>rw[C _ _ ho]at q;cases q
 ·intro b x d
  have I:b≠g:=λe=>by grind
  rw[Hp.set_other _ _ I]
  exact s _ _ (C _ _ d)
theorem M0h:∀(Bs:List (List Nat)) (k:Nat),Bs.flatten.Nodup->(Bs.take k).flatten.Nodup/\∀ b∈(Bs.take k).flatten,b∈Bs.flatten:=λBs k h=>by
 grind[List.flatten_append,List.take_append_drop,List.nodup_append,List.mem_append_left]
theorem New.take{i:Type}{r:Wp i}{h0 d:Hp}{g o n c:Nat}{xs:List i}(w:New r.slice h0 d [.slice (some ⟨g,o,none⟩) n c] xs){k:Nat}(M:k<=xs.length):New r.slice h0 d [.slice (some ⟨g,o,none⟩) k c] (xs.take k):=by
 obtain⟨B,⟨v,vs,F,a,l,⟨p,s⟩,h,rfl⟩,m,t⟩:=w
 cases l
 rcases s with⟨e,_⟩|⟨H,P,G,cur,ty,e,O,A,C,rfl,D,E⟩
 ·cases e
 cases e
 have N:=h.lens
 have f:=m
 rw[c6,List.nodup_append]at f
 obtain⟨⟨_,q,J⟩,K⟩:=f
 obtain⟨Q,R⟩:=M0h a k q
 have y:(vs.take k).length=k:=by simp;omega
 refine⟨[g]++(a.take k).flatten,⟨_,vs.take k,[g],a.take k,rfl,⟨λx z=>p x (List.mem_of_mem_take z),.inr ⟨g,o,c,cur,ty,by rw[y],by omega,A,C,rfl,λj u L=>D j u ?_,E⟩⟩,h.take k,rfl⟩,⟨?_,λb I=>?_⟩,t⟩
 ·grind[List.flatten_append,List.take_append_drop,List.getElem?_append_left,List.getElem?_eq_some_iff]
 all_goals grind
def gi{a:Type}(xs:List a)(i:Int):Option a:=if 0<=i then xs[i.toNat]? else none
def chk{a:Type}(c:Bool)(o:Option a)(d:a):Option a:=match c with
 |true=>o
 |false=>some d
def grd(p:Prop)[Decidable p]:Option Unit:=if p then some ()else none
def W03{a:Type}(xs:List a)(l m:Int):Option (List a):=if 0<=l/\l<=m/\m<=(xs.length:Int)then some ((xs.take m.toNat).drop l.toNat)else none
def t7{R S:Type}(x:R ⊕ S)(k:S->Option R):Option R:=match x with
 | .inl r=>some r
 | .inr s=>k s
def D0f{R S T:Type}(x:R ⊕ S)(k:S->Option (R ⊕ T)):Option (R ⊕ T):=match x with
 | .inl r=>some (.inl r)
 | .inr s=>k s
def Q0:Nat:=9223372036854775808
def J1:List Value->Nat
 | .int _ n::_=>n.toNat
 |_=>0
def s0j(a b:ByteArray):Bool:=a.toList == b.toList
theorem L1{R S:Type}(r:R)(k:S->Option R):t7 (.inl r) k=some r:=rfl
theorem S0{R S:Type}(s:S)(k:S->Option R):t7 (.inr s) k=k s:=rfl
theorem M1{R S T:Type}(r:R)(k:S->Option (R ⊕ T)):D0f (.inl r) k=some (.inl r):=rfl
theorem W0{R S T:Type}(s:S)(k:S->Option (R ⊕ T)):D0f (.inr s) k=k s:=rfl
theorem B0{a b:Type}{o:Option a}{k:a->Option b}{r:b}(h:o.bind k=some r):∃ x,o=some x/\k x=some r:=Option.bind_eq_some_iff.1 h
theorem T0{p:Prop}[Decidable p]{u:Unit}(h:grd p=some u):p:=by
 grind[grd]
theorem Y02{a:Type}{c:Bool}{o:Option a}{d x:a}(h:chk c o d=some x)(b:c=true):o=some x:=by rw[b]at h;exact h
theorem D0t{b:Bool}(h:b=false): ¬ b=true:=by grind
theorem n0m{a:Type}{xs:List a}{i:Int}{x:a}(h:gi xs i=some x):0<=i/\xs[i.toNat]?=some x:=by
 grind[gi]
theorem I0b{a:Type}(xs:List a)(n:Nat):gi xs (n:Int)=xs[n]?:=by simp[gi]
theorem d06{b:Type}{xs a:List b}{l m:Int}(h:W03 xs l m=some a):(0<=l/\l<=m/\m<=(xs.length:Int))/\a=(xs.take m.toNat).drop l.toNat:=by
 grind[W03,oJ]
theorem I0n{a b:ByteArray}:s0j a b=true↔a=b:=by
 constructor
 ·intro h
  have:a.toList=b.toList:=by simpa [s0j] using h
  rw[ByteArray.toList_eq,ByteArray.toList_eq]at this
  have c:a.data=b.data:=Array.toList_inj.1 this
  cases a;cases b;simp only at c;rw[c]
 grind[s0j]
theorem g0p(a b:ByteArray):s0j a b=decide (a=b):=by
 grind[decide_eq_true,I0n,decide_eq_false,s0j,absurd]
theorem I0(x:Int):K0 (IntKind.i64.wrap x):=by
 grind[K0,IntKind.wrap,IntKind.signed,IntKind.bits]
theorem q0g{n:Nat}(h:n<=9223372036854775807):K0 (n:Int):=⟨by omega,by omega⟩
theorem c64{x:Int}(a : -9223372036854775808<=x)(b:x<=9223372036854775807):K0 x:=⟨a,b⟩
theorem T04{a b:ByteArray}(h:a.size+b.size<=9223372036854775807):(a++b).size<=9223372036854775807:=by grind
instance (x:Int):Decidable (K0 x):=inferInstanceAs (Decidable (_/\_))
theorem i8{p:Prop}[Decidable p]{x a:Int}(b:K0 x)(c:K0 a):K0 (if p then x else a):=by split<;>assumption
theorem Sl.getI{a:Type}{r:Rp a}{h:Hp}{v:Value}{xs:List a}(e:Sl r h v xs){i:Int}{x:a}(b:gi xs i=some x)(c:0<r.sz):InB v i/\∃ cs,N4 h v r.sz i cs/\r.R h cs x:=by
 obtain⟨h0,b⟩:=n0m b
 grind[Int.eq_ofNat_of_zero_le,Sl.get]
theorem Sl.getG{a:Type}{r:Rp a}{h:Hp}{v:Value}{xs:List a}(e:Sl r h v xs){c:Bool}{i:Int}{d x:a}(f:chk c (gi xs i) d=some x)(g:0<r.sz)(b:∃ cs,r.R h cs d):
  ∃ cs,(c=true->InB v i/\N4 h v r.sz i cs)/\r.R h cs x:=by
 cases c with
 |true =>
  obtain⟨j,cs,k,l⟩:=Sl.getI e (Y02 f rfl) g
  grind
 |false =>
  obtain⟨cs,b⟩:=b
  cases f
  grind
theorem N4.up{h a:Hp}(s:Sub h a){v:Value}{sz:Nat}{i:Int}{cs:List Value}(e:N4 h v sz i cs):N4 a v sz i cs:=by
 obtain⟨d,f,b,o,n,c,g,k⟩:=e
 exact⟨d,f,b,o,n,c,g,λj v l=>s.cell (k j v l)⟩
theorem r02{n:Nat}{fr:List (Nat×AV)}{bx:List BSt}{ow:List Own}:N0k ⟨n,fr,bx,ow⟩ ⟨n,fr,bx,ow⟩:=⟨rfl,rfl,rfl,[],(List.append_nil _).symm⟩
theorem Sl.rows{b:Type}{r:Rp b}{h:Hp}{a:Option Addr}{n c:Nat}{xs:List b}(e:Sl r h (.slice a n c) xs):∃ vs,SlE h r.sz (.slice a n c) vs/\F2 (r.R h) vs xs:=by
 obtain⟨d,l,f,vs,g,rfl,i,j,k⟩:=e
 grind
theorem Sl.cutI{g:Type}{r:Rp g}{h:Hp}{a:Option Addr}{n c:Nat}{xs b:List g}(e:Sl r h (.slice a n c) xs){l m:Int}(o:W03 xs l m=some b):
  (0<=l/\l<=m/\m<=(n:Int))/\∃ vs,SlE h r.sz (.slice a n c) vs/\∀ v,SlE h r.sz v ((vs.take m.toNat).drop l.toNat)->∃ d f,v = .slice d b.length f/\Sl r h (.slice d b.length f) b:=by
 obtain⟨⟨i,j,k⟩,rfl⟩:=d06 o
 obtain⟨rfl,_⟩:=Sl.len e
 obtain⟨vs,g1,g2⟩:=Sl.cut e
 refine⟨⟨i,j,k⟩,vs,g1,λv hv=>?_⟩
 obtain⟨d,q,f,rfl,g3⟩:=g2 v l.toNat m.toNat (by omega) hv
 obtain⟨p,_⟩:=Sl.len g3
 grind
theorem F2.up{b:Type}{r:Rp b}{h a:Hp}(s:Sub h a){vs:List (List Value)}{xs:List b}(f:F2 (r.R h) vs xs):F2 (r.R a) vs xs:=f.mono λ_ _ q=>r.mono s q
theorem V0.out{g:Type}{r:Rp g}{h b:Hp}{v:Value}{e:Nat}{nn:Bool}{vs:List (List Value)}{xs:List g}(f:V0 h b v e r.sz nn vs)(j:F2 (r.R h) vs xs):
  ∃ a c,v = .slice a xs.length c/\Sl r b (.slice a xs.length c) xs/\Sub h b/\xs.length<=9223372036854775807:=by
 have d:=V0.sl f j
 obtain⟨a,c,rfl,i⟩:=d.slice
 exact⟨a,c,rfl,d,f.sub,i⟩
theorem F2.rep{c d:Type}{p:c->d->Prop}{a:c}{b:d}(h:p a b):∀ n:Nat,F2 p (List.replicate n a) (List.replicate n b)
 |0=>trivial
 |n+1=>⟨h,F2.rep h n⟩
def Rp.u8:Rp Int:=⟨1,λ_ cs x=>cs = [.int .u8 x],λh=>by rw[h];rfl,λh v hv=>by rw[h]at hv;simp at hv;rw[hv];rfl,λ_ h=>h⟩
theorem F2.u8{h:Hp}:∀ {vs:List (List Value)} {xs:List Int},F2 (Rp.u8.R h) vs xs->vs=xs.map λn=>[.int .u8 n]
 | [],[],_=>rfl
 |v::vs,x::xs,f=>by rw[show v = [.int .u8 x] from f.1,F2.u8 f.2];rfl
 | [],_::_,f=>f.elim
 |_::_,[],f=>f.elim
theorem F1{n m by_:Nat}{u:Unit}(g:grd (n*by_<=140737488355328)=some u)(e:m=n):u07 m by_:=by
 subst e
 exact show m*by_<=140737488355328 from T0 g
theorem A4{b:Type}{p:List Value->b->Prop}{vs:List (List Value)}{xs:List b}(f:F2 p vs xs){i:Int}{x:b}(a:gi xs i=some x):(0<=i/\i<(vs.length:Int))/\∃ cs,vs[i.toNat]?=some cs/\p cs x:=by
 obtain⟨h0,a⟩:=n0m a
 obtain⟨cs,g1,g2⟩:=f.get a
 grind
theorem H00{a:Type}{p:List Value->a->Prop}{vs:List (List Value)}{xs:List a}(f:F2 p vs xs){c:Bool}{i:Int}{d x:a}(g:chk c (gi xs i) d=some x)(b:∃ cs,p cs d):
  ∃ cs,(c=true->(0<=i/\i<(vs.length:Int))/\vs[i.toNat]?=some cs)/\p cs x:=by
 cases c with
 |true =>
  obtain⟨h,cs,j,k⟩:=A4 f (Y02 g rfl)
  grind
 |false =>
  obtain⟨cs,b⟩:=b
  cases g
  grind
theorem F2.f3{c:Type}{r:Wp c}{h a:Hp}(b:∀ cs x,r.R h cs x->r.W a cs x []):∀ {vs:List (List Value)} {xs:List c},F2 (r.R h) vs xs->F3 (r.W a) vs xs (xs.map λ_=>[])
 | [],[],_=>trivial
 |_::_,_::_,f=>⟨b _ _ f.1,F2.f3 b f.2⟩
 | [],_::_,f=>f.elim
 |_::_,[],f=>f.elim
theorem V0.newPlain{b:Type}{r:Wp b}{h a:Hp}{v:Value}{e:Nat}{nn:Bool}{vs:List (List Value)}{xs:List b}(f:V0 h a v e r.sz nn vs)(d:F2 (r.R h) vs xs)(c:∀ cs x,r.R h cs x->r.W h cs x []):New r.slice h a [v] xs :=
 V0.fresh (r:=r) (h0:=h) f (F2.f3 c d) (Sub.refl _) (by grind[o0j,c6.nil])
theorem d07(h:Hp)(cs:List Value)(x:Int)(q:Wp.int.R h cs x):Wp.int.W h cs x []:=⟨q,rfl⟩
theorem h0e(h:Hp):∃ cs,Wp.int.R h cs 0:=⟨_,rfl,by decide,by decide⟩
theorem s0s(h:Hp):∃ cs,Wp.bool.R h cs false:=⟨_,rfl⟩
theorem Z02{a:Type}(r:Wp a)(h:Hp):r.slice.R h [.slice none 0 0] []:=New.nilSlice.r
theorem h0p{a:Type}(r:Wp a)(h:Hp):∃ cs,r.slice.R h cs []:=⟨_,Z02 r h⟩
end Go.H
