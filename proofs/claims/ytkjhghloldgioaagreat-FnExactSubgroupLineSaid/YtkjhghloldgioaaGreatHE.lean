/- The library of the walks, part HE: plain laws over the model. -/
import Derived.Test.YtkjhghloldgioaaGreatHD
import Derived.Deep.Slices
import Derived.ChangeArms
import Derived.WideShapes
import Derived.Laws.Strings
namespace Go.H
set_option linter.unusedVariables false
set_option linter.unusedSimpArgs false
def r0k:Op->Bool
 | .move _ | .assign _ | .load .. | .binOp .. | .unOp .. | .index .. | .field .. | .fieldAddr .. | .indexAddr .. | .pick .. | .build .. | .convert ..=>true
 |_=>false
def X09(b:Bool)(st:St)(K:St->Prop):Prop:=match b with
 |true=>K st
 |false=>match st with
  |⟨n,fr,bx,ow⟩=>G7 bx λbx=>G7 ow λow=>K ⟨n,fr,bx,ow⟩
theorem G0d(b:Bool)(st:St)(K:St->Prop):X09 b st K=K st:=by
 cases b
 ·obtain⟨n,fr,bx,ow⟩:=st
  simp only[X09,X01]
 ·rfl
def g0h(d:Option Tmp)(i:Nat)(ch:List (Nat×Bool))(av:AV)(rs:RS)(K:RS->Prop):Prop:=match rs with
 |⟨⟨n,fr,bx,ow⟩,h,gf,bs⟩=>match d with
  |none=>K ⟨⟨n,fr,bx,ow⟩,h,gf,bs⟩
  |some d=>match Nat.blt d n,X06 ⟨⟨n,fr,bx,ow⟩,h,gf,bs⟩ d with
   |true,false=>match ch with
    | []=>U00 av λav=>match av with
     | .val (.bool e)=>K ⟨⟨n,(d,.val (.bool e))::fr,bx,ow⟩,h,gf,⟨i,d,e,[]⟩::bs⟩
     |_=>K ⟨⟨n,(d,av)::fr,bx,ow⟩,h,gf,bs⟩
    |p::ch=>U00 av λav=>match av with
     | .val (.bool e)=>K ⟨⟨n,(d,.dead)::fr,bx,ow⟩,h,(d,p::ch,.val (.bool e))::gf,⟨i,d,e,p::ch⟩::bs⟩
     |_=>K ⟨⟨n,(d,.dead)::fr,bx,ow⟩,h,(d,p::ch,av)::gf,bs⟩
   |_,_=>False
theorem h0h(d:Option Tmp)(i:Nat)(ch:List (Nat×Bool))(av:AV)(rs:RS)(K:RS->Prop):g0h d i ch av rs K=c0d d i ch av rs K:=by
 obtain⟨⟨n,fr,bx,ow⟩,h,gf,bs⟩:=rs
 cases d with
 |none=>rfl
 |some d =>
  simp only[g0h,c0d]
  generalize X06 _ d=u
  generalize Nat.blt d n=b
  cases b
  ·rfl
  cases u
  ·cases ch with
   |nil =>
    simp only[A02]
    cases av with
    |val v=>cases v<;>rfl
    |_=>rfl
   |cons p ch =>
    simp only[A02]
    cases av with
    |val v=>cases v<;>rfl
    |_=>rfl
  ·rfl
def c0b(P:Program)(l:List Oper):Nat->RS->(RS->Prop)->Prop :=
 List.rec (motive:=λ_=>Nat->RS->(RS->Prop)->Prop) (λ_ rs K=>K rs) (λo _ ih i rs K=>match rs with
  |⟨⟨n,fr,bx,ow⟩,h,gf,bs⟩=>match o.guard,b0k o.op with
   |none,false=>F7 P o ⟨n,fr,bx,ow⟩ h λav st h=>X09 (r0k o.op) st λst=>g0h o.dst i [] av ⟨st,h,gf,bs⟩ λrs=>ih (i+1) rs K
   |_,_=>match c00 bs o.guard with
    |some ch=>match cB bs ch with
     |some c=>evG P o ch c ⟨⟨n,fr,bx,ow⟩,h,gf,bs⟩ λav=>g0h o.dst i ch av ⟨⟨n,fr,bx,ow⟩,h,gf,bs⟩ λrs=>ih (i+1) rs K
     |none=>False
    |none=>False) l
theorem J0i(P:Program)(o:Oper)(r:List Oper)(i n:Nat)(fr:List (Nat×AV))(bx:List BSt)(ow:List Own)(h:Hp)(gf:List (Nat×List (Nat×Bool)×AV))(bs:List BE)(K:RS->Prop):
  c0b P (o::r) i ⟨⟨n,fr,bx,ow⟩,h,gf,bs⟩ K=match o.guard,b0k o.op with
   |none,false=>F7 P o ⟨n,fr,bx,ow⟩ h λav st h=>X09 (r0k o.op) st λst=>g0h o.dst i [] av ⟨st,h,gf,bs⟩ λrs=>c0b P r (i+1) rs K
   |_,_=>match c00 bs o.guard with
    |some ch=>match cB bs ch with
     |some c=>evG P o ch c ⟨⟨n,fr,bx,ow⟩,h,gf,bs⟩ λav=>g0h o.dst i ch av ⟨⟨n,fr,bx,ow⟩,h,gf,bs⟩ λrs=>c0b P r (i+1) rs K
     |none=>False
    |none=>False:=rfl
theorem O0f(P:Program):∀(l:List Oper) (i:Nat) (rs:RS) (K:RS->Prop),c0b P l i rs K=R0b P l i rs K
 | [],i,rs,K=>rfl
 |o::r,i,⟨⟨n,fr,bx,ow⟩,h,gf,bs⟩,K=>by
  simp only[J0i,R0b,G0d,h0h,O0f P r]
  rfl
def x0o(P:Program)(l:List Oper):Nat->RS->(RS->Prop)->Prop :=
 List.rec (motive:=λ_=>Nat->RS->(RS->Prop)->Prop) (λ_ rs K=>K rs) (λo _ ih i rs K=>match rs with
  |⟨⟨n,fr,bx,ow⟩,h,gf,bs⟩=>match c00 bs o.guard with
   |some ch=>match cB bs ch with
    |some c=>evG P o ch c ⟨⟨n,fr,bx,ow⟩,h,gf,bs⟩ λav=>g0h o.dst i ch av ⟨⟨n,fr,bx,ow⟩,h,gf,bs⟩ λrs=>ih (i+1) rs K
    |none=>False
   |none=>False) l
theorem V0m(P:Program)(o:Oper)(r:List Oper)(i n:Nat)(fr:List (Nat×AV))(bx:List BSt)(ow:List Own)(h:Hp)(gf:List (Nat×List (Nat×Bool)×AV))(bs:List BE)(K:RS->Prop):
  x0o P (o::r) i ⟨⟨n,fr,bx,ow⟩,h,gf,bs⟩ K=match c00 bs o.guard with
   |some ch=>match cB bs ch with
    |some c=>evG P o ch c ⟨⟨n,fr,bx,ow⟩,h,gf,bs⟩ λav=>g0h o.dst i ch av ⟨⟨n,fr,bx,ow⟩,h,gf,bs⟩ λrs=>x0o P r (i+1) rs K
    |none=>False
   |none=>False:=rfl
theorem z0l(P:Program):∀(l:List Oper) (i:Nat) (rs:RS) (K:RS->Prop),x0o P l i rs K=evQ P l i rs K
 | [],i,rs,K=>rfl
 |o::r,i,⟨⟨n,fr,bx,ow⟩,h,gf,bs⟩,K=>by
  simp only[V0m,evQ,h0h,z0l P r]
  rfl
def M0c:List (Nat×AV)->(List (Nat×AV)->Prop)->Prop
 | [],K=>K []
 |(s,av)::r,K=>U00 av λav=>M0c r λr=>K ((s,av)::r)
theorem H0d:∀(l:List (Nat×AV)) (K:List (Nat×AV)->Prop),M0c l K=K l
 | [],K=>rfl
 |(s,av)::r,K=>by simp only[M0c,A02,H0d r]
def s0q{α:Type}:List α->List α->(List α->Prop)->Prop
 | [],b,K=>K b
 |x::r,b,K=>s0q r b λl=>K (x::l)
theorem A0l{α:Type}:∀(a b:List α) (K:List α->Prop),s0q a b K=K (a++b)
 | [],b,K=>rfl
 |x::r,b,K=>by simp only[s0q,A0l r,List.cons_append]
def B0r(A:Ann)(dyn sta:List (Nat×AV))(st0:St)(I:O0a)(μ:E06)(vs0:List Value)(m:Nat)(st:St)(h:Hp):Prop :=
 match Nat.beq st.n st0.n,U0b st0 st dyn with
 |true,true=>x0f st.fr sta=F0m sta/\M0a A st0 st 0 st0.bx st.bx/\N0a A 0 st0.ow st.ow /\
   g0k A st λvs os=>G7 vs λvs=>match e0q vs vs0 with
    |true=>b07 A.vars.length vs λ_ v2=>A05 A.boxes v2 st0.bx λ_=>B05 A.owns os st0.ow λ_=>f0q A I μ m vs os h
    |false=>False
 |_,_=>False
theorem t0q(A:Ann)(dyn sta:List (Nat×AV))(st0:St)(I:O0a)(μ:E06)(vs0:List Value)(m:Nat)(st:St)(h:Hp):
  B0r A dyn sta st0 I μ vs0 m st h=d0o A dyn sta st0 I μ vs0 m st h:=by
 simp only[B0r,d0o,X01]
 rfl
def d0c(body:(Ex->St->Hp->Prop)->St->Hp->Prop)(ds0:List Nat)(Q:Ex->St->Hp->Prop)(h:Hp)(A:Ann)(I:O0a)(μ:E06)(st:St):Prop:=match st with
 |⟨n,fr,bx,ow⟩=>G7 fr λfr=>G7 bx λbx0=>G7 ow λow0=>g0k A ⟨n,fr,bx0,ow0⟩ λvs0 os0=>G7 vs0 λvs0=>i0i A I vs0 os0 h /\
  K0a ds0 λds=>x08 A ⟨n,fr,bx0,ow0⟩ ds [] λdyn=>C05 A ds ⟨n,fr,bx0,ow0⟩ fr λsta=>M0c sta λsta=>s0q dyn sta λds2 =>
   C09 vs0.length λvs=>D09 os0.length λos=>j0i A I μ vs os λm h' =>
    b07 A.vars.length vs λv1 v2=>A05 A.boxes v2 bx0 λbx=>B05 A.owns os ow0 λow=>G7 (L0a A.vars v1 ds2) λfr1=>G7 bx λbx=>G7 ow λow =>
     body (λe st' h''=>match e with
      | .normal=>g0i A.pubs st' h'' λst' h''=>B0r A dyn sta ⟨n,fr,bx0,ow0⟩ I μ vs m st' h''
      |e=>Q e st' h'') ⟨n,fr1,bx,ow⟩ h'
def i0h(body:(Ex->St->Hp->Prop)->St->Hp->Prop)(ds0:List Nat)(Q:Ex->St->Hp->Prop)(st:St)(h:Hp):Prop :=
 ∃(A:Ann) (I:O0a) (μ:E06),f0i A.nils st λst=>j0d A.nilsB st λst=>g0i A.pubs st h λst h=>d0c body ds0 Q h A I μ st
theorem W0m(body:(Ex->St->Hp->Prop)->St->Hp->Prop)(ds0:List Nat)(Q:Ex->St->Hp->Prop)(st:St)(h:Hp):i0h body ds0 Q st h=m0l body ds0 Q st h:=by
 have hB:∀ h A I μ,d0c body ds0 Q h A I μ=λst=>g0k A st λvs0 os0=>i0i A I vs0 os0 h /\
  K0a ds0 λds=>x08 A st ds [] λdyn=>C05 A ds st st.fr λsta =>
   C09 vs0.length λvs=>D09 os0.length λos=>j0i A I μ vs os λm h' =>
    b07 A.vars.length vs λv1 v2=>A05 A.boxes v2 st.bx λbx=>B05 A.owns os st.ow λow =>
     body (λe st' h''=>match e with
      | .normal=>g0i A.pubs st' h'' λst' h''=>d0o A dyn sta st I μ vs m st' h''
      |e=>Q e st' h'') ⟨st.n,L0a A.vars v1 (dyn++sta),bx,ow⟩ h':=by
  intro h A I μ
  funext st
  obtain⟨n,fr,bx0,ow0⟩:=st
  simp only[d0c,X01,H0d,A0l,t0q]
 simp only[i0h,m0l,hB]
 rfl
def I0d(P:Program)(o:Oper)(st:St)(h:Hp)(K:St->Hp->Prop):Prop:=match st with
 |⟨n,fr,bx,ow⟩=>F7 P o ⟨n,fr,bx,ow⟩ h λav st h=>X09 (r0k o.op) st λst=>g0h o.dst 0 [] av ⟨st,h,[],[]⟩ λrs=>match rs with
  |⟨st,h,_,_⟩=>K st h
theorem K0i(P:Program)(o:Oper):I0d P o=r03 P o:=by
 funext st h K
 obtain⟨n,fr,bx,ow⟩:=st
 simp only[I0d,r03,G0d,h0h]
theorem X0m(P:Program):I0d P=r03 P:=funext (K0i P)
def evF(P:Program)(c:Code):(Ex->St->Hp->Prop)->St->Hp->Prop :=
 Code.rec (motive:=λ_=>(Ex->St->Hp->Prop)->St->Hp->Prop)
  (λQ st h=>Q .normal st h)
  (λ_ ops d Q st h=>match d with
   |false=>match b0q P ops.toList with
    |true=>k03 st.n ops.toList=true/\evU P ops.toList 0 [] [] st h λst h=>Q .normal st h
    |false=>c0b P ops.toList 0 ⟨st,h,[],[]⟩ λrs=>match rs with
     |⟨st,h,_,_⟩=>Q .normal st h
   |true=>((P.follows .mixedOrders=true/\Region.lexB .any ops=true) /\
     x0o P ops.toList 0 ⟨st,h,[],[]⟩ λrs=>match rs with
      |⟨st,h,_,_⟩=>Q .normal st h) ∨
     False ∨
     (match W0n ops.toList with
    |none=>(P.follows .mixedOrders=true/\s02 st.n ops.toList=true)/\e03 P st h ops.toList 0 [] [] [] λL X E=>evD (A9 L st ops.toList) ops.size P X E L st h λst h=>Q .normal st h
    |some o=>(P.follows .mixedOrders=true/\(s02 st.n (T00 ops.toList)&&S0b ops.toList 0)=true)/\e03 P st h (T00 ops.toList) 0 [] [] [] λL X E=>evD (A9 L st (T00 ops.toList)) (T00 ops.toList).length P X E L st h λst h=>I0d P o st h λst h=>Q .normal st h) ∨
     ((P.follows .mixedOrders=true/\k03 st.n ops.toList=true)/\evU P ops.toList 0 [] [] st h λst h=>Q .normal st h) ∨
     (∃ m,(P.follows .mixedOrders=true/\okZ P st.n m ops.toList=true)/\evT P (I0d P) m ops.toList st h λst h=>Q .normal st h))
  (λ_ _ iha ihb Q st h=>iha (λe st h=>match e with
   | .normal=>ihb Q st h
   |e=>Q e st h) st h)
  (λc _ _ ihx ihy Q st h=>match rdO st c with
   | .val (.bool b)=>e0o b (ihx Q st h) (ihy Q st h)
   |_=>False)
  (λid _ ih Q st h=>ih (λe st h=>match e with
   | .exit i=>match Nat.beq i id with
    |true=>Q .normal st h
    |false=>Q (.exit i) st h
   |e=>Q e st h) st h)
  (λbody ih Q st h=>i0h (λQ=>ih Q) (b0f body []) Q st h)
  (λ_ _ _ _ _ _ _ _ _=>False)
  (λid Q st h=>Q (.exit id) st h)
  (λ_ _ _ _ _=>False)
  (λ_ _ _ _=>False)
  (λ_ _ _ _=>False)
  (λQ st h=>Q .ret st h)
  (λ_ _ _ _=>False) c
theorem C0r(P:Program)(c:Code):evF P c=ev P c:=by
  induction c with
  |region id ops d =>
    funext Q st h
    cases d
    · show(match b0q P ops.toList with
        |true=>k03 st.n ops.toList=true/\evU P ops.toList 0 [] [] st h λst h=>Q .normal st h
        |false=>c0b P ops.toList 0 ⟨st,h,[],[]⟩ λrs=>match rs with
          |⟨st,h,_,_⟩=>Q .normal st h)=_
      simp only[ev,O0f]
      rfl
    · show(((P.follows .mixedOrders=true/\Region.lexB .any ops=true) /\
          x0o P ops.toList 0 ⟨st,h,[],[]⟩ λrs=>match rs with
            |⟨st,h,_,_⟩=>Q .normal st h) ∨
          False ∨
          (match W0n ops.toList with
        |none=>(P.follows .mixedOrders=true/\s02 st.n ops.toList=true)/\e03 P st h ops.toList 0 [] [] [] λL X E=>evD (A9 L st ops.toList) ops.size P X E L st h λst h=>Q .normal st h
        |some o=>(P.follows .mixedOrders=true/\(s02 st.n (T00 ops.toList)&&S0b ops.toList 0)=true)/\e03 P st h (T00 ops.toList) 0 [] [] [] λL X E=>evD (A9 L st (T00 ops.toList)) (T00 ops.toList).length P X E L st h λst h=>I0d P o st h λst h=>Q .normal st h) ∨
          ((P.follows .mixedOrders=true/\k03 st.n ops.toList=true)/\evU P ops.toList 0 [] [] st h λst h=>Q .normal st h) ∨
          (∃ m,(P.follows .mixedOrders=true/\okZ P st.n m ops.toList=true)/\evT P (I0d P) m ops.toList st h λst h=>Q .normal st h))=_
      simp only[ev,z0l,K0i,X0m]
      rfl
  |seq a b iha ihb =>
    funext Q st h
    show evF P a (λe st h=>match e with
      | .normal=>evF P b Q st h
      |e=>Q e st h) st h=_
    simp only[ev,iha,ihb];rfl
  |cond c x y ihx ihy =>
    funext Q st h
    show(match rdO st c with
      | .val (.bool b)=>e0o b (evF P x Q st h) (evF P y Q st h)
      |_=>False)=_
    simp only[ev,ihx,ihy];rfl
  |block id c ih =>
    funext Q st h
    show evF P c (λe st h=>match e with
      | .exit i=>match Nat.beq i id with
        |true=>Q .normal st h
        |false=>Q (.exit i) st h
      |e=>Q e st h) st h=_
    simp only[ev,ih];rfl
  |loop c ih =>
    funext Q st h
    show i0h (λQ=>evF P c Q) (b0f c []) Q st h=_
    simp only[ev,ih,W0m]
  |_=>rfl
def S0q(P:Program)(fn:Func)(args:List Value)(h:Hp)(T:Value->Hp->Prop):Prop :=
 match fn.body with
 |some c=>match Nat.ble args.length fn.ntmps with
  |true=>G7 (E09 0 args) λfr=>evF P c (λe st h=>match e with
   | .exit _=>False
   |_=>j0k P fn.results.toList st h λvs _ h=>T (k0i vs) h) ⟨fn.ntmps,fr,[],[]⟩ h
  |false=>False
 |none=>False
theorem O2{P:Program}{f:FuncId}{fn:Func}{args:List Value}{h:Hp}{T:Value->Hp->Prop}(hf:P.funcs[f]?=some fn)(he:S0q P fn args h T):Tr P f args.toArray h T:=by
 refine q0k hf ?_
 unfold S0q at he
 unfold s0r
 simp only[X01,C0r]at he
 exact he
end Go.H
namespace Go.H
set_option linter.unusedVariables false
theorem Sub.refl(h:Hp):Sub h h:=λ_ _ e=>e
theorem Sub.trans{h h1 h2:Hp}(a:Sub h h1)(b:Sub h1 h2):Sub h h2:=λx o e=>b x o (a x o e)
theorem Sub.set{h:Hp}{b:Nat}{o:Obj}(hb:h b=none):Sub h (h.set b o):=λx y e=>by
 have:x≠b:=λhe=>by rw[he,hb]at e;cases e
 rw[Hp.set_other h o this];exact e
theorem Sub.cell{h h':Hp}(s:Sub h h'){b o:Nat}{v:Value}(hc:Hp.cell h b o=some v):Hp.cell h' b o=some v:=by
 unfold Hp.cell at hc ⊢
 split at hc
 ·rename_i ho;rw[s _ _ ho];exact hc
 ·cases hc
theorem SlE.mono{h h':Hp}(s:Sub h h'){sz:Nat}{v:Value}{xs:List (List Value)}(e:SlE h sz v xs):SlE h' sz v xs:=by
 obtain⟨h1,a,n,c,h2,h3,h4,h5⟩:=e
 refine⟨h1,a,n,c,h2,h3,h4,h5.imp id ?_⟩
 rintro⟨b,o,ha,hc⟩
 exact⟨b,o,ha,λj v hj=>s.cell (hc j v hj)⟩
theorem U0.sub{h h':Hp}{v:Value}{e sz:Nat}{nn:Bool}{xs:List (List Value)}(f:U0 h h' v e sz nn xs):Sub h h':=by
 rcases f.2 with⟨_,_,_,rfl⟩|⟨g,cap,cur,_,hg,rfl,_⟩
 ·exact Sub.refl _
 ·exact Sub.set hg
theorem U0.sle{h h':Hp}{v:Value}{e sz:Nat}{nn:Bool}{xs:List (List Value)}(f:U0 h h' v e sz nn xs):SlE h' sz v xs:=by
 refine⟨f.1,?_⟩
 rcases f.2 with⟨rfl,rfl,_,rfl⟩|⟨g,cap,cur,rfl,hg,rfl,h1,h2,h3,h4⟩
 ·exact⟨none,0,0,rfl,rfl,Nat.le_refl _,.inl rfl⟩
 ·refine⟨_,_,_,rfl,rfl,h1,.inr ⟨g,0,rfl,λj v hj=>?_⟩⟩
  rw[←h4,List.getElem?_take]at hj
  split at hj
  ·simpa [Hp.cell,Hp.set_same] using hj
  ·cases hj
theorem U0.slice{h h':Hp}{v:Value}{e sz:Nat}{nn:Bool}{xs:List (List Value)}(f:U0 h h' v e sz nn xs):∃ a c,v = .slice a xs.length c/\xs.length<=maxLen:=by
 rcases f.2 with⟨rfl,rfl,_,rfl⟩|⟨g,cap,cur,rfl,hg,rfl,h1,h2,h3,h4⟩
 ·exact⟨none,0,rfl,Nat.zero_le _⟩
 ·exact⟨_,_,rfl,Nat.le_trans h1 h2⟩
def F2{α β:Type}(p:α->β->Prop):List α->List β->Prop
 | [],[]=>True
 |a::as,b::bs=>p a b/\F2 p as bs
 |_,_=>False
theorem F2.length{α β:Type}{p:α->β->Prop}:∀ {as:List α} {bs:List β},F2 p as bs->as.length=bs.length
 | [],[],_=>rfl
 |_::as,_::bs,h=>by simp[F2.length h.2]
 | [],_::_,h=>h.elim
 |_::_,[],h=>h.elim
theorem F2.get{α β:Type}{p:α->β->Prop}:∀ {as:List α} {bs:List β} {i:Nat} {b:β},F2 p as bs->bs[i]?=some b->∃ a,as[i]?=some a/\p a b
 |a::as,b::bs,0,b',h,hb=>by cases hb;exact⟨a,rfl,h.1⟩
 |a::as,b::bs,i+1,b',h,hb=>by
  obtain⟨x,h1,h2⟩:=F2.get (i:=i) h.2 (by simpa using hb)
  exact⟨x,by simpa using h1,h2⟩
 | [],[],i,b',h,hb=>by simp at hb
 | [],_::_,_,_,h,_=>h.elim
 |_::_,[],_,_,h,_=>h.elim
theorem F2.mono{α β:Type}{p q:α->β->Prop}(hpq:∀ a b,p a b->q a b):∀ {as:List α} {bs:List β},F2 p as bs->F2 q as bs
 | [],[],_=>trivial
 |_::as,_::bs,h=>⟨hpq _ _ h.1,F2.mono hpq h.2⟩
 | [],_::_,h=>h.elim
 |_::_,[],h=>h.elim
theorem F2.snoc{α β:Type}{p:α->β->Prop}{a:α}{b:β}(hab:p a b):∀ {as:List α} {bs:List β},F2 p as bs->F2 p (as ++ [a]) (bs ++ [b])
 | [],[],_=>⟨hab,trivial⟩
 |_::as,_::bs,h=>⟨h.1,F2.snoc hab h.2⟩
 | [],_::_,h=>h.elim
 |_::_,[],h=>h.elim
theorem F2.set{α β:Type}{p:α->β->Prop}{a:α}{b:β}(hab:p a b):∀ {as:List α} {bs:List β} (i:Nat),F2 p as bs->F2 p (as.set i a) (bs.set i b)
 | [],[],_,_=>trivial
 |_::as,_::bs,0,h=>⟨hab,h.2⟩
 |_::as,_::bs,i+1,h=>⟨h.1,F2.set hab i h.2⟩
 | [],_::_,_,h=>h.elim
 |_::_,[],_,h=>h.elim
structure Rp (α:Type) where
 sz:Nat
 R:Hp->List Value->α->Prop
 len:∀ {h cs x},R h cs x->cs.length=sz
 one:∀ {h cs x},R h cs x->∀ v∈cs,v.oneCell'=true
 mono:∀ {h h' cs x},Sub h h'->R h cs x->R h' cs x
def Rp.int:Rp Int:=⟨1,λ_ cs x=>cs = [.int .i64 x]/\P0 x,λh=>by rw[h.1];rfl,λh v hv=>by rw[h.1]at hv;simp at hv;rw[hv];rfl,λ_ h=>h⟩
def Rp.bool:Rp Bool:=⟨1,λ_ cs x=>cs = [.bool x],λh=>by rw[h];rfl,λh v hv=>by rw[h]at hv;simp at hv;rw[hv];rfl,λ_ h=>h⟩
def Rp.str:Rp ByteArray:=⟨1,λ_ cs x=>cs = [.string x]/\x.size<=9223372036854775807,λh=>by rw[h.1];rfl,λh v hv=>by rw[h.1]at hv;simp at hv;rw[hv];rfl,λ_ h=>h⟩
def Rp.pair{α β:Type}(r:Rp α)(q:Rp β):Rp (α×β) where
 sz:=r.sz+q.sz
 R:=λh cs x=>∃ c1 c2,cs=c1++c2/\r.R h c1 x.1/\q.R h c2 x.2
 len:=by rintro h cs x ⟨c1,c2,rfl,h1,h2⟩;rw[List.length_append,r.len h1,q.len h2]
 one:=by
  rintro h cs x ⟨c1,c2,rfl,h1,h2⟩ v hv
  rcases List.mem_append.1 hv with hv|hv
  ·exact r.one h1 v hv
  ·exact q.one h2 v hv
 mono:=by rintro h h' cs x s ⟨c1,c2,rfl,h1,h2⟩;exact⟨c1,c2,rfl,r.mono s h1,q.mono s h2⟩
def Rp.slice{α:Type}(r:Rp α):Rp (List α) where
 sz:=1
 R:=λh cs xs=>∃ a n c vs,cs = [.slice a n c]/\n=xs.length/\n<=9223372036854775807/\SlE h r.sz (.slice a n c) vs/\F2 (r.R h) vs xs
 len:=by rintro h cs x ⟨a,n,c,vs,rfl,_⟩;rfl
 one:=by rintro h cs x ⟨a,n,c,vs,rfl,_⟩ v hv;simp at hv;rw[hv];rfl
 mono:=by rintro h h' cs x s ⟨a,n,c,vs,rfl,h1,h2,h3,h4⟩;exact⟨a,n,c,vs,rfl,h1,h2,h3.mono s,h4.mono λ_ _ h=>r.mono s h⟩
def Sl{α:Type}(r:Rp α)(h:Hp)(v:Value)(xs:List α):Prop:=r.slice.R h [v] xs
abbrev Y0m(h:Hp)(v:Value)(xs:List Int):Prop:=Sl .int h v xs
theorem Sl.mono{α:Type}{r:Rp α}{h h':Hp}(s:Sub h h'){v:Value}{xs:List α}(e:Sl r h v xs):Sl r h' v xs:=r.slice.mono s e
theorem Sl.slice{α:Type}{r:Rp α}{h:Hp}{v:Value}{xs:List α}(e:Sl r h v xs):∃ a c,v = .slice a xs.length c/\xs.length<=9223372036854775807:=by
 obtain⟨a,n,c,vs,e1,rfl,e3,⟨_,a',n',c',e4,_,e5,_⟩,_⟩:=e
 cases e1
 cases e4
 exact⟨a,c,rfl,e3⟩
theorem Sl.len{α:Type}{r:Rp α}{h:Hp}{a:Option Addr}{n c:Nat}{xs:List α}(e:Sl r h (.slice a n c) xs):n=xs.length/\n<=9223372036854775807:=by
 obtain⟨a',c',h1,h2⟩:=e.slice
 cases h1
 exact⟨rfl,h2⟩
theorem Sl.get{α:Type}{r:Rp α}{h:Hp}{v:Value}{xs:List α}(e:Sl r h v xs){i:Nat}{x:α}(hx:xs[i]?=some x)(hsz:0<r.sz):
  InB v i/\∃ cs,d00 h v r.sz i cs/\r.R h cs x:=by
 obtain⟨a,n,c,vs,e1,rfl,e3,⟨e4,a',n',c',e5,e6,e7,e8⟩,e9⟩:=e
 cases e1
 cases e5
 obtain⟨cs,h1,h2⟩:=e9.get hx
 have hlen:=e9.length
 obtain⟨hi,hx'⟩:=List.getElem?_eq_some_iff.1 hx
 have hall:∀ x∈vs,x.length=r.sz:=λx hx=>(e4 x hx).1
 have hcs:cs.length=r.sz:=r.len h2
 rcases e8 with e8|⟨b,o,rfl,e8⟩
 ·exfalso
  cases cs with
  |nil=>simp at hcs;omega
  |cons z cs =>
   have:=t03 vs i (z::cs) hall h1 0 z rfl
   rw[e8]at this
   simp at this
 ·refine⟨⟨b,o,_,_,rfl,by omega,by omega⟩,cs,⟨hcs,by omega,b,o,_,_,rfl,λj v hj=>?_⟩,h2⟩
  have:=e8 _ _ (t03 vs i cs hall h1 j v hj)
  rw[show o+(i:Int).toNat*r.sz+j=o+(i*r.sz+j) from by simp[Nat.add_assoc]]
  exact this
theorem getD_some{α:Type}{xs:List α}{i:Nat}(d:α)(h:i<xs.length):xs[i]?=some (xs.getD i d):=by
 rw[List.getD_eq_getElem?_getD]
 simp[h]
theorem Y0m.get{h:Hp}{v:Value}{xs:List Int}(e:Y0m h v xs){i:Nat}(hi:i<xs.length):InB v i/\d00 h v 1 i [.int .i64 (xs.getD i 0)]/\P0 (xs.getD i 0):=by
 obtain⟨h1,cs,h2,h3,h4⟩:=Sl.get e (getD_some 0 hi) Nat.zero_lt_one
 subst h3
 exact⟨h1,h2,h4⟩
theorem U0.sl{α:Type}{r:Rp α}{h h':Hp}{v:Value}{e:Nat}{nn:Bool}{vs:List (List Value)}{xs:List α}(f:U0 h h' v e r.sz nn vs)(hr:F2 (r.R h) vs xs):Sl r h' v xs:=by
 obtain⟨a,c,rfl,hc⟩:=f.slice
 have hl:=hr.length
 refine⟨a,_,c,vs,rfl,hl,by simpa [maxLen] using hc,f.sle,hr.mono λ_ _ h=>r.mono f.sub h⟩
theorem Tr.forget{P:Program}{f:FuncId}{args:Array Value}{h:Hp}{x:Value}(t:Tr P f args h λv h'=>v=x/\Sub h h'):Tr P f args h λv h'=>v=x/\h'=h :=
 ⟨λw hv=>(t.run w hv).mono λ_ _ ⟨v,h',he,⟨hx,hs⟩,hm⟩=>⟨v,h,he,⟨hx,rfl⟩,hm.less hs⟩⟩
end Go.H
namespace Go.H
set_option linter.unusedVariables false
structure Wp (α:Type) extends Rp α where
 W:Hp->List Value->α->List Nat->Prop
 toR:∀ {h cs x B},W h cs x B->R h cs x
 dom:∀ {h cs x B},W h cs x B->∀ b∈B,h b≠none
 frame:∀ {h h' cs x B},W h cs x B->(∀ b∈B,h' b=h b)->W h' cs x B
def Wp.plain{α:Type}(r:Rp α)(hr:∀ h h' cs x,r.R h cs x->r.R h' cs x):Wp α :=
 { r with W:=λh cs x B=>r.R h cs x/\B = [],toR:=λh=>h.1,dom:=(λh b hb=>by rw[h.2]at hb;cases hb),frame:=λh _=>⟨hr _ _ _ _ h.1,h.2⟩ }
def Wp.int:Wp Int := .plain .int λ_ _ _ _ h=>h
def Wp.bool:Wp Bool := .plain .bool λ_ _ _ _ h=>h
def Wp.str:Wp ByteArray := .plain .str λ_ _ _ _ h=>h
def Wp.pair{α β:Type}(r:Wp α)(q:Wp β):Wp (α×β) :=
 { Rp.pair r.toRp q.toRp with
  W:=λh cs x B=>∃ c1 c2 B1 B2,cs=c1++c2/\B=B1++B2/\r.W h c1 x.1 B1/\q.W h c2 x.2 B2
  toR:=λ⟨c1,c2,B1,B2,e1,_,h1,h2⟩=>⟨c1,c2,e1,r.toR h1,q.toR h2⟩
  dom:=λ⟨c1,c2,B1,B2,_,e2,h1,h2⟩ b hb=>by
   subst e2
   rcases List.mem_append.1 hb with hb|hb
   ·exact r.dom h1 b hb
   ·exact q.dom h2 b hb
  frame:=λ⟨c1,c2,B1,B2,e1,e2,h1,h2⟩ hf=>by
   subst e2
   exact⟨c1,c2,B1,B2,e1,rfl,r.frame h1 λb hb=>hf b (List.mem_append_left _ hb),q.frame h2 λb hb=>hf b (List.mem_append_right _ hb)⟩ }
def F3{α β γ:Type}(p:α->β->γ->Prop):List α->List β->List γ->Prop
 | [],[],[]=>True
 |a::as,b::bs,c::cs=>p a b c/\F3 p as bs cs
 |_,_,_=>False
theorem F3.f2{α β γ:Type}{p:α->β->γ->Prop}{q:α->β->Prop}(hpq:∀ a b c,p a b c->q a b):∀ {as:List α} {bs:List β} {cs:List γ},F3 p as bs cs->F2 q as bs
 | [],[],[],_=>trivial
 |_::as,_::bs,_::cs,h=>⟨hpq _ _ _ h.1,F3.f2 hpq h.2⟩
 | [],[],_::_,h=>h.elim
 | [],_::_,_,h=>h.elim
 |_::_,[],_,h=>h.elim
 |_::_,_::_,[],h=>h.elim
theorem F3.mono{α β γ:Type}{p q:α->β->γ->Prop}:∀ {as:List α} {bs:List β} {cs:List γ},(∀ a b c,c∈cs->p a b c->q a b c)->F3 p as bs cs->F3 q as bs cs
 | [],[],[],_,_=>trivial
 |_::as,_::bs,_::cs,hpq,h=>⟨hpq _ _ _ mS h.1,F3.mono (λa b c hc=>hpq a b c (mC _ hc)) h.2⟩
 | [],[],_::_,_,h=>h.elim
 | [],_::_,_,_,h=>h.elim
 |_::_,[],_,_,h=>h.elim
 |_::_,_::_,[],_,h=>h.elim
theorem F3.snoc{α β γ:Type}{p:α->β->γ->Prop}{a:α}{b:β}{c:γ}(hab:p a b c):∀ {as:List α} {bs:List β} {cs:List γ},F3 p as bs cs->F3 p (as ++ [a]) (bs ++ [b]) (cs ++ [c])
 | [],[],[],_=>⟨hab,trivial⟩
 |_::as,_::bs,_::cs,h=>⟨h.1,F3.snoc hab h.2⟩
 | [],[],_::_,h=>h.elim
 | [],_::_,_,h=>h.elim
 |_::_,[],_,h=>h.elim
 |_::_,_::_,[],h=>h.elim
theorem F3.mem{α β γ:Type}{p:α->β->γ->Prop}:∀ {as:List α} {bs:List β} {cs:List γ} {c:γ},F3 p as bs cs->c∈cs->∃ a b,p a b c
 |_::as,_::bs,_::cs,c,h,hc=>by
  rcases List.mem_cons.1 hc with rfl|hc
  ·exact⟨_,_,h.1⟩
  ·exact F3.mem h.2 hc
 | [],[],[],c,_,hc=>by cases hc
 | [],[],_::_,_,h,_=>h.elim
 | [],_::_,_,_,h,_=>h.elim
 |_::_,[],_,_,h,_=>h.elim
 |_::_,_::_,[],_,h,_=>h.elim
def B0l(sz:Nat)(h:Hp)(v:Value)(vs:List (List Value))(B:List Nat):Prop :=
 (∀ x∈vs,x.length=sz/\∀ v∈x,v.oneCell'=true) /\
 ((v = .slice none 0 0/\vs = []/\B = [])∨∃ g o c cur ty,v = .slice (some ⟨g,o,none⟩) vs.length c/\vs.length<=c/\c<=9223372036854775807/\h g=some (.cells cur ty (0,0))/\B = [g] /\
  (∀ j u,vs.flatten[j]?=some u->cur[o+j]?=some u)/\o+c*sz<=cur.size)
theorem B0l.sle{sz:Nat}{h:Hp}{v:Value}{vs:List (List Value)}{B:List Nat}(w:B0l sz h v vs B):SlE h sz v vs:=by
 refine⟨w.1,?_⟩
 rcases w.2 with⟨rfl,rfl,_⟩|⟨g,o,c,cur,ty,rfl,h1,h2,h3,_,h4⟩
 ·exact⟨none,0,0,rfl,rfl,Nat.le_refl _,.inl rfl⟩
 ·exact⟨_,_,_,rfl,rfl,h1,.inr ⟨g,o,rfl,λj u hj=>by simp[Hp.cell,h3,h4.1 j u hj]⟩⟩
def Wp.slice{α:Type}(r:Wp α):Wp (List α) :=
 { Rp.slice r.toRp with
  W:=λh cs xs B=>∃ v vs B1 Bs,cs = [v]/\B0l r.sz h v vs B1/\F3 (r.W h) vs xs Bs/\B=B1++Bs.flatten
  toR:=by
   rintro h cs xs B ⟨v,vs,B1,Bs,rfl,h1,h2,rfl⟩
   have h3:=h2.f2 (q:=r.R h) λ_ _ _ h=>r.toR h
   have hs:=h1.sle
   have hl:=h3.length
   rcases h1.2 with⟨rfl,rfl,_⟩|⟨g,o,c,cur,ty,rfl,k1,k2,_⟩
   ·exact⟨none,0,0,[],rfl,hl,Nat.zero_le _,hs,h3⟩
   ·exact⟨_,_,c,vs,rfl,hl,Nat.le_trans k1 k2,hs,h3⟩
  dom:=by
   rintro h cs xs B ⟨v,vs,B1,Bs,rfl,h1,h2,rfl⟩ b hb
   rcases List.mem_append.1 hb with hb|hb
   ·rcases h1.2 with⟨_,_,rfl⟩|⟨g,o,c,cur,ty,_,_,_,hg,rfl,_⟩
    ·cases hb
    ·simp at hb;rw[hb,hg];simp
   ·obtain⟨B',hB',hb'⟩:=List.mem_flatten.1 hb
    obtain⟨a,x,hw⟩:=h2.mem hB'
    exact r.dom hw b hb'
  frame:=by
   rintro h h' cs xs B ⟨v,vs,B1,Bs,rfl,h1,h2,rfl⟩ hf
   refine⟨v,vs,B1,Bs,rfl,⟨h1.1,?_⟩,h2.mono λa b c hc hw=>r.frame hw λx hx=>hf x (List.mem_append_right _ (List.mem_flatten.2 ⟨c,hc,hx⟩)),rfl⟩
   rcases h1.2 with⟨rfl,rfl,rfl⟩|⟨g,o,c,cur,ty,rfl,k1,k2,hg,rfl,k3⟩
   ·exact .inl ⟨rfl,rfl,rfl⟩
   ·exact .inr ⟨g,o,c,cur,ty,rfl,k1,k2,by rw[hf g (by simp)];exact hg,rfl,k3⟩ }
def K6(h:Hp)(B:List Nat):Prop:=B.Nodup/\∀ b∈B,h b=none
theorem U0.rows{h h':Hp}{v:Value}{e sz:Nat}{nn:Bool}{vs:List (List Value)}(f:U0 h h' v e sz nn vs):∃ B,B0l sz h' v vs B/\K6 h B:=by
 rcases f.2 with⟨rfl,rfl,_,rfl⟩|⟨g,cap,cur,rfl,hg,rfl,h1,h2,h3,h4⟩
 ·exact⟨[],⟨by simp,.inl ⟨rfl,rfl,rfl⟩⟩,by simp[K6]⟩
 ·refine⟨[g],⟨f.1,.inr ⟨g,0,cap,cur,e,rfl,h1,by simpa [maxLen] using h2,Hp.set_same _ _ _,rfl,λj u hj=>?_,by rw[h3];omega⟩⟩,by simp,by simpa using hg⟩
  rw[←h4,List.getElem?_take]at hj
  split at hj
  ·simpa using hj
  ·cases hj
theorem U0.fresh{α:Type}{r:Wp α}{h0 h h':Hp}{v:Value}{e:Nat}{nn:Bool}{vs:List (List Value)}{xs:List α}{Bs:List (List Nat)}(f:U0 h h' v e r.sz nn vs)(hr:F3 (r.W h) vs xs Bs)
  (hs:Sub h0 h) (hB:K6 h0 Bs.flatten):∃ B,r.slice.W h' [v] xs B/\K6 h0 B/\Sub h0 h':=by
 obtain⟨B1,h1,h2⟩:=f.rows
 have hdom:∀ b∈Bs.flatten,h b≠none:=λb hb=>by
  obtain⟨B',hB',hb'⟩:=List.mem_flatten.1 hb
  obtain⟨a,x,hw⟩:=hr.mem hB'
  exact r.dom hw b hb'
 refine⟨B1++Bs.flatten,⟨v,vs,B1,Bs,rfl,h1,hr.mono λa b c hc hw=>r.frame hw λx hx=>?_,rfl⟩,⟨?_,λb hb=>?_⟩,hs.trans f.sub⟩
 ·have:=r.dom hw x hx
  cases ho:h x with
  |none=>exact absurd ho this
  |some o=>exact f.sub x o ho
 ·rw[List.nodup_append]
  refine⟨h2.1,hB.1,λa ha b hb e=>?_⟩
  exact hdom b hb (by rw[←e];exact h2.2 a ha)
 ·rcases List.mem_append.1 hb with hb|hb
  ·have h3:=h2.2 b hb
   cases ho:h0 b with
   |none=>rfl
   |some o=>rw[hs b o ho]at h3;cases h3
  ·exact hB.2 b hb
def F06{α:Type}(L:List α)(n:Nat)(z:α):List α:=L++List.replicate (n-L.length) z
theorem j0h{α:Type}{L:List α}{n:Nat}{z:α}(h:L.length<=n):(F06 L n z).length=n:=by simp[F06];omega
theorem Z0m{α:Type}{L:List α}{n k:Nat}{z:α}(hk:L.length=k)(h:k<n):(F06 L n z)[k]?=some z:=by
 subst hk
 unfold F06
 rw[List.getElem?_append_right (Nat.le_refl _),Nat.sub_self,List.getElem?_replicate,if_pos (by omega)]
theorem a0n{α:Type}{L:List α}{n k:Nat}{z r:α}(hk:L.length=k)(h:k<n):(F06 L n z).set k r=F06 (L ++ [r]) n z:=by
 subst hk
 unfold F06
 rw[List.set_append_right (h:=Nat.le_refl _),Nat.sub_self]
 have:n-L.length=(n-(L ++ [r]).length)+1:=by simp;omega
 rw[this,List.replicate_succ,List.set_cons_zero]
 simp
theorem b0n{α:Type}{L:List α}{n:Nat}{z:α}(h:L.length=n):F06 L n z=L:=by simp[F06,h]
def New{α:Type}(r:Wp α)(h h':Hp)(cs:List Value)(x:α):Prop:=∃ B,r.W h' cs x B/\K6 h B/\Sub h h'
theorem New.sub{α:Type}{r:Wp α}{h h':Hp}{cs:List Value}{x:α}(w:New r h h' cs x):Sub h h':=let ⟨_,_,_,s⟩:=w;s
theorem New.r{α:Type}{r:Wp α}{h h':Hp}{cs:List Value}{x:α}(w:New r h h' cs x):r.R h' cs x:=let ⟨_,hw,_,_⟩:=w;r.toR hw
theorem F3.ints{h:Hp}:∀(xs:List Int),(∀ x∈xs,P0 x)->F3 (Wp.int.W h) (xs.map λx=>[.int .i64 x]) xs (xs.map λ_=>[])
 | [],_=>trivial
 |x::r,hx=>⟨⟨⟨rfl,hx x mS⟩,rfl⟩,F3.ints r λy hy=>hx y (mC _ hy)⟩
theorem L0i{α:Type}(xs:List α):(xs.map λ_=>([]:List Nat)).flatten = []:=by induction xs<;>simp_all
theorem Y0m.all{h:Hp}{v:Value}{xs:List Int}(e:Y0m h v xs):∀ x∈xs,P0 x:=by
 obtain⟨a,n,c,vs,_,_,_,_,e2⟩:=e
 intro x hx
 obtain⟨i,hi⟩:=List.getElem?_of_mem hx
 obtain⟨cs,_,h2⟩:=e2.get hi
 exact h2.2
theorem Wp.sub{α:Type}{r:Wp α}{h h':Hp}{cs:List Value}{x:α}{B:List Nat}(w:r.W h cs x B)(s:Sub h h'):r.W h' cs x B :=
 r.frame w λb hb=>by
  have:=r.dom w b hb
  cases ho:h b with
  |none=>exact absurd ho this
  |some o=>exact s b o ho
theorem J0d{α:Type}{r:Wp α}{h h':Hp}{L:List (List Value)}{xs:List α}{Bs:List (List Nat)}(w:F3 (r.W h) L xs Bs)(s:Sub h h'):F3 (r.W h') L xs Bs :=
 w.mono λ_ _ _ _ hw=>Wp.sub hw s
theorem s0k{α:Type}{r:Wp α}{h0 h:Hp}{L:List (List Value)}{xs:List α}{Bs:List (List Nat)}{B:List Nat}(w:F3 (r.W h) L xs Bs)(hs:Sub h0 h)(hf:K6 h0 Bs.flatten)(hB:K6 h B):
  K6 h0 (Bs ++ [B]).flatten:=by
 have hdom:∀ b∈Bs.flatten,h b≠none:=λb hb=>by
  obtain⟨B',hB',hb'⟩:=List.mem_flatten.1 hb
  obtain⟨a,x,hw⟩:=w.mem hB'
  exact r.dom hw b hb'
 have he:(Bs ++ [B]).flatten=Bs.flatten++B:=by simp
 rw[he]
 refine⟨?_,λb hb=>?_⟩
 ·rw[List.nodup_append]
  exact⟨hf.1,hB.1,λa ha b hb e=>hdom a ha (by rw[e];exact hB.2 b hb)⟩
 ·rcases List.mem_append.1 hb with hb|hb
  ·exact hf.2 b hb
  ·have h3:=hB.2 b hb
   cases ho:h0 b with
   |none=>rfl
   |some o=>rw[hs b o ho]at h3;cases h3
end Go.H
namespace Go.H
open Go.WideShapes Go.Deep
set_option linter.unusedVariables false
def i02(P:Program)(t:TypeId){α:Type}(r:Rp α):Prop :=
 ∀ {H:Type} (enc:TypeId×Value->H) (w:World) (base:Nat) (sp:Nat->Bool) (held:Bool) (n:Nat) (cs:List Value) (x:DataW H×List MemPlace),
  DataW.trod enc P w base sp held n t cs=some x->∃ d,r.R (λb=>w.heap[b]?) cs d
theorem i02.int{P:Program}{t:TypeId}(ht:P.underlying t=some (.int .i64)):i02 P t Rp.int:=by
 intro H enc w base sp held n cs x hx
 obtain⟨k,rfl,_,hw⟩:=DataW.trod_int ht hx
 exact⟨k,rfl,t0s hw⟩
theorem i02.bool{P:Program}{t:TypeId}(ht:P.underlying t=some .bool):i02 P t Rp.bool:=by
 intro H enc w base sp held n cs x hx
 obtain⟨k,rfl,_⟩:=DataW.trod_bool ht hx
 exact⟨k,rfl⟩
theorem i02.str{P:Program}{t:TypeId}(ht:P.underlying t=some .string):i02 P t Rp.str:=by
 intro H enc w base sp held n cs x hx
 obtain⟨k,rfl,_,hw⟩:=DataW.trod_string ht hx
 exact⟨k,rfl,U0m hw⟩
def G06(P:Program)(fs:List Field)(off:Nat){α:Type}(r:Rp α):Prop :=
 ∀ {H:Type} (enc:TypeId×Value->H) (w:World) (base:Nat) (sp:Nat->Bool) (held:Bool) (n:Nat) (cs:List Value),
  (∀ f∈fs,∃ y,DataW.trod enc P w base sp held n f.type ((cs.drop f.offset).take (P.cellsOf f.type))=some y)->off+r.sz=cs.length->∃ d,r.R (λb=>w.heap[b]?) (cs.drop off) d
theorem G06.one{P:Program}{f:Field}{off:Nat}{α:Type}{r:Rp α}(ho:f.offset=off)(hs:P.cellsOf f.type=r.sz)(h:i02 P f.type r):G06 P [f] off r:=by
 intro H enc w base sp held n cs hf hl
 obtain⟨y,hy⟩:=hf f (List.mem_singleton.2 rfl)
 rw[hs,ho,List.take_of_length_le (by simp;omega)]at hy
 exact h enc w base sp held n _ y hy
theorem G06.cons{P:Program}{f:Field}{fs:List Field}{off:Nat}{α β:Type}{r:Rp α}{q:Rp β}(ho:f.offset=off)(hs:P.cellsOf f.type=r.sz)(h:i02 P f.type r)(hq:G06 P fs (off+r.sz) q):
  G06 P (f::fs) off (r.pair q):=by
 intro H enc w base sp held n cs hf hl
 obtain⟨y,hy⟩:=hf f mS
 rw[hs,ho]at hy
 obtain⟨d1,h1⟩:=h enc w base sp held n _ y hy
 have hl':off+r.sz+q.sz=cs.length:=by rw[←hl];show _=off+(r.sz+q.sz);omega
 obtain⟨d2,h2⟩:=hq enc w base sp held n cs (λg hg=>hf g (mC _ hg)) hl'
 refine⟨(d1,d2),_,_,?_,h1,h2⟩
 rw[←List.drop_drop]
 exact(List.take_append_drop _ _).symm
theorem i02.struct{P:Program}{t:TypeId}{fs:Array Field}{α:Type}{r:Rp α}(ht:P.underlying t=some (.struct fs))(hs:P.cellsOf t=r.sz)(h:G06 P fs.toList 0 r):i02 P t r:=by
 intro H enc w base sp held n cs x hx
 obtain⟨xs,m,_,_,hl,hlen,hf⟩:=DataW.trod_struct ht hx
 have:=h enc w base sp held m cs (λf hm=>by
  obtain⟨i,hi⟩:=List.getElem?_of_mem hm
  have hi':fs[i]?=some f:=by simpa using hi
  have:=hf i f hi'
  have hlt:i<xs.length:=by rw[hlen];exact(Array.getElem?_eq_some_iff.1 hi').1
  rw[this]
  exact⟨xs[i],by simp[hlt]⟩) (by omega)
 simpa using this
theorem C0l{α β:Type}[Inhabited β]{p:Nat->List α->β->Prop}:∀(n:Nat),(∀ i,i<n->∃ a b,p i a b)->∃(as:List (List α)) (bs:List β),as.length=n/\bs.length=n/\∀ i,i<n->p i (as.getD i []) (bs.getD i default)
 |0,_=>⟨[],[],rfl,rfl,λi hi=>by omega⟩
 |n+1,h=>by
  obtain⟨as,bs,h1,h2,h3⟩:=C0l n λi hi=>h i (by omega)
  obtain⟨a,b,hp⟩:=h n (by omega)
  refine⟨as ++ [a],bs ++ [b],by simp[h1],by simp[h2],λi hi=>?_⟩
  rcases Nat.lt_or_ge i n with hi'|hi'
  ·have:=h3 i hi'
   simpa [List.getD_eq_getElem?_getD,List.getElem?_append_left,h1,h2,hi'] using this
  ·have:i=n:=by omega
   subst this
   simpa [List.getD_eq_getElem?_getD,List.getElem?_append_right,h1,h2] using hp
theorem F2.of_get{α β:Type}{p:List α->β->Prop}[Inhabited β]:∀(as:List (List α)) (bs:List β),as.length=bs.length->(∀ i,i<as.length->p (as.getD i []) (bs.getD i default))->F2 p as bs
 | [],[],_,_=>trivial
 |a::as,b::bs,hl,h=>⟨h 0 (by simp),F2.of_get as bs (by simpa using hl) λi hi=>h (i+1) (by simpa using hi)⟩
 | [],_::_,hl,_=>by cases hl
 |_::_,[],hl,_=>by cases hl
theorem D0l{sz:Nat}:∀(xs:List (List Value)) (j:Nat) (v:Value),(∀ x∈xs,x.length=sz)->xs.flatten[j]?=some v->j / sz<xs.length/\(xs.getD (j / sz) [])[j % sz]?=some v
 | [],j,v,_,h=>by simp at h
 |x::r,j,v,hall,h=>by
  have hx:=hall x mS
  rw[List.flatten_cons,List.getElem?_append]at h
  by_cases hj:j<x.length
  ·rw[if_pos hj]at h
   rw[hx]at hj
   rw[Nat.div_eq_of_lt hj,Nat.mod_eq_of_lt hj]
   exact⟨by simp,by simpa using h⟩
  ·rw[if_neg hj,hx]at h
   rw[hx]at hj
   obtain⟨h1,h2⟩:=D0l r (j-sz) v (λy hy=>hall y (mC _ hy)) h
   have h0:0<sz:=by
    rcases Nat.eq_zero_or_pos sz with e|e
    ·subst e
     exfalso
     have:∀ l:List (List Value),(∀ y∈l,y.length=0)->l.flatten = []:=by
      intro l
      induction l with
      |nil=>intro _;rfl
      |cons y l ih=>intro hl;rw[List.flatten_cons,List.length_eq_zero_iff.1 (hl y mS),ih λz hz=>hl z (mC _ hz)];rfl
     rw[this r λy hy=>hall y (mC _ hy)]at h
     simp at h
    ·exact e
   have e1:j / sz=(j-sz) / sz+1:=by
    conv=>lhs;rw[show j=(j-sz)+sz from by omega,Nat.add_div_right _ h0]
   have e2:j % sz=(j-sz) % sz:=by
    conv=>lhs;rw[show j=(j-sz)+sz from by omega,Nat.add_mod_right]
   rw[e1,e2]
   exact⟨by simp;omega,by simpa using h2⟩
theorem i02.slice{P:Program}{t e:TypeId}{α:Type}{r:Rp α}(ht:P.underlying t=some (.slice e))(hs:P.cellsOf e=r.sz)(h0:0<r.sz)(he:i02 P e r):i02 P t r.slice:=by
 intro H enc w base sp held n cs x hx
 rcases open_slice ht hx with⟨rfl,_⟩|⟨a,len,cap,m,k,D,Pl,rfl,hb,hl,hm,hmm,_,hel⟩
 ·exact⟨[],none,0,0,[],rfl,rfl,Nat.zero_le _,⟨by simp,none,0,0,rfl,rfl,Nat.le_refl _,.inl rfl⟩,trivial⟩
 have hlm:len<=m:=by rw[hmm];split<;>omega
 rcases Nat.eq_zero_or_pos len with e0|hpos
 ·subst e0
  exact⟨[],_,_,_,[],rfl,rfl,Nat.zero_le _,⟨by simp,_,_,_,rfl,rfl,hl,.inl rfl⟩,trivial⟩
 have inst:Nonempty α:=by
  obtain⟨cs',_,h2⟩:=hel 0 (by omega)
  obtain⟨d,_⟩:=he enc w base sp held k cs' _ h2
  exact⟨d⟩
 letI:Inhabited α:=Classical.inhabited_of_nonempty inst
 obtain⟨vs,xs,l1,l2,hp⟩:=C0l (p:=λi cs' d=>w.cells? base (a.add (i*P.cellsOf e)) (P.cellsOf e)=some cs'/\r.R (λb=>w.heap[b]?) cs' d) len (λi hi=>by
  obtain⟨cs',h1,h2⟩:=hel i (by omega)
  obtain⟨d,hd⟩:=he enc w base sp held k cs' _ h2
  exact⟨cs',d,h1,hd⟩)
 have hF:F2 (r.R λb=>w.heap[b]?) vs xs:=F2.of_get vs xs (by omega) λi hi=>(hp i (by omega)).2
 have hall:∀ x∈vs,x.length=r.sz/\∀ v∈x,v.oneCell'=true:=λx hx=>by
  obtain⟨i,hi,e⟩:=List.getElem_of_mem hx
  have:=(hp i (by omega)).2
  rw[List.getD_eq_getElem?_getD,List.getElem?_eq_getElem hi,e]at this
  exact⟨r.len this,r.one this⟩
 have cell:∀ i j,i<len->j<r.sz->w.cell? ((a.add (i*r.sz)).add j)=(vs.getD i [])[j]?:=λi j hi hj=>by
  have:=(hp i hi).1
  rw[hs]at this
  obtain⟨_,_,hc⟩:=World.cells?_some this
  exact hc j hj
 have hspot:a.spot=none:=by
  have h1:=cell 0 0 hpos h0
  have h2:=(hp 0 hpos).2
  have h3:=r.len h2
  have h4:(a.add (0*r.sz)).add 0=a:=by simp[Addr.add]
  rw[h4]at h1
  have h5:((vs.getD 0 [])[0]?).isSome=true:=by
   rw[List.getElem?_eq_getElem (by omega)];rfl
  rw[←h1]at h5
  unfold World.cell? at h5
  split at h5
  ·split at h5
   ·cases h5
   ·rename_i hn;simpa using hn
  ·cases h5
 refine⟨xs,_,_,_,vs,rfl,by omega,Nat.le_trans hl (U0m hm),⟨hall,_,_,_,rfl,by omega,hl,.inr ⟨a.block,a.off,?_,λj v hj=>?_⟩⟩,hF⟩
 ·cases a;simp only at hspot;subst hspot;rfl
 ·obtain⟨g1,g2⟩:=D0l vs j v (λx hx=>(hall x hx).1) hj
  have hjr:j % r.sz<r.sz:=Nat.mod_lt _ h0
  have:=cell (j / r.sz) (j % r.sz) (by omega) hjr
  rw[g2,add_add,show j / r.sz*r.sz+j % r.sz=j from by rw[Nat.mul_comm];exact Nat.div_add_mod ..]at this
  unfold Hp.cell
  unfold World.cell? at this
  have hb':(a.add j).block=a.block:=by unfold Addr.add;split<;>rfl
  have ho':(a.add j).off=a.off+j:=by unfold Addr.add;split<;>simp_all
  rw[hb',ho']at this
  simp only
  split at this
  ·rename_i c t' fz hc
   rw[hc]
   split at this
   ·cases this
   ·exact this
  ·cases this
theorem t0k{P:Program}{H:Type}{enc:TypeId×Value->H}{w:World}{base b0:Nat}{sp:Nat->Bool}{held:Bool}{rr:Reach}{t:TypeId}{fs:Array Field}{v:Value}{d:DataW H}{ps:List MemPlace}{α:Type}{r:Rp α}
  (ho:i02 P t r) (ht:P.underlying t=some (.struct fs)) (hval:Value.okWide P w rr b0 t v) (h:DataW.Trod enc P w base sp held t v d ps):∃ cs x,v = .agg cs.toArray/\r.R (λb=>w.heap[b]?) cs x:=by
 obtain⟨cs,rfl,_⟩:=okWide_struct ht hval
 obtain⟨n,hn⟩:=h
 obtain⟨x,hx⟩:=ho enc w base sp held n _ _ hn
 exact⟨cs.toList,x,by simp,hx⟩
end Go.H
namespace Go.H
set_option linter.unusedVariables false
def szR(left s:Int):Int:=if s<=left then left-s else -1
theorem u0q{left a:Int}(h:szR left a<0)(hl:0<=left):left<a/\szR left a = -1:=by
 unfold szR at *
 split at h
 ·omega
 ·rename_i h1;exact⟨by omega,if_neg h1⟩
theorem y0o{left a:Int}(h:0<=szR left a):a<=left/\szR left a=left-a:=by
 unfold szR at *
 split at h
 ·rename_i h1;exact⟨h1,if_pos h1⟩
 ·omega
theorem z0o{left a b:Int}(h:szR left a<0)(hl:0<=left)(hb:a<=b):szR left b = -1:=by
 obtain⟨h1,_⟩:=u0q h hl
 unfold szR
 rw[if_neg (by omega)]
theorem D0r{left a:Int}(h:left<a):szR left a = -1:=by
 unfold szR
 rw[if_neg (by omega)]
theorem E0r{left a:Int}(h:a<=left):szR left a=left-a:=by
 unfold szR
 rw[if_pos h]
theorem Z1{n:Nat}{m:Nat}(h:n<m)(hm:m<=9223372036854775807):IntKind.i64.wrap ((n:Int)+1)=((n+1:Nat):Int):=by
 rw[w64 (by omega) (by omega)];omega
theorem d0b{α:Type}{l:List α}{k:Nat}{x:α}(h:l[k]?=some x):l.take (k+1)=l.take k ++ [x]:=by
 rw[List.take_add_one,h];rfl
theorem k0h{α:Type}{l:List α}{k:Nat}(h:k<l.length):∃ x,l[k]?=some x:=⟨_,List.getElem?_eq_getElem h⟩
theorem E0l{p:Prop}[Decidable p](h:(!decide p)=true): ¬ p:=by simpa using h
theorem M0i{p:Prop}[Decidable p](h:(!decide p)=false):p:=by simpa using h
theorem K6.nil(h:Hp):K6 h []:=⟨List.nodup_nil,λb hb=>nomatch hb⟩
theorem New.pair{α β:Type}{r:Wp α}{q:Wp β}{h h1 h2:Hp}{c1 c2:List Value}{x:α}{y:β}(a:New r h h1 c1 x)(b:New q h1 h2 c2 y):New (r.pair q) h h2 (c1++c2) (x,y):=by
 obtain⟨B1,w1,f1,s1⟩:=a
 obtain⟨B2,w2,f2,s2⟩:=b
 refine⟨B1++B2,⟨c1,c2,B1,B2,rfl,rfl,Wp.sub w1 s2,w2⟩,⟨?_,λz hz=>?_⟩,s1.trans s2⟩
 ·rw[List.nodup_append]
  refine⟨f1.1,f2.1,λu hu v hv e=>?_⟩
  have:=r.dom w1 u hu
  rw[e]at this
  exact this (f2.2 v hv)
 ·rcases List.mem_append.1 hz with hz|hz
  ·exact f1.2 z hz
  ·have:=f2.2 z hz
   cases ho:h z with
   |none=>rfl
   |some o=>rw[s1 z o ho]at this;cases this
theorem New.int{h:Hp}{x:Int}(hx:P0 x):New Wp.int h h [.int .i64 x] x:=⟨[],⟨⟨rfl,hx⟩,rfl⟩,K6.nil h,Sub.refl h⟩
theorem New.str{h:Hp}{x:ByteArray}(hx:x.size<=9223372036854775807):New Wp.str h h [.string x] x:=⟨[],⟨⟨rfl,hx⟩,rfl⟩,K6.nil h,Sub.refl h⟩
theorem New.bool{h:Hp}{x:Bool}:New Wp.bool h h [.bool x] x:=⟨[],⟨rfl,rfl⟩,K6.nil h,Sub.refl h⟩
theorem New.nilSlice{α:Type}{r:Wp α}{h:Hp}:New r.slice h h [.slice none 0 0] []:=⟨[],⟨_,[],[],[],rfl,⟨by simp,.inl ⟨rfl,rfl,rfl⟩⟩,trivial,rfl⟩,K6.nil h,Sub.refl h⟩
theorem Wp.slice_cell{α:Type}{r:Rp α}{h:Hp}{cs:List Value}{xs:List α}(hx:r.slice.R h cs xs):∃ a n c,cs = [.slice a n c]:=by
 obtain⟨a,n,c,vs,rfl,_⟩:=hx
 exact⟨a,n,c,rfl⟩
theorem F3.get{α β γ:Type}{p:α->β->γ->Prop}:∀ {as:List α} {bs:List β} {cs:List γ} {i:Nat} {b:β},F3 p as bs cs->bs[i]?=some b->∃ a c,as[i]?=some a/\cs[i]?=some c/\p a b c
 |a::as,b::bs,c::cs,0,b',h,hb=>by cases hb;exact⟨a,c,rfl,rfl,h.1⟩
 |a::as,b::bs,c::cs,i+1,b',h,hb=>by
  obtain⟨x,y,h1,h2,h3⟩:=F3.get (i:=i) h.2 (by simpa using hb)
  exact⟨x,y,by simpa using h1,by simpa using h2,h3⟩
 | [],[],[],i,b',h,hb=>by simp at hb
 | [],[],_::_,_,_,h,_=>h.elim
 | [],_::_,_,_,_,h,_=>h.elim
 |_::_,[],_,_,_,h,_=>h.elim
 |_::_,_::_,[],_,_,h,_=>h.elim
theorem F3.lens{α β γ:Type}{p:α->β->γ->Prop}:∀ {as:List α} {bs:List β} {cs:List γ},F3 p as bs cs->as.length=bs.length/\cs.length=bs.length
 | [],[],[],_=>⟨rfl,rfl⟩
 |_::as,_::bs,_::cs,h=>by have:=F3.lens h.2;simp[this]
 | [],[],_::_,h=>h.elim
 | [],_::_,_,h=>h.elim
 |_::_,[],_,h=>h.elim
 |_::_,_::_,[],h=>h.elim
theorem F3.step{α β:Type}{p q:α->β->List Nat->Prop}:∀ {as:List α} {bs:List β} {Bs:List (List Nat)} {i:Nat} {a:α} {b:β} {c:List Nat},F3 p as bs Bs->Bs.flatten.Nodup->Bs[i]?=some c->q a b c ->
  (∀ a b d,d∈Bs->(∀ y∈d,y ∉ c)->p a b d->q a b d)->F3 q (as.set i a) (bs.set i b) Bs
 |a0::as,b0::bs,c0::cs,0,a,b,c,h,hn,hc,hq,hpq=>by
  cases hc
  rw[List.flatten_cons,List.nodup_append]at hn
  exact⟨hq,h.2.mono λa' b' d hd hp=>hpq a' b' d (mC _ hd) (λy hy hy'=>hn.2.2 y hy' y (List.mem_flatten.2 ⟨d,hd,hy⟩) rfl) hp⟩
 |a0::as,b0::bs,c0::cs,i+1,a,b,c,h,hn,hc,hq,hpq=>by
  rw[List.flatten_cons,List.nodup_append]at hn
  have hc':cs[i]?=some c:=by simpa using hc
  refine⟨hpq _ _ _ mS (λy hy hy'=>hn.2.2 y hy y (List.mem_flatten.2 ⟨c,List.mem_of_getElem? hc',hy'⟩) rfl) h.1,F3.step h.2 hn.2.1 hc' hq λa b d hd=>hpq a b d (mC _ hd)⟩
 | [],[],[],i,_,_,_,h,_,hc,_,_=>by simp at hc
 | [],[],_::_,_,_,_,_,h,_,_,_,_=>h.elim
 | [],_::_,_,_,_,_,_,h,_,_,_,_=>h.elim
 |_::_,[],_,_,_,_,_,h,_,_,_,_=>h.elim
 |_::_,_::_,[],_,_,_,_,h,_,_,_,_=>h.elim
theorem N0i{sz:Nat}:∀(vs:List (List Value)) (i k:Nat) (x:List Value) (u:Value),(∀ y∈vs,y.length=sz)->vs[i]?=some x->k<sz->(vs.set i (x.set k u)).flatten=vs.flatten.set (i*sz+k) u
 |y::r,0,k,x,u,hall,hi,hk=>by
  cases hi
  have hy:=hall _ mS
  rw[List.set_cons_zero,List.flatten_cons,List.flatten_cons,Nat.zero_mul,Nat.zero_add,List.set_append_left (h:=by omega)]
 |y::r,i+1,k,x,u,hall,hi,hk=>by
  have hy:=hall y mS
  have hi':r[i]?=some x:=by simpa using hi
  rw[List.set_cons_succ,List.flatten_cons,List.flatten_cons,N0i r i k x u (λz hz=>hall z (mC _ hz)) hi' hk,List.set_append_right (h:=by rw[hy,Nat.succ_mul];omega),hy]
  congr 2
  rw[Nat.succ_mul];omega
 | [],i,k,x,u,_,hi,_=>by simp at hi
theorem Wp.at{α:Type}{r:Wp α}{h:Hp}{a:Option Addr}{n c:Nat}{xs:List α}{B:List Nat}(w:r.slice.W h [.slice a n c] xs B)(hB:B.Nodup){i:Nat}{x:α}(hx:xs[i]?=some x)(h0:0<r.sz):
  InB (.slice a n c) i/\∃ cs Bi b of cur ty,a=some ⟨b,of,none⟩/\d00 h (.slice a n c) r.sz i cs/\r.W h cs x Bi/\h b=some (.cells cur ty (0,0))/\(∀ k,k<r.sz->of+(i*r.sz+k)<cur.size)/\b∈B/\b ∉ Bi/\(∀ y∈Bi,y∈B)/\Bi.Nodup /\
   (∀ h' x',(∀ y,y ∉ Bi->h' y=h y)->r.W h' cs x' Bi->r.slice.W h' [.slice a n c] (xs.set i x') B) /\
   (∀ k u x',k<r.sz->(∀ h',(∀ y∈Bi,h' y=h y)->r.W h' (cs.set k u) x' Bi)->r.slice.W (h.set b (.cells (cur.setIfInBounds (of+(i*r.sz+k)) u) ty (0,0))) [.slice a n c] (xs.set i x') B):=by
 have hR:r.slice.R h [.slice a n c] xs:=r.slice.toR w
 obtain⟨hib,_⟩:=Sl.get (r:=r.toRp) hR hx h0
 refine⟨hib,?_⟩
 obtain⟨v,vs,B1,Bs,e1,⟨hall,hrow⟩,h2,rfl⟩:=w
 cases e1
 obtain⟨cs,Bi,g1,g2,g3⟩:=h2.get hx
 obtain⟨hl1,hl2⟩:=h2.lens
 have hcs:cs.length=r.sz:=r.len (r.toR g3)
 rcases hrow with⟨e,rfl,_⟩|⟨b,of,cc,cur,ty,e,k1,k2,k3,rfl,k4⟩
 ·simp at g1
 cases e
 rw[List.nodup_append]at hB
 obtain⟨_,hBs,hdis⟩:=hB
 have hBi:∀ y∈Bi,y∈Bs.flatten:=λy hy=>List.mem_flatten.2 ⟨Bi,List.mem_of_getElem? g2,hy⟩
 have hbs:b ∉ Bs.flatten:=λhb=>hdis b (List.mem_singleton.2 rfl) b hb rfl
 have hcell:∀ j u,cs[j]?=some u->cur[of+(i*r.sz+j)]?=some u:=λj u hj=>k4.1 _ _ (t03 vs i cs (λx hx=>(hall x hx).1) g1 j u hj)
 have hin:∀ k,k<r.sz->of+(i*r.sz+k)<cur.size:=λk hk=>by
  have:=hcell k cs[k] (List.getElem?_eq_getElem (by omega))
  exact(Array.getElem?_eq_some_iff.1 this).1
 have nodupBi:Bi.Nodup:=by
  have:∀(l:List (List Nat)),l.flatten.Nodup->∀ z∈l,z.Nodup:=by
   intro l
   induction l with
   |nil=>intro _ z hz;cases hz
   |cons y l ih =>
    intro hn z hz
    rw[List.flatten_cons,List.nodup_append]at hn
    rcases List.mem_cons.1 hz with rfl|hz
    ·exact hn.1
    ·exact ih hn.2.1 z hz
  exact this Bs hBs Bi (List.mem_of_getElem? g2)
 refine⟨cs,Bi,b,of,cur,ty,rfl,⟨hcs,by omega,b,of,_,_,rfl,λj u hj=>?_⟩,g3,k3,hin,by simp,λhb=>hbs (hBi b hb),λy hy=>List.mem_append_right _ (hBi y hy),nodupBi,?_,?_⟩
 ·have:=hcell j u hj
  simpa [Hp.cell,k3,Nat.add_assoc] using this
 ·intro h' x' hf hw
  have hb:h' b=h b:=hf b λhb=>hbs (hBi b hb)
  refine⟨_,vs,[b],Bs,rfl,⟨hall,.inr ⟨b,of,_,cur,ty,rfl,k1,k2,by rw[hb];exact k3,rfl,k4⟩⟩,?_,rfl⟩
  have:=F3.step (q:=r.W h') h2 hBs g2 hw λa' b' d _ hd hp=>r.frame hp λy hy=>hf y (hd y hy)
  rwa [show vs.set i cs=vs from by obtain⟨hi,e⟩:=List.getElem?_eq_some_iff.1 g1;rw[←e];exact List.set_getElem_self hi]at this
 ·intro k u x' hk hw
  have hset:∀ y∈Bs.flatten,(h.set b (.cells (cur.setIfInBounds (of+(i*r.sz+k)) u) ty (0,0))) y=h y:=λy hy=>Hp.set_other h _ λe=>hbs (by rw[←e];exact hy)
  have hwr:=hw (h.set b (.cells (cur.setIfInBounds (of+(i*r.sz+k)) u) ty (0,0))) λy hy=>hset y (hBi y hy)
  refine⟨_,vs.set i (cs.set k u),[b],Bs,rfl,⟨λz hz=>?_,.inr ⟨b,of,_,_,ty,by simp,by simpa using k1,k2,Hp.set_same _ _ _,rfl,λj z hj=>?_,by simpa using k4.2⟩⟩,?_,rfl⟩
  ·rcases List.mem_or_eq_of_mem_set hz with hz|rfl
   ·exact hall z hz
   ·exact⟨r.len (r.toR hwr),r.one (r.toR hwr)⟩
  ·rw[N0i vs i k cs u (λx hx=>(hall x hx).1) g1 hk]at hj
   rw[Array.getElem?_setIfInBounds]
   rw[List.getElem?_set]at hj
   by_cases ej:i*r.sz+k=j
   ·subst ej
    rw[if_pos rfl]at hj
    rw[if_pos rfl,if_pos (hin k hk)]
    split at hj
    ·exact hj
    ·cases hj
   ·rw[if_neg ej]at hj
    rw[if_neg (by omega)]
    exact k4.1 j z hj
  ·exact F3.step (q:=r.W _) h2 hBs g2 hwr λa' b' d hm hd hp=>r.frame hp λy hy=>hset y (List.mem_flatten.2 ⟨d,hm,hy⟩)
end Go.H
namespace Go.H
set_option linter.unusedVariables false
theorem F2.take{α β:Type}{p:α->β->Prop}:∀ {as:List α} {bs:List β} (k:Nat),F2 p as bs->F2 p (as.take k) (bs.take k)
 | [],[],k,_=>by simp[F2]
 |_::as,_::bs,0,_=>by simp[F2]
 |_::as,_::bs,k+1,h=>⟨h.1,F2.take k h.2⟩
 | [],_::_,_,h=>h.elim
 |_::_,[],_,h=>h.elim
theorem F2.drop{α β:Type}{p:α->β->Prop}:∀ {as:List α} {bs:List β} (k:Nat),F2 p as bs->F2 p (as.drop k) (bs.drop k)
 | [],[],k,_=>by simp[F2]
 |_::as,_::bs,0,h=>h
 |_::as,_::bs,k+1,h=>F2.drop k h.2
 | [],_::_,_,h=>h.elim
 |_::_,[],_,h=>h.elim
theorem F2.append{α β:Type}{p:α->β->Prop}:∀ {as:List α} {bs:List β} {as':List α} {bs':List β},F2 p as bs->F2 p as' bs'->F2 p (as++as') (bs++bs')
 | [],[],_,_,_,h=>h
 |_::as,_::bs,_,_,h,h'=>⟨h.1,F2.append h.2 h'⟩
 | [],_::_,_,_,h,_=>h.elim
 |_::_,[],_,_,h,_=>h.elim
theorem F3.take{α β γ:Type}{p:α->β->γ->Prop}:∀ {as:List α} {bs:List β} {cs:List γ} (k:Nat),F3 p as bs cs->F3 p (as.take k) (bs.take k) (cs.take k)
 | [],[],[],k,_=>by simp[F3]
 |_::as,_::bs,_::cs,0,_=>by simp[F3]
 |_::as,_::bs,_::cs,k+1,h=>⟨h.1,F3.take k h.2⟩
 | [],[],_::_,_,h=>h.elim
 | [],_::_,_,_,h=>h.elim
 |_::_,[],_,_,h=>h.elim
 |_::_,_::_,[],_,h=>h.elim
theorem F3.append{α β γ:Type}{p:α->β->γ->Prop}:∀ {as:List α} {bs:List β} {cs:List γ} {as':List α} {bs':List β} {cs':List γ},F3 p as bs cs->F3 p as' bs' cs'->F3 p (as++as') (bs++bs') (cs++cs')
 | [],[],[],_,_,_,_,h=>h
 |_::as,_::bs,_::cs,_,_,_,h,h'=>⟨h.1,F3.append h.2 h'⟩
 | [],[],_::_,_,_,_,h,_=>h.elim
 | [],_::_,_,_,_,_,h,_=>h.elim
 |_::_,[],_,_,_,_,h,_=>h.elim
 |_::_,_::_,[],_,_,_,h,_=>h.elim
theorem F3.set{α β γ:Type}{p:α->β->γ->Prop}{a:α}{b:β}{c:γ}(hab:p a b c):∀ {as:List α} {bs:List β} {cs:List γ} (i:Nat),F3 p as bs cs->F3 p (as.set i a) (bs.set i b) (cs.set i c)
 | [],[],[],_,_=>trivial
 |_::as,_::bs,_::cs,0,h=>⟨hab,h.2⟩
 |_::as,_::bs,_::cs,i+1,h=>⟨h.1,F3.set hab i h.2⟩
 | [],[],_::_,_,h=>h.elim
 | [],_::_,_,_,h=>h.elim
 |_::_,[],_,_,h=>h.elim
 |_::_,_::_,[],_,h=>h.elim
theorem Sl.cut{α:Type}{r:Rp α}{h:Hp}{a:Option Addr}{n c:Nat}{xs:List α}(e:Sl r h (.slice a n c) xs):
  ∃ vs,SlE h r.sz (.slice a n c) vs/\∀ v l m,m<=xs.length->SlE h r.sz v ((vs.take m).drop l)->∃ a' n' c',v = .slice a' n' c'/\Sl r h (.slice a' n' c') ((xs.take m).drop l):=by
 obtain⟨a1,n1,c1,vs,e1,rfl,e3,e4,e5⟩:=e
 cases e1
 refine⟨vs,e4,λv l m hm hv=>?_⟩
 obtain⟨k1,a',n',c',rfl,k2,k3,k4⟩:=hv
 have hl:=e5.length
 refine⟨a',n',c',rfl,a',n',c',_,rfl,?_,?_,⟨k1,a',n',c',rfl,k2,k3,k4⟩,(e5.take m).drop l⟩
 ·rw[k2];simp[hl]
 ·rw[k2];simp;omega
theorem Z0j.take{sz m g o n c:Nat}{v:Value}(h:Z0j sz (.slice (some ⟨g,o,none⟩) n c) 0 m v):v = .slice (some ⟨g,o,none⟩) m c:=by
 rw[h _ _ _ rfl]
 have:((some (⟨g,o,none⟩:Addr)).map (·.add (0*sz)))=some ⟨g,o,none⟩:=by simp[Addr.add]
 rw[this]
 simp
theorem New.mono{α:Type}{r:Wp α}{h0 h1 h2:Hp}{cs:List Value}{x:α}(w:New r h0 h1 cs x)(s:Sub h1 h2):New r h0 h2 cs x:=by
 obtain⟨B,w1,f,s1⟩:=w
 exact⟨B,Wp.sub w1 s,f,s1.trans s⟩
theorem New.from{α:Type}{r:Wp α}{h0 h1 h2:Hp}{cs:List Value}{x:α}(w:New r h1 h2 cs x)(s:Sub h0 h1):New r h0 h2 cs x:=by
 obtain⟨B,w1,f,s1⟩:=w
 refine⟨B,w1,⟨f.1,λb hb=>?_⟩,s.trans s1⟩
 have:=f.2 b hb
 cases ho:h0 b with
 |none=>rfl
 |some o=>rw[s b o ho]at this;cases this
theorem y04{α:Type}{r:Wp α}{h:Hp}{vs:List (List Value)}{xs:List α}{Bs:List (List Nat)}(w:F3 (r.W h) vs xs Bs):∀ b∈Bs.flatten,h b≠none:=λb hb=>by
 obtain⟨B',hB',hb'⟩:=List.mem_flatten.1 hb
 obtain⟨a,x,hw⟩:=w.mem hB'
 exact r.dom hw b hb'
theorem z04{α:Type}{r:Wp α}{h h':Hp}{vs:List (List Value)}{xs:List α}{Bs:List (List Nat)}(w:F3 (r.W h) vs xs Bs)(hf:∀ b∈Bs.flatten,h' b=h b):F3 (r.W h') vs xs Bs :=
 w.mono λa b c hc hw=>r.frame hw λx hx=>hf x (List.mem_flatten.2 ⟨c,hc,hx⟩)
theorem New.app{α:Type}{r:Wp α}{h0 h1 h:Hp}{g o n c:Nat}{xs:List α}(w:New r.slice h0 h1 [.slice (some ⟨g,o,none⟩) n c] xs)(s:Sub h1 h):
  ∃ vs,C0m h r.sz (.slice (some ⟨g,o,none⟩) n c) vs/\vs.length=xs.length/\∀(zs:List (List Value)) (ys:List α) (Bs:List (List Nat)) (h':Hp) (v':Value),F3 (r.W h) zs ys Bs->K6 h1 Bs.flatten ->
   S0n h h' r.sz g v' (vs++zs)->New r.slice h0 h' [v'] (xs++ys)/\∃ g' o' n' c',v' = .slice (some ⟨g',o',none⟩) n' c':=by
 obtain⟨B,⟨v,vs,B1,Bs0,e1,⟨hall,hrow⟩,hF,rfl⟩,hB,hs⟩:=w
 cases e1
 rcases hrow with⟨e,_⟩|⟨g0,o0,c0,cur,ty,e,k1,k2,k3,rfl,k4,k5⟩
 ·cases e
 cases e
 have hl:=hF.lens
 have hg:=s g _ k3
 have hF1:F3 (r.W h) vs xs Bs0:=J0d hF s
 refine⟨vs,⟨hall,g,o,c,cur,ty,rfl,k1,by simpa [maxLen] using k2,k5,hg,k4⟩,hl.1,?_⟩
 rintro zs ys Bs h' v' hz hfz ⟨⟨hall',g1,o1,c1,cur1,ty1,rfl,q1,q2,q3,q4,q5⟩,g',o',n',c',e',hgg,hkeep⟩
 cases e'
 have hB':=hB
 rw[K6,List.nodup_append]at hB'
 obtain⟨⟨_,hnd,hdis⟩,hfr⟩:=hB'
 have hg0:∀ b∈Bs0.flatten,b≠g:=λb hb e=>hdis g (List.mem_singleton.2 rfl) b hb e.symm
 have hne0:∀ b∈Bs0.flatten,b≠g1:=λb hb e=>by
  rcases hgg with rfl|hn
  ·exact hg0 b hb e
  ·exact y04 hF1 b hb (by rw[e];exact hn)
 have hne1:∀ b∈Bs.flatten,b≠g1:=λb hb e=>by
  rcases hgg with rfl|hn
  ·have:=hfz.2 b hb
   rw[e,k3]at this;cases this
  ·exact y04 hz b hb (by rw[e];exact hn)
 have h0g:h0 g1=none:=by
  rcases hgg with rfl|hn
  ·exact hfr _ (List.mem_append_left _ (List.mem_singleton.2 rfl))
  ·cases ho:h0 g1 with
   |none=>rfl
   |some x=>rw[s _ _ (hs _ _ ho)]at hn;cases hn
 have hdis2:∀ a∈Bs0.flatten,∀ b∈Bs.flatten,a≠b:=λa ha b hb e=>by
  have h2:=hfz.2 b hb
  exact y04 hF a ha (by rw[e];exact h2)
 refine⟨⟨[g1]++(Bs0++Bs).flatten,⟨_,vs++zs,[g1],Bs0++Bs,rfl,⟨hall',.inr ⟨g1,o1,c1,cur1,ty1,rfl,q1,by simpa [maxLen] using q2,q4,rfl,q5,q3⟩⟩,?_,rfl⟩,⟨?_,?_⟩,?_⟩,g1,o1,_,c1,rfl⟩
 ·exact(z04 hF1 λb hb=>hkeep b (hne0 b hb)).append (z04 hz λb hb=>hkeep b (hne1 b hb))
 ·rw[List.flatten_append,List.nodup_append,List.nodup_append]
  refine⟨by simp,⟨hnd,hfz.1,hdis2⟩,λa ha b hb=>?_⟩
  simp only[List.mem_singleton]at ha
  subst ha
  rcases List.mem_append.1 hb with hb|hb
  ·exact λe=>hne0 b hb e.symm
  ·exact λe=>hne1 b hb e.symm
 ·intro b hb
  rcases List.mem_append.1 hb with hb|hb
  ·simp only[List.mem_singleton]at hb;rw[hb];exact h0g
  ·rw[List.flatten_append]at hb
   rcases List.mem_append.1 hb with hb|hb
   ·exact hfr b (List.mem_append_right _ hb)
   ·have h2:=hfz.2 b hb
    cases ho:h0 b with
    |none=>rfl
    |some x=>rw[hs _ _ ho]at h2;cases h2
 ·intro b x hx
  rw[hkeep b (λe=>by rw[e,h0g]at hx;cases hx)]
  exact s _ _ (hs _ _ hx)
theorem P0f{sz:Nat}:∀(vs:List (List Value)) (i:Nat) (new:List Value) (j:Nat),(∀ x∈vs,x.length=sz)->i<vs.length->new.length=sz ->
  (vs.set i new).flatten[j]?=if i*sz<=j/\j<i*sz+sz then new[j-i*sz]? else vs.flatten[j]?
 |x::r,0,new,j,hall,_,hn=>by
  have hx:=hall x mS
  rw[List.set_cons_zero,List.flatten_cons,List.flatten_cons,Nat.zero_mul]
  by_cases hj:j<sz
  ·rw[if_pos (by omega),List.getElem?_append_left (by omega)];simp
  ·rw[if_neg (by omega),List.getElem?_append_right (by omega),List.getElem?_append_right (by omega),hn,hx]
 |x::r,i+1,new,j,hall,hi,hn=>by
  have hx:=hall x mS
  rw[List.set_cons_succ,List.flatten_cons,List.flatten_cons,Nat.add_mul,Nat.one_mul]
  by_cases hj:j<sz
  ·rw[if_neg (by omega),List.getElem?_append_left (by omega),List.getElem?_append_left (by omega)]
  ·rw[List.getElem?_append_right (by omega),List.getElem?_append_right (by omega),hx,P0f r i new (j-sz) (λy hy=>hall y (mC _ hy)) (by simpa using hi) hn]
   by_cases hc:i*sz<=j-sz/\j-sz<i*sz+sz
   ·rw[if_pos hc,if_pos (by omega),show j-sz-i*sz=j-(i*sz+sz) by omega]
   ·rw[if_neg hc,if_neg (by omega)]
 | [],i,new,j,_,hi,_=>by simp at hi
theorem e0b{By:List Nat}(hb:By.Nodup):∀(Bs:List (List Nat)) (i:Nat),Bs.flatten.Nodup->(∀ b∈By,b ∉ Bs.flatten)->(Bs.set i By).flatten.Nodup/\∀ b∈(Bs.set i By).flatten,b∈Bs.flatten∨b∈By
 | [],i,h,_=>by simp
 |B::Bs,0,h,hd=>by
  rw[List.flatten_cons,List.nodup_append]at h
  refine⟨?_,λb hb'=>?_⟩
  ·rw[List.set_cons_zero,List.flatten_cons,List.nodup_append]
   refine⟨hb,h.2.1,λa ha b hb' e=>hd a ha ?_⟩
   rw[List.flatten_cons,e];exact List.mem_append_right _ hb'
  ·rw[List.set_cons_zero,List.flatten_cons]at hb'
   rcases List.mem_append.1 hb' with h'|h'
   ·exact .inr h'
   ·exact .inl (by rw[List.flatten_cons];exact List.mem_append_right _ h')
 |B::Bs,i+1,h,hd=>by
  rw[List.flatten_cons,List.nodup_append]at h
  obtain⟨h1,h2⟩:=e0b hb Bs i h.2.1 (λb hb' hm=>hd b hb' (by rw[List.flatten_cons];exact List.mem_append_right _ hm))
  refine⟨?_,λb hb'=>?_⟩
  ·rw[List.set_cons_succ,List.flatten_cons,List.nodup_append]
   refine⟨h.1,h1,λa ha b hb' e=>?_⟩
   rcases h2 b hb' with h'|h'
   ·exact h.2.2 a ha b h' e
   ·exact hd b h' (by rw[List.flatten_cons,←e];exact List.mem_append_left _ ha)
  ·rw[List.set_cons_succ,List.flatten_cons]at hb'
   rcases List.mem_append.1 hb' with h'|h'
   ·exact .inl (by rw[List.flatten_cons];exact List.mem_append_left _ h')
   ·rcases h2 b h' with h'|h'
    ·exact .inl (by rw[List.flatten_cons];exact List.mem_append_right _ h')
    ·exact .inr h'
theorem New.put{α:Type}{r:Wp α}{h0 h1 h:Hp}{g o n c:Nat}{xs:List α}(w:New r.slice h0 h1 [.slice (some ⟨g,o,none⟩) n c] xs)(s:Sub h1 h){i:Nat}(hi:i<xs.length){new:List Value}{y:α}{By:List Nat}
  (hy:r.W h new y By) (hf:K6 h1 By) {K:Hp->Prop} {off:Nat} (he:off=i*r.sz) {idx:Int} (hidx:0<=idx)
  (hk:∀ h',New r.slice h0 h' [.slice (some ⟨g,o,none⟩) n c] (xs.set i y)->(∀ b,b≠g->h' b=h b)->h1 g≠none->K h'):x05 h (.slice (some ⟨g,o,none⟩) n c) idx off new K:=by
 subst he
 obtain⟨B,⟨v,vs,B1,Bs0,e1,⟨hall,hrow⟩,hF,rfl⟩,hB,hs⟩:=w
 cases e1
 rcases hrow with⟨e,_⟩|⟨g0,o0,c0,cur,ty,e,k1,k2,k3,rfl,k4,k5⟩
 ·cases e
 cases e
 have hl:=hF.lens
 have hg:=s g _ k3
 have hF1:F3 (r.W h) vs xs Bs0:=J0d hF s
 have hnl:new.length=r.sz:=r.len (r.toR hy)
 have hB':=hB
 rw[K6,List.nodup_append]at hB'
 obtain⟨⟨_,hnd,hdis⟩,hfr⟩:=hB'
 have hg0:∀ b∈Bs0.flatten,b≠g:=λb hb e=>hdis g (List.mem_singleton.2 rfl) b hb e.symm
 have hgy:∀ b∈By,b≠g:=λb hb e=>by have:=hf.2 b hb;rw[e,k3]at this;cases this
 have hfit:o+i*r.sz+new.length<=cur.size:=by
  have:(i+1)*r.sz<=c*r.sz:=Nat.mul_le_mul_right _ (by omega)
  rw[Nat.add_mul,Nat.one_mul]at this
  omega
 have hdy:∀ b∈By,b ∉ Bs0.flatten:=λb hb hm=>y04 hF b hm (hf.2 b hb)
 obtain⟨n1,n2⟩:=e0b hf.1 Bs0 i hnd hdy
 refine⟨g,o,_,c,cur,ty,⟨rfl,hidx,hg,hfit⟩,hk _ ?_ (λb hb=>Hp.set_other _ _ hb) (by rw[k3];simp)⟩
 rw[G05]
 refine⟨[g]++(Bs0.set i By).flatten,⟨_,vs.set i new,[g],Bs0.set i By,rfl,⟨?_,.inr ⟨g,o,c,_,ty,by simp,by simpa using k1,k2,Hp.set_same _ _ _,rfl,λj u hj=>?_,by simpa [H8] using k5⟩⟩,?_,rfl⟩,⟨?_,?_⟩,?_⟩
 ·intro x hx
  rcases List.mem_or_eq_of_mem_set hx with hx|rfl
  ·exact hall x hx
  ·exact⟨hnl,r.one (r.toR hy)⟩
 ·rw[P0f vs i new j (λx hx=>(hall x hx).1) (by omega) hnl]at hj
  rw[List.getElem?_toArray,f07 _ _ _ _ (by simpa using hfit)]
  by_cases hc:i*r.sz<=j/\j<i*r.sz+r.sz
  ·rw[if_pos hc]at hj
   rw[if_pos (by omega),show o+j-(o+i*r.sz)=j-i*r.sz by omega]
   exact hj
  ·rw[if_neg hc]at hj
   rw[if_neg (by omega),Array.getElem?_toList]
   exact k4 j u hj
 ·refine F3.set (r.frame hy λb hb=>Hp.set_other _ _ (hgy b hb)) i (z04 hF1 λb hb=>Hp.set_other _ _ (hg0 b hb))
 ·rw[List.nodup_append]
  refine⟨by simp,n1,λa ha b hb=>?_⟩
  simp only[List.mem_singleton]at ha
  subst ha
  rcases n2 b hb with hb|hb
  ·exact λe=>hg0 b hb e.symm
  ·exact λe=>hgy b hb e.symm
 ·intro b hb
  rcases List.mem_append.1 hb with hb|hb
  ·exact hfr b (List.mem_append_left _ hb)
  ·rcases n2 b hb with hb|hb
   ·exact hfr b (List.mem_append_right _ hb)
   ·have h2:=hf.2 b hb
    cases ho:h0 b with
    |none=>rfl
    |some x=>rw[hs _ _ ho]at h2;cases h2
 ·intro b x hx
  have hbg:b≠g:=λe=>by have:=hfr g (List.mem_append_left _ (List.mem_singleton.2 rfl));rw[e,this]at hx;cases hx
  rw[Hp.set_other _ _ hbg]
  exact s _ _ (hs _ _ hx)
theorem l0h:∀(Bs:List (List Nat)) (k:Nat),Bs.flatten.Nodup->(Bs.take k).flatten.Nodup/\∀ b∈(Bs.take k).flatten,b∈Bs.flatten:=λBs k h=>by
 have h2:Bs.flatten=(Bs.take k).flatten++(Bs.drop k).flatten:=by rw[←List.flatten_append,List.take_append_drop]
 rw[h2,List.nodup_append]at h
 exact⟨h.1,λb hb=>by rw[h2];exact List.mem_append_left _ hb⟩
theorem New.take{α:Type}{r:Wp α}{h0 h1:Hp}{g o n c:Nat}{xs:List α}(w:New r.slice h0 h1 [.slice (some ⟨g,o,none⟩) n c] xs){k:Nat}(hk:k<=xs.length):New r.slice h0 h1 [.slice (some ⟨g,o,none⟩) k c] (xs.take k):=by
 obtain⟨B,⟨v,vs,B1,Bs0,e1,⟨hall,hrow⟩,hF,rfl⟩,hB,hs⟩:=w
 cases e1
 rcases hrow with⟨e,_⟩|⟨g0,o0,c0,cur,ty,e,k1,k2,k3,rfl,k4,k5⟩
 ·cases e
 cases e
 have hl:=hF.lens
 have hB':=hB
 rw[K6,List.nodup_append]at hB'
 obtain⟨⟨_,hnd,hdis⟩,hfr⟩:=hB'
 obtain⟨t1,t2⟩:=l0h Bs0 k hnd
 have hvl:(vs.take k).length=k:=by simp;omega
 refine⟨[g]++(Bs0.take k).flatten,⟨_,vs.take k,[g],Bs0.take k,rfl,⟨λx hx=>hall x (List.mem_of_mem_take hx),.inr ⟨g,o,c,cur,ty,by rw[hvl],by omega,k2,k3,rfl,λj u hj=>k4 j u ?_,k5⟩⟩,hF.take k,rfl⟩,⟨?_,λb hb=>?_⟩,hs⟩
 ·have:vs.flatten=(vs.take k).flatten++(vs.drop k).flatten:=by rw[←List.flatten_append,List.take_append_drop]
  rw[this,List.getElem?_append_left (List.getElem?_eq_some_iff.1 hj).1]
  exact hj
 ·rw[List.nodup_append]
  exact⟨by simp,t1,λa ha b hb=>hdis a ha b (t2 b hb)⟩
 ·rcases List.mem_append.1 hb with hb|hb
  ·exact hfr b (List.mem_append_left _ hb)
  ·exact hfr b (List.mem_append_right _ (t2 b hb))
end Go.H
namespace Go.H
set_option linter.unusedVariables false
def gi{α:Type}(xs:List α)(i:Int):Option α:=if 0<=i then xs[i.toNat]? else none
def chk{α:Type}(c:Bool)(o:Option α)(d:α):Option α:=match c with
 |true=>o
 |false=>some d
def grd(p:Prop)[Decidable p]:Option Unit:=if p then some ()else none
def p06{α:Type}(xs:List α)(l m:Int):Option (List α):=if 0<=l/\l<=m/\m<=(xs.length:Int)then some ((xs.take m.toNat).drop l.toNat)else none
def R9{R S:Type}(x:R ⊕ S)(k:S->Option R):Option R:=match x with
 | .inl r=>some r
 | .inr s=>k s
def c0n{R S T:Type}(x:R ⊕ S)(k:S->Option (R ⊕ T)):Option (R ⊕ T):=match x with
 | .inl r=>some (.inl r)
 | .inr s=>k s
def Q0:Nat:=9223372036854775808
def I1:List Value->Nat
 | .int _ n::_=>n.toNat
 |_=>0
def f0b(a b:ByteArray):Bool:=a.toList == b.toList
theorem n5{R S:Type}(r:R)(k:S->Option R):R9 (.inl r) k=some r:=rfl
theorem S0{R S:Type}(s:S)(k:S->Option R):R9 (.inr s) k=k s:=rfl
theorem G5{R S T:Type}(r:R)(k:S->Option (R ⊕ T)):c0n (.inl r) k=some (.inl r):=rfl
theorem T0{R S T:Type}(s:S)(k:S->Option (R ⊕ T)):c0n (.inr s) k=k s:=rfl
theorem l0{α β:Type}{o:Option α}{k:α->Option β}{r:β}(h:o.bind k=some r):∃ x,o=some x/\k x=some r:=Option.bind_eq_some_iff.1 h
theorem I0{p:Prop}[Decidable p]{u:Unit}(h:grd p=some u):p:=by
 unfold grd at h
 split at h
 ·assumption
 ·cases h
theorem I7{α:Type}{c:Bool}{o:Option α}{d x:α}(h:chk c o d=some x)(hc:c=true):o=some x:=by rw[hc]at h;exact h
theorem u0s{b:Bool}(h:b=false): ¬ b=true:=by rw[h];exact Bool.false_ne_true
theorem W07{α:Type}{xs:List α}{i:Int}{x:α}(h:gi xs i=some x):0<=i/\xs[i.toNat]?=some x:=by
 unfold gi at h
 split at h
 ·exact⟨by assumption,h⟩
 ·cases h
theorem g0b{α:Type}(xs:List α)(n:Nat):gi xs (n:Int)=xs[n]?:=by simp[gi]
theorem L05{α:Type}{xs ys:List α}{l m:Int}(h:p06 xs l m=some ys):(0<=l/\l<=m/\m<=(xs.length:Int))/\ys=(xs.take m.toNat).drop l.toNat:=by
 unfold p06 at h
 split at h
 ·exact⟨by assumption,(oJ h).symm⟩
 ·cases h
theorem h0b{a b:ByteArray}:f0b a b=true↔a=b:=by
 constructor
 ·intro h
  have:a.toList=b.toList:=by simpa [f0b] using h
  rw[ByteArray.toList_eq,ByteArray.toList_eq]at this
  have h2:a.data=b.data:=Array.toList_inj.1 this
  cases a;cases b;simp only at h2;rw[h2]
 ·intro h;subst h;simp[f0b]
theorem A0o(a b:ByteArray):f0b a b=decide (a=b):=by
 by_cases h:a=b
 ·rw[decide_eq_true h];exact h0b.2 h
 ·rw[decide_eq_false h]
  cases hs:f0b a b with
  |false=>rfl
  |true=>exact absurd (h0b.1 hs) h
theorem J0(x:Int):P0 (IntKind.i64.wrap x):=by
 simp only[P0,IntKind.wrap,IntKind.signed,IntKind.bits]
 simp
 omega
theorem T0q{n:Nat}(h:n<=9223372036854775807):P0 (n:Int):=⟨by omega,by omega⟩
theorem c64{x:Int}(h1 : -9223372036854775808<=x)(h2:x<=9223372036854775807):P0 x:=⟨h1,h2⟩
theorem u0k{x y:Int}(h:P0 x):P0 (x.tmod y):=by
 have h1:=h.1
 have h2:=h.2
 have h3:(x.tmod y).natAbs<=x.natAbs:=by rw[Int.natAbs_tmod];exact Nat.mod_le _ _
 by_cases h0:0<=x
 ·have:=Int.tmod_nonneg y h0
  exact⟨by omega,by omega⟩
 ·have h4:0<=(-x).tmod y:=Int.tmod_nonneg y (by omega)
  rw[Int.neg_tmod]at h4
  exact⟨by omega,by omega⟩
theorem A04{a b:ByteArray}(h:a.size+b.size<=9223372036854775807):(a++b).size<=9223372036854775807:=by rw[ByteArray.size_append];exact h
instance (x:Int):Decidable (P0 x):=inferInstanceAs (Decidable (_/\_))
theorem j8{p:Prop}[Decidable p]{x y:Int}(hx:P0 x)(hy:P0 y):P0 (if p then x else y):=by split<;>assumption
theorem Sl.getI{α:Type}{r:Rp α}{h:Hp}{v:Value}{xs:List α}(e:Sl r h v xs){i:Int}{x:α}(hx:gi xs i=some x)(hsz:0<r.sz):InB v i/\∃ cs,d00 h v r.sz i cs/\r.R h cs x:=by
 obtain⟨h0,hx⟩:=W07 hx
 obtain⟨n,rfl⟩:=Int.eq_ofNat_of_zero_le h0
 exact Sl.get e (by simpa using hx) hsz
theorem Sl.getG{α:Type}{r:Rp α}{h:Hp}{v:Value}{xs:List α}(e:Sl r h v xs){c:Bool}{i:Int}{d x:α}(hx:chk c (gi xs i) d=some x)(hsz:0<r.sz)(hd:∃ cs,r.R h cs d):
  ∃ cs,(c=true->InB v i/\d00 h v r.sz i cs)/\r.R h cs x:=by
 cases c with
 |true =>
  obtain⟨h1,cs,h2,h3⟩:=Sl.getI e (I7 hx rfl) hsz
  exact⟨cs,λ_=>⟨h1,h2⟩,h3⟩
 |false =>
  obtain⟨cs,hd⟩:=hd
  cases hx
  exact⟨cs,(λh=>nomatch h),hd⟩
theorem d00.up{h h':Hp}(s:Sub h h'){v:Value}{sz:Nat}{i:Int}{cs:List Value}(e:d00 h v sz i cs):d00 h' v sz i cs:=by
 obtain⟨h1,h2,b,o,n,cp,h3,h4⟩:=e
 exact⟨h1,h2,b,o,n,cp,h3,λj v hj=>s.cell (h4 j v hj)⟩
theorem Y02{n:Nat}{fr:List (Nat×AV)}{bx:List BSt}{ow:List Own}:e0k ⟨n,fr,bx,ow⟩ ⟨n,fr,bx,ow⟩:=⟨rfl,rfl,rfl,[],(List.append_nil _).symm⟩
theorem Sl.rows{α:Type}{r:Rp α}{h:Hp}{a:Option Addr}{n c:Nat}{xs:List α}(e:Sl r h (.slice a n c) xs):∃ vs,SlE h r.sz (.slice a n c) vs/\F2 (r.R h) vs xs:=by
 obtain⟨a1,n1,c1,vs,e1,rfl,e3,e4,e5⟩:=e
 cases e1
 exact⟨vs,e4,e5⟩
theorem Sl.cutI{α:Type}{r:Rp α}{h:Hp}{a:Option Addr}{n c:Nat}{xs ys:List α}(e:Sl r h (.slice a n c) xs){l m:Int}(hc:p06 xs l m=some ys):
  (0<=l/\l<=m/\m<=(n:Int))/\∃ vs,SlE h r.sz (.slice a n c) vs/\∀ v,SlE h r.sz v ((vs.take m.toNat).drop l.toNat)->∃ a' c',v = .slice a' ys.length c'/\Sl r h (.slice a' ys.length c') ys:=by
 obtain⟨⟨h1,h2,h3⟩,rfl⟩:=L05 hc
 obtain⟨rfl,_⟩:=Sl.len e
 obtain⟨vs,g1,g2⟩:=Sl.cut e
 refine⟨⟨h1,h2,h3⟩,vs,g1,λv hv=>?_⟩
 obtain⟨a',n',c',rfl,g3⟩:=g2 v l.toNat m.toNat (by omega) hv
 obtain⟨e2,_⟩:=Sl.len g3
 subst e2
 exact⟨a',c',rfl,g3⟩
theorem F2.up{α:Type}{r:Rp α}{h h':Hp}(s:Sub h h'){vs:List (List Value)}{xs:List α}(f:F2 (r.R h) vs xs):F2 (r.R h') vs xs:=f.mono λ_ _ q=>r.mono s q
theorem U0.out{α:Type}{r:Rp α}{h h':Hp}{v:Value}{e:Nat}{nn:Bool}{vs:List (List Value)}{xs:List α}(f:U0 h h' v e r.sz nn vs)(hr:F2 (r.R h) vs xs):
  ∃ a c,v = .slice a xs.length c/\Sl r h' (.slice a xs.length c) xs/\Sub h h'/\xs.length<=9223372036854775807:=by
 have h1:=U0.sl f hr
 obtain⟨a,c,rfl,hc⟩:=h1.slice
 exact⟨a,c,rfl,h1,f.sub,hc⟩
theorem F2.rep{α β:Type}{p:α->β->Prop}{a:α}{b:β}(h:p a b):∀ n:Nat,F2 p (List.replicate n a) (List.replicate n b)
 |0=>trivial
 |n+1=>⟨h,F2.rep h n⟩
def Rp.u8:Rp Int:=⟨1,λ_ cs x=>cs = [.int .u8 x],λh=>by rw[h];rfl,λh v hv=>by rw[h]at hv;simp at hv;rw[hv];rfl,λ_ h=>h⟩
theorem F2.u8{h:Hp}:∀ {vs:List (List Value)} {xs:List Int},F2 (Rp.u8.R h) vs xs->vs=xs.map λn=>[.int .u8 n]
 | [],[],_=>rfl
 |v::vs,x::xs,f=>by rw[show v = [.int .u8 x] from f.1,F2.u8 f.2];rfl
 | [],_::_,f=>f.elim
 |_::_,[],f=>f.elim
theorem J1{n m by_:Nat}{u:Unit}(g:grd (n*by_<=140737488355328)=some u)(e:m=n):W06 m by_:=by
 subst e
 exact show m*by_<=140737488355328 from I0 g
theorem P1{α:Type}{p:List Value->α->Prop}{vs:List (List Value)}{xs:List α}(f:F2 p vs xs){i:Int}{x:α}(hx:gi xs i=some x):(0<=i/\i<(vs.length:Int))/\∃ cs,vs[i.toNat]?=some cs/\p cs x:=by
 obtain⟨h0,hx⟩:=W07 hx
 obtain⟨cs,g1,g2⟩:=f.get hx
 have:=(List.getElem?_eq_some_iff.1 g1).1
 exact⟨⟨h0,by omega⟩,cs,g1,g2⟩
theorem f01{α:Type}{p:List Value->α->Prop}{vs:List (List Value)}{xs:List α}(f:F2 p vs xs){c:Bool}{i:Int}{d x:α}(hx:chk c (gi xs i) d=some x)(hd:∃ cs,p cs d):
  ∃ cs,(c=true->(0<=i/\i<(vs.length:Int))/\vs[i.toNat]?=some cs)/\p cs x:=by
 cases c with
 |true =>
  obtain⟨h1,cs,h2,h3⟩:=P1 f (I7 hx rfl)
  exact⟨cs,λ_=>⟨h1,h2⟩,h3⟩
 |false =>
  obtain⟨cs,hd⟩:=hd
  cases hx
  exact⟨cs,(λh=>nomatch h),hd⟩
theorem F2.f3{α:Type}{r:Wp α}{h h':Hp}(hp:∀ cs x,r.R h cs x->r.W h' cs x []):∀ {vs:List (List Value)} {xs:List α},F2 (r.R h) vs xs->F3 (r.W h') vs xs (xs.map λ_=>[])
 | [],[],_=>trivial
 |_::_,_::_,f=>⟨hp _ _ f.1,F2.f3 hp f.2⟩
 | [],_::_,f=>f.elim
 |_::_,[],f=>f.elim
theorem U0.newPlain{α:Type}{r:Wp α}{h h':Hp}{v:Value}{e:Nat}{nn:Bool}{vs:List (List Value)}{xs:List α}(f:U0 h h' v e r.sz nn vs)(hr:F2 (r.R h) vs xs)(hp:∀ cs x,r.R h cs x->r.W h cs x []):New r.slice h h' [v] xs :=
 U0.fresh (r:=r) (h0:=h) f (F2.f3 hp hr) (Sub.refl _) (by rw[L0i];exact K6.nil _)
theorem B04(h:Hp)(cs:List Value)(x:Int)(q:Wp.int.R h cs x):Wp.int.W h cs x []:=⟨q,rfl⟩
theorem K0d(h:Hp):∃ cs,Wp.int.R h cs 0:=⟨_,rfl,by decide,by decide⟩
theorem v0k(h:Hp):∃ cs,Wp.bool.R h cs false:=⟨_,rfl⟩
theorem B0o{α:Type}(r:Wp α)(h:Hp):r.slice.R h [.slice none 0 0] []:=New.nilSlice.r
end Go.H
