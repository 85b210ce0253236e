/- The library of the walks, part HE: plain laws over the model. -/
import Derived.Test.YthakcafglempaaaGreatHD
import Derived.Deep.Slices
import Derived.ChangeArms
import Derived.WideShapes
import Derived.Laws.Strings
namespace Go.H
set_option linter.all false
def b0r:Op->Bool
 | .move _ | .assign _ | .load .. | .binOp .. | .unOp .. | .index .. | .field .. | .fieldAddr .. | .indexAddr .. | .pick .. | .build .. | .convert ..=>true
 |_=>false
def J0a(b:Bool)(st:St)(K:St->Prop):Prop:=match b with
 |true=>K st
 |false=>match st with
  |⟨n,fr,bx,ow⟩=>R02 bx λbx=>R02 ow λow=>K ⟨n,fr,bx,ow⟩
theorem h0j(b:Bool)(st:St)(K:St->Prop):J0a b st K=K st:=by cases b;all_goals simp_all[J0a,H04]
def I0g(d:Option Tmp)(i:Nat)(ch:List (Nat×Bool))(av:AV)(rs:RS)(K:RS->Prop):Prop:=match rs with
 |⟨⟨n,fr,bx,ow⟩,h,gf,bs⟩=>match d with
  |none=>K ⟨⟨n,fr,bx,ow⟩,h,gf,bs⟩
  |some d=>match Nat.blt d n,s0b ⟨⟨n,fr,bx,ow⟩,h,gf,bs⟩ d with
   |true,false=>match ch with
    | []=>a06 av λav=>match av with
     | .val (.bool e)=>K ⟨⟨n,(d,.val (.bool e))::fr,bx,ow⟩,h,gf,⟨i,d,e,[]⟩::bs⟩
     |_=>K ⟨⟨n,(d,av)::fr,bx,ow⟩,h,gf,bs⟩
    |p::ch=>a06 av λav=>match av with
     | .val (.bool e)=>K ⟨⟨n,(d,.dead)::fr,bx,ow⟩,h,(d,p::ch,.val (.bool e))::gf,⟨i,d,e,p::ch⟩::bs⟩
     |_=>K ⟨⟨n,(d,.dead)::fr,bx,ow⟩,h,(d,p::ch,av)::gf,bs⟩
   |_,_=>False
theorem l0n(d:Option Tmp)(i:Nat)(ch:List (Nat×Bool))(av:AV)(rs:RS)(K:RS->Prop):I0g d i ch av rs K=V0d d i ch av rs K:=by
 obtain⟨⟨n,fr,bx,ow⟩,h,gf,bs⟩:=rs;cases d with
 |none=>rfl
 |some d =>
  simp only[I0g,V0d];generalize s0b _ d=u;generalize Nat.blt d n=b;cases b;·rfl
  cases u
  ·cases ch with
   |nil =>
    simp only[I06];cases av with
    |val v=>cases v<;>rfl
    |_=>rfl
   |cons p ch =>
    simp only[I06];cases av with
    |val v=>cases v<;>rfl
    |_=>rfl
  rfl
def O0b(P:Program)(l:List Oper):Nat->RS->(RS->Prop)->Prop :=
 List.rec (motive:=λ_=>Nat->RS->(RS->Prop)->Prop) (λ_ rs K=>K rs) (λo _ a i rs K=>match rs with
  |⟨⟨n,fr,bx,ow⟩,h,gf,bs⟩=>match o.guard,K0q o.op with
   |none,false=>z00 P o ⟨n,fr,bx,ow⟩ h λav st h=>J0a (b0r o.op) st λst=>I0g o.dst i [] av ⟨st,h,gf,bs⟩ λrs=>a (i+1) rs K
   |_,_=>match I01 bs o.guard with
    |some ch=>match cB bs ch with
     |some c=>match U0y ⟨⟨n,fr,bx,ow⟩,h,gf,bs⟩ ch o with
      |false=>evG P o ch c ⟨⟨n,fr,bx,ow⟩,h,gf,bs⟩ λav=>I0g o.dst i ch av ⟨⟨n,fr,bx,ow⟩,h,gf,bs⟩ λrs=>a (i+1) rs K
      |true=>(c=true->z00 P o ⟨n,j0o ⟨⟨n,fr,bx,ow⟩,h,gf,bs⟩ ch o.op.operands.toList,bx,ow⟩ h λav st h=>J0a false st λst=>I0g o.dst i ch av ⟨st,h,gf,bs⟩ λrs=>a (i+1) rs K) /\
        (c=false->I0g o.dst i ch (.val (.bool false)) ⟨⟨n,fr,bx,ow⟩,h,gf,bs⟩ λrs=>a (i+1) rs K)
     |none=>False
    |none=>False) l
theorem R0o(P:Program)(o:Oper)(r:List Oper)(i n:Nat)(fr:List (Nat×AV))(bx:List BSt)(ow:List Own)(h:Hp)(gf:List (Nat×List (Nat×Bool)×AV))(bs:List BE)(K:RS->Prop):
  O0b P (o::r) i ⟨⟨n,fr,bx,ow⟩,h,gf,bs⟩ K=match o.guard,K0q o.op with
   |none,false=>z00 P o ⟨n,fr,bx,ow⟩ h λav st h=>J0a (b0r o.op) st λst=>I0g o.dst i [] av ⟨st,h,gf,bs⟩ λrs=>O0b P r (i+1) rs K
   |_,_=>match I01 bs o.guard with
    |some ch=>match cB bs ch with
     |some c=>match U0y ⟨⟨n,fr,bx,ow⟩,h,gf,bs⟩ ch o with
      |false=>evG P o ch c ⟨⟨n,fr,bx,ow⟩,h,gf,bs⟩ λav=>I0g o.dst i ch av ⟨⟨n,fr,bx,ow⟩,h,gf,bs⟩ λrs=>O0b P r (i+1) rs K
      |true=>(c=true->z00 P o ⟨n,j0o ⟨⟨n,fr,bx,ow⟩,h,gf,bs⟩ ch o.op.operands.toList,bx,ow⟩ h λav st h=>J0a false st λst=>I0g o.dst i ch av ⟨st,h,gf,bs⟩ λrs=>O0b P r (i+1) rs K) /\
        (c=false->I0g o.dst i ch (.val (.bool false)) ⟨⟨n,fr,bx,ow⟩,h,gf,bs⟩ λrs=>O0b P r (i+1) rs K)
     |none=>False
    |none=>False:=rfl
theorem H0l(P:Program):∀(l:List Oper) (i:Nat) (rs:RS) (K:RS->Prop),O0b P l i rs K=X0a P l i rs K
 | [],i,rs,K=>rfl
 |o::r,i,⟨⟨n,fr,bx,ow⟩,h,gf,bs⟩,K=>by simp only[R0o,X0a,h0j,l0n,H0l P r];rfl
def x0v(P:Program)(l:List Oper):Nat->RS->(RS->Prop)->Prop :=
 List.rec (motive:=λ_=>Nat->RS->(RS->Prop)->Prop) (λ_ rs K=>K rs) (λo _ a i rs K=>match rs with
  |⟨⟨n,fr,bx,ow⟩,h,gf,bs⟩=>match I01 bs o.guard with
   |some ch=>match cB bs ch with
    |some c=>evG P o ch c ⟨⟨n,fr,bx,ow⟩,h,gf,bs⟩ λav=>I0g o.dst i ch av ⟨⟨n,fr,bx,ow⟩,h,gf,bs⟩ λrs=>a (i+1) rs K
    |none=>False
   |none=>False) l
theorem R0t(P:Program)(o:Oper)(r:List Oper)(i n:Nat)(fr:List (Nat×AV))(bx:List BSt)(ow:List Own)(h:Hp)(gf:List (Nat×List (Nat×Bool)×AV))(bs:List BE)(K:RS->Prop):
  x0v P (o::r) i ⟨⟨n,fr,bx,ow⟩,h,gf,bs⟩ K=match I01 bs o.guard with
   |some ch=>match cB bs ch with
    |some c=>evG P o ch c ⟨⟨n,fr,bx,ow⟩,h,gf,bs⟩ λav=>I0g o.dst i ch av ⟨⟨n,fr,bx,ow⟩,h,gf,bs⟩ λrs=>x0v P r (i+1) rs K
    |none=>False
   |none=>False:=rfl
theorem l0s(P:Program):∀(l:List Oper) (i:Nat) (rs:RS) (K:RS->Prop),x0v P l i rs K=evQ P l i rs K
 | [],i,rs,K=>rfl
 |o::r,i,⟨⟨n,fr,bx,ow⟩,h,gf,bs⟩,K=>by simp only[R0t,evQ,l0n,l0s P r];rfl
def w0i:List (Nat×AV)->(List (Nat×AV)->Prop)->Prop
 | [],K=>K []
 |(s,av)::r,K=>a06 av λav=>w0i r λr=>K ((s,av)::r)
theorem i0j:∀(l:List (Nat×AV)) (K:List (Nat×AV)->Prop),w0i l K=K l
 | [],K=>rfl
 |(s,av)::r,K=>by simp only[w0i,I06,i0j r]
def s0x{a:Type}:List a->List a->(List a->Prop)->Prop
 | [],b,K=>K b
 |x::r,b,K=>s0x r b λl=>K (x::l)
theorem m0s{c:Type}:∀(a b:List c) (K:List c->Prop),s0x a b K=K (a++b)
 | [],b,K=>rfl
 |x::r,b,K=>by simp only[s0x,m0s r,List.cons_append]
def g0z(A:Ann)(d b:List (Nat×AV))(a:St)(c:w0g)(μ:Z0a)(f:List Value)(m:Nat)(st:St)(h:Hp):Prop :=
 match Nat.beq st.n a.n,s0h a st d with
 |true,true=>q0l st.fr b=F0t b/\u0g A a st 0 a.bx st.bx/\v0g A 0 a.ow st.ow /\
   R0q A st λvs os=>R02 vs λvs=>match e0x vs f with
    |true=>y0b A.vars.length vs λ_ e=>K09 A.boxes e a.bx λ_=>L09 A.owns os a.ow λ_=>f0x A c μ m vs os h
    |false=>False
 |_,_=>False
theorem t0x(A:Ann)(b d:List (Nat×AV))(c:St)(a:w0g)(μ:Z0a)(e:List Value)(m:Nat)(st:St)(h:Hp): g0z A b d c a μ e m st h=f0v A b d c a μ e m st h:=by simp only[g0z,f0v,H04];rfl
def o9(k:(Ex->St->Hp->Prop)->St->Hp->Prop)(l:List Nat)(Q:Ex->St->Hp->Prop)(h:Hp)(A:Ann)(g:w0g)(μ:Z0a)(st:St):Prop:=match st with
 |⟨n,fr,bx,ow⟩=>R02 fr λfr=>R02 bx λa=>R02 ow λb=>R0q A ⟨n,fr,a,b⟩ λf j=>R02 f λf=>r0o A g f j h /\
  s0g (A.vars++l) λds=>headD A ⟨n,fr,a,b⟩ ds [] λi=>M09 A ds ⟨n,fr,a,b⟩ fr λd=>w0i d λd=>s0x i d λo =>
   P0e f.length λvs=>Q0e j.length λos=>s0o A g μ vs os λm h' =>
    y0b A.vars.length vs λq s=>K09 A.boxes s a λbx=>L09 A.owns os b λow=>R02 (t0g A.vars q o) λp=>R02 bx λbx=>R02 ow λow =>
     k (λe st' c=>match e with
      | .normal=>p0o A.pubs st' c λst' c=>g0z A i d ⟨n,fr,a,b⟩ g μ vs m st' c
      |e=>Q e st' c) ⟨n,p,bx,ow⟩ h'
def m0n(b:(Ex->St->Hp->Prop)->St->Hp->Prop)(c:List Nat)(Q:Ex->St->Hp->Prop)(st:St)(h:Hp):Prop :=
 ∃(A:Ann) (a:w0g) (μ:Z0a),o0o A.nils st λst=>N0i A.nilsB st λst=>p0o A.pubs st h λst h=>o9 b c Q h A a μ st
theorem S0t(b:(Ex->St->Hp->Prop)->St->Hp->Prop)(c:List Nat)(Q:Ex->St->Hp->Prop)(st:St)(h:Hp):m0n b c Q st h=Y0r b c Q st h:=by
 have k:∀ h A a μ,o9 b c Q h A a μ=λst=>R0q A st λj g=>r0o A a j g h /\
  s0g (A.vars++c) λds=>headD A st ds [] λf=>M09 A ds st st.fr λi =>
   P0e j.length λvs=>Q0e g.length λos=>s0o A a μ vs os λm h' =>
    y0b A.vars.length vs λl o=>K09 A.boxes o st.bx λbx=>L09 A.owns os st.ow λow =>
     b (λe st' d=>match e with
      | .normal=>p0o A.pubs st' d λst' d=>f0v A f i st a μ vs m st' d
      |e=>Q e st' d) ⟨st.n,t0g A.vars l (f++i),bx,ow⟩ h':=by
  intro h A a μ
  funext st
  simp_all[o9,H04,i0j,m0s,t0x]
 simp only[m0n,Y0r,k];rfl
def S0o(P:Program)(o:Oper)(st:St)(h:Hp)(K:St->Hp->Prop):Prop:=match st with
 |⟨n,fr,bx,ow⟩=>z00 P o ⟨n,fr,bx,ow⟩ h λav st h=>J0a (b0r o.op) st λst=>I0g o.dst 0 [] av ⟨st,h,[],[]⟩ λrs=>match rs with
  |⟨st,h,_,_⟩=>K st h
theorem T0o(P:Program)(o:Oper):S0o P o=A07 P o:=by funext st h K;simp_all[S0o,A07,h0j,l0n]
theorem T0t(P:Program):S0o P=A07 P:=funext (T0o P)
def evF(P:Program)(c:Code):(Ex->St->Hp->Prop)->St->Hp->Prop :=
 Code.rec (motive:=λ_=>(Ex->St->Hp->Prop)->St->Hp->Prop)
  (λQ st h=>Q .normal st h)
  (λ_ ops d Q st h=>match d with
   |false=>match c0x P ops.toList with
    |true=>U06 st.n ops.toList=true/\evU P ops.toList 0 [] [] st h λst h=>Q .normal st h
    |false=>O0b P ops.toList 0 ⟨st,h,[],[]⟩ λrs=>match rs with
     |⟨st,h,_,_⟩=>Q .normal st h
   |true=>((P.follows .mixedOrders=true/\Region.lexB .any ops=true) /\
     x0v P ops.toList 0 ⟨st,h,[],[]⟩ λrs=>match rs with
      |⟨st,h,_,_⟩=>Q .normal st h) ∨
     False ∨
     ((P.follows .mixedOrders=true/\Y08 st.n ops.toList=true)/\v0b P st ops.toList 0 [] [] λL a=>T0k (w05 L st ops.toList) (ops.size,p0g a) P (U0k a) a L st h λst h=>Q .normal st h) ∨
     ((P.follows .mixedOrders=true/\U06 st.n ops.toList=true)/\evU P ops.toList 0 [] [] st h λst h=>Q .normal st h) ∨
     (∃ m,(P.follows .mixedOrders=true/\okZ P st.n m ops.toList=true)/\evT P (S0o P) m ops.toList st h λst h=>Q .normal st h))
  (λ_ _ j k Q st h=>j (λe st h=>match e with
   | .normal=>k Q st h
   |e=>Q e st h) st h)
  (λc _ _ l o Q st h=>match rdO st c with
   | .val (.bool b)=>g0v b (l Q st h) (o Q st h)
   |_=>False)
  (λid _ f Q st h=>f (λe st h=>match e with
   | .exit i=>match Nat.beq i id with
    |true=>Q .normal st h
    |false=>Q (.exit i) st h
   |e=>Q e st h) st h)
  (λg f Q st h=>m0n (λQ=>f Q) (W0k g []) Q st h)
  (λ_ _ _ _ _ _ _ _ _=>False)
  (λid Q st h=>Q (.exit id) st h)
  (λ_ _ _ _ _=>False)
  (λ_ _ _ _=>False)
  (λ_ _ _ _=>False)
  (λQ st h=>Q .ret st h)
  (λ_ _ _ _=>False) c
theorem h0z(P:Program)(c:Code):evF P c=ev P c:=by
  induction c with
  |region id ops d =>
    funext Q st h
    cases d
    · show(match c0x P ops.toList with
        |true=>U06 st.n ops.toList=true/\evU P ops.toList 0 [] [] st h λst h=>Q .normal st h
        |false=>O0b P ops.toList 0 ⟨st,h,[],[]⟩ λrs=>match rs with
          |⟨st,h,_,_⟩=>Q .normal st h)=_
      simp only[ev,H0l]
      rfl
    · show(((P.follows .mixedOrders=true/\Region.lexB .any ops=true) /\
          x0v P ops.toList 0 ⟨st,h,[],[]⟩ λrs=>match rs with
            |⟨st,h,_,_⟩=>Q .normal st h) ∨
          False ∨
          ((P.follows .mixedOrders=true/\Y08 st.n ops.toList=true)/\v0b P st ops.toList 0 [] [] λL f=>T0k (w05 L st ops.toList) (ops.size,p0g f) P (U0k f) f L st h λst h=>Q .normal st h) ∨
          ((P.follows .mixedOrders=true/\U06 st.n ops.toList=true)/\evU P ops.toList 0 [] [] st h λst h=>Q .normal st h) ∨
          (∃ m,(P.follows .mixedOrders=true/\okZ P st.n m ops.toList=true)/\evT P (S0o P) m ops.toList st h λst h=>Q .normal st h))=_
      simp only[ev,l0s,T0o,T0t]
  |seq a b j k =>
    funext Q st h
    show evF P a (λe st h=>match e with
      | .normal=>evF P b Q st h
      |e=>Q e st h) st h=_
    simp only[ev,j,k];rfl
  |cond c x y l o =>
    funext Q st h
    show(match rdO st c with
      | .val (.bool b)=>g0v b (evF P x Q st h) (evF P y Q st h)
      |_=>False)=_
    simp only[ev,l,o];rfl
  |block id c g =>
    funext Q st h
    show evF P c (λe st h=>match e with
      | .exit i=>match Nat.beq i id with
        |true=>Q .normal st h
        |false=>Q (.exit i) st h
      |e=>Q e st h) st h=_
    simp only[ev,g];rfl
  |loop c g =>
    funext Q st h
    show m0n (λQ=>evF P c Q) (W0k c []) Q st h=_
    simp only[ev,g,S0t]
  |_=>rfl
def n0s(P:Program)(fn:Func)(args:List Value)(h:Hp)(T:Value->Hp->Prop):Prop :=
 match fn.body with
 |some c=>match Nat.ble args.length fn.ntmps with
  |true=>R02 (R0e 0 args) λfr=>evF P c (λe st h=>match e with
   | .exit _=>False
   |_=>U0q P fn.results.toList st h λvs _ h=>T (t0o vs) h) ⟨fn.ntmps,fr,[],[]⟩ h
  |false=>False
 |none=>False
theorem j5{P:Program}{f:FuncId}{fn:Func}{args:List Value}{h:Hp}{b:Value->Hp->Prop}(hf:P.funcs[f]?=some fn)(a:n0s P fn args h b):Tr P f args.toArray h b:=by refine a0r hf ?_;unfold n0s at a;unfold X0y;simp only[H04,h0z]at a;exact a
theorem Sub.refl(h:Hp):Sub h h:=λ_ _ e=>e
theorem Sub.trans{h c d:Hp}(a:Sub h c)(b:Sub c d):Sub h d:=λx o e=>b x o (a x o e)
theorem Sub.set{h:Hp}{b:Nat}{o:Obj}(a:h b=none):Sub h (h.set b o):=λx y e=>by grind[Hp.set_other]
theorem Sub.cell{h h':Hp}(d:Sub h h'){b o:Nat}{v:Value}(a:Hp.cell h b o=some v):Hp.cell h' b o=some v:=by
 unfold Hp.cell at a ⊢;split at a;·rename_i c;rw[d _ _ c];exact a
 cases a
theorem SlE.mono{h h':Hp}(q:Sub h h'){sz:Nat}{v:Value}{xs:LV}(e:SlE h sz v xs):SlE h' sz v xs:=by obtain⟨d,a,n,c,f,g,i,k⟩:=e;refine⟨d,a,n,c,f,g,i,k.imp id ?_⟩;rintro⟨b,o,l,m⟩;exact⟨b,o,l,λj v p=>q.cell (m j v p)⟩
theorem Y0.sub{h h':Hp}{v:Value}{e sz:Nat}{nn:Bool}{xs:LV}(f:Y0 h h' v e sz nn xs):Sub h h':=by rcases f.2 with⟨_,_,_,rfl⟩|⟨g,cap,cur,_,a,rfl,_⟩;all_goals simp_all[Sub.refl,Sub.set]
theorem Y0.sle{h h':Hp}{v:Value}{e sz:Nat}{nn:Bool}{xs:LV}(f:Y0 h h' v e sz nn xs):SlE h' sz v xs:=by
 refine⟨f.1,?_⟩;rcases f.2 with⟨rfl,rfl,_,rfl⟩|⟨g,cap,cur,rfl,i,rfl,a,b,c,d⟩;·grind
 grind[Hp.cell,Hp.set_same]
theorem Y0.slice{h h':Hp}{v:Value}{e sz:Nat}{nn:Bool}{xs:LV}(f:Y0 h h' v e sz nn xs):∃ a c,v = .slice a xs.length c/\xs.length<=maxLen:=by rcases f.2 with⟨rfl,rfl,_,rfl⟩|⟨g,cap,cur,rfl,k,rfl,b,d,i,j⟩;all_goals grind
def F2{c d:Type}(p:c->d->Prop):List c->List d->Prop
 | [],[]=>True
 |a::as,b::bs=>p a b/\F2 p as bs
 |_,_=>False
theorem F2.length{a b:Type}{p:a->b->Prop}:∀ {as:List a} {bs:List b},F2 p as bs->as.length=bs.length
 | [],[],_=>rfl
 |_::as,_::bs,h=>by simp[F2.length h.2]
 | [],_::_,h=>h.elim
 |_::_,[],h=>h.elim
theorem F2.get{f d:Type}{p:f->d->Prop}:∀ {as:List f} {bs:List d} {i:Nat} {b:d},F2 p as bs->bs[i]?=some b->∃ a,as[i]?=some a/\p a b
 |a::as,b::bs,0,e,h,c=>by cases c;exact⟨a,rfl,h.1⟩
 |a::as,b::bs,i+1,e,h,c=>by obtain⟨x,g,j⟩:=F2.get (i:=i) h.2 (by simpa using c);grind
 | [],[],i,e,h,c=>by simp at c
 | [],_::_,_,_,h,_=>h.elim
 |_::_,[],_,_,h,_=>h.elim
theorem F2.mono{d e:Type}{p q:d->e->Prop}(c:∀ a b,p a b->q a b):∀ {as:List d} {bs:List e},F2 p as bs->F2 q as bs
 | [],[],_=>trivial
 |_::as,_::bs,h=>⟨c _ _ h.1,F2.mono c h.2⟩
 | [],_::_,h=>h.elim
 |_::_,[],h=>h.elim
theorem F2.snoc{c d:Type}{p:c->d->Prop}{a:c}{b:d}(e:p a b):∀ {as:List c} {bs:List d},F2 p as bs->F2 p (as ++ [a]) (bs ++ [b])
 | [],[],_=>⟨e,trivial⟩
 |_::as,_::bs,h=>⟨h.1,F2.snoc e h.2⟩
 | [],_::_,h=>h.elim
 |_::_,[],h=>h.elim
theorem F2.set{c d:Type}{p:c->d->Prop}{a:c}{b:d}(e:p a b):∀ {as:List c} {bs:List d} (i:Nat),F2 p as bs->F2 p (as.set i a) (bs.set i b)
 | [],[],_,_=>trivial
 |_::as,_::bs,0,h=>⟨e,h.2⟩
 |_::as,_::bs,i+1,h=>⟨h.1,F2.set e i h.2⟩
 | [],_::_,_,h=>h.elim
 |_::_,[],_,h=>h.elim
structure Rp (α:Type) where
 sz:Nat
 R:Hp->List Value->α->Prop
 len:∀ {h cs x},R h cs x->cs.length=sz
 one:∀ {h cs x},R h cs x->∀ v∈cs,v.oneCell'=true
 mono:∀ {h h' cs x},Sub h h'->R h cs x->R h' cs x
def Rp.int:Rp Int:=⟨1,λ_ cs x=>cs = [.int .i64 x]/\H0 x,λh=>by rw[h.1];rfl,λh v a=>by rw[h.1]at a;simp at a;rw[a];rfl,λ_ h=>h⟩
def Rp.bool:Rp Bool:=⟨1,λ_ cs x=>cs = [.bool x],λh=>by rw[h];rfl,λh v a=>by rw[h]at a;simp at a;rw[a];rfl,λ_ h=>h⟩
def Rp.str:Rp ByteArray:=⟨1,λ_ cs x=>cs = [.string x]/\x.size<=9223372036854775807,λh=>by rw[h.1];rfl,λh v a=>by rw[h.1]at a;simp at a;rw[a];rfl,λ_ h=>h⟩
def Rp.pair{g i:Type}(r:Rp g)(q:Rp i):Rp (g×i) where
 sz:=r.sz+q.sz
 R:=λh cs x=>∃ a b,cs=a++b/\r.R h a x.1/\q.R h b x.2
 len:=by rintro h cs x ⟨a,b,rfl,c,d⟩;rw[List.length_append,r.len c,q.len d]
 one:=by
  rintro h cs x ⟨a,b,rfl,c,d⟩ v e
  rcases List.mem_append.1 e with e|e
  ·exact r.one c v e
  ·exact q.one d v e
 mono:=by rintro h h' cs x f ⟨a,b,rfl,c,d⟩;exact⟨a,b,rfl,r.mono f c,q.mono f d⟩
def Rp.iso{a b:Type}(r:Rp a)(f:b->a):Rp b:=⟨r.sz,λh cs y=>r.R h cs (f y),λh=>r.len h,λh=>r.one h,λc h=>r.mono c h⟩
def Rp.slice{e:Type}(r:Rp e):Rp (List e) where
 sz:=1
 R:=λh cs xs=>∃ a n c vs,cs = [.slice a n c]/\n=xs.length/\n<=9223372036854775807/\SlE h r.sz (.slice a n c) vs/\F2 (r.R h) vs xs
 len:=oG
 one:=by rintro h cs x ⟨a,n,c,vs,rfl,_⟩ v b;simp at b;rw[b];rfl
 mono:=by rintro h h' cs x d ⟨a,n,c,vs,rfl,f,g,i,j⟩;exact⟨a,n,c,vs,rfl,f,g,i.mono d,j.mono λ_ _ h=>r.mono d h⟩
def Sl{a:Type}(r:Rp a)(h:Hp)(v:Value)(xs:List a):Prop:=r.slice.R h [v] xs
abbrev U0t(h:Hp)(v:Value)(xs:List Int):Prop:=Sl .int h v xs
theorem Sl.mono{a:Type}{r:Rp a}{h h':Hp}(b:Sub h h'){v:Value}{xs:List a}(e:Sl r h v xs):Sl r h' v xs:=r.slice.mono b e
theorem Sl.slice{b:Type}{r:Rp b}{h:Hp}{v:Value}{xs:List b}(e:Sl r h v xs):∃ a c,v = .slice a xs.length c/\xs.length<=9223372036854775807:=by obtain⟨a,n,c,vs,g,rfl,i,⟨_,d,l,f,j,_,k,_⟩,_⟩:=e;grind
theorem Sl.len{b:Type}{r:Rp b}{h:Hp}{a:Option Addr}{n c:Nat}{xs:List b}(e:Sl r h (.slice a n c) xs):n=xs.length/\n<=9223372036854775807:=by obtain⟨d,f,g,i⟩:=e.slice;grind
theorem Sl.get{g:Type}{r:Rp g}{h:Hp}{v:Value}{xs:List g}(e:Sl r h v xs){i:Nat}{x:g}(f:xs[i]?=some x)(H:0<r.sz): InB v i/\∃ cs,T7 h v r.sz i cs/\r.R h cs x:=by
 obtain⟨a,n,c,vs,s,rfl,C,⟨t,y,J,A,u,D,E,d⟩,k⟩:=e;cases s;cases u;obtain⟨cs,l,m⟩:=k.get f;have G:=k.length;obtain⟨F,I⟩:=List.getElem?_eq_some_iff.1 f;have p:∀ x∈vs,x.length=r.sz:=λx f=>(t x f).1;have q:cs.length=r.sz:=r.len m;rcases d with d|⟨b,o,rfl,d⟩
 ·exfalso;cases cs with
  |nil=>simp at q;omega
  |cons z cs =>have:=b07 vs i (z::cs) p l 0 z rfl;grind
 refine⟨⟨b,o,_,_,rfl,oM,oM⟩,cs,⟨q,oM,b,o,_,_,rfl,λj v w=>?_⟩,m⟩;have:=d _ _ (b07 vs i cs p l j v w);grind
theorem V0t{a:Type}{xs:List a}{i:Nat}(d:a)(h:i<xs.length):xs[i]?=some (xs.getD i d):=by grind
theorem U0t.get{h:Hp}{v:Value}{xs:List Int}(e:U0t h v xs){i:Nat}(f:i<xs.length):InB v i/\T7 h v 1 i [.int .i64 (xs.getD i 0)]/\H0 (xs.getD i 0):=by obtain⟨a,cs,b,c,d⟩:=Sl.get e (V0t 0 f) Nat.zero_lt_one;subst c;exact⟨a,b,d⟩
theorem Y0.sl{d:Type}{r:Rp d}{h h':Hp}{v:Value}{e:Nat}{nn:Bool}{vs:LV}{xs:List d}(f:Y0 h h' v e r.sz nn vs)(b:F2 (r.R h) vs xs):Sl r h' v xs:=by obtain⟨a,c,rfl,g⟩:=f.slice;have i:=b.length;refine⟨a,_,c,vs,rfl,i,by simpa [maxLen] using g,f.sle,b.mono λ_ _ h=>r.mono f.sub h⟩
theorem Tr.forget{P:Program}{f:FuncId}{args:Array Value}{h:Hp}{x:Value}(t:Tr P f args h λv h'=>v=x/\Sub h h'):Tr P f args h λv h'=>v=x/\h'=h :=
 ⟨λw d=>(t.run w d).mono λ_ _ ⟨v,h',a,⟨e,c⟩,b⟩=>⟨v,h,a,⟨e,rfl⟩,b.less c⟩⟩
structure Wp (α:Type) extends Rp α where
 W:Hp->List Value->α->List Nat->Prop
 toR:∀ {h cs x B},W h cs x B->R h cs x
 dom:∀ {h cs x B},W h cs x B->∀ b∈B,h b≠none
 frame:∀ {h h' cs x B},W h cs x B->(∀ b∈B,h' b=h b)->W h' cs x B
def Wp.plain{a:Type}(r:Rp a)(c:∀ h h' cs x,r.R h cs x->r.R h' cs x):Wp a :=
 { r with W:=λh cs x B=>r.R h cs x/\B = [],toR:=λh=>h.1,dom:=(λh b d=>oG),frame:=λh _=>⟨c _ _ _ _ h.1,h.2⟩ }
def Wp.int:Wp Int := .plain .int λ_ _ _ _ h=>h
def Wp.bool:Wp Bool := .plain .bool λ_ _ _ _ h=>h
def Wp.str:Wp ByteArray := .plain .str λ_ _ _ _ h=>h
def Wp.pair{l m:Type}(r:Wp l)(q:Wp m):Wp (l×m) :=
 { Rp.pair r.toRp q.toRp with
  W:=λh cs x B=>∃ c d e f,cs=c++d/\B=e++f/\r.W h c x.1 e/\q.W h d x.2 f
  toR:=λ⟨c,d,e,f,j,_,g,i⟩=>⟨c,d,j,r.toR g,q.toR i⟩
  dom:=λ⟨c,d,e,f,_,k,g,i⟩ b a=>by
   subst k
   rcases List.mem_append.1 a with a|a
   ·exact r.dom g b a
   ·exact q.dom i b a
  frame:=λ⟨c,d,e,f,j,k,g,i⟩ hf=>by
   subst k
   exact⟨c,d,e,f,j,rfl,r.frame g λb a=>hf b (List.mem_append_left _ a),q.frame i λb a=>hf b (List.mem_append_right _ a)⟩ }
def Wp.iso{a b:Type}(r:Wp a)(f:b->a):Wp b :=
 { Rp.iso r.toRp f with W:=λh cs y B=>r.W h cs (f y) B,toR:=λh=>r.toR h,dom:=λh=>r.dom h,frame:=λh=>r.frame h }
def F3{d e f:Type}(p:d->e->f->Prop):List d->List e->List f->Prop
 | [],[],[]=>True
 |a::as,b::bs,c::cs=>p a b c/\F3 p as bs cs
 |_,_,_=>False
theorem F3.f2{d e g:Type}{p:d->e->g->Prop}{q:d->e->Prop}(f:∀ a b c,p a b c->q a b):∀ {as:List d} {bs:List e} {cs:List g},F3 p as bs cs->F2 q as bs
 | [],[],[],_=>trivial
 |_::as,_::bs,_::cs,h=>⟨f _ _ _ h.1,F3.f2 f h.2⟩
 | [],[],_::_,h=>h.elim
 | [],_::_,_,h=>h.elim
 |_::_,[],_,h=>h.elim
 |_::_,_::_,[],h=>h.elim
theorem F3.mono{e f g:Type}{p q:e->f->g->Prop}:∀ {as:List e} {bs:List f} {cs:List g},(∀ a b c,c∈cs->p a b c->q a b c)->F3 p as bs cs->F3 q as bs cs
 | [],[],[],_,_=>trivial
 |_::as,_::bs,_::cs,d,h=>⟨d _ _ _ mS h.1,F3.mono (λa b c i=>d a b c (mC _ i)) h.2⟩
 | [],[],_::_,_,h=>h.elim
 | [],_::_,_,_,h=>h.elim
 |_::_,[],_,_,h=>h.elim
 |_::_,_::_,[],_,h=>h.elim
theorem F3.snoc{d e f:Type}{p:d->e->f->Prop}{a:d}{b:e}{c:f}(g:p a b c):∀ {as:List d} {bs:List e} {cs:List f},F3 p as bs cs->F3 p (as ++ [a]) (bs ++ [b]) (cs ++ [c])
 | [],[],[],_=>⟨g,trivial⟩
 |_::as,_::bs,_::cs,h=>⟨h.1,F3.snoc g h.2⟩
 | [],[],_::_,h=>h.elim
 | [],_::_,_,h=>h.elim
 |_::_,[],_,h=>h.elim
 |_::_,_::_,[],h=>h.elim
theorem F3.mem{f g e:Type}{p:f->g->e->Prop}:∀ {as:List f} {bs:List g} {cs:List e} {c:e},F3 p as bs cs->c∈cs->∃ a b,p a b c
 |_::as,_::bs,_::cs,c,h,d=>by
  rcases List.mem_cons.1 d with rfl|d;·exact⟨_,_,h.1⟩
  exact F3.mem h.2 d
 | [],[],[],c,_,d=>by cases d
 | [],[],_::_,_,h,_=>h.elim
 | [],_::_,_,_,h,_=>h.elim
 |_::_,[],_,_,h,_=>h.elim
 |_::_,_::_,[],_,h,_=>h.elim
def o0s(sz:Nat)(h:Hp)(v:Value)(vs:LV)(B:List Nat):Prop :=
 (∀ x∈vs,x.length=sz/\∀ v∈x,v.oneCell'=true) /\
 ((v = .slice none 0 0/\vs = []/\B = [])∨∃ g o c cur ty,v = .slice (some ⟨g,o,none⟩) vs.length c/\vs.length<=c/\c<=9223372036854775807/\h g=some (.cells cur ty (0,0))/\B = [g] /\
  (∀ j u,vs.flatten[j]?=some u->cur[o+j]?=some u)/\o+c*sz<=cur.size)
theorem o0s.sle{sz:Nat}{h:Hp}{v:Value}{vs:LV}{B:List Nat}(w:o0s sz h v vs B):SlE h sz v vs:=by
 refine⟨w.1,?_⟩;rcases w.2 with⟨rfl,rfl,_⟩|⟨g,o,c,cur,ty,rfl,a,b,d,_,e⟩;·grind
 grind[Hp.cell]
def Wp.slice{s:Type}(r:Wp s):Wp (List s) :=
 { Rp.slice r.toRp with
  W:=λh cs xs B=>∃ v vs e Bs,cs = [v]/\o0s r.sz h v vs e/\F3 (r.W h) vs xs Bs/\B=e++Bs.flatten
  toR:=by
   rintro h cs xs B ⟨v,vs,e,Bs,rfl,d,f,rfl⟩
   have j:=f.f2 (q:=r.R h) λ_ _ _ h=>r.toR h
   have p:=d.sle
   have n:=j.length
   rcases d.2 with⟨rfl,rfl,_⟩|⟨g,o,c,cur,ty,rfl,l,m,_⟩
   ·exact⟨none,0,0,[],rfl,n,Nat.zero_le _,p,j⟩
   ·exact⟨_,_,c,vs,rfl,n,Nat.le_trans l m,p,j⟩
  dom:=by
   rintro h cs xs B ⟨v,vs,e,Bs,rfl,d,f,rfl⟩ b i
   rcases List.mem_append.1 i with i|i
   ·rcases d.2 with⟨_,_,rfl⟩|⟨g,o,c,cur,ty,_,_,_,y,rfl,_⟩
    all_goals grind
   ·obtain⟨C,t,u⟩:=List.mem_flatten.1 i
    obtain⟨a,x,k⟩:=f.mem t
    exact r.dom k b u
  frame:=by
   rintro h h' cs xs B ⟨v,vs,e,Bs,rfl,d,f,rfl⟩ hf
   refine⟨v,vs,e,Bs,rfl,⟨d.1,?_⟩,f.mono λa b c w k=>r.frame k λx z=>hf x (List.mem_append_right _ (List.mem_flatten.2 ⟨c,w,z⟩)),rfl⟩
   rcases d.2 with⟨rfl,rfl,rfl⟩|⟨g,o,c,cur,ty,rfl,l,m,y,rfl,A⟩
   ·grind
   ·exact .inr ⟨g,o,c,cur,ty,rfl,l,m,oG,rfl,A⟩ }
def G4(h:Hp)(B:List Nat):Prop:=B.Nodup/\∀ b∈B,h b=none
theorem Y0.rows{h h':Hp}{v:Value}{e sz:Nat}{nn:Bool}{vs:LV}(f:Y0 h h' v e sz nn vs):∃ B,o0s sz h' v vs B/\G4 h B:=by
 rcases f.2 with⟨rfl,rfl,_,rfl⟩|⟨g,cap,cur,rfl,d,rfl,a,b,c,i⟩;·exact⟨[],⟨oS,.inl ⟨rfl,rfl,rfl⟩⟩,by simp[G4]⟩
 refine⟨[g],⟨f.1,.inr ⟨g,0,cap,cur,e,rfl,a,by simpa [maxLen] using b,Hp.set_same _ _ _,rfl,λj u k=>?_,by rw[c];omega⟩⟩,oS,by simpa using d⟩;grind
theorem Y0.fresh{p:Type}{r:Wp p}{h0 h h':Hp}{v:Value}{e:Nat}{nn:Bool}{vs:LV}{xs:List p}{Bs:List (List Nat)}(f:Y0 h h' v e r.sz nn vs)(m:F3 (r.W h) vs xs Bs) (n:Sub h0 h) (l:G4 h0 Bs.flatten):∃ B,r.slice.W h' [v] xs B/\G4 h0 B/\Sub h0 h':=by
 obtain⟨j,q,i⟩:=f.rows;have w:∀ b∈Bs.flatten,h b≠none:=λb d=>by obtain⟨z,s,u⟩:=List.mem_flatten.1 d;obtain⟨a,x,g⟩:=m.mem s;exact r.dom g b u
 refine⟨j++Bs.flatten,⟨v,vs,j,Bs,rfl,q,m.mono λa b c A g=>r.frame g λx y=>?_,rfl⟩,⟨?_,λb d=>?_⟩,n.trans f.sub⟩
 ·have:=r.dom g x y;cases ho:h x with
  |none=>exact absurd ho this
  |some o=>exact f.sub x o ho
 ·rw[List.nodup_append];refine⟨i.1,l.1,λa t b d e=>?_⟩;exact w b d (by rw[←e];exact i.2 a t)
 rcases List.mem_append.1 d with d|d
 ·have k:=i.2 b d;cases ho:h0 b with
  |none=>rfl
  |some o=>rw[n b o ho]at k;cases k
 exact l.2 b d
def New{a:Type}(r:Wp a)(h h':Hp)(cs:List Value)(x:a):Prop:=∃ B,r.W h' cs x B/\G4 h B/\Sub h h'
theorem New.sub{a:Type}{r:Wp a}{h h':Hp}{cs:List Value}{x:a}(w:New r h h' cs x):Sub h h':=let ⟨_,_,_,s⟩:=w;s
theorem New.r{a:Type}{r:Wp a}{h h':Hp}{cs:List Value}{x:a}(w:New r h h' cs x):r.R h' cs x:=let ⟨_,hw,_,_⟩:=w;r.toR hw
theorem F3.ints{h:Hp}:∀(xs:List Int),(∀ x∈xs,H0 x)->F3 (Wp.int.W h) (xs.map λx=>[.int .i64 x]) xs (xs.map λ_=>[])
 | [],_=>trivial
 |x::r,a=>⟨⟨⟨rfl,a x mS⟩,rfl⟩,F3.ints r λy b=>a y (mC _ b)⟩
theorem U0o{a:Type}(xs:List a):(xs.map λ_=>([]:List Nat)).flatten = []:=by induction xs<;>simp_all
theorem U0t.all{h:Hp}{v:Value}{xs:List Int}(e:U0t h v xs):∀ x∈xs,H0 x:=by obtain⟨a,n,c,vs,_,_,_,_,b⟩:=e;intro x g;obtain⟨i,f⟩:=List.getElem?_of_mem g;obtain⟨cs,_,d⟩:=b.get f;exact d.2
theorem Wp.sub{a:Type}{r:Wp a}{h h':Hp}{cs:List Value}{x:a}{B:List Nat}(w:r.W h cs x B)(d:Sub h h'):r.W h' cs x B :=
 r.frame w λb c=>by
  have:=r.dom w b c
  cases ho:h b with
  |none=>exact absurd ho this
  |some o=>exact d b o ho
theorem k0f{a:Type}{r:Wp a}{h h':Hp}{L:LV}{xs:List a}{Bs:List (List Nat)}(w:F3 (r.W h) L xs Bs)(c:Sub h h'):F3 (r.W h') L xs Bs :=
 w.mono λ_ _ _ _ b=>Wp.sub b c
theorem z08{g:Type}{r:Wp g}{h0 h:Hp}{L:LV}{xs:List g}{Bs:List (List Nat)}{B:List Nat}(w:F3 (r.W h) L xs Bs)(n:Sub h0 h)(hf:G4 h0 Bs.flatten)(d:G4 h B): G4 h0 (Bs ++ [B]).flatten:=by
 have l:∀ b∈Bs.flatten,h b≠none:=λb c=>by obtain⟨q,i,k⟩:=List.mem_flatten.1 c;obtain⟨a,x,p⟩:=w.mem i;exact r.dom p b k
 have m:(Bs ++ [B]).flatten=Bs.flatten++B:=oS;rw[m];refine⟨?_,λb c=>?_⟩;·rw[List.nodup_append];exact⟨hf.1,d.1,λa j b c e=>l a j (by rw[e];exact d.2 b c)⟩
 rcases List.mem_append.1 c with c|c;·exact hf.2 b c
 have f:=d.2 b c;cases ho:h0 b with
 |none=>rfl
 |some o=>rw[n b o ho]at f;cases f
open Go.WideShapes Go.Deep
def a05(P:Program)(t:TypeId){e:Type}(r:Rp e):Prop :=
 ∀ {H:Type} (enc:TypeId×Value->H) (w:World) (base:Nat) (c:Nat->Bool) (a:Bool) (n:Nat) (cs:List Value) (x:DataW H×List MemPlace),
  DataW.trod enc P w base c a n t cs=some x->∃ d,r.R (λb=>w.heap[b]?) cs d
theorem a05.int{P:Program}{t:TypeId}(a:P.underlying t=some (.int .i64)):a05 P t Rp.int:=by intro H enc w base e d n cs x c;obtain⟨k,rfl,_,b⟩:=DataW.trod_int a c;exact⟨k,rfl,t0A b⟩
theorem a05.bool{P:Program}{t:TypeId}(a:P.underlying t=some .bool):a05 P t Rp.bool:=by intro H enc w base d c n cs x b;obtain⟨k,rfl,_⟩:=DataW.trod_bool a b;exact⟨k,rfl⟩
theorem a05.str{P:Program}{t:TypeId}(a:P.underlying t=some .string):a05 P t Rp.str:=by intro H enc w base e d n cs x c;obtain⟨k,rfl,_,b⟩:=DataW.trod_string a c;exact⟨k,rfl,Q0t b⟩
def I0l(P:Program)(a:List Field)(off:Nat){g:Type}(r:Rp g):Prop :=
 ∀ {H:Type} (enc:TypeId×Value->H) (w:World) (base:Nat) (e:Nat->Bool) (c:Bool) (n:Nat) (cs:List Value),
  (∀ f∈a,∃ y,DataW.trod enc P w base e c n f.type ((cs.drop f.offset).take (P.cellsOf f.type))=some y)->off+r.sz=cs.length->∃ d,r.R (λb=>w.heap[b]?) (cs.drop off) d
theorem I0l.one{P:Program}{f:Field}{off:Nat}{g:Type}{r:Rp g}(c:f.offset=off)(d:P.cellsOf f.type=r.sz)(h:a05 P f.type r):I0l P [f] off r:=by intro H enc w base e b n cs hf i;obtain⟨y,a⟩:=hf f (List.mem_singleton.2 rfl);rw[d,c,List.take_of_length_le (by simp;omega)]at a;exact h enc w base e b n _ y a
theorem I0l.cons{P:Program}{f:Field}{a:List Field}{off:Nat}{u v:Type}{r:Rp u}{q:Rp v}(p:f.offset=off)(t:P.cellsOf f.type=r.sz)(h:a05 P f.type r)(s:I0l P a (off+r.sz) q): I0l P (f::a) off (r.pair q):=by
 intro H enc w base d b n cs hf m;obtain⟨y,c⟩:=hf f mS;rw[t,p]at c;obtain⟨e,j⟩:=h enc w base d b n _ y c;have o:off+r.sz+q.sz=cs.length:=by rw[←m];show _=off+(r.sz+q.sz);omega
 obtain⟨i,k⟩:=s enc w base d b n cs (λg l=>hf g (mC _ l)) o;refine⟨(e,i),_,_,?_,j,k⟩;grind[List.drop_drop,List.take_append_drop]
theorem a05.struct{P:Program}{t:TypeId}{a:Array Field}{g:Type}{r:Rp g}(c:P.underlying t=some (.struct a))(l:P.cellsOf t=r.sz)(h:I0l P a.toList 0 r):a05 P t r:=by intro H enc w base e b n cs x d;obtain⟨xs,m,_,_,i,j,hf⟩:=DataW.trod_struct c d;have:=h enc w base e b m cs (λf k=>by grind[List.getElem?_of_mem,Array.getElem?_eq_some_iff]) oM;simpa using this
theorem p0s{e c:Type}[Inhabited c]{p:Nat->List e->c->Prop}:∀(n:Nat),(∀ i,i<n->∃ a b,p i a b)->∃(as:List (List e)) (bs:List c),as.length=n/\bs.length=n/\∀ i,i<n->p i (as.getD i []) (bs.getD i default)
 |0,_=>⟨[],[],rfl,rfl,λi d=>oM⟩
 |n+1,h=>by obtain⟨as,bs,f,g,j⟩:=p0s n λi d=>h i oM;obtain⟨a,b,k⟩:=h n oM;refine⟨as ++ [a],bs ++ [b],by simp[f],by simp[g],λi d=>?_⟩;grind
theorem F2.of_get{e d:Type}{p:List e->d->Prop}[Inhabited d]:∀(as:List (List e)) (bs:List d),as.length=bs.length->(∀ i,i<as.length->p (as.getD i []) (bs.getD i default))->F2 p as bs
 | [],[],_,_=>trivial
 |a::as,b::bs,c,h=>⟨h 0 oS,F2.of_get as bs (by simpa using c) λi f=>h (i+1) (by simpa using f)⟩
 | [],_::_,c,_=>by cases c
 |_::_,[],c,_=>by cases c
theorem q0s{sz:Nat}:∀(xs:LV) (j:Nat) (v:Value),(∀ x∈xs,x.length=sz)->xs.flatten[j]?=some v->j / sz<xs.length/\(xs.getD (j / sz) [])[j % sz]?=some v
 | [],j,v,_,h=>by simp at h
 |x::r,j,v,a,h=>by
  have b:=a x mS;rw[List.flatten_cons,List.getElem?_append]at h;by_cases hj:j<x.length;·simp_all[Nat.div_eq_of_lt,Nat.mod_eq_of_lt]
  rw[if_neg hj,b]at h;rw[b]at hj;obtain⟨f,g⟩:=q0s r (j-sz) v (λy c=>a y (mC _ c)) h;have h0:0<sz:=by grind
  have d:j / sz=(j-sz) / sz+1:=by conv=>lhs;rw[show j=(j-sz)+sz from oM,Nat.add_div_right _ h0]
  have e:j % sz=(j-sz) % sz:=by conv=>lhs;rw[show j=(j-sz)+sz from oM,Nat.add_mod_right]
  grind
theorem a05.slice{P:Program}{t e:TypeId}{u:Type}{r:Rp u}(S:P.underlying t=some (.slice e))(Q:P.cellsOf e=r.sz)(h0:0<r.sz)(z:a05 P e r):a05 P t r.slice:=by
 intro H enc w base E C n cs x h;rcases open_slice S h with⟨rfl,_⟩|⟨a,len,cap,m,k,U,V,rfl,Y,s,M,N,_,A⟩;·exact⟨[],none,0,0,[],rfl,rfl,Nat.zero_le _,⟨oS,none,0,0,rfl,rfl,Nat.le_refl _,.inl rfl⟩,trivial⟩
 have ab:len<=m:=by rw[N];split<;>omega
 rcases Nat.eq_zero_or_pos len with F|D;·subst F;exact⟨[],_,_,_,[],rfl,rfl,Nat.zero_le _,⟨oS,_,_,_,rfl,rfl,s,.inl rfl⟩,trivial⟩
 have T:Nonempty u:=by obtain⟨cs',_,f⟩:=A 0 oM;obtain⟨d,_⟩:=z enc w base E C k cs' _ f;exact⟨d⟩
 letI:Inhabited u:=Classical.inhabited_of_nonempty T;obtain⟨vs,xs,ae,af,l⟩:=p0s (p:=λi cs' d=>w.cells? base (a.add (i*P.cellsOf e)) (P.cellsOf e)=some cs'/\r.R (λb=>w.heap[b]?) cs' d) len (λi g=>by obtain⟨cs',o,f⟩:=A i oM;obtain⟨d,aa⟩:=z enc w base E C k cs' _ f;grind);have J:F2 (r.R λb=>w.heap[b]?) vs xs:=F2.of_get vs xs oM λi g=>(l i oM).2;have y:∀ x∈vs,x.length=r.sz/\∀ v∈x,v.oneCell'=true:=λx h=>by obtain⟨i,g,e⟩:=List.getElem_of_mem h;have:=(l i oM).2;rw[List.getD_eq_getElem?_getD,List.getElem?_eq_getElem g,e]at this;exact⟨r.len this,r.one this⟩
 have cell:∀ i j,i<len->j<r.sz->w.cell? ((a.add (i*r.sz)).add j)=(vs.getD i [])[j]?:=λi j g q=>by have:=(l i g).1;rw[Q]at this;obtain⟨_,_,K⟩:=World.cells?_some this;exact K j q
 have ad:a.spot=none:=by
  have o:=cell 0 0 D h0;have f:=(l 0 D).2;have X:=r.len f;have I:(a.add (0*r.sz)).add 0=a:=by simp[Addr.add]
  rw[I]at o;have c:((vs.getD 0 [])[0]?).isSome=true:=by grind
  rw[←o]at c;unfold World.cell? at c;split at c
  ·split at c;·cases c
   rename_i O;simpa using O
  cases c
 refine⟨xs,_,_,_,vs,rfl,oM,Nat.le_trans s (Q0t M),⟨y,_,_,_,rfl,oM,s,.inr ⟨a.block,a.off,?_,λj v q=>?_⟩⟩,J⟩;·cases a;grind
 obtain⟨W,G⟩:=q0s vs j v (λx h=>(y x h).1) q;have L:j % r.sz<r.sz:=Nat.mod_lt _ h0;have:=cell (j / r.sz) (j % r.sz) oM L;rw[G,add_add,show j / r.sz*r.sz+j % r.sz=j from by rw[Nat.mul_comm];exact Nat.div_add_mod ..]at this;unfold Hp.cell;unfold World.cell? at this;have Z:(a.add j).block=a.block:=by unfold Addr.add;split<;>rfl
 have ac:(a.add j).off=a.off+j:=by unfold Addr.add;split<;>simp_all
 grind
theorem W0t{P:Program}{H:Type}{enc:TypeId×Value->H}{w:World}{base i:Nat}{g:Nat->Bool}{f:Bool}{s:Reach}{t e:TypeId}{v:Value}{d:DataW H}{q:List MemPlace}{u:Type}{r:Rp u} (k:a05 P t r) (m:P.underlying t=some (.slice e)) (o:Value.okWide P w s i t v) (h:DataW.Trod enc P w base g f t v d q):∃ x,r.R (λb=>w.heap[b]?) [v] x:=by obtain⟨a,l,c,rfl⟩:=okWide_slice m o;obtain⟨n,j⟩:=h;obtain⟨x,p⟩:=k enc w base g f n _ _ j;exact⟨x,p⟩
theorem Z1{n:Nat}{m:Nat}(h:n<m)(a:m<=9223372036854775807):IntKind.i64.wrap ((n:Int)+1)=((n+1:Nat):Int):=by grind[w64]
theorem G4.nil(h:Hp):G4 h []:=⟨List.nodup_nil,λb a=>nomatch a⟩
theorem New.pair{m n:Type}{r:Wp m}{q:Wp n}{h k l:Hp}{d f:List Value}{x:m}{y:n}(a:New r h k d x)(b:New q k l f y):New (r.pair q) h l (d++f) (x,y):=by
 obtain⟨g,w1,j,s1⟩:=a;obtain⟨i,t,f2,s2⟩:=b;refine⟨g++i,⟨d,f,g,i,rfl,rfl,Wp.sub w1 s2,t⟩,⟨?_,λz c=>?_⟩,s1.trans s2⟩;·rw[List.nodup_append];refine⟨j.1,f2.1,λu p v s e=>?_⟩;have:=r.dom w1 u p;rw[e]at this;exact this (f2.2 v s)
 rcases List.mem_append.1 c with c|c;·exact j.2 z c
 have:=f2.2 z c;cases ho:h z with
 |none=>rfl
 |some o=>rw[s1 z o ho]at this;cases this
theorem New.int{h:Hp}{x:Int}(a:H0 x):New Wp.int h h [.int .i64 x] x:=⟨[],⟨⟨rfl,a⟩,rfl⟩,G4.nil h,Sub.refl h⟩
theorem New.str{h:Hp}{x:ByteArray}(a:x.size<=9223372036854775807):New Wp.str h h [.string x] x:=⟨[],⟨⟨rfl,a⟩,rfl⟩,G4.nil h,Sub.refl h⟩
theorem New.bool{h:Hp}{x:Bool}:New Wp.bool h h [.bool x] x:=⟨[],⟨rfl,rfl⟩,G4.nil h,Sub.refl h⟩
theorem New.nilSlice{a:Type}{r:Wp a}{h:Hp}:New r.slice h h [.slice none 0 0] []:=⟨[],⟨_,[],[],[],rfl,⟨oS,.inl ⟨rfl,rfl,rfl⟩⟩,trivial,rfl⟩,G4.nil h,Sub.refl h⟩
theorem Wp.slice_cell{b:Type}{r:Rp b}{h:Hp}{cs:List Value}{xs:List b}(d:r.slice.R h cs xs):∃ a n c,cs = [.slice a n c]:=by obtain⟨a,n,c,vs,rfl,_⟩:=d;grind
theorem F3.get{g e j:Type}{p:g->e->j->Prop}:∀ {as:List g} {bs:List e} {cs:List j} {i:Nat} {b:e},F3 p as bs cs->bs[i]?=some b->∃ a c,as[i]?=some a/\cs[i]?=some c/\p a b c
 |a::as,b::bs,c::cs,0,f,h,d=>by cases d;exact⟨a,c,rfl,rfl,h.1⟩
 |a::as,b::bs,c::cs,i+1,f,h,d=>by obtain⟨x,y,k,l,m⟩:=F3.get (i:=i) h.2 (by simpa using d);grind
 | [],[],[],i,f,h,d=>by simp at d
 | [],[],_::_,_,_,h,_=>h.elim
 | [],_::_,_,_,_,h,_=>h.elim
 |_::_,[],_,_,_,h,_=>h.elim
 |_::_,_::_,[],_,_,h,_=>h.elim
theorem F3.lens{a b c:Type}{p:a->b->c->Prop}:∀ {as:List a} {bs:List b} {cs:List c},F3 p as bs cs->as.length=bs.length/\cs.length=bs.length
 | [],[],[],_=>⟨rfl,rfl⟩
 |_::as,_::bs,_::cs,h=>by have:=F3.lens h.2;simp[this]
 | [],[],_::_,h=>h.elim
 | [],_::_,_,h=>h.elim
 |_::_,[],_,h=>h.elim
 |_::_,_::_,[],h=>h.elim
theorem F3.step{n o:Type}{p q:n->o->List Nat->Prop}:∀ {as:List n} {bs:List o} {Bs:List (List Nat)} {i:Nat} {a:n} {b:o} {c:List Nat},F3 p as bs Bs->Bs.flatten.Nodup->Bs[i]?=some c->q a b c -> (∀ a b d,d∈Bs->(∀ y∈d,y ∉ c)->p a b d->q a b d)->F3 q (as.set i a) (bs.set i b) Bs
 |u::as,w::bs,x::cs,0,a,b,c,h,e,f,k,j=>by cases f;rw[List.flatten_cons,List.nodup_append]at e;exact⟨k,h.2.mono λt v d g z=>j t v d (mC _ g) (λy l m=>e.2.2 y m y (List.mem_flatten.2 ⟨d,g,l⟩) rfl) z⟩
 |u::as,w::bs,x::cs,i+1,a,b,c,h,e,f,k,j=>by
  rw[List.flatten_cons,List.nodup_append]at e;have s:cs[i]?=some c:=by simpa using f
  refine⟨j _ _ _ mS (λy l m=>e.2.2 y l y (List.mem_flatten.2 ⟨c,List.mem_of_getElem? s,m⟩) rfl) h.1,F3.step h.2 e.2.1 s k λa b d g=>j a b d (mC _ g)⟩
 | [],[],[],i,_,_,_,h,_,f,_,_=>by simp at f
 | [],[],_::_,_,_,_,_,h,_,_,_,_=>h.elim
 | [],_::_,_,_,_,_,_,h,_,_,_,_=>h.elim
 |_::_,[],_,_,_,_,_,h,_,_,_,_=>h.elim
 |_::_,_::_,[],_,_,_,_,h,_,_,_,_=>h.elim
theorem V0o{sz:Nat}:∀(vs:LV) (i k:Nat) (x:List Value) (u:Value),(∀ y∈vs,y.length=sz)->vs[i]?=some x->k<sz->(vs.set i (x.set k u)).flatten=vs.flatten.set (i*sz+k) u
 |y::r,0,k,x,u,b,a,c=>by cases a;have d:=b _ mS;rw[List.set_cons_zero,List.flatten_cons,List.flatten_cons,Nat.zero_mul,Nat.zero_add,List.set_append_left (h:=oM)]
 |y::r,i+1,k,x,u,b,a,c=>by
  have d:=b y mS;have e:r[i]?=some x:=by simpa using a
  rw[List.set_cons_succ,List.flatten_cons,List.flatten_cons,V0o r i k x u (λz f=>b z (mC _ f)) e c,List.set_append_right (h:=oG),d];grind
 | [],i,k,x,u,_,a,_=>by simp at a
theorem Wp.at{K:Type}{r:Wp K}{h:Hp}{a:Option Addr}{n c:Nat}{xs:List K}{B:List Nat}(w:r.slice.W h [.slice a n c] xs B)(M:B.Nodup){i:Nat}{x:K}(o:xs[i]?=some x)(h0:0<r.sz): InB (.slice a n c) i/\∃ cs f b of cur ty,a=some ⟨b,of,none⟩/\T7 h (.slice a n c) r.sz i cs/\r.W h cs x f/\h b=some (.cells cur ty (0,0))/\(∀ k,k<r.sz->of+(i*r.sz+k)<cur.size)/\b∈B/\b ∉ f/\(∀ y∈f,y∈B)/\f.Nodup /\ (∀ h' m,(∀ y,y ∉ f->h' y=h y)->r.W h' cs m f->r.slice.W h' [.slice a n c] (xs.set i m) B) /\ (∀ k u m,k<r.sz->(∀ h',(∀ y∈f,h' y=h y)->r.W h' (cs.set k u) m f)->r.slice.W (h.set b (.cells (cur.setIfInBounds (of+(i*r.sz+k)) u) ty (0,0))) [.slice a n c] (xs.set i m) B):=by
 have Z:r.slice.R h [.slice a n c] xs:=r.slice.toR w;obtain⟨ae,_⟩:=Sl.get (r:=r.toRp) Z o h0;refine⟨ae,?_⟩;obtain⟨v,vs,aj,Bs,Y,⟨A,ah⟩,s,rfl⟩:=w;cases Y;obtain⟨cs,f,p,D,L⟩:=s.get o;obtain⟨al,am⟩:=s.lens;have ab:cs.length=r.sz:=r.len (r.toR L);rcases ah with⟨e,rfl,_⟩|⟨b,of,ak,cur,ty,e,S,T,U,rfl,J⟩;·simp at p
 cases e;rw[List.nodup_append]at M;obtain⟨_,N,ac⟩:=M;have t:∀ y∈f,y∈Bs.flatten:=λy g=>List.mem_flatten.2 ⟨f,List.mem_of_getElem? D,g⟩;have E:b ∉ Bs.flatten:=λl=>ac b (List.mem_singleton.2 rfl) b l rfl;have aa:∀ j u,cs[j]?=some u->cur[of+(i*r.sz+j)]?=some u:=λj u C=>J.1 _ _ (b07 vs i cs (λx o=>(A x o).1) p j u C);have af:∀ k,k<r.sz->of+(i*r.sz+k)<cur.size:=λk P=>by have:=aa k cs[k] (List.getElem?_eq_getElem oM);grind
 have ai:f.Nodup:=by grind
 refine⟨cs,f,b,of,cur,ty,rfl,⟨ab,oM,b,of,_,_,rfl,λj u C=>?_⟩,L,U,af,oS,λl=>E (t b l),λy g=>List.mem_append_right _ (t y g),ai,?_,?_⟩;·simp_all[Hp.cell,Nat.add_assoc]
 ·intro h' m hf G;have l:h' b=h b:=hf b λl=>E (t b l);refine⟨_,vs,[b],Bs,rfl,⟨A,.inr ⟨b,of,_,cur,ty,rfl,S,T,by rw[l];exact U,rfl,J⟩⟩,?_,rfl⟩;have:=F3.step (q:=r.W h') s N D G λV X d _ O F=>r.frame F λy g=>hf y (O y g);rwa [show vs.set i cs=vs from by obtain⟨ad,e⟩:=List.getElem?_eq_some_iff.1 p;rw[←e];exact List.set_getElem_self ad]at this
 intro k u m P G;have Q:∀ y∈Bs.flatten,(h.set b (.cells (cur.setIfInBounds (of+(i*r.sz+k)) u) ty (0,0))) y=h y:=λy g=>Hp.set_other h _ λe=>E (by rw[←e];exact g);have H:=G (h.set b (.cells (cur.setIfInBounds (of+(i*r.sz+k)) u) ty (0,0))) λy g=>Q y (t y g);refine⟨_,vs.set i (cs.set k u),[b],Bs,rfl,⟨λz I=>?_,.inr ⟨b,of,_,_,ty,oS,by simpa using S,T,Hp.set_same _ _ _,rfl,λj z C=>?_,by simpa using J.2⟩⟩,?_,rfl⟩
 ·rcases List.mem_or_eq_of_mem_set I with I|rfl;·exact A z I
  exact⟨r.len (r.toR H),r.one (r.toR H)⟩
 ·rw[V0o vs i k cs u (λx o=>(A x o).1) p P]at C;grind
 exact F3.step (q:=r.W _) s N D H λV X d ag O F=>r.frame F λy g=>Q y (List.mem_flatten.2 ⟨d,ag,g⟩)
theorem F2.take{a b:Type}{p:a->b->Prop}:∀ {as:List a} {bs:List b} (k:Nat),F2 p as bs->F2 p (as.take k) (bs.take k)
 | [],[],k,_=>by simp[F2]
 |_::as,_::bs,0,_=>by simp[F2]
 |_::as,_::bs,k+1,h=>⟨h.1,F2.take k h.2⟩
 | [],_::_,_,h=>h.elim
 |_::_,[],_,h=>h.elim
theorem F2.drop{a b:Type}{p:a->b->Prop}:∀ {as:List a} {bs:List b} (k:Nat),F2 p as bs->F2 p (as.drop k) (bs.drop k)
 | [],[],k,_=>by simp[F2]
 |_::as,_::bs,0,h=>h
 |_::as,_::bs,k+1,h=>F2.drop k h.2
 | [],_::_,_,h=>h.elim
 |_::_,[],_,h=>h.elim
theorem F2.append{a b:Type}{p:a->b->Prop}:∀ {as:List a} {bs:List b} {c:List a} {d:List b},F2 p as bs->F2 p c d->F2 p (as++c) (bs++d)
 | [],[],_,_,_,h=>h
 |_::as,_::bs,_,_,h,h'=>⟨h.1,F2.append h.2 h'⟩
 | [],_::_,_,_,h,_=>h.elim
 |_::_,[],_,_,h,_=>h.elim
theorem F3.take{a b c:Type}{p:a->b->c->Prop}:∀ {as:List a} {bs:List b} {cs:List c} (k:Nat),F3 p as bs cs->F3 p (as.take k) (bs.take k) (cs.take k)
 | [],[],[],k,_=>by simp[F3]
 |_::as,_::bs,_::cs,0,_=>by simp[F3]
 |_::as,_::bs,_::cs,k+1,h=>⟨h.1,F3.take k h.2⟩
 | [],[],_::_,_,h=>h.elim
 | [],_::_,_,_,h=>h.elim
 |_::_,[],_,_,h=>h.elim
 |_::_,_::_,[],_,h=>h.elim
theorem F3.append{a b c:Type}{p:a->b->c->Prop}:∀ {as:List a} {bs:List b} {cs:List c} {d:List a} {e:List b} {cs':List c},F3 p as bs cs->F3 p d e cs'->F3 p (as++d) (bs++e) (cs++cs')
 | [],[],[],_,_,_,_,h=>h
 |_::as,_::bs,_::cs,_,_,_,h,h'=>⟨h.1,F3.append h.2 h'⟩
 | [],[],_::_,_,_,_,h,_=>h.elim
 | [],_::_,_,_,_,_,h,_=>h.elim
 |_::_,[],_,_,_,_,h,_=>h.elim
 |_::_,_::_,[],_,_,_,h,_=>h.elim
theorem F3.set{d e f:Type}{p:d->e->f->Prop}{a:d}{b:e}{c:f}(g:p a b c):∀ {as:List d} {bs:List e} {cs:List f} (i:Nat),F3 p as bs cs->F3 p (as.set i a) (bs.set i b) (cs.set i c)
 | [],[],[],_,_=>trivial
 |_::as,_::bs,_::cs,0,h=>⟨g,h.2⟩
 |_::as,_::bs,_::cs,i+1,h=>⟨h.1,F3.set g i h.2⟩
 | [],[],_::_,_,h=>h.elim
 | [],_::_,_,_,h=>h.elim
 |_::_,[],_,_,h=>h.elim
 |_::_,_::_,[],_,h=>h.elim
theorem Sl.cut{i:Type}{r:Rp i}{h:Hp}{a:Option Addr}{n c:Nat}{xs:List i}(e:Sl r h (.slice a n c) xs): ∃ vs,SlE h r.sz (.slice a n c) vs/\∀ v l m,m<=xs.length->SlE h r.sz v ((vs.take m).drop l)->∃ b f d,v = .slice b f d/\Sl r h (.slice b f d) ((xs.take m).drop l):=by obtain⟨u,A,w,vs,j,rfl,x,k,g⟩:=e;cases j;refine⟨vs,k,λv l m z o=>?_⟩;obtain⟨p,b,f,d,rfl,q,s,t⟩:=o;have y:=g.length;refine⟨b,f,d,rfl,b,f,d,_,rfl,?_,?_,⟨p,b,f,d,rfl,q,s,t⟩,(g.take m).drop l⟩;all_goals grind
theorem S0k.take{sz m g o n c:Nat}{v:Value}(h:S0k sz (.slice (some ⟨g,o,none⟩) n c) 0 m v):v = .slice (some ⟨g,o,none⟩) m c:=by rw[h _ _ _ rfl];grind[Addr.add]
theorem New.mono{d:Type}{r:Wp d}{h0 a b:Hp}{cs:List Value}{x:d}(w:New r h0 a cs x)(c:Sub a b):New r h0 b cs x:=by obtain⟨B,w1,f,s1⟩:=w;exact⟨B,Wp.sub w1 c,f,s1.trans c⟩
theorem New.from{e:Type}{r:Wp e}{h0 a c:Hp}{cs:List Value}{x:e}(w:New r a c cs x)(d:Sub h0 a):New r h0 c cs x:=by
 obtain⟨B,w1,f,s1⟩:=w;refine⟨B,w1,⟨f.1,λb g=>?_⟩,d.trans s1⟩;have:=f.2 b g;cases ho:h0 b with
 |none=>rfl
 |some o=>rw[d b o ho]at this;cases this
theorem T09{c:Type}{r:Wp c}{h:Hp}{vs:LV}{xs:List c}{Bs:List (List Nat)}(w:F3 (r.W h) vs xs Bs):∀ b∈Bs.flatten,h b≠none:=λb e=>by obtain⟨i,d,f⟩:=List.mem_flatten.1 e;obtain⟨a,x,g⟩:=w.mem d;exact r.dom g b f
theorem A08{d:Type}{r:Wp d}{h h':Hp}{vs:LV}{xs:List d}{Bs:List (List Nat)}(w:F3 (r.W h) vs xs Bs)(hf:∀ b∈Bs.flatten,h' b=h b):F3 (r.W h') vs xs Bs :=
 w.mono λa b c e f=>r.frame f λx g=>hf x (List.mem_flatten.2 ⟨c,e,g⟩)
theorem New.app{z:Type}{r:Wp z}{h0 p h:Hp}{g o n c:Nat}{xs:List z}(w:New r.slice h0 p [.slice (some ⟨g,o,none⟩) n c] xs)(k:Sub p h): ∃ vs,H0q h r.sz (.slice (some ⟨g,o,none⟩) n c) vs/\vs.length=xs.length/\∀(m:LV) (y:List z) (Bs:List (List Nat)) (h':Hp) (l:Value),F3 (r.W h) m y Bs->G4 p Bs.flatten -> f0o h h' r.sz g l (vs++m)->New r.slice h0 h' [l] (xs++y)/\∃ D I H A,l = .slice (some ⟨D,I,none⟩) H A:=by
 obtain⟨B,⟨v,vs,ao,i,M,⟨Q,aa⟩,F,rfl⟩,N,u⟩:=w;cases M;rcases aa with⟨e,_⟩|⟨aq,aw,ap,cur,ty,e,ad,ae,af,rfl,ag,ah⟩;·cases e
 cases e;have V:=F.lens;have U:=k g _ af;have O:F3 (r.W h) vs xs i:=k0f F k;refine⟨vs,⟨Q,g,o,c,cur,ty,rfl,ad,by simpa [maxLen] using ae,ah,U,ag⟩,V.1,?_⟩;rintro m y Bs h' l ac j ⟨⟨R,f,J,C,K,an,rfl,ai,aj,ak,al,am⟩,D,I,H,A,L,G,s⟩;cases L;have E:=N;rw[G4,List.nodup_append]at E;obtain⟨⟨_,X,S⟩,au⟩:=E;have av:∀ b∈i.flatten,b≠g:=λb d e=>S g (List.mem_singleton.2 rfl) b d e.symm;have Y:∀ b∈i.flatten,b≠f:=λb d e=>by grind[T09]
 have Z:∀ b∈Bs.flatten,b≠f:=λb d e=>by
  rcases G with rfl|t;·have:=j.2 b d;grind
  grind[T09]
 have ar:h0 f=none:=by
  rcases G with rfl|t;·grind
  cases ho:h0 f with
  |none=>rfl
  |some x=>rw[k _ _ (u _ _ ho)]at t;cases t
 have T:∀ a∈i.flatten,∀ b∈Bs.flatten,a≠b:=λa P b d e=>by have q:=j.2 b d;grind[T09]
 refine⟨⟨[f]++(i++Bs).flatten,⟨_,vs++m,[f],i++Bs,rfl,⟨R,.inr ⟨f,J,C,K,an,rfl,ai,by simpa [maxLen] using aj,al,rfl,am,ak⟩⟩,?_,rfl⟩,⟨?_,?_⟩,?_⟩,f,J,_,C,rfl⟩;·exact(A08 O λb d=>s b (Y b d)).append (A08 ac λb d=>s b (Z b d))
 ·rw[List.flatten_append,List.nodup_append,List.nodup_append];refine⟨oS,⟨X,j.1,T⟩,λa P b d=>?_⟩;grind
 ·intro b d;rcases List.mem_append.1 d with d|d;·grind
  rw[List.flatten_append]at d;rcases List.mem_append.1 d with d|d;·grind
  have q:=j.2 b d;cases ho:h0 b with
  |none=>rfl
  |some x=>rw[u _ _ ho]at q;cases q
 intro b x ab;rw[s b (λe=>oG)];exact k _ _ (u _ _ ab)
theorem J0l{sz:Nat}:∀(vs:LV) (i:Nat) (new:List Value) (j:Nat),(∀ x∈vs,x.length=sz)->i<vs.length->new.length=sz -> (vs.set i new).flatten[j]?=if i*sz<=j/\j<i*sz+sz then new[j-i*sz]? else vs.flatten[j]?
 |x::r,0,new,j,a,_,c=>by grind
 |x::r,i+1,new,j,a,b,c=>by
  have d:=a x mS;rw[List.set_cons_succ,List.flatten_cons,List.flatten_cons,Nat.add_mul,Nat.one_mul];by_cases hj:j<sz;·rw[if_neg oM,List.getElem?_append_left oM,List.getElem?_append_left oM]
  rw[List.getElem?_append_right oM,List.getElem?_append_right oM,d,J0l r i new (j-sz) (λy e=>a y (mC _ e)) (by simpa using b) c];grind
 | [],i,new,j,_,b,_=>by simp at b
theorem K0l{By:List Nat}(c:By.Nodup):∀(Bs:List (List Nat)) (i:Nat),Bs.flatten.Nodup->(∀ b∈By,b ∉ Bs.flatten)->(Bs.set i By).flatten.Nodup/\∀ b∈(Bs.set i By).flatten,b∈Bs.flatten∨b∈By
 | [],i,h,_=>oS
 |B::Bs,0,h,a=>by grind
 |B::Bs,i+1,h,a=>by rw[List.flatten_cons,List.nodup_append]at h;obtain⟨e,f⟩:=K0l c Bs i h.2.1 (λb d g=>a b d oG);grind
theorem New.put{p:Type}{r:Wp p}{h0 k h:Hp}{g o n c:Nat}{xs:List p}(w:New r.slice h0 k [.slice (some ⟨g,o,none⟩) n c] xs)(m:Sub k h){i:Nat}(af:i<xs.length){new:List Value}{y:p}{By:List Nat} (D:r.W h new y By) (hf:G4 k By) {K:Hp->Prop} {off:Nat} (L:off=i*r.sz) {idx:Int} (N:0<=idx) (P:∀ h',New r.slice h0 h' [.slice (some ⟨g,o,none⟩) n c] (xs.set i y)->(∀ b,b≠g->h' b=h b)->k g≠none->K h'):I09 h (.slice (some ⟨g,o,none⟩) n c) idx off new K:=by
 subst L;obtain⟨B,⟨v,vs,Y,f,F,⟨t,S⟩,l,rfl⟩,G,C⟩:=w;cases F;rcases S with⟨e,_⟩|⟨aa,aj,Z,cur,ty,e,T,U,E,rfl,ah,V⟩;·cases e
 cases e;have ag:=l.lens;have M:=m g _ E;have ab:F3 (r.W h) vs xs f:=k0f l m;have A:new.length=r.sz:=r.len (r.toR D);have s:=G;rw[G4,List.nodup_append]at s;obtain⟨⟨_,R,I⟩,ac⟩:=s;have ad:∀ b∈f.flatten,b≠g:=λb a e=>I g (List.mem_singleton.2 rfl) b a e.symm;have ae:∀ b∈By,b≠g:=λb a e=>by have:=hf.2 b a;grind
 have z:o+i*r.sz+new.length<=cur.size:=by have:(i+1)*r.sz<=c*r.sz:=Nat.mul_le_mul_right _ oM;grind
 have J:∀ b∈By,b ∉ f.flatten:=λb a Q=>T09 l b Q (hf.2 b a);obtain⟨ai,X⟩:=K0l hf.1 f i R J;refine⟨g,o,_,c,cur,ty,⟨rfl,N,M,z⟩,P _ ?_ (λb a=>Hp.set_other _ _ a) (by rw[E];simp)⟩;rw[Q09];refine⟨[g]++(f.set i By).flatten,⟨_,vs.set i new,[g],f.set i By,rfl,⟨?_,.inr ⟨g,o,c,_,ty,oS,by simpa using T,U,Hp.set_same _ _ _,rfl,λj u O=>?_,by simpa [b01] using V⟩⟩,?_,rfl⟩,⟨?_,?_⟩,?_⟩
 ·intro x d;rcases List.mem_or_eq_of_mem_set d with d|rfl;·exact t x d
  exact⟨A,r.one (r.toR D)⟩
 ·rw[J0l vs i new j (λx d=>(t x d).1) oM A]at O;rw[List.getElem?_toArray,C0b _ _ _ _ (by simpa using z)];grind
 ·grind[F3.set,Hp.set_other,A08]
 ·grind
 ·intro b a;rcases List.mem_append.1 a with a|a;·grind
  rcases X b a with a|a;·grind
  have q:=hf.2 b a;cases ho:h0 b with
  |none=>rfl
  |some x=>rw[C _ _ ho]at q;cases q
 intro b x d;have H:b≠g:=λe=>oG;rw[Hp.set_other _ _ H];exact m _ _ (C _ _ d)
theorem n0n:∀(Bs:List (List Nat)) (k:Nat),Bs.flatten.Nodup->(Bs.take k).flatten.Nodup/\∀ b∈(Bs.take k).flatten,b∈Bs.flatten:=λBs k h=>by grind[List.flatten_append,List.take_append_drop,List.nodup_append,List.mem_append_left]
theorem New.take{i:Type}{r:Wp i}{h0 d:Hp}{g o n c:Nat}{xs:List i}(w:New r.slice h0 d [.slice (some ⟨g,o,none⟩) n c] xs){k:Nat}(M:k<=xs.length):New r.slice h0 d [.slice (some ⟨g,o,none⟩) k c] (xs.take k):=by
 obtain⟨B,⟨v,vs,F,a,l,⟨p,s⟩,h,rfl⟩,m,t⟩:=w;cases l;rcases s with⟨e,_⟩|⟨H,P,G,cur,ty,e,O,A,C,rfl,D,E⟩;·cases e
 cases e;have N:=h.lens;have f:=m;rw[G4,List.nodup_append]at f;obtain⟨⟨_,q,J⟩,K⟩:=f;obtain⟨Q,R⟩:=n0n a k q;have y:(vs.take k).length=k:=by simp;omega
 refine⟨[g]++(a.take k).flatten,⟨_,vs.take k,[g],a.take k,rfl,⟨λx z=>p x (List.mem_of_mem_take z),.inr ⟨g,o,c,cur,ty,by rw[y],oM,A,C,rfl,λj u L=>D j u ?_,E⟩⟩,h.take k,rfl⟩,⟨?_,λb I=>?_⟩,t⟩;·grind[List.flatten_append,List.take_append_drop,List.getElem?_append_left,List.getElem?_eq_some_iff]
 all_goals grind
def gi{a:Type}(xs:List a)(i:Int):Option a:=if 0<=i then xs[i.toNat]? else none
def sgi(s:ByteArray)(i:Int):Option UInt8:=if 0<=i then s[i.toNat]? else none
def chk{a:Type}(c:Bool)(o:Option a)(d:a):Option a:=match c with
 |true=>o
 |false=>some d
def grd(p:Prop)[Decidable p]:Option Unit:=if p then some ()else none
def b05{a:Type}(xs:List a)(l m:Int):Option (List a):=if 0<=l/\l<=m/\m<=(xs.length:Int)then some ((xs.take m.toNat).drop l.toNat)else none
def w9{R S:Type}(x:R ⊕ S)(k:S->Option R):Option R:=match x with
 | .inl r=>some r
 | .inr s=>k s
def X0t{R S T:Type}(x:R ⊕ S)(k:S->Option (R ⊕ T)):Option (R ⊕ T):=match x with
 | .inl r=>some (.inl r)
 | .inr s=>k s
def P0:Nat:=9223372036854775808
def E1:List Value->Nat
 | .int _ n::_=>n.toNat
 |_=>0
def M7(a b:ByteArray):Bool:=a.toList == b.toList
theorem M2{R S:Type}(r:R)(k:S->Option R):w9 (.inl r) k=some r:=rfl
theorem S0{R S:Type}(s:S)(k:S->Option R):w9 (.inr s) k=k s:=rfl
theorem P2{R S T:Type}(r:R)(k:S->Option (R ⊕ T)):X0t (.inl r) k=some (.inl r):=rfl
theorem U0{R S T:Type}(s:S)(k:S->Option (R ⊕ T)):X0t (.inr s) k=k s:=rfl
theorem B0{a b:Type}{o:Option a}{k:a->Option b}{r:b}(h:o.bind k=some r):∃ x,o=some x/\k x=some r:=Option.bind_eq_some_iff.1 h
theorem F0{p:Prop}[Decidable p]{u:Unit}(h:grd p=some u):p:=by grind[grd]
theorem N7{a:Type}{c:Bool}{o:Option a}{d x:a}(h:chk c o d=some x)(b:c=true):o=some x:=by rw[b]at h;exact h
theorem u0A{b:Bool}(h:b=false): ¬ b=true:=oG
theorem r0s{a:Type}{xs:List a}{i:Int}{x:a}(h:gi xs i=some x):0<=i/\xs[i.toNat]?=some x:=by grind[gi]
theorem J0g{a:Type}(xs:List a)(n:Nat):gi xs (n:Int)=xs[n]?:=by simp[gi]
theorem U02{s:ByteArray}{i:Int}{x:UInt8}(h:sgi s i=some x):0<=i/\s[i.toNat]?=some x:=by grind[sgi]
theorem U09{b:Type}{xs a:List b}{l m:Int}(h:b05 xs l m=some a):(0<=l/\l<=m/\m<=(xs.length:Int))/\a=(xs.take m.toNat).drop l.toNat:=by grind[b05,oJ]
theorem Z07{a b:ByteArray}:M7 a b=true↔a=b:=by
 constructor
 ·intro h;have:a.toList=b.toList:=by simpa [M7] using h
  rw[ByteArray.toList_eq,ByteArray.toList_eq]at this;have c:a.data=b.data:=Array.toList_inj.1 this;cases a;cases b;simp only at c;rw[c]
 grind[M7]
theorem l0f(a b:ByteArray):M7 a b=decide (a=b):=by grind[decide_eq_true,Z07,decide_eq_false,M7,absurd]
theorem M0(x:Int):H0 (IntKind.i64.wrap x):=by grind[H0,IntKind.wrap,IntKind.signed,IntKind.bits]
theorem L0l{n:Nat}(h:n<=9223372036854775807):H0 (n:Int):=⟨oM,oM⟩
theorem c64{x:Int}(a : -9223372036854775808<=x)(b:x<=9223372036854775807):H0 x:=⟨a,b⟩
theorem D01{a b:ByteArray}(h:a.size+b.size<=9223372036854775807):(a++b).size<=9223372036854775807:=oG
theorem P0b{s:ByteArray}{i j:Nat}(h:s.size<=9223372036854775807):(s.extract i j).size<=9223372036854775807:=by rw[ByteArray.size_extract];omega
instance (x:Int):Decidable (H0 x):=inferInstanceAs (Decidable (_/\_))
theorem S00{p:Prop}[Decidable p]{x y:Int}(a:H0 x)(b:H0 y):H0 (if p then x else y):=by split<;>assumption
theorem Sl.getI{a:Type}{r:Rp a}{h:Hp}{v:Value}{xs:List a}(e:Sl r h v xs){i:Int}{x:a}(b:gi xs i=some x)(c:0<r.sz):InB v i/\∃ cs,T7 h v r.sz i cs/\r.R h cs x:=by obtain⟨h0,b⟩:=r0s b;grind[Int.eq_ofNat_of_zero_le,Sl.get]
theorem Sl.getG{a:Type}{r:Rp a}{h:Hp}{v:Value}{xs:List a}(e:Sl r h v xs){c:Bool}{i:Int}{d x:a}(f:chk c (gi xs i) d=some x)(g:0<r.sz)(b:∃ cs,r.R h cs d): ∃ cs,(c=true->InB v i/\T7 h v r.sz i cs)/\r.R h cs x:=by
 cases c;·obtain⟨cs,b⟩:=b;cases f;grind
 obtain⟨j,cs,k,l⟩:=Sl.getI e (N7 f rfl) g;grind
theorem T7.up{h h':Hp}(l:Sub h h'){v:Value}{sz:Nat}{i:Int}{cs:List Value}(e:T7 h v sz i cs):T7 h' v sz i cs:=by obtain⟨c,d,b,o,n,a,f,g⟩:=e;exact⟨c,d,b,o,n,a,f,λj v k=>l.cell (g j v k)⟩
theorem E6{n:Nat}{fr:List (Nat×AV)}{bx:List BSt}{ow:List Own}:P0q ⟨n,fr,bx,ow⟩ ⟨n,fr,bx,ow⟩:=⟨rfl,rfl,rfl,[],(List.append_nil _).symm⟩
theorem Sl.rows{b:Type}{r:Rp b}{h:Hp}{a:Option Addr}{n c:Nat}{xs:List b}(e:Sl r h (.slice a n c) xs):∃ vs,SlE h r.sz (.slice a n c) vs/\F2 (r.R h) vs xs:=by obtain⟨d,l,f,vs,g,rfl,i,j,k⟩:=e;grind
theorem Sl.cutI{g:Type}{r:Rp g}{h:Hp}{a:Option Addr}{n c:Nat}{xs b:List g}(e:Sl r h (.slice a n c) xs){l m:Int}(s:b05 xs l m=some b): (0<=l/\l<=m/\m<=(n:Int))/\∃ vs,SlE h r.sz (.slice a n c) vs/\∀ v,SlE h r.sz v ((vs.take m.toNat).drop l.toNat)->∃ d f,v = .slice d b.length f/\Sl r h (.slice d b.length f) b:=by obtain⟨⟨o,p,q⟩,rfl⟩:=U09 s;obtain⟨rfl,_⟩:=Sl.len e;obtain⟨vs,i,j⟩:=Sl.cut e;refine⟨⟨o,p,q⟩,vs,i,λv t=>?_⟩;obtain⟨d,w,f,rfl,k⟩:=j v l.toNat m.toNat oM t;obtain⟨u,_⟩:=Sl.len k;grind
theorem F2.up{a:Type}{r:Rp a}{h h':Hp}(b:Sub h h'){vs:LV}{xs:List a}(f:F2 (r.R h) vs xs):F2 (r.R h') vs xs:=f.mono λ_ _ q=>r.mono b q
theorem Y0.out{d:Type}{r:Rp d}{h h':Hp}{v:Value}{e:Nat}{nn:Bool}{vs:LV}{xs:List d}(f:Y0 h h' v e r.sz nn vs)(i:F2 (r.R h) vs xs): ∃ a c,v = .slice a xs.length c/\Sl r h' (.slice a xs.length c) xs/\Sub h h'/\xs.length<=9223372036854775807:=by have b:=Y0.sl f i;obtain⟨a,c,rfl,g⟩:=b.slice;exact⟨a,c,rfl,b,f.sub,g⟩
theorem F2.rep{c d:Type}{p:c->d->Prop}{a:c}{b:d}(h:p a b):∀ n:Nat,F2 p (List.replicate n a) (List.replicate n b)
 |0=>trivial
 |n+1=>⟨h,F2.rep h n⟩
def Rp.u8:Rp Int:=⟨1,λ_ cs x=>cs = [.int .u8 x],λh=>by rw[h];rfl,λh v a=>by rw[h]at a;simp at a;rw[a];rfl,λ_ h=>h⟩
theorem F2.u8{h:Hp}:∀ {vs:LV} {xs:List Int},F2 (Rp.u8.R h) vs xs->vs=xs.map λn=>[.int .u8 n]
 | [],[],_=>rfl
 |v::vs,x::xs,f=>by rw[show v = [.int .u8 x] from f.1,F2.u8 f.2];rfl
 | [],_::_,f=>f.elim
 |_::_,[],f=>f.elim
theorem G1{n m by_:Nat}{u:Unit}(g:grd (n*by_<=140737488355328)=some u)(e:m=n):H09 m by_:=by subst e;exact show m*by_<=140737488355328 from F0 g
theorem S3{b:Type}{p:List Value->b->Prop}{vs:LV}{xs:List b}(f:F2 p vs xs){i:Int}{x:b}(a:gi xs i=some x):(0<=i/\i<(vs.length:Int))/\∃ cs,vs[i.toNat]?=some cs/\p cs x:=by obtain⟨h0,a⟩:=r0s a;obtain⟨cs,c,d⟩:=f.get a;grind
theorem e06{a:Type}{p:List Value->a->Prop}{vs:LV}{xs:List a}(f:F2 p vs xs){c:Bool}{i:Int}{d x:a}(e:chk c (gi xs i) d=some x)(b:∃ cs,p cs d): ∃ cs,(c=true->(0<=i/\i<(vs.length:Int))/\vs[i.toNat]?=some cs)/\p cs x:=by
 cases c;·obtain⟨cs,b⟩:=b;cases e;grind
 obtain⟨g,cs,h,j⟩:=S3 f (N7 e rfl);grind
theorem F2.f3{b:Type}{r:Wp b}{h h':Hp}(a:∀ cs x,r.R h cs x->r.W h' cs x []):∀ {vs:LV} {xs:List b},F2 (r.R h) vs xs->F3 (r.W h') vs xs (xs.map λ_=>[])
 | [],[],_=>trivial
 |_::_,_::_,f=>⟨a _ _ f.1,F2.f3 a f.2⟩
 | [],_::_,f=>f.elim
 |_::_,[],f=>f.elim
theorem Y0.newPlain{a:Type}{r:Wp a}{h h':Hp}{v:Value}{e:Nat}{nn:Bool}{vs:LV}{xs:List a}(f:Y0 h h' v e r.sz nn vs)(c:F2 (r.R h) vs xs)(b:∀ cs x,r.R h cs x->r.W h cs x []):New r.slice h h' [v] xs :=
 Y0.fresh (r:=r) (h0:=h) f (F2.f3 b c) (Sub.refl _) (by grind[U0o,G4.nil])
theorem B07(h:Hp)(cs:List Value)(x:Int)(q:Wp.int.R h cs x):Wp.int.W h cs x []:=⟨q,rfl⟩
theorem R0z(h:Hp)(cs:List Value)(x:ByteArray)(q:Wp.str.R h cs x):Wp.str.W h cs x []:=⟨q,rfl⟩
theorem m0f(h:Hp):∃ cs,Wp.int.R h cs 0:=⟨_,rfl,oD,oD⟩
theorem i0z(h:Hp):∃ cs,Wp.bool.R h cs false:=⟨_,rfl⟩
theorem S0z(h:Hp):∃ cs,Wp.str.R h cs ⟨#[]⟩:=⟨_,rfl,oD⟩
theorem z09{a:Type}(r:Wp a)(h:Hp):r.slice.R h [.slice none 0 0] []:=New.nilSlice.r
theorem v0A{a:Type}(r:Wp a)(h:Hp):∃ cs,r.slice.R h cs []:=⟨_,z09 r h⟩
end Go.H
