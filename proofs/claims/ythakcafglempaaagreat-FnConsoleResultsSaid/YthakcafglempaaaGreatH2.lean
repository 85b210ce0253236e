/- Plain laws over the model: what a function's code asks, written out by a recursive function; slices and variables that the call itself makes are kept apart as lists. -/
import Derived.Test.YthakcafglempaaaGreatH1
import Derived.Laws.BytesArg
namespace Go.H
set_option linter.all false
def nth{a:Type}:List a->Nat->Option a
 | [],_=>none
 |x::_,0=>some x
 |_::r,k+1=>nth r k
inductive S6 where
 |val (v:Value)
 |own (i k:Nat)
inductive AV where
 |val (v:Value)
 |own (i k:Nat)
 |box (i off:Nat)
 |hel (s:Value) (idx:Int) (sz k:Nat)
 |oel (i st:Nat) (idx:Int) (sz k:Nat)
 |agg (cs:List S6)
 |dead
inductive OSt where
 |live (e:TypeId) (sz by_:Nat) (nn:Bool) (xs:LV)
 |frozen (v:Value)
structure Own where
 stamp:Nat
 st:OSt
inductive BSt where
 |live (cells:List S6) (ty:TypeId)
 |publ (b:Nat)
structure St where
 n:Nat
 fr:List (Nat×AV)
 bx:List BSt
 ow:List Own
def St.withOw(st:St)(l:List Own):St:=match st with
 |⟨n,fr,bx,_⟩=>⟨n,fr,bx,l⟩
def St.withBx(st:St)(l:List BSt):St:=match st with
 |⟨n,fr,_,ow⟩=>⟨n,fr,l,ow⟩
@[simp] theorem St.withOw_eq (st:St) (l:List Own):st.withOw l = { st with ow:=l }:=rfl
@[simp] theorem St.withBx_eq (st:St) (l:List BSt):st.withBx l = { st with bx:=l }:=rfl
def ptr(b off:Nat):Value := .pointer (some ⟨b,off,none⟩)
def L3:List (Nat×AV)->Nat->AV
 | [],_ => .dead
 |(k,v)::r,s=>match Nat.beq k s with
  |true=>v
  |false=>L3 r s
def SlE(h:Hp)(sz:Nat)(s:Value)(xs:LV):Prop :=
 (∀ x∈xs,x.length=sz/\∀ v∈x,v.oneCell'=true)/\∃ a n c,s = .slice a n c/\n=xs.length/\n<=c /\
  (xs.flatten = []∨∃ b o,a=some ⟨b,o,none⟩/\∀ j v,xs.flatten[j]?=some v->Hp.cell h b (o+j)=some v)
def T7(h:Hp)(d:Value)(sz:Nat)(idx:Int)(c:List Value):Prop :=
 c.length=sz/\0<=idx/\∃ b o n a,d = .slice (some ⟨b,o,none⟩) n a/\∀ j v,c[j]?=some v->Hp.cell h b (o+idx.toNat*sz+j)=some v
def InB(s:Value)(j:Int):Prop:=∃ b o n c,s = .slice (some ⟨b,o,none⟩) n c/\0<=j/\j<(n:Int)
def Y0(h h':Hp)(v:Value)(e:TypeId)(sz:Nat)(nn:Bool)(xs:LV):Prop :=
  (∀ x∈xs,x.length=sz/\∀ v∈x,v.oneCell'=true) /\
  ((v = .slice none 0 0/\xs = []/\nn=false/\h'=h) ∨
   ∃ g cap cur,v = .slice (some ⟨g,0,none⟩) xs.length cap/\h g=none/\h'=h.set g (.cells cur e (0,0)) /\
     xs.length<=cap/\cap<=maxLen/\cur.size=cap*sz/\cur.toList.take (xs.length*sz)=xs.flatten)
def o7(P:Program)(t:TypeId):Option Nat:=match P.info? t with
 |some i=>some i.size
 |none=>none
def U0d(P:Program)(t:TypeId):Option Nat:=match P.info? t with
 |some i=>some i.bytes
 |none=>none
def Q02(P:Program)(t:TypeId):Option Value:=match P.info? t with
 |some i=>i.zero
 |none=>none
def K0m(P:Program)(t:TypeId):Option Bool:=match P.underlying t with
 |some (.struct _)=>some true
 |some (.array _ _)=>some true
 |some _=>some false
 |none=>none
def L0m(P:Program)(t:TypeId)(k:Nat):Option Nat:=match P.underlying t with
 |some (.struct fs)=>match fs[k]? with
  |some f=>match o7 P f.type with
   |some (_+1)=>some f.offset
   |_=>none
  |none=>none
 |_=>none
def O0u(P:Program)(t:TypeId)(j:Int):Option Nat:=match P.underlying t,j with
 |some (.array n e),.ofNat m=>match o7 P e,Nat.blt m n with
  |some (sz+1),true=>some (m*(sz+1))
  |_,_=>none
 |_,_=>none
def q03(P:Program)(t:TypeId):Option TypeId:=match P.underlying t with
 |some (.slice e)=>some e
 |_=>none
def rdA(st:St):AV->AV
 | .own i k=>match nth st.ow i with
  |some ⟨a,o⟩=>match Nat.beq a k with
   |true=>match o with
    | .live .. => .own i k
    | .frozen v => .val v
   |false => .dead
  |none => .dead
 | .box i off=>match nth st.bx i with
  |some (.live ..) => .box i off
  |some (.publ b) => .val (ptr b off)
  |none => .dead
 | .oel i a idx sz k=>match nth st.ow i with
  |some ⟨c,.live ..⟩=>match Nat.beq c a with
   |true => .oel i a idx sz k
   |false => .dead
  |_ => .dead
 |av=>av
def rdO(st:St):Operand->AV
 | .tmp t=>rdA st (L3 st.fr t)
 | .const v => .val v
 | .global _ => .dead
 | .func f => .val (.func (.func f) #[] #[])
def F02{a:Type}:List a->Nat->a->List a
 | [],_,_=>[]
 |_::r,0,y=>y::r
 |x::r,k+1,y=>x::F02 r k y
def vals:List Value->List S6
 | []=>[]
 |v::r => .val v::vals r
def M0m(i k:Nat)(st:St)(h:Hp)(K:Value->St->Hp->Prop):Prop :=
 match nth st.ow i with
 |some ⟨s,.live e sz _ nn xs⟩=>match Nat.beq s k with
  |true=>∀ v h',Y0 h h' v e sz nn xs->K v (st.withOw (F02 st.ow i ⟨s,.frozen v⟩)) h'
  |false=>False
 |some ⟨s,.frozen v⟩=>match Nat.beq s k with
  |true=>K v st h
  |false=>False
 |none=>False
def l0b:List S6->St->Hp->(List Value->St->Hp->Prop)->Prop
 | [],st,h,K=>K [] st h
 | .val v::r,st,h,K=>l0b r st h λvs st h=>K (v::vs) st h
 | .own i k::r,st,h,K=>M0m i k st h λv st h=>l0b r st h λvs st h=>K (v::vs) st h
def P0u(i off:Nat)(st:St)(h:Hp)(K:Value->St->Hp->Prop):Prop :=
 match nth st.bx i with
 |some (.live cells ty)=>l0b cells st h λvs st h=>∀ b,h b=none ->
   K (ptr b off) (st.withBx (F02 st.bx i (.publ b))) (h.set b (.cells vs.toArray ty (0,0)))
 |some (.publ b)=>K (ptr b off) st h
 |none=>False
def rfy(av:AV)(st:St)(h:Hp)(K:Value->St->Hp->Prop):Prop :=
 match av with
 | .val v=>K v st h
 | .own i k=>M0m i k st h K
 | .box i off=>P0u i off st h K
 | .agg cs=>l0b cs st h λvs st h=>K (.agg vs.toArray) st h
 |_=>False
def l0g:List Operand->St->Hp->(List (Nat×Value)->St->Hp->Prop)->Prop
 | [],st,h,K=>K [] st h
 | .tmp t::r,st,h,K=>rfy (rdO st (.tmp t)) st h λv st h=>l0g r st h λvs st h=>K ((t,v)::vs) st h
 | .global _::_,_,_,_=>False
 |_::r,st,h,K=>l0g r st h K
def S0r:List (Nat×Value)->Nat->Value
 | [],_=>undef
 |(k,v)::r,s=>match Nat.beq k s with
  |true=>v
  |false=>S0r r s
def rho(vs:List (Nat×Value)):Operand->Value
 | .tmp t=>S0r vs t
 | .const v=>v
 | .global g => .pointer (some ⟨g,0,none⟩)
 | .func f => .func (.func f) #[] #[]
def I0e:Op->Bool
 | .select _ _=>true
 |_=>false
def N0m(a:Operand->Value):List Operand->List Value
 | []=>[]
 |x::r=>a x::N0m a r
def Q0u:List Value->List Value->List Value
 | [],l=>l
 |x::r,l=>x::Q0u r l
def m0b(a:Operand->Value)(o:Oper):Option (FuncId×List Value):=match o.op with
 | .call c=>match c.callee with
  | .value x=>match a x with
   | .func (.func f) first captured=>some (f,Q0u first.toList (Q0u (N0m a c.args.toList) captured.toList))
   |_=>none
  |_=>none
 |_=>none
def okF(P:Program)(f:FuncId):Bool:=match P.funcs[f]? with
 |some fn=>match fn.body with
  |some _=>match fn.name == "runtime.NumGoroutine" with
   |true=>false
   |false=>true
  |none=>false
 |none=>false
def n0b:List Operand->List Bool
 | []=>[]
 | .const _::r=>true::n0b r
 |_::r=>false::n0b r
def n0l(a:Operand->Value)(o:Oper):Sem Next:=match o.op with
 | .call c=>match c.callee with
  | .builtin b=>invoke (.builtin b c.argTypes o.type (n0b c.args.toList).toArray) (N0m a c.args.toList).toArray
  |_=>execOp a o
 | .makeFunc fn first captured=>do pure (.value (←Instr.makeFunc fn (N0m a first.toList).toArray (N0m a captured.toList).toArray))
 |_=>execOp a o
def F09(P:Program)(o:Oper)(st:St)(h:Hp)(K:AV->St->Hp->Prop):Prop :=
 match I0e o.op with
 |true=>False
 |false=>l0g o.op.operands.toList st h λvs st h=>match m0b (rho vs) o with
  |some (f,l)=>match okF P f with
   |true=>Tr P f l.toArray h λv a=>K (.val v) st a
   |false=>False
  |none=>wpS P (n0l (rho vs) o) h λn h'=>match n with
   | .value v=>K (.val v) st h'
   | .skip=>K (.val undef) st h'
   |_=>False
def evP(P:Program){b:Type}:Sem b->Option b
 | .pure a=>some a
 | .program k=>evP P (k P)
 | .mark _ k=>evP P k
 |_=>none
def R0u(P:Program)(o:Oper)(st:St)(h:Hp)(K:AV->St->Hp->Prop):Prop :=
 match I0e o.op with
 |true=>False
 |false=>l0g o.op.operands.toList st h λvs _ hf=>match m0b (rho vs) o with
  |some (f,l)=>match okF P f with
   |true=>Tr P f l.toArray hf λr h'=>h'=hf/\K (.val r) st h
   |false=>False
  |none=>False
def S0u(st:St):List Operand->Bool
 | []=>false
 |x::r=>match rdO st x with
  | .own _ _=>true
  |_=>S0u st r
def F0q(P:Program)(o:Oper)(st:St)(h:Hp)(K:AV->St->Hp->Prop):Prop :=
 match S0u st o.op.operands.toList with
 |true=>F09 P o st h K∨R0u P o st h K
 |false=>F09 P o st h K
def J0z(P:Program)(a:Operand->Value)(o:Oper)(h h':Hp)(v:Value):Prop:=∀ K:Next->Hp->Prop,(K (.value v) h'/\(v=undef->K .skip h'))->wpS P (n0l a o) h K
def T0u(P:Program)(o:Oper)(st:St)(h:Hp)(K:AV->St->Hp->Prop):Prop :=
 match I0e o.op with
 |true=>False
 |false=>l0g o.op.operands.toList st h λvs st h=>match m0b (rho vs) o with
  |some _=>False
  |none=>∃ v h',J0z P (rho vs) o h h' v/\K (.val v) st h'
def m02:AV->Option (List S6)
 | .val (.agg cs)=>some (vals cs.toList)
 | .val (.tuple _)=>none
 | .val v=>some [.val v]
 | .own i k=>some [.own i k]
 | .agg cs=>some cs
 |_=>none
def ofCell:S6->AV
 | .val v => .val v
 | .own i k => .own i k
def u0a{a:Type}:List a->Nat->Bool
 | [],0=>true
 |_::r,k+1=>u0a r k
 |_,_=>false
def h08(P:Program)(t:TypeId)(cs:List S6)(off:Nat)(K:AV->Prop):Prop :=
 match K0m P t with
 |some true=>match o7 P t with
  |some n=>match u0a ((cs.drop off).take n) n with
   |true=>K (.agg ((cs.drop off).take n))
   |false=>False
  |none=>False
 |some false=>match nth cs off with
  |some c=>K (ofCell c)
  |none=>False
 |none=>False
def splice{a:Type}:List a->Nat->List a->List a
 |cs,_,[]=>cs
 |cs,off,x::r=>splice (F02 cs off x) (off+1) r
def C0t{a:Type}(cs:List a)(off:Nat)(new:List a)(K:List a->Prop):Prop :=
 match Nat.ble (off+new.length) cs.length with
 |true=>K (splice cs off new)
 |false=>False
def H0i:List S6->Option (List Value)
 | []=>some []
 | .val v::r=>match H0i r with
  |some vs=>some (v::vs)
  |none=>none
 | .own _ _::_=>none
def i08:List Value->Bool
 | []=>true
 |v::r=>match v.oneCell' with
  |true=>i08 r
  |false=>false
def W08(st:St):List S6->Bool
 | []=>true
 | .val v::r=>match v.oneCell' with
  |true=>W08 st r
  |false=>false
 | .own i k::r=>match rdA st (.own i k)with
  | .own _ _=>W08 st r
  | .val v=>match v.oneCell' with
   |true=>W08 st r
   |false=>false
  |_=>false
def e0o(sz:Nat):Nat->List (Nat×Operand)->St->Hp->(LV->St->Hp->Prop)->Prop
 |_,[],st,h,K=>K [] st h
 |i,(j,x)::r,st,h,K=>match Nat.beq i j with
  |true=>rfy (rdO st x) st h λv st h=>match u0a v.cells.toList sz,i08 v.cells.toList with
   |true,true=>e0o sz (i+1) r st h λvs st h=>K (v.cells.toList::vs) st h
   |_,_=>False
  |false=>False
def G09(P:Program):List Field->Bool
 | []=>true
 |f::r=>match o7 P f.type with
  |some _=>G09 P r
  |none=>false
def o0b:AV->Option (List S6)
 | .val (.agg cs)=>some (vals cs.toList)
 | .agg cs=>some cs
 |_=>none
def p0b(P:Program)(a:Array Field)(rd:Operand->AV):List (Nat×Operand)->List S6->(List S6->Prop)->Prop
 | [],cs,K=>K cs
 |(i,x)::r,cs,K=>match a[i]?,m02 (rd x)with
  |some f,some new=>match o7 P f.type with
   |some n=>match u0a new n,Nat.ble (f.offset+n) cs.length with
    |true,true=>p0b P a rd r (splice cs f.offset new) K
    |_,_=>False
   |none=>False
  |_,_=>False
def J0e(sz:Nat)(rd:Operand->AV):List (Nat×Operand)->List S6->(List S6->Prop)->Prop
 | [],cs,K=>K cs
 |(i,x)::r,cs,K=>match m02 (rd x)with
  |some new=>match u0a new sz,Nat.ble (i*sz+sz) cs.length with
   |true,true=>J0e sz rd r (splice cs (i*sz) new) K
   |_,_=>False
  |none=>False
def G0q{a:Type}:List a->(Nat->Prop)->Prop
 | [],K=>K 0
 |_::r,K=>G0q r λn=>K (n+1)
theorem K0e{a:Type}:∀(l:List a) (K:Nat->Prop),G0q l K=K l.length
 | [],K=>rfl
 |_::r,K=>by simp only[G0q,K0e r,List.length_cons]
def newOwn(st:St)(e:TypeId)(sz by_:Nat)(nn:Bool)(xs:LV)(K:AV->St->Prop):Prop :=
 G0q st.ow λn=>K (.own n 0) (st.withOw (st.ow ++ [⟨0,.live e sz by_ nn xs⟩]))
theorem m0g(st:St)(e:TypeId)(sz by_:Nat)(nn:Bool)(xs:LV)(K:AV->St->Prop):newOwn st e sz by_ nn xs K=K (.own st.ow.length 0) (st.withOw (st.ow ++ [⟨0,.live e sz by_ nn xs⟩])):=K0e _ _
def newBox(st:St)(cs:List S6)(t:TypeId)(K:AV->St->Prop):Prop :=
 G0q st.bx λn=>K (.box n 0) (st.withBx (st.bx ++ [.live cs t]))
theorem n0g(st:St)(cs:List S6)(t:TypeId)(K:AV->St->Prop):newBox st cs t K=K (.box st.bx.length 0) (st.withBx (st.bx ++ [.live cs t])):=K0e _ _
def I0i(st:St)(h:Hp)(sz:Nat)(av:AV)(K:LV->Prop):Prop :=
 match av with
 | .own j _=>match nth st.ow j with
  |some ⟨_,.live _ b _ _ a⟩=>match Nat.beq b sz with
   |true=>K a
   |false=>False
  |_=>False
 | .val s=>∃ a,SlE h sz s a/\K a
 |_=>False
def K0z(av:AV)(i:Nat):Bool:=match av with
 | .own j _=>Nat.beq i j
 |_=>false
def Z06:LV->Bool
 | []=>false
 |_::_=>true
def H09(n by_:Nat):Prop:=n*by_<=140737488355328
def H0q(h:Hp)(sz:Nat)(v:Value)(xs:LV):Prop :=
 (∀ x∈xs,x.length=sz/\∀ v∈x,v.oneCell'=true)/\∃ g o c cur ty,v = .slice (some ⟨g,o,none⟩) xs.length c/\xs.length<=c/\c<=maxLen/\o+c*sz<=cur.size/\h g=some (.cells cur ty (0,0)) /\
  ∀ j u,xs.flatten[j]?=some u->cur[o+j]?=some u
def f0o(h h':Hp)(sz g:Nat)(v:Value)(f:LV):Prop :=
 H0q h' sz v f/\∃ a e d c,v = .slice (some ⟨a,e,none⟩) d c/\(a=g∨h a=none)/\∀ b,b≠a->h' b=h b
def D0t(h h':Hp)(sz:Nat)(v:Value)(f:LV):Prop :=
 H0q h' sz v f/\∃ a e d c,v = .slice (some ⟨a,e,none⟩) d c/\h a=none/\∀ b,b≠a->h' b=h b
def J0i(P:Program)(t:TypeId)(a b:Operand)(st:St)(h:Hp)(K:AV->St->Hp->Prop):Prop :=
 match q03 P t with
 |some e=>match o7 P e,U0d P e,Q02 P e with
  |some (sz+1),some (by_+1),some z=>match u0a z.cells.toList (sz+1)with
   |true=>match rdO st a with
    | .own i k=>match nth st.ow i with
     |some ⟨f,.live j l m nn xs⟩=>match Nat.beq j e,Nat.beq l (sz+1),K0z (rdO st b) i with
      |true,true,false=>I0i st h (sz+1) (rdO st b) λd=>H09 (xs.length+d.length) (by_+1) /\
        K (.own i (f+1)) (st.withOw (F02 st.ow i ⟨f+1,.live e (sz+1) (by_+1) (nn || Z06 d) (xs++d)⟩)) h
      |_,_,_=>False
     |_=>False
    | .val (.slice none 0 0)=>(I0i st h (sz+1) (rdO st b) λd=>H09 d.length (by_+1) /\
      newOwn st e (sz+1) (by_+1) (Z06 d) d λav st=>K av st h) ∨
     (I0i st h (sz+1) (rdO st b) λd=>(Z06 d=true/\H09 d.length (by_+1))/\∀ v h',D0t h h' (sz+1) v d->K (.val v) st h')
    | .val (.slice (some ⟨g,o,none⟩) n c)=>I0i st h (sz+1) (rdO st b) λd=>∃ xs,H0q h (sz+1) (.slice (some ⟨g,o,none⟩) n c) xs/\H09 (xs.length+d.length) (by_+1) /\
      ∀ v h',f0o h h' (sz+1) g v (xs++d)->K (.val v) st h'
    |_=>False
   |false=>False
  |_,_,_=>False
 |none=>False
def I0q(i:Nat)(c b:Option AV)(st:St)(h:Hp)(K:AV->St->Hp->Prop):Prop :=
 match c,b with
 |none,some (.val (.int _ m))=>match nth st.ow i with
  |some ⟨a,.live e sz by_ nn xs⟩=>(0<=m/\m<=(xs.length:Int)) /\
    K (.own i (a+1)) (st.withOw (F02 st.ow i ⟨a+1,.live e sz by_ nn (xs.take m.toNat)⟩)) h
  |_=>False
 |_,_=>False
def X08(d:Int):Option AV->Option Int
 |none=>some d
 |some (.val (.int _ n))=>some n
 |_=>none
def S0k(sz:Nat)(b:Value)(l m:Nat)(v:Value):Prop:=∀ a n c,b = .slice a n c->v = .slice (if c=l then a else a.map (·.add (l*sz))) (m-l) (c-l)
def J0q(sz:Nat)(a:Value)(n:Nat)(c b:Option AV)(st:St)(h:Hp)(K:AV->St->Hp->Prop):Prop :=
 match X08 0 c,X08 n b with
 |some l,some m=>(0<=l/\l<=m/\m<=(n:Int))/\∃ xs,SlE h sz a xs/\∀ v,SlE h sz v ((xs.take m.toNat).drop l.toNat)->S0k sz a l.toNat m.toNat v->K (.val v) st h
 |_,_=>False
def U0u(a:ByteArray)(c b:Option AV)(st:St)(h:Hp)(K:AV->St->Hp->Prop):Prop :=
 match X08 0 c,X08 a.size b with
 |some l,some m=>(0<=l/\l<=m/\m<=(a.size:Int))/\K (.val (.string (a.extract l.toNat m.toNat))) st h
 |_,_=>False
def j08:AV->Option Value
 | .val v=>some v
 | .agg cs=>match H0i cs with
  |some vs=>some (.agg vs.toArray)
  |none=>none
 |_=>none
def q0b(P:Program)(o:Oper)(x y:Operand)(xs c:Value)(b:Bool):Prop:=∀ a:Operand->Value,a x=xs->a y=c->∀ w:World,(execOp a o).run P w = .ok (.value (.bool b)) w
def r0b(h:Hp)(c:Value)(idx:Int)(off:Nat)(v:Value)(K:Hp->Prop):Prop :=
 ∃ b of n a cur ty,(c = .slice (some ⟨b,of,none⟩) n a/\0<=idx/\h b=some (.cells cur ty (0,0))/\of+off<cur.size/\T06 v) /\
  K (h.set b (.cells (cur.setIfInBounds (of+off) v) ty (0,0)))
theorem r0b.mk{h:Hp}{b of n a p:Nat}{cur:Array Value}{ty:TypeId}{idx:Int}{off:Nat}{v:Value}{K:Hp->Prop}(c:0<=idx)(d:h b=some (.cells cur ty (0,0)))(e:p<cur.size)(g:of+off=p)(f:T06 v) (i:K (h.set b (.cells (cur.setIfInBounds p v) ty (0,0)))):r0b h (.slice (some ⟨b,of,none⟩) n a) idx off v K:=by subst g;exact⟨b,of,n,a,cur,ty,⟨rfl,c,d,e,f⟩,i⟩
def I09(h:Hp)(c:Value)(idx:Int)(off:Nat)(new:List Value)(K:Hp->Prop):Prop :=
 ∃ b of n a cur ty,(c = .slice (some ⟨b,of,none⟩) n a/\0<=idx/\h b=some (.cells cur ty (0,0))/\of+off+new.length<=cur.size) /\
  K (h.set b (.cells (splice cur.toList (of+off) new).toArray ty (0,0)))
def z00(P:Program)(o:Oper)(st:St)(h:Hp)(K:AV->St->Hp->Prop):Prop :=
 match o.op with
 | .move x | .assign x=>match rdO st x with
  | .dead=>False
  |a=>K a st h
 | .box t x=>match m02 (rdO st x)with
  |some cs=>newBox st cs t λav st=>K av st h
  |none=>False
 | .alloc t=>match Q02 P t with
  |some z=>newBox st (vals z.cells.toList) t λav st=>K av st h
  |none=>False
 | .fieldAddr t x k=>match rdO st x,L0m P t k with
  | .box i off,some g=>K (.box i (off+g)) st h
  | .hel d i sz k,some g=>K (.hel d i sz (k+g)) st h
  | .oel i d j sz k,some g=>K (.oel i d j sz (k+g)) st h
  | .val (.pointer (some ⟨b,off,none⟩)),some g=>K (.val (ptr b (off+g))) st h
  |_,_=>False
 | .indexAddr t x i=>match rdO st i with
  | .val (.int _ j)=>match q03 P t with
   |some e=>match o7 P e with
    |some sz=>match rdO st x with
     | .val (.slice a n c)=>InB (.slice a n c) j/\K (.hel (.slice a n c) j sz 0) st h
     | .own i k=>match nth st.ow i with
      |some ⟨_,.live _ p _ _ xs⟩=>match Nat.beq p sz with
       |true=>(0<=j/\j<(xs.length:Int))/\K (.oel i k j sz 0) st h
       |false=>False
      |_=>False
     |_=>False
    |none=>False
   |none=>match rdO st x,O0u P t j with
    | .box i off,some g=>K (.box i (off+g)) st h
    | .hel d i sz k,some g=>K (.hel d i sz (k+g)) st h
    | .oel i d j sz k,some g=>K (.oel i d j sz (k+g)) st h
    |_,_=>False
  |_=>False
 | .load t x=>match rdO st x with
  | .box i off=>match nth st.bx i with
   |some (.live cs _)=>h08 P t cs off λav=>K av st h
   |_=>False
  | .hel d idx sz k=>∃ c,T7 h d sz idx c/\h08 P t (vals c) k λav=>K av st h
  | .oel i _ idx sz k=>match nth st.ow i with
   |some ⟨_,.live _ p _ _ xs⟩=>match Nat.beq p sz with
    |true=>∃ c,xs[idx.toNat]?=some c/\h08 P t (vals c) k λav=>K av st h
    |false=>False
   |_=>False
  |_=>F09 P o st h K
 | .store t a x=>match rdO st a with
  | .box i off=>match nth st.bx i,m02 (rdO st x),o7 P t with
   |some (.live cs ty),some new,some n=>match u0a new n,W08 st new with
    |true,true=>C0t cs off new λcs=>K (.val undef) (st.withBx (F02 st.bx i (.live cs ty))) h
    |_,_=>False
   |_,_,_=>False
  | .oel i d idx sz k=>rfy (rdO st x) st h λv st h=>match nth st.ow i,o7 P t with
   |some ⟨C,.live e p by_ nn xs⟩,some n=>match u0a v.cells.toList n,i08 v.cells.toList,Nat.beq C d,Nat.beq p sz with
    |true,true,true,true=>∃ c,xs[idx.toNat]?=some c/\C0t c k v.cells.toList λD =>
      K (.val undef) (st.withOw (F02 st.ow i ⟨C,.live e p by_ nn (xs.set idx.toNat D)⟩)) h
    |_,_,_,_=>False
   |_,_=>False
  | .hel d idx sz k=>match rdO st x with
   | .val v=>match o7 P t with
    |some 1=>r0b h d idx (idx.toNat*sz+k) v λh'=>K (.val undef) st h'
    |some n=>match u0a v.cells.toList n,i08 v.cells.toList with
     |true,true=>I09 h d idx (idx.toNat*sz+k) v.cells.toList λh'=>K (.val undef) st h'
     |_,_=>False
    |_=>False
   | .agg cs=>match o7 P t,H0i cs with
    |some n,some new=>match u0a new n,i08 new with
     |true,true=>I09 h d idx (idx.toNat*sz+k) new λh'=>K (.val undef) st h'
     |_,_=>False
    |_,_=>False
   |_=>False
  |_=>F09 P o st h K
 | .build t ps=>match P.underlying t,Q02 P t with
  |some (.struct q),some z=>match G09 P q.toList with
   |true=>p0b P q (rdO st) ps.toList (vals z.cells.toList) λcs=>K (.agg cs) st h
   |false=>False
  |some (.array _ e),some z=>match o7 P e with
   |some sz=>J0e sz (rdO st) ps.toList (vals z.cells.toList) λcs=>K (.agg cs) st h
   |none=>False
  |_,_=>False
 | .buildSlice t n ps=>match q03 P t with
  |some e=>match o7 P e,U0d P e,Q02 P e with
   |some (sz+1),some by_,some z=>match Nat.beq n ps.size,Nat.ble (n*(sz+1)) 16777216,u0a z.cells.toList (sz+1)with
    |true,true,true=>e0o (sz+1) 0 ps.toList st h λxs st h=>newOwn st e (sz+1) by_ true xs λav st=>K av st h
    |_,_,_=>False
   |_,_,_=>False
  |none=>False
 | .makeSlice t l c=>match q03 P t with
  |some e=>match o7 P e,U0d P e,Q02 P e,rdO st l,rdO st c with
   |some (sz+1),some by_,some z,.val (.int _ s),.val (.int _ nc)=>match u0a z.cells.toList (sz+1),i08 z.cells.toList with
    |true,true=>(0<=s/\s<=nc/\nc*by_<=140737488355328/\nc<=9223372036854775807) /\
      newOwn st e (sz+1) by_ true (List.replicate s.toNat z.cells.toList) λav st=>K av st h
    |_,_=>False
   |_,_,_,_,_=>False
  |none=>False
 | .field t x k=>match o0b (rdO st x),P.underlying t with
  |some cs,some (.struct q)=>match q[k]? with
   |some f=>h08 P f.type cs f.offset λav=>K av st h
   |none=>False
  |_,_=>False
 | .slice t x lo hi none=>match rdO st x with
  | .own i _=>match q03 P t with
   |some e=>match o7 P e with
    |some _=>I0q i (lo.map (rdO st)) (hi.map (rdO st)) st h K
    |none=>False
   |none=>False
  | .val (.slice a n c)=>match q03 P t with
   |some e=>match o7 P e with
    |some sz=>J0q sz (.slice a n c) n (lo.map (rdO st)) (hi.map (rdO st)) st h K
    |none=>False
   |none=>False
  | .val (.string d)=>match P.underlying t with
   |some .string=>U0u d (lo.map (rdO st)) (hi.map (rdO st)) st h K
   |_=>False
  |_=>False
 | .index t x i=>match rdO st x,rdO st i,P.underlying t with
  | .val (.string d),.val (.int _ j),some .string=>∃ c,(0<=j/\d[j.toNat]?=some c)/\K (.val (.int .u8 c.toNat)) st h
  |_,_,_=>F09 P o st h K
 | .binOp .eql t x y _=>match j08 (rdO st x),j08 (rdO st y)with
  |some (.agg xs),some (.agg w)=>∃ b,q0b P o x y (.agg xs) (.agg w) b/\K (.val (.bool b)) st h
  |some (.slice a n m),some (.slice none 0 0)=>∃ b,q0b P o x y (.slice a n m) (.slice none 0 0) b/\K (.val (.bool b)) st h
  |_,_=>F0q P o st h K
 | .binOp .neq t x y _=>match j08 (rdO st x),j08 (rdO st y)with
  |some (.agg xs),some (.agg w)=>∃ b,q0b P o x y (.agg xs) (.agg w) b/\K (.val (.bool b)) st h
  |some (.slice a n m),some (.slice none 0 0)=>∃ b,q0b P o x y (.slice a n m) (.slice none 0 0) b/\K (.val (.bool b)) st h
  |_,_=>F0q P o st h K
 | .binOp .add t x y _=>match rdO st x,rdO st y with
  | .val (.string a),.val (.string b)=>a.size+b.size<=9223372036854775807/\K (.val (.string (a++b))) st h
  |_,_=>F09 P o st h K
 | .binOp .quo t x y _=>match rdO st x,rdO st y with
  | .val (.int .i64 a),.val (.int .i64 b)=>b≠0/\K (.val (.int .i64 (IntKind.i64.wrap (a.tdiv b)))) st h
  |_,_=>F09 P o st h K
 | .binOp .rem t x y _=>match rdO st x,rdO st y with
  | .val (.int .i64 a),.val (.int .i64 b)=>b≠0/\K (.val (.int .i64 (a.tmod b))) st h
  |_,_=>F09 P o st h K
 | .binOp .shl t x y _=>match rdO st x,rdO st y with
  | .val (.int .i64 a),.val (.int .i64 b)=>0<=b/\K (.val (.int .i64 (IntKind.i64.wrap (a*2 ^ min b.toNat 64)))) st h
  |_,_=>F09 P o st h K
 | .binOp .shr t x y _=>match rdO st x,rdO st y with
  | .val (.int .i64 a),.val (.int .i64 b)=>0<=b/\K (.val (.int .i64 (a.fdiv (2 ^ min b.toNat 64)))) st h
  |_,_=>F09 P o st h K
 | .convert tf tt x=>match rdO st x with
  | .own i _=>match nth st.ow i,P.underlying tf,P.underlying tt with
   |some ⟨_,.live _ _ _ _ xs⟩,some (.slice e),some .string=>match P.underlying e with
    |some (.int .u8)=>∃ A:List Int,xs=A.map (λn=>[.int .u8 n])/\K (.val (.string (strOfNums A))) st h
    |_=>False
   |_,_,_=>F0q P o st h K
  |_=>F0q P o st h K
 | .call { callee := .builtin .len,args:=as,argTypes:=u }=>match as.toList,u.toList with
  | [x],[t]=>match rdO st x with
   | .own i _=>match nth st.ow i,q03 P t with
    |some ⟨_,.live _ _ _ _ xs⟩,some _=>K (.val (.int .i64 xs.length)) st h
    |_,_=>False
   |_=>F09 P o st h K
  |_,_=>False
 | .call { callee := .builtin .append,args:=as,argTypes:=u }=>match as.toList,u.toList with
  | [a,b],[t,E]=>match Nat.beq t E with
   |true=>J0i P t a b st h K
   |false=>False
  |_,_=>False
 | .lookup _ _ _ _=>T0u P o st h K
 | .mapUpdate _ _ _ _=>T0u P o st h K
 | .insert _ _ _ _=>T0u P o st h K
 |_=>F0q P o st h K
end Go.H
