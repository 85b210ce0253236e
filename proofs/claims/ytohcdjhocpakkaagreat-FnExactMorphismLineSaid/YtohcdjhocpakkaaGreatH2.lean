/- Plain laws over the model: what a function's code asks, written out by a recursive function; slices and variables that the call itself makes are kept apart as lists. -/
import Derived.Test.YtohcdjhocpakkaaGreatH1
import Derived.Laws.BytesArg
namespace Go.H
set_option linter.unusedVariables false
def nth{a:Type}:List a->Nat->Option a
 | [],_=>none
 |x::_,0=>some x
 |_::r,k+1=>nth r k
inductive A5 where
 |val (v:Value)
 |own (i k:Nat)
inductive AV where
 |val (v:Value)
 |own (i k:Nat)
 |box (i off:Nat)
 |hel (s:Value) (idx:Int) (sz k:Nat)
 |oel (i st:Nat) (idx:Int) (sz k:Nat)
 |agg (cs:List A5)
 |dead
inductive OSt where
 |live (e:TypeId) (sz by_:Nat) (nn:Bool) (xs:List (List Value))
 |frozen (v:Value)
structure Own where
 stamp:Nat
 st:OSt
inductive BSt where
 |live (cells:List A5) (ty:TypeId)
 |publ (b:Nat)
structure St where
 n:Nat
 fr:List (Nat×AV)
 bx:List BSt
 ow:List Own
def St.withOw(st:St)(l:List Own):St:=match st with
 |⟨n,fr,bx,_⟩=>⟨n,fr,bx,l⟩
def St.withBx(st:St)(l:List BSt):St:=match st with
 |⟨n,fr,_,ow⟩=>⟨n,fr,l,ow⟩
@[simp] theorem St.withOw_eq (st:St) (l:List Own):st.withOw l = { st with ow:=l }:=rfl
@[simp] theorem St.withBx_eq (st:St) (l:List BSt):st.withBx l = { st with bx:=l }:=rfl
def ptr(b off:Nat):Value := .pointer (some ⟨b,off,none⟩)
def j3:List (Nat×AV)->Nat->AV
 | [],_ => .dead
 |(k,v)::r,s=>match Nat.beq k s with
  |true=>v
  |false=>j3 r s
def SlE(h:Hp)(sz:Nat)(s:Value)(xs:List (List Value)):Prop :=
 (∀ x∈xs,x.length=sz/\∀ v∈x,v.oneCell'=true)/\∃ a n c,s = .slice a n c/\n=xs.length/\n<=c /\
  (xs.flatten = []∨∃ b o,a=some ⟨b,o,none⟩/\∀ j v,xs.flatten[j]?=some v->Hp.cell h b (o+j)=some v)
def N4(h:Hp)(s:Value)(sz:Nat)(idx:Int)(c:List Value):Prop :=
 c.length=sz/\0<=idx/\∃ b o n a,s = .slice (some ⟨b,o,none⟩) n a/\∀ j v,c[j]?=some v->Hp.cell h b (o+idx.toNat*sz+j)=some v
def InB(s:Value)(j:Int):Prop:=∃ b o n c,s = .slice (some ⟨b,o,none⟩) n c/\0<=j/\j<(n:Int)
def V0(h a:Hp)(v:Value)(e:TypeId)(sz:Nat)(nn:Bool)(xs:List (List Value)):Prop :=
  (∀ x∈xs,x.length=sz/\∀ v∈x,v.oneCell'=true) /\
  ((v = .slice none 0 0/\xs = []/\nn=false/\a=h) ∨
   ∃ g cap cur,v = .slice (some ⟨g,0,none⟩) xs.length cap/\h g=none/\a=h.set g (.cells cur e (0,0)) /\
     xs.length<=cap/\cap<=maxLen/\cur.size=cap*sz/\cur.toList.take (xs.length*sz)=xs.flatten)
def I5(P:Program)(t:TypeId):Option Nat:=match P.info? t with
 |some i=>some i.size
 |none=>none
def j09(P:Program)(t:TypeId):Option Nat:=match P.info? t with
 |some i=>some i.bytes
 |none=>none
def F00(P:Program)(t:TypeId):Option Value:=match P.info? t with
 |some i=>i.zero
 |none=>none
def i0h(P:Program)(t:TypeId):Option Bool:=match P.underlying t with
 |some (.struct _)=>some true
 |some (.array _ _)=>some true
 |some _=>some false
 |none=>none
def j0h(P:Program)(t:TypeId)(k:Nat):Option Nat:=match P.underlying t with
 |some (.struct fs)=>match fs[k]? with
  |some f=>match I5 P f.type with
   |some (_+1)=>some f.offset
   |_=>none
  |none=>none
 |_=>none
def r0o(P:Program)(t:TypeId)(j:Int):Option Nat:=match P.underlying t,j with
 |some (.array n e),.ofNat m=>match I5 P e,Nat.blt m n with
  |some (sz+1),true=>some (m*(sz+1))
  |_,_=>none
 |_,_=>none
def V00(P:Program)(t:TypeId):Option TypeId:=match P.underlying t with
 |some (.slice e)=>some e
 |_=>none
def rdA(st:St):AV->AV
 | .own i k=>match nth st.ow i with
  |some ⟨s,o⟩=>match Nat.beq s k with
   |true=>match o with
    | .live .. => .own i k
    | .frozen v => .val v
   |false => .dead
  |none => .dead
 | .box i off=>match nth st.bx i with
  |some (.live ..) => .box i off
  |some (.publ b) => .val (ptr b off)
  |none => .dead
 | .oel i s idx sz k=>match nth st.ow i with
  |some ⟨a,.live ..⟩=>match Nat.beq a s with
   |true => .oel i s idx sz k
   |false => .dead
  |_ => .dead
 |av=>av
def rdO(st:St):Operand->AV
 | .tmp t=>rdA st (j3 st.fr t)
 | .const v => .val v
 | .global _ => .dead
 | .func f => .val (.func (.func f) #[] #[])
def w00{b:Type}:List b->Nat->b->List b
 | [],_,_=>[]
 |_::r,0,a=>a::r
 |x::r,k+1,a=>x::w00 r k a
def vals:List Value->List A5
 | []=>[]
 |v::r => .val v::vals r
def k0h(i k:Nat)(st:St)(h:Hp)(K:Value->St->Hp->Prop):Prop :=
 match nth st.ow i with
 |some ⟨s,.live e sz _ nn xs⟩=>match Nat.beq s k with
  |true=>∀ v a,V0 h a v e sz nn xs->K v (st.withOw (w00 st.ow i ⟨s,.frozen v⟩)) a
  |false=>False
 |some ⟨s,.frozen v⟩=>match Nat.beq s k with
  |true=>K v st h
  |false=>False
 |none=>False
def p07:List A5->St->Hp->(List Value->St->Hp->Prop)->Prop
 | [],st,h,K=>K [] st h
 | .val v::r,st,h,K=>p07 r st h λvs st h=>K (v::vs) st h
 | .own i k::r,st,h,K=>k0h i k st h λv st h=>p07 r st h λvs st h=>K (v::vs) st h
def s0o(i off:Nat)(st:St)(h:Hp)(K:Value->St->Hp->Prop):Prop :=
 match nth st.bx i with
 |some (.live cells ty)=>p07 cells st h λvs st h=>∀ b,h b=none ->
   K (ptr b off) (st.withBx (w00 st.bx i (.publ b))) (h.set b (.cells vs.toArray ty (0,0)))
 |some (.publ b)=>K (ptr b off) st h
 |none=>False
def rfy(av:AV)(st:St)(h:Hp)(K:Value->St->Hp->Prop):Prop :=
 match av with
 | .val v=>K v st h
 | .own i k=>k0h i k st h K
 | .box i off=>s0o i off st h K
 | .agg cs=>p07 cs st h λvs st h=>K (.agg vs.toArray) st h
 |_=>False
def j0b:List Operand->St->Hp->(List (Nat×Value)->St->Hp->Prop)->Prop
 | [],st,h,K=>K [] st h
 | .tmp t::r,st,h,K=>rfy (rdO st (.tmp t)) st h λv st h=>j0b r st h λvs st h=>K ((t,v)::vs) st h
 | .global _::_,_,_,_=>False
 |_::r,st,h,K=>j0b r st h K
def N0l:List (Nat×Value)->Nat->Value
 | [],_=>undef
 |(k,v)::r,s=>match Nat.beq k s with
  |true=>v
  |false=>N0l r s
def rho(vs:List (Nat×Value)):Operand->Value
 | .tmp t=>N0l vs t
 | .const v=>v
 | .global g => .pointer (some ⟨g,0,none⟩)
 | .func f => .func (.func f) #[] #[]
def T09:Op->Bool
 | .select _ _=>true
 |_=>false
def l0h(ρ:Operand->Value):List Operand->List Value
 | []=>[]
 |x::r=>ρ x::l0h ρ r
def t0o:List Value->List Value->List Value
 | [],l=>l
 |x::r,l=>x::t0o r l
def q07(ρ:Operand->Value)(o:Oper):Option (FuncId×List Value):=match o.op with
 | .call c=>match c.callee with
  | .value x=>match ρ x with
   | .func (.func f) first captured=>some (f,t0o first.toList (t0o (l0h ρ c.args.toList) captured.toList))
   |_=>none
  |_=>none
 |_=>none
def okF(P:Program)(f:FuncId):Bool:=match P.funcs[f]? with
 |some fn=>match fn.body with
  |some _=>match fn.name == "runtime.NumGoroutine" with
   |true=>false
   |false=>true
  |none=>false
 |none=>false
def r07:List Operand->List Bool
 | []=>[]
 | .const _::r=>true::r07 r
 |_::r=>false::r07 r
def N0f(ρ:Operand->Value)(o:Oper):Sem Next:=match o.op with
 | .call c=>match c.callee with
  | .builtin b=>invoke (.builtin b c.argTypes o.type (r07 c.args.toList).toArray) (l0h ρ c.args.toList).toArray
  |_=>execOp ρ o
 | .makeFunc fn first captured=>do pure (.value (←Instr.makeFunc fn (l0h ρ first.toList).toArray (l0h ρ captured.toList).toArray))
 |_=>execOp ρ o
def Q05(P:Program)(o:Oper)(st:St)(h:Hp)(K:AV->St->Hp->Prop):Prop :=
 match T09 o.op with
 |true=>False
 |false=>j0b o.op.operands.toList st h λvs st h=>match q07 (rho vs) o with
  |some (f,l)=>match okF P f with
   |true=>Tr P f l.toArray h λv b=>K (.val v) st b
   |false=>False
  |none=>wpS P (N0f (rho vs) o) h λn a=>match n with
   | .value v=>K (.val v) st a
   | .skip=>K (.val undef) st a
   |_=>False
def evP(P:Program){b:Type}:Sem b->Option b
 | .pure a=>some a
 | .program k=>evP P (k P)
 | .mark _ k=>evP P k
 |_=>none
def u0o(P:Program)(o:Oper)(st:St)(h:Hp)(K:AV->St->Hp->Prop):Prop :=
 match T09 o.op with
 |true=>False
 |false=>j0b o.op.operands.toList st h λvs _ hf=>match q07 (rho vs) o with
  |some (f,l)=>match okF P f with
   |true=>Tr P f l.toArray hf λr a=>a=hf/\K (.val r) st h
   |false=>False
  |none=>False
def v0o(st:St):List Operand->Bool
 | []=>false
 |x::r=>match rdO st x with
  | .own _ _=>true
  |_=>v0o st r
def E0k(P:Program)(o:Oper)(st:St)(h:Hp)(K:AV->St->Hp->Prop):Prop :=
 match v0o st o.op.operands.toList with
 |true=>Q05 P o st h K∨u0o P o st h K
 |false=>Q05 P o st h K
def X0s(P:Program)(ρ:Operand->Value)(o:Oper)(h a:Hp)(v:Value):Prop:=∀ K:Next->Hp->Prop,(K (.value v) a/\(v=undef->K .skip a))->wpS P (N0f ρ o) h K
def w0o(P:Program)(o:Oper)(st:St)(h:Hp)(K:AV->St->Hp->Prop):Prop :=
 match T09 o.op with
 |true=>False
 |false=>j0b o.op.operands.toList st h λvs st h=>match q07 (rho vs) o with
  |some _=>False
  |none=>∃ v a,X0s P (rho vs) o h a v/\K (.val v) st a
def V9:AV->Option (List A5)
 | .val (.agg cs)=>some (vals cs.toList)
 | .val (.tuple _)=>none
 | .val v=>some [.val v]
 | .own i k=>some [.own i k]
 | .agg cs=>some cs
 |_=>none
def ofCell:A5->AV
 | .val v => .val v
 | .own i k => .own i k
def w06{a:Type}:List a->Nat->Bool
 | [],0=>true
 |_::r,k+1=>w06 r k
 |_,_=>false
def z04(P:Program)(t:TypeId)(cs:List A5)(off:Nat)(K:AV->Prop):Prop :=
 match i0h P t with
 |some true=>match I5 P t with
  |some n=>match w06 ((cs.drop off).take n) n with
   |true=>K (.agg ((cs.drop off).take n))
   |false=>False
  |none=>False
 |some false=>match nth cs off with
  |some c=>K (ofCell c)
  |none=>False
 |none=>False
def splice{a:Type}:List a->Nat->List a->List a
 |cs,_,[]=>cs
 |cs,off,x::r=>splice (w00 cs off x) (off+1) r
def h0n{a:Type}(cs:List a)(off:Nat)(new:List a)(K:List a->Prop):Prop :=
 match Nat.ble (off+new.length) cs.length with
 |true=>K (splice cs off new)
 |false=>False
def v0d:List A5->Option (List Value)
 | []=>some []
 | .val v::r=>match v0d r with
  |some vs=>some (v::vs)
  |none=>none
 | .own _ _::_=>none
def A04:List Value->Bool
 | []=>true
 |v::r=>match v.oneCell' with
  |true=>A04 r
  |false=>false
def f05(st:St):List A5->Bool
 | []=>true
 | .val v::r=>match v.oneCell' with
  |true=>f05 st r
  |false=>false
 | .own i k::r=>match rdA st (.own i k)with
  | .own _ _=>f05 st r
  | .val v=>match v.oneCell' with
   |true=>f05 st r
   |false=>false
  |_=>false
def x0i(sz:Nat):Nat->List (Nat×Operand)->St->Hp->(List (List Value)->St->Hp->Prop)->Prop
 |_,[],st,h,K=>K [] st h
 |i,(j,x)::r,st,h,K=>match Nat.beq i j with
  |true=>rfy (rdO st x) st h λv st h=>match w06 v.cells.toList sz,A04 v.cells.toList with
   |true,true=>x0i sz (i+1) r st h λvs st h=>K (v.cells.toList::vs) st h
   |_,_=>False
  |false=>False
def R05(P:Program):List Field->Bool
 | []=>true
 |f::r=>match I5 P f.type with
  |some _=>R05 P r
  |none=>false
def s07:AV->Option (List A5)
 | .val (.agg cs)=>some (vals cs.toList)
 | .agg cs=>some cs
 |_=>none
def t07(P:Program)(a:Array Field)(rd:Operand->AV):List (Nat×Operand)->List A5->(List A5->Prop)->Prop
 | [],cs,K=>K cs
 |(i,x)::r,cs,K=>match a[i]?,V9 (rd x)with
  |some f,some new=>match I5 P f.type with
   |some n=>match w06 new n,Nat.ble (f.offset+n) cs.length with
    |true,true=>t07 P a rd r (splice cs f.offset new) K
    |_,_=>False
   |none=>False
  |_,_=>False
def U09(sz:Nat)(rd:Operand->AV):List (Nat×Operand)->List A5->(List A5->Prop)->Prop
 | [],cs,K=>K cs
 |(i,x)::r,cs,K=>match V9 (rd x)with
  |some new=>match w06 new sz,Nat.ble (i*sz+sz) cs.length with
   |true,true=>U09 sz rd r (splice cs (i*sz) new) K
   |_,_=>False
  |none=>False
def F0k{a:Type}:List a->(Nat->Prop)->Prop
 | [],K=>K 0
 |_::r,K=>F0k r λn=>K (n+1)
theorem V09{a:Type}:∀(l:List a) (K:Nat->Prop),F0k l K=K l.length
 | [],K=>rfl
 |_::r,K=>by simp only[F0k,V09 r,List.length_cons]
def newOwn(st:St)(e:TypeId)(sz by_:Nat)(nn:Bool)(xs:List (List Value))(K:AV->St->Prop):Prop :=
 F0k st.ow λn=>K (.own n 0) (st.withOw (st.ow ++ [⟨0,.live e sz by_ nn xs⟩]))
theorem k0b(st:St)(e:TypeId)(sz by_:Nat)(nn:Bool)(xs:List (List Value))(K:AV->St->Prop):newOwn st e sz by_ nn xs K=K (.own st.ow.length 0) (st.withOw (st.ow ++ [⟨0,.live e sz by_ nn xs⟩])):=V09 _ _
def newBox(st:St)(cs:List A5)(t:TypeId)(K:AV->St->Prop):Prop :=
 F0k st.bx λn=>K (.box n 0) (st.withBx (st.bx ++ [.live cs t]))
theorem l0b(st:St)(cs:List A5)(t:TypeId)(K:AV->St->Prop):newBox st cs t K=K (.box st.bx.length 0) (st.withBx (st.bx ++ [.live cs t])):=V09 _ _
def w0d(st:St)(h:Hp)(sz:Nat)(av:AV)(K:List (List Value)->Prop):Prop :=
 match av with
 | .own j _=>match nth st.ow j with
  |some ⟨_,.live _ b _ _ a⟩=>match Nat.beq b sz with
   |true=>K a
   |false=>False
  |_=>False
 | .val s=>∃ a,SlE h sz s a/\K a
 |_=>False
def Y0s(av:AV)(i:Nat):Bool:=match av with
 | .own j _=>Nat.beq i j
 |_=>false
def G03:List (List Value)->Bool
 | []=>false
 |_::_=>true
def u07(n by_:Nat):Prop:=n*by_<=140737488355328
def i0n(h:Hp)(sz:Nat)(v:Value)(xs:List (List Value)):Prop :=
 (∀ x∈xs,x.length=sz/\∀ v∈x,v.oneCell'=true)/\∃ g o c cur ty,v = .slice (some ⟨g,o,none⟩) xs.length c/\xs.length<=c/\c<=maxLen/\o+c*sz<=cur.size/\h g=some (.cells cur ty (0,0)) /\
  ∀ j u,xs.flatten[j]?=some u->cur[o+j]?=some u
def x0o(h c:Hp)(sz g:Nat)(v:Value)(j:List (List Value)):Prop :=
 i0n c sz v j/\∃ a i f d,v = .slice (some ⟨a,i,none⟩) f d/\(a=g∨h a=none)/\∀ b,b≠a->c b=h b
def Z0s(h c:Hp)(sz:Nat)(v:Value)(i:List (List Value)):Prop :=
 i0n c sz v i/\∃ a g f d,v = .slice (some ⟨a,g,none⟩) f d/\h a=none/\∀ b,b≠a->c b=h b
def x0d(P:Program)(t:TypeId)(a b:Operand)(st:St)(h:Hp)(K:AV->St->Hp->Prop):Prop :=
 match V00 P t with
 |some e=>match I5 P e,j09 P e,F00 P e with
  |some (sz+1),some (by_+1),some z=>match w06 z.cells.toList (sz+1)with
   |true=>match rdO st a with
    | .own i k=>match nth st.ow i with
     |some ⟨s,.live j l m nn xs⟩=>match Nat.beq j e,Nat.beq l (sz+1),Y0s (rdO st b) i with
      |true,true,false=>w0d st h (sz+1) (rdO st b) λd=>u07 (xs.length+d.length) (by_+1) /\
        K (.own i (s+1)) (st.withOw (w00 st.ow i ⟨s+1,.live e (sz+1) (by_+1) (nn || G03 d) (xs++d)⟩)) h
      |_,_,_=>False
     |_=>False
    | .val (.slice none 0 0)=>(w0d st h (sz+1) (rdO st b) λd=>u07 d.length (by_+1) /\
      newOwn st e (sz+1) (by_+1) (G03 d) d λav st=>K av st h) ∨
     (w0d st h (sz+1) (rdO st b) λd=>(G03 d=true/\u07 d.length (by_+1))/\∀ v f,Z0s h f (sz+1) v d->K (.val v) st f)
    | .val (.slice (some ⟨g,o,none⟩) n c)=>w0d st h (sz+1) (rdO st b) λd=>∃ xs,i0n h (sz+1) (.slice (some ⟨g,o,none⟩) n c) xs/\u07 (xs.length+d.length) (by_+1) /\
      ∀ v f,x0o h f (sz+1) g v (xs++d)->K (.val v) st f
    |_=>False
   |false=>False
  |_,_,_=>False
 |none=>False
def G0k(i:Nat)(b a:Option AV)(st:St)(h:Hp)(K:AV->St->Hp->Prop):Prop :=
 match b,a with
 |none,some (.val (.int _ m))=>match nth st.ow i with
  |some ⟨s,.live e sz by_ nn xs⟩=>(0<=m/\m<=(xs.length:Int)) /\
    K (.own i (s+1)) (st.withOw (w00 st.ow i ⟨s+1,.live e sz by_ nn (xs.take m.toNat)⟩)) h
  |_=>False
 |_,_=>False
def g05(d:Int):Option AV->Option Int
 |none=>some d
 |some (.val (.int _ n))=>some n
 |_=>none
def H0k(sz:Nat)(s:Value)(l m:Nat)(v:Value):Prop:=∀ a n c,s = .slice a n c->v = .slice (if c=l then a else a.map (·.add (l*sz))) (m-l) (c-l)
def I0k(sz:Nat)(s:Value)(n:Nat)(b a:Option AV)(st:St)(h:Hp)(K:AV->St->Hp->Prop):Prop :=
 match g05 0 b,g05 n a with
 |some l,some m=>(0<=l/\l<=m/\m<=(n:Int))/\∃ xs,SlE h sz s xs/\∀ v,SlE h sz v ((xs.take m.toNat).drop l.toNat)->H0k sz s l.toNat m.toNat v->K (.val v) st h
 |_,_=>False
def y0o(s:ByteArray)(b a:Option AV)(st:St)(h:Hp)(K:AV->St->Hp->Prop):Prop :=
 match g05 0 b,g05 s.size a with
 |some l,some m=>(0<=l/\l<=m/\m<=(s.size:Int))/\K (.val (.string (s.extract l.toNat m.toNat))) st h
 |_,_=>False
def B04:AV->Option Value
 | .val v=>some v
 | .agg cs=>match v0d cs with
  |some vs=>some (.agg vs.toArray)
  |none=>none
 |_=>none
def Z06(P:Program)(o:Oper)(x a:Operand)(xs c:Value)(b:Bool):Prop:=∀ ρ:Operand->Value,ρ x=xs->ρ a=c->∀ w:World,(execOp ρ o).run P w = .ok (.value (.bool b)) w
def E6(h:Hp)(s:Value)(idx:Int)(off:Nat)(v:Value)(K:Hp->Prop):Prop :=
 ∃ b of n a cur ty,(s = .slice (some ⟨b,of,none⟩) n a/\0<=idx/\h b=some (.cells cur ty (0,0))/\of+off<cur.size/\T02 v) /\
  K (h.set b (.cells (cur.setIfInBounds (of+off) v) ty (0,0)))
theorem E6.mk{h:Hp}{b of n a p:Nat}{cur:Array Value}{ty:TypeId}{idx:Int}{off:Nat}{v:Value}{K:Hp->Prop}(c:0<=idx)(d:h b=some (.cells cur ty (0,0)))(f:p<cur.size)(i:of+off=p)(g:T02 v)
  (j:K (h.set b (.cells (cur.setIfInBounds p v) ty (0,0)))):E6 h (.slice (some ⟨b,of,none⟩) n a) idx off v K:=by
 subst i
 exact⟨b,of,n,a,cur,ty,⟨rfl,c,d,f,g⟩,j⟩
def r04(h:Hp)(s:Value)(idx:Int)(off:Nat)(new:List Value)(K:Hp->Prop):Prop :=
 ∃ b of n a cur ty,(s = .slice (some ⟨b,of,none⟩) n a/\0<=idx/\h b=some (.cells cur ty (0,0))/\of+off+new.length<=cur.size) /\
  K (h.set b (.cells (splice cur.toList (of+off) new).toArray ty (0,0)))
def R7(P:Program)(o:Oper)(st:St)(h:Hp)(K:AV->St->Hp->Prop):Prop :=
 match o.op with
 | .move x | .assign x=>match rdO st x with
  | .dead=>False
  |a=>K a st h
 | .box t x=>match V9 (rdO st x)with
  |some cs=>newBox st cs t λav st=>K av st h
  |none=>False
 | .alloc t=>match F00 P t with
  |some z=>newBox st (vals z.cells.toList) t λav st=>K av st h
  |none=>False
 | .fieldAddr t x k=>match rdO st x,j0h P t k with
  | .box i off,some d=>K (.box i (off+d)) st h
  | .hel s i sz k,some d=>K (.hel s i sz (k+d)) st h
  | .oel i s j sz k,some d=>K (.oel i s j sz (k+d)) st h
  | .val (.pointer (some ⟨b,off,none⟩)),some d=>K (.val (ptr b (off+d))) st h
  |_,_=>False
 | .indexAddr t x i=>match rdO st i with
  | .val (.int _ j)=>match V00 P t with
   |some e=>match I5 P e with
    |some sz=>match rdO st x with
     | .val (.slice a n c)=>InB (.slice a n c) j/\K (.hel (.slice a n c) j sz 0) st h
     | .own i k=>match nth st.ow i with
      |some ⟨_,.live _ g _ _ xs⟩=>match Nat.beq g sz with
       |true=>(0<=j/\j<(xs.length:Int))/\K (.oel i k j sz 0) st h
       |false=>False
      |_=>False
     |_=>False
    |none=>False
   |none=>match rdO st x,r0o P t j with
    | .box i off,some d=>K (.box i (off+d)) st h
    | .hel s i sz k,some d=>K (.hel s i sz (k+d)) st h
    | .oel i s j sz k,some d=>K (.oel i s j sz (k+d)) st h
    |_,_=>False
  |_=>False
 | .load t x=>match rdO st x with
  | .box i off=>match nth st.bx i with
   |some (.live cs _)=>z04 P t cs off λav=>K av st h
   |_=>False
  | .hel s idx sz k=>∃ c,N4 h s sz idx c/\z04 P t (vals c) k λav=>K av st h
  | .oel i _ idx sz k=>match nth st.ow i with
   |some ⟨_,.live _ g _ _ xs⟩=>match Nat.beq g sz with
    |true=>∃ c,xs[idx.toNat]?=some c/\z04 P t (vals c) k λav=>K av st h
    |false=>False
   |_=>False
  |_=>Q05 P o st h K
 | .store t a x=>match rdO st a with
  | .box i off=>match nth st.bx i,V9 (rdO st x),I5 P t with
   |some (.live cs ty),some new,some n=>match w06 new n,f05 st new with
    |true,true=>h0n cs off new λcs=>K (.val undef) (st.withBx (w00 st.bx i (.live cs ty))) h
    |_,_=>False
   |_,_,_=>False
  | .oel i s idx sz k=>rfy (rdO st x) st h λv st h=>match nth st.ow i,I5 P t with
   |some ⟨E,.live e g by_ nn xs⟩,some n=>match w06 v.cells.toList n,A04 v.cells.toList,Nat.beq E s,Nat.beq g sz with
    |true,true,true,true=>∃ c,xs[idx.toNat]?=some c/\h0n c k v.cells.toList λF =>
      K (.val undef) (st.withOw (w00 st.ow i ⟨E,.live e g by_ nn (xs.set idx.toNat F)⟩)) h
    |_,_,_,_=>False
   |_,_=>False
  | .hel s idx sz k=>match rdO st x with
   | .val v=>match I5 P t with
    |some 1=>E6 h s idx (idx.toNat*sz+k) v λp=>K (.val undef) st p
    |some n=>match w06 v.cells.toList n,A04 v.cells.toList with
     |true,true=>r04 h s idx (idx.toNat*sz+k) v.cells.toList λp=>K (.val undef) st p
     |_,_=>False
    |_=>False
   | .agg cs=>match I5 P t,v0d cs with
    |some n,some new=>match w06 new n,A04 new with
     |true,true=>r04 h s idx (idx.toNat*sz+k) new λp=>K (.val undef) st p
     |_,_=>False
    |_,_=>False
   |_=>False
  |_=>Q05 P o st h K
 | .build t ps=>match P.underlying t,F00 P t with
  |some (.struct q),some z=>match R05 P q.toList with
   |true=>t07 P q (rdO st) ps.toList (vals z.cells.toList) λcs=>K (.agg cs) st h
   |false=>False
  |some (.array _ e),some z=>match I5 P e with
   |some sz=>U09 sz (rdO st) ps.toList (vals z.cells.toList) λcs=>K (.agg cs) st h
   |none=>False
  |_,_=>False
 | .buildSlice t n ps=>match V00 P t with
  |some e=>match I5 P e,j09 P e,F00 P e with
   |some (sz+1),some by_,some z=>match Nat.beq n ps.size,Nat.ble (n*(sz+1)) 16777216,w06 z.cells.toList (sz+1)with
    |true,true,true=>x0i (sz+1) 0 ps.toList st h λxs st h=>newOwn st e (sz+1) by_ true xs λav st=>K av st h
    |_,_,_=>False
   |_,_,_=>False
  |none=>False
 | .makeSlice t l c=>match V00 P t with
  |some e=>match I5 P e,j09 P e,F00 P e,rdO st l,rdO st c with
   |some (sz+1),some by_,some z,.val (.int _ w),.val (.int _ u)=>match w06 z.cells.toList (sz+1),A04 z.cells.toList with
    |true,true=>(0<=w/\w<=u/\u*by_<=140737488355328/\u<=9223372036854775807) /\
      newOwn st e (sz+1) by_ true (List.replicate w.toNat z.cells.toList) λav st=>K av st h
    |_,_=>False
   |_,_,_,_,_=>False
  |none=>False
 | .field t x k=>match s07 (rdO st x),P.underlying t with
  |some cs,some (.struct q)=>match q[k]? with
   |some f=>z04 P f.type cs f.offset λav=>K av st h
   |none=>False
  |_,_=>False
 | .slice t x lo hi none=>match rdO st x with
  | .own i _=>match V00 P t with
   |some e=>match I5 P e with
    |some _=>G0k i (lo.map (rdO st)) (hi.map (rdO st)) st h K
    |none=>False
   |none=>False
  | .val (.slice a n c)=>match V00 P t with
   |some e=>match I5 P e with
    |some sz=>I0k sz (.slice a n c) n (lo.map (rdO st)) (hi.map (rdO st)) st h K
    |none=>False
   |none=>False
  | .val (.string s)=>match P.underlying t with
   |some .string=>y0o s (lo.map (rdO st)) (hi.map (rdO st)) st h K
   |_=>False
  |_=>False
 | .index t x i=>match rdO st x,rdO st i,P.underlying t with
  | .val (.string s),.val (.int _ j),some .string=>∃ c,(0<=j/\s[j.toNat]?=some c)/\K (.val (.int .u8 c.toNat)) st h
  |_,_,_=>Q05 P o st h K
 | .binOp .eql t x y _=>match B04 (rdO st x),B04 (rdO st y)with
  |some (.agg xs),some (.agg C)=>∃ b,Z06 P o x y (.agg xs) (.agg C) b/\K (.val (.bool b)) st h
  |some (.slice a n m),some (.slice none 0 0)=>∃ b,Z06 P o x y (.slice a n m) (.slice none 0 0) b/\K (.val (.bool b)) st h
  |_,_=>E0k P o st h K
 | .binOp .neq t x y _=>match B04 (rdO st x),B04 (rdO st y)with
  |some (.agg xs),some (.agg C)=>∃ b,Z06 P o x y (.agg xs) (.agg C) b/\K (.val (.bool b)) st h
  |some (.slice a n m),some (.slice none 0 0)=>∃ b,Z06 P o x y (.slice a n m) (.slice none 0 0) b/\K (.val (.bool b)) st h
  |_,_=>E0k P o st h K
 | .binOp .add t x y _=>match rdO st x,rdO st y with
  | .val (.string a),.val (.string b)=>a.size+b.size<=9223372036854775807/\K (.val (.string (a++b))) st h
  |_,_=>Q05 P o st h K
 | .binOp .quo t x y _=>match rdO st x,rdO st y with
  | .val (.int .i64 a),.val (.int .i64 b)=>b≠0/\K (.val (.int .i64 (IntKind.i64.wrap (a.tdiv b)))) st h
  |_,_=>Q05 P o st h K
 | .binOp .rem t x y _=>match rdO st x,rdO st y with
  | .val (.int .i64 a),.val (.int .i64 b)=>b≠0/\K (.val (.int .i64 (a.tmod b))) st h
  |_,_=>Q05 P o st h K
 | .binOp .shl t x y _=>match rdO st x,rdO st y with
  | .val (.int .i64 a),.val (.int .i64 b)=>0<=b/\K (.val (.int .i64 (IntKind.i64.wrap (a*2 ^ min b.toNat 64)))) st h
  |_,_=>Q05 P o st h K
 | .binOp .shr t x y _=>match rdO st x,rdO st y with
  | .val (.int .i64 a),.val (.int .i64 b)=>0<=b/\K (.val (.int .i64 (a.fdiv (2 ^ min b.toNat 64)))) st h
  |_,_=>Q05 P o st h K
 | .convert tf tt x=>match rdO st x with
  | .own i _=>match nth st.ow i,P.underlying tf,P.underlying tt with
   |some ⟨_,.live _ _ _ _ xs⟩,some (.slice e),some .string=>match P.underlying e with
    |some (.int .u8)=>∃ D:List Int,xs=D.map (λn=>[.int .u8 n])/\K (.val (.string (strOfNums D))) st h
    |_=>False
   |_,_,_=>E0k P o st h K
  |_=>E0k P o st h K
 | .call { callee := .builtin .len,args:=as,argTypes:=A }=>match as.toList,A.toList with
  | [x],[t]=>match rdO st x with
   | .own i _=>match nth st.ow i,V00 P t with
    |some ⟨_,.live _ _ _ _ xs⟩,some _=>K (.val (.int .i64 xs.length)) st h
    |_,_=>False
   |_=>Q05 P o st h K
  |_,_=>False
 | .call { callee := .builtin .append,args:=as,argTypes:=A }=>match as.toList,A.toList with
  | [a,b],[t,G]=>match Nat.beq t G with
   |true=>x0d P t a b st h K
   |false=>False
  |_,_=>False
 | .lookup _ _ _ _=>w0o P o st h K
 | .mapUpdate _ _ _ _=>w0o P o st h K
 | .insert _ _ _ _=>w0o P o st h K
 |_=>E0k P o st h K
end Go.H
