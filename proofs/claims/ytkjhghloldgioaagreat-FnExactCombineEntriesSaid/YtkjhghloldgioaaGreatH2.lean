/- Plain laws over the model: what a function's code asks, written out by a recursive function; slices and variables that the call itself makes are kept apart as lists. -/
import Derived.Test.YtkjhghloldgioaaGreatH1
import Derived.Laws.BytesArg
namespace Go.H
set_option linter.unusedVariables false
def nth{α:Type}:List α->Nat->Option α
 | [],_=>none
 |x::_,0=>some x
 |_::r,k+1=>nth r k
inductive a5 where
 |val (v:Value)
 |own (i k:Nat)
inductive AV where
 |val (v:Value)
 |own (i k:Nat)
 |box (i off:Nat)
 |hel (s:Value) (idx:Int) (sz k:Nat)
 |oel (i st:Nat) (idx:Int) (sz k:Nat)
 |agg (cs:List a5)
 |dead
inductive OSt where
 |live (e:TypeId) (sz by_:Nat) (nn:Bool) (xs:List (List Value))
 |frozen (v:Value)
structure Own where
 stamp:Nat
 st:OSt
inductive BSt where
 |live (cells:List a5) (ty:TypeId)
 |publ (b:Nat)
structure St where
 n:Nat
 fr:List (Nat×AV)
 bx:List BSt
 ow:List Own
def St.withOw(st:St)(l:List Own):St:=match st with
 |⟨n,fr,bx,_⟩=>⟨n,fr,bx,l⟩
def St.withBx(st:St)(l:List BSt):St:=match st with
 |⟨n,fr,_,ow⟩=>⟨n,fr,l,ow⟩
@[simp] theorem St.withOw_eq (st:St) (l:List Own):st.withOw l = { st with ow:=l }:=rfl
@[simp] theorem St.withBx_eq (st:St) (l:List BSt):st.withBx l = { st with bx:=l }:=rfl
def ptr(b off:Nat):Value := .pointer (some ⟨b,off,none⟩)
def L3:List (Nat×AV)->Nat->AV
 | [],_ => .dead
 |(k,v)::r,s=>match Nat.beq k s with
  |true=>v
  |false=>L3 r s
def SlE(h:Hp)(sz:Nat)(s:Value)(xs:List (List Value)):Prop :=
 (∀ x∈xs,x.length=sz/\∀ v∈x,v.oneCell'=true)/\∃ a n c,s = .slice a n c/\n=xs.length/\n<=c /\
  (xs.flatten = []∨∃ b o,a=some ⟨b,o,none⟩/\∀ j v,xs.flatten[j]?=some v->Hp.cell h b (o+j)=some v)
def I6(h:Hp)(s:Value)(sz:Nat)(idx:Int)(c:List Value):Prop :=
 c.length=sz/\0<=idx/\∃ b o n cp,s = .slice (some ⟨b,o,none⟩) n cp/\∀ j v,c[j]?=some v->Hp.cell h b (o+idx.toNat*sz+j)=some v
def InB(s:Value)(j:Int):Prop:=∃ b o n c,s = .slice (some ⟨b,o,none⟩) n c/\0<=j/\j<(n:Int)
def O1(h h':Hp)(v:Value)(e:TypeId)(sz:Nat)(nn:Bool)(xs:List (List Value)):Prop :=
  (∀ x∈xs,x.length=sz/\∀ v∈x,v.oneCell'=true) /\
  ((v = .slice none 0 0/\xs = []/\nn=false/\h'=h) ∨
   ∃ g cap cur,v = .slice (some ⟨g,0,none⟩) xs.length cap/\h g=none/\h'=h.set g (.cells cur e (0,0)) /\
     xs.length<=cap/\cap<=maxLen/\cur.size=cap*sz/\cur.toList.take (xs.length*sz)=xs.flatten)
def s5(P:Program)(t:TypeId):Option Nat:=match P.info? t with
 |some i=>some i.size
 |none=>none
def U06(P:Program)(t:TypeId):Option Nat:=match P.info? t with
 |some i=>some i.bytes
 |none=>none
def w9(P:Program)(t:TypeId):Option Value:=match P.info? t with
 |some i=>i.zero
 |none=>none
def f0c(P:Program)(t:TypeId):Option Bool:=match P.underlying t with
 |some (.struct _)=>some true
 |some (.array _ _)=>some true
 |some _=>some false
 |none=>none
def y0d(P:Program)(t:TypeId)(k:Nat):Option Nat:=match P.underlying t with
 |some (.struct fs)=>match fs[k]? with
  |some f=>match s5 P f.type with
   |some (_+1)=>some f.offset
   |_=>none
  |none=>none
 |_=>none
def C0k(P:Program)(t:TypeId)(j:Int):Option Nat:=match P.underlying t,j with
 |some (.array n e),.ofNat m=>match s5 P e,Nat.blt m n with
  |some (sz+1),true=>some (m*(sz+1))
  |_,_=>none
 |_,_=>none
def H9(P:Program)(t:TypeId):Option TypeId:=match P.underlying t with
 |some (.slice e)=>some e
 |_=>none
def rdA(st:St):AV->AV
 | .own i k=>match nth st.ow i with
  |some ⟨s,o⟩=>match Nat.beq s k with
   |true=>match o with
    | .live .. => .own i k
    | .frozen v => .val v
   |false => .dead
  |none => .dead
 | .box i off=>match nth st.bx i with
  |some (.live ..) => .box i off
  |some (.publ b) => .val (ptr b off)
  |none => .dead
 | .oel i s idx sz k=>match nth st.ow i with
  |some ⟨s',.live ..⟩=>match Nat.beq s' s with
   |true => .oel i s idx sz k
   |false => .dead
  |_ => .dead
 |av=>av
def rdO(st:St):Operand->AV
 | .tmp t=>rdA st (L3 st.fr t)
 | .const v => .val v
 | .global _ => .dead
 | .func f => .val (.func (.func f) #[] #[])
def n9{α:Type}:List α->Nat->α->List α
 | [],_,_=>[]
 |_::r,0,y=>y::r
 |x::r,k+1,y=>x::n9 r k y
def vals:List Value->List a5
 | []=>[]
 |v::r => .val v::vals r
def z0d(i k:Nat)(st:St)(h:Hp)(K:Value->St->Hp->Prop):Prop :=
 match nth st.ow i with
 |some ⟨s,.live e sz _ nn xs⟩=>match Nat.beq s k with
  |true=>∀ v h',O1 h h' v e sz nn xs->K v (st.withOw (n9 st.ow i ⟨s,.frozen v⟩)) h'
  |false=>False
 |some ⟨s,.frozen v⟩=>match Nat.beq s k with
  |true=>K v st h
  |false=>False
 |none=>False
def q05:List a5->St->Hp->(List Value->St->Hp->Prop)->Prop
 | [],st,h,K=>K [] st h
 | .val v::r,st,h,K=>q05 r st h λvs st h=>K (v::vs) st h
 | .own i k::r,st,h,K=>z0d i k st h λv st h=>q05 r st h λvs st h=>K (v::vs) st h
def D0k(i off:Nat)(st:St)(h:Hp)(K:Value->St->Hp->Prop):Prop :=
 match nth st.bx i with
 |some (.live cells ty)=>q05 cells st h λvs st h=>∀ b,h b=none ->
   K (ptr b off) (st.withBx (n9 st.bx i (.publ b))) (h.set b (.cells vs.toArray ty (0,0)))
 |some (.publ b)=>K (ptr b off) st h
 |none=>False
def rfy(av:AV)(st:St)(h:Hp)(K:Value->St->Hp->Prop):Prop :=
 match av with
 | .val v=>K v st h
 | .own i k=>z0d i k st h K
 | .box i off=>D0k i off st h K
 | .agg cs=>q05 cs st h λvs st h=>K (.agg vs.toArray) st h
 |_=>False
def B08:List Operand->St->Hp->(List (Nat×Value)->St->Hp->Prop)->Prop
 | [],st,h,K=>K [] st h
 | .tmp t::r,st,h,K=>rfy (rdO st (.tmp t)) st h λv st h=>B08 r st h λvs st h=>K ((t,v)::vs) st h
 | .global _::_,_,_,_=>False
 |_::r,st,h,K=>B08 r st h K
def T0h:List (Nat×Value)->Nat->Value
 | [],_=>undef
 |(k,v)::r,s=>match Nat.beq k s with
  |true=>v
  |false=>T0h r s
def rho(vs:List (Nat×Value)):Operand->Value
 | .tmp t=>T0h vs t
 | .const v=>v
 | .global g => .pointer (some ⟨g,0,none⟩)
 | .func f => .func (.func f) #[] #[]
def s07:Op->Bool
 | .select _ _=>true
 |_=>false
def A0d(ρ:Operand->Value):List Operand->List Value
 | []=>[]
 |x::r=>ρ x::A0d ρ r
def E0k:List Value->List Value->List Value
 | [],l=>l
 |x::r,l=>x::E0k r l
def r05(ρ:Operand->Value)(o:Oper):Option (FuncId×List Value):=match o.op with
 | .call c=>match c.callee with
  | .value x=>match ρ x with
   | .func (.func f) first captured=>some (f,E0k first.toList (E0k (A0d ρ c.args.toList) captured.toList))
   |_=>none
  |_=>none
 |_=>none
def okF(P:Program)(f:FuncId):Bool:=match P.funcs[f]? with
 |some fn=>match fn.body with
  |some _=>match fn.name == "runtime.NumGoroutine" with
   |true=>false
   |false=>true
  |none=>false
 |none=>false
def s05:List Operand->List Bool
 | []=>[]
 | .const _::r=>true::s05 r
 |_::r=>false::s05 r
def x06(ρ:Operand->Value)(o:Oper):Sem Next:=match o.op with
 | .call c=>match c.callee with
  | .builtin b=>invoke (.builtin b c.argTypes o.type (s05 c.args.toList).toArray) (A0d ρ c.args.toList).toArray
  |_=>execOp ρ o
 | .makeFunc fn first captured=>do pure (.value (←Instr.makeFunc fn (A0d ρ first.toList).toArray (A0d ρ captured.toList).toArray))
 |_=>execOp ρ o
def U03(P:Program)(o:Oper)(st:St)(h:Hp)(K:AV->St->Hp->Prop):Prop :=
 match s07 o.op with
 |true=>False
 |false=>B08 o.op.operands.toList st h λvs st h=>match r05 (rho vs) o with
  |some (f,l)=>match okF P f with
   |true=>Tr P f l.toArray h λv h''=>K (.val v) st h''
   |false=>False
  |none=>wpS P (x06 (rho vs) o) h λn h'=>match n with
   | .value v=>K (.val v) st h'
   | .skip=>K (.val undef) st h'
   |_=>False
def evP(P:Program){α:Type}:Sem α->Option α
 | .pure a=>some a
 | .program k=>evP P (k P)
 | .mark _ k=>evP P k
 |_=>none
def F0k(P:Program)(o:Oper)(st:St)(h:Hp)(K:AV->St->Hp->Prop):Prop :=
 match s07 o.op with
 |true=>False
 |false=>B08 o.op.operands.toList st h λvs _ hf=>match r05 (rho vs) o with
  |some (f,l)=>match okF P f with
   |true=>Tr P f l.toArray hf λr h'=>h'=hf/\K (.val r) st h
   |false=>False
  |none=>False
def G0k(st:St):List Operand->Bool
 | []=>false
 |x::r=>match rdO st x with
  | .own _ _=>true
  |_=>G0k st r
def L0g(P:Program)(o:Oper)(st:St)(h:Hp)(K:AV->St->Hp->Prop):Prop :=
 match G0k st o.op.operands.toList with
 |true=>U03 P o st h K∨F0k P o st h K
 |false=>U03 P o st h K
def U0h(P:Program)(ρ:Operand->Value)(o:Oper)(h h':Hp)(v:Value):Prop:=∀ K:Next->Hp->Prop,(K (.value v) h'/\(v=undef->K .skip h'))->wpS P (x06 ρ o) h K
def H0k(P:Program)(o:Oper)(st:St)(h:Hp)(K:AV->St->Hp->Prop):Prop :=
 match s07 o.op with
 |true=>False
 |false=>B08 o.op.operands.toList st h λvs st h=>match r05 (rho vs) o with
  |some _=>False
  |none=>∃ v h',U0h P (rho vs) o h h' v/\K (.val v) st h'
def R8:AV->Option (List a5)
 | .val (.agg cs)=>some (vals cs.toList)
 | .val (.tuple _)=>none
 | .val v=>some [.val v]
 | .own i k=>some [.own i k]
 | .agg cs=>some cs
 |_=>none
def ofCell:a5->AV
 | .val v => .val v
 | .own i k => .own i k
def F04{α:Type}:List α->Nat->Bool
 | [],0=>true
 |_::r,k+1=>F04 r k
 |_,_=>false
def n03(P:Program)(t:TypeId)(cs:List a5)(off:Nat)(K:AV->Prop):Prop :=
 match f0c P t with
 |some true=>match s5 P t with
  |some n=>match F04 ((cs.drop off).take n) n with
   |true=>K (.agg ((cs.drop off).take n))
   |false=>False
  |none=>False
 |some false=>match nth cs off with
  |some c=>K (ofCell c)
  |none=>False
 |none=>False
def splice{α:Type}:List α->Nat->List α->List α
 |cs,_,[]=>cs
 |cs,off,x::r=>splice (n9 cs off x) (off+1) r
def t0j{α:Type}(cs:List α)(off:Nat)(new:List α)(K:List α->Prop):Prop :=
 match Nat.ble (off+new.length) cs.length with
 |true=>K (splice cs off new)
 |false=>False
def t0a:List a5->Option (List Value)
 | []=>some []
 | .val v::r=>match t0a r with
  |some vs=>some (v::vs)
  |none=>none
 | .own _ _::_=>none
def P02:List Value->Bool
 | []=>true
 |v::r=>match v.oneCell' with
  |true=>P02 r
  |false=>false
def p03(st:St):List a5->Bool
 | []=>true
 | .val v::r=>match v.oneCell' with
  |true=>p03 st r
  |false=>false
 | .own i k::r=>match rdA st (.own i k)with
  | .own _ _=>p03 st r
  | .val v=>match v.oneCell' with
   |true=>p03 st r
   |false=>false
  |_=>false
def L0e(sz:Nat):Nat->List (Nat×Operand)->St->Hp->(List (List Value)->St->Hp->Prop)->Prop
 |_,[],st,h,K=>K [] st h
 |i,(j,x)::r,st,h,K=>match Nat.beq i j with
  |true=>rfy (rdO st x) st h λv st h=>match F04 v.cells.toList sz,P02 v.cells.toList with
   |true,true=>L0e sz (i+1) r st h λvs st h=>K (v.cells.toList::vs) st h
   |_,_=>False
  |false=>False
def V03(P:Program):List Field->Bool
 | []=>true
 |f::r=>match s5 P f.type with
  |some _=>V03 P r
  |none=>false
def t05:AV->Option (List a5)
 | .val (.agg cs)=>some (vals cs.toList)
 | .agg cs=>some cs
 |_=>none
def u05(P:Program)(fs:Array Field)(rd:Operand->AV):List (Nat×Operand)->List a5->(List a5->Prop)->Prop
 | [],cs,K=>K cs
 |(i,x)::r,cs,K=>match fs[i]?,R8 (rd x)with
  |some f,some new=>match s5 P f.type with
   |some n=>match F04 new n,Nat.ble (f.offset+n) cs.length with
    |true,true=>u05 P fs rd r (splice cs f.offset new) K
    |_,_=>False
   |none=>False
  |_,_=>False
def t07(sz:Nat)(rd:Operand->AV):List (Nat×Operand)->List a5->(List a5->Prop)->Prop
 | [],cs,K=>K cs
 |(i,x)::r,cs,K=>match R8 (rd x)with
  |some new=>match F04 new sz,Nat.ble (i*sz+sz) cs.length with
   |true,true=>t07 sz rd r (splice cs (i*sz) new) K
   |_,_=>False
  |none=>False
def M0g{α:Type}:List α->(Nat->Prop)->Prop
 | [],K=>K 0
 |_::r,K=>M0g r λn=>K (n+1)
theorem u07{α:Type}:∀(l:List α) (K:Nat->Prop),M0g l K=K l.length
 | [],K=>rfl
 |_::r,K=>by simp only[M0g,u07 r,List.length_cons]
def newOwn(st:St)(e:TypeId)(sz by_:Nat)(nn:Bool)(xs:List (List Value))(K:AV->St->Prop):Prop :=
 M0g st.ow λn=>K (.own n 0) (st.withOw (st.ow ++ [⟨0,.live e sz by_ nn xs⟩]))
theorem C08(st:St)(e:TypeId)(sz by_:Nat)(nn:Bool)(xs:List (List Value))(K:AV->St->Prop):newOwn st e sz by_ nn xs K=K (.own st.ow.length 0) (st.withOw (st.ow ++ [⟨0,.live e sz by_ nn xs⟩])):=u07 _ _
def newBox(st:St)(cs:List a5)(t:TypeId)(K:AV->St->Prop):Prop :=
 M0g st.bx λn=>K (.box n 0) (st.withBx (st.bx ++ [.live cs t]))
theorem D08(st:St)(cs:List a5)(t:TypeId)(K:AV->St->Prop):newBox st cs t K=K (.box st.bx.length 0) (st.withBx (st.bx ++ [.live cs t])):=u07 _ _
def u0a(st:St)(h:Hp)(sz:Nat)(av:AV)(K:List (List Value)->Prop):Prop :=
 match av with
 | .own j _=>match nth st.ow j with
  |some ⟨_,.live _ sz' _ _ ys⟩=>match Nat.beq sz' sz with
   |true=>K ys
   |false=>False
  |_=>False
 | .val s=>∃ ys,SlE h sz s ys/\K ys
 |_=>False
def M0o(av:AV)(i:Nat):Bool:=match av with
 | .own j _=>Nat.beq i j
 |_=>false
def j02:List (List Value)->Bool
 | []=>false
 |_::_=>true
def W03(n by_:Nat):Prop:=n*by_<=140737488355328
def u0j(h:Hp)(sz:Nat)(v:Value)(xs:List (List Value)):Prop :=
 (∀ x∈xs,x.length=sz/\∀ v∈x,v.oneCell'=true)/\∃ g o c cur ty,v = .slice (some ⟨g,o,none⟩) xs.length c/\xs.length<=c/\c<=maxLen/\o+c*sz<=cur.size/\h g=some (.cells cur ty (0,0)) /\
  ∀ j u,xs.flatten[j]?=some u->cur[o+j]?=some u
def I0k(h h':Hp)(sz g:Nat)(v:Value)(zs:List (List Value)):Prop :=
 u0j h' sz v zs/\∃ g' o' n' c',v = .slice (some ⟨g',o',none⟩) n' c'/\(g'=g∨h g'=none)/\∀ b,b≠g'->h' b=h b
def c0o(h h':Hp)(sz:Nat)(v:Value)(zs:List (List Value)):Prop :=
 u0j h' sz v zs/\∃ g' o' n' c',v = .slice (some ⟨g',o',none⟩) n' c'/\h g'=none/\∀ b,b≠g'->h' b=h b
def v0a(P:Program)(t:TypeId)(a b:Operand)(st:St)(h:Hp)(K:AV->St->Hp->Prop):Prop :=
 match H9 P t with
 |some e=>match s5 P e,U06 P e,w9 P e with
  |some (sz+1),some (by_+1),some z=>match F04 z.cells.toList (sz+1)with
   |true=>match rdO st a with
    | .own i k=>match nth st.ow i with
     |some ⟨s,.live e' sz' by' nn xs⟩=>match Nat.beq e' e,Nat.beq sz' (sz+1),M0o (rdO st b) i with
      |true,true,false=>u0a st h (sz+1) (rdO st b) λys=>W03 (xs.length+ys.length) (by_+1) /\
        K (.own i (s+1)) (st.withOw (n9 st.ow i ⟨s+1,.live e (sz+1) (by_+1) (nn || j02 ys) (xs++ys)⟩)) h
      |_,_,_=>False
     |_=>False
    | .val (.slice none 0 0)=>(u0a st h (sz+1) (rdO st b) λys=>W03 ys.length (by_+1) /\
      newOwn st e (sz+1) (by_+1) (j02 ys) ys λav st=>K av st h) ∨
     (u0a st h (sz+1) (rdO st b) λys=>(j02 ys=true/\W03 ys.length (by_+1))/\∀ v h',c0o h h' (sz+1) v ys->K (.val v) st h')
    | .val (.slice (some ⟨g,o,none⟩) n c)=>u0a st h (sz+1) (rdO st b) λys=>∃ xs,u0j h (sz+1) (.slice (some ⟨g,o,none⟩) n c) xs/\W03 (xs.length+ys.length) (by_+1) /\
      ∀ v h',I0k h h' (sz+1) g v (xs++ys)->K (.val v) st h'
    |_=>False
   |false=>False
  |_,_,_=>False
 |none=>False
def N0g(i:Nat)(lo hi:Option AV)(st:St)(h:Hp)(K:AV->St->Hp->Prop):Prop :=
 match lo,hi with
 |none,some (.val (.int _ m))=>match nth st.ow i with
  |some ⟨s,.live e sz by_ nn xs⟩=>(0<=m/\m<=(xs.length:Int)) /\
    K (.own i (s+1)) (st.withOw (n9 st.ow i ⟨s+1,.live e sz by_ nn (xs.take m.toNat)⟩)) h
  |_=>False
 |_,_=>False
def q03(d:Int):Option AV->Option Int
 |none=>some d
 |some (.val (.int _ n))=>some n
 |_=>none
def O0g(sz:Nat)(s:Value)(l m:Nat)(v:Value):Prop:=∀ ad n c,s = .slice ad n c->v = .slice (if c=l then ad else ad.map (·.add (l*sz))) (m-l) (c-l)
def P0g(sz:Nat)(s:Value)(n:Nat)(lo hi:Option AV)(st:St)(h:Hp)(K:AV->St->Hp->Prop):Prop :=
 match q03 0 lo,q03 n hi with
 |some l,some m=>(0<=l/\l<=m/\m<=(n:Int))/\∃ xs,SlE h sz s xs/\∀ v,SlE h sz v ((xs.take m.toNat).drop l.toNat)->O0g sz s l.toNat m.toNat v->K (.val v) st h
 |_,_=>False
def J0k(s:ByteArray)(lo hi:Option AV)(st:St)(h:Hp)(K:AV->St->Hp->Prop):Prop :=
 match q03 0 lo,q03 s.size hi with
 |some l,some m=>(0<=l/\l<=m/\m<=(s.size:Int))/\K (.val (.string (s.extract l.toNat m.toNat))) st h
 |_,_=>False
def Q02:AV->Option Value
 | .val v=>some v
 | .agg cs=>match t0a cs with
  |some vs=>some (.agg vs.toArray)
  |none=>none
 |_=>none
def v07(P:Program)(o:Oper)(x y:Operand)(xs ys:Value)(b:Bool):Prop:=∀ ρ:Operand->Value,ρ x=xs->ρ y=ys->∀ w:World,(execOp ρ o).run P w = .ok (.value (.bool b)) w
def q00(h:Hp)(s:Value)(idx:Int)(off:Nat)(v:Value)(K:Hp->Prop):Prop :=
 ∃ b of n cp cur ty,(s = .slice (some ⟨b,of,none⟩) n cp/\0<=idx/\h b=some (.cells cur ty (0,0))/\of+off<cur.size/\Z01 v) /\
  K (h.set b (.cells (cur.setIfInBounds (of+off) v) ty (0,0)))
theorem q00.mk{h:Hp}{b of n cp p:Nat}{cur:Array Value}{ty:TypeId}{idx:Int}{off:Nat}{v:Value}{K:Hp->Prop}(h1:0<=idx)(h2:h b=some (.cells cur ty (0,0)))(h3:p<cur.size)(he:of+off=p)(h4:Z01 v)
  (hk:K (h.set b (.cells (cur.setIfInBounds p v) ty (0,0)))):q00 h (.slice (some ⟨b,of,none⟩) n cp) idx off v K:=by
 subst he
 exact⟨b,of,n,cp,cur,ty,⟨rfl,h1,h2,h3,h4⟩,hk⟩
def R01(h:Hp)(s:Value)(idx:Int)(off:Nat)(new:List Value)(K:Hp->Prop):Prop :=
 ∃ b of n cp cur ty,(s = .slice (some ⟨b,of,none⟩) n cp/\0<=idx/\h b=some (.cells cur ty (0,0))/\of+off+new.length<=cur.size) /\
  K (h.set b (.cells (splice cur.toList (of+off) new).toArray ty (0,0)))
def O7(P:Program)(o:Oper)(st:St)(h:Hp)(K:AV->St->Hp->Prop):Prop :=
 match o.op with
 | .move x | .assign x=>match rdO st x with
  | .dead=>False
  |a=>K a st h
 | .box t x=>match R8 (rdO st x)with
  |some cs=>newBox st cs t λav st=>K av st h
  |none=>False
 | .alloc t=>match w9 P t with
  |some z=>newBox st (vals z.cells.toList) t λav st=>K av st h
  |none=>False
 | .fieldAddr t x k=>match rdO st x,y0d P t k with
  | .box i off,some fo=>K (.box i (off+fo)) st h
  | .hel s i sz k,some fo=>K (.hel s i sz (k+fo)) st h
  | .oel i s j sz k,some fo=>K (.oel i s j sz (k+fo)) st h
  | .val (.pointer (some ⟨b,off,none⟩)),some fo=>K (.val (ptr b (off+fo))) st h
  |_,_=>False
 | .indexAddr t x i=>match rdO st i with
  | .val (.int _ j)=>match H9 P t with
   |some e=>match s5 P e with
    |some sz=>match rdO st x with
     | .val (.slice a n c)=>InB (.slice a n c) j/\K (.hel (.slice a n c) j sz 0) st h
     | .own i k=>match nth st.ow i with
      |some ⟨_,.live _ sz' _ _ xs⟩=>match Nat.beq sz' sz with
       |true=>(0<=j/\j<(xs.length:Int))/\K (.oel i k j sz 0) st h
       |false=>False
      |_=>False
     |_=>False
    |none=>False
   |none=>match rdO st x,C0k P t j with
    | .box i off,some fo=>K (.box i (off+fo)) st h
    | .hel s i sz k,some fo=>K (.hel s i sz (k+fo)) st h
    | .oel i s j sz k,some fo=>K (.oel i s j sz (k+fo)) st h
    |_,_=>False
  |_=>False
 | .load t x=>match rdO st x with
  | .box i off=>match nth st.bx i with
   |some (.live cs _)=>n03 P t cs off λav=>K av st h
   |_=>False
  | .hel s idx sz k=>∃ c,I6 h s sz idx c/\n03 P t (vals c) k λav=>K av st h
  | .oel i _ idx sz k=>match nth st.ow i with
   |some ⟨_,.live _ sz' _ _ xs⟩=>match Nat.beq sz' sz with
    |true=>∃ c,xs[idx.toNat]?=some c/\n03 P t (vals c) k λav=>K av st h
    |false=>False
   |_=>False
  |_=>U03 P o st h K
 | .store t a x=>match rdO st a with
  | .box i off=>match nth st.bx i,R8 (rdO st x),s5 P t with
   |some (.live cs ty),some new,some n=>match F04 new n,p03 st new with
    |true,true=>t0j cs off new λcs=>K (.val undef) (st.withBx (n9 st.bx i (.live cs ty))) h
    |_,_=>False
   |_,_,_=>False
  | .oel i s idx sz k=>rfy (rdO st x) st h λv st h=>match nth st.ow i,s5 P t with
   |some ⟨s',.live e sz' by_ nn xs⟩,some n=>match F04 v.cells.toList n,P02 v.cells.toList,Nat.beq s' s,Nat.beq sz' sz with
    |true,true,true,true=>∃ c,xs[idx.toNat]?=some c/\t0j c k v.cells.toList λc' =>
      K (.val undef) (st.withOw (n9 st.ow i ⟨s',.live e sz' by_ nn (xs.set idx.toNat c')⟩)) h
    |_,_,_,_=>False
   |_,_=>False
  | .hel s idx sz k=>match rdO st x with
   | .val v=>match s5 P t with
    |some 1=>q00 h s idx (idx.toNat*sz+k) v λh'=>K (.val undef) st h'
    |some n=>match F04 v.cells.toList n,P02 v.cells.toList with
     |true,true=>R01 h s idx (idx.toNat*sz+k) v.cells.toList λh'=>K (.val undef) st h'
     |_,_=>False
    |_=>False
   | .agg cs=>match s5 P t,t0a cs with
    |some n,some new=>match F04 new n,P02 new with
     |true,true=>R01 h s idx (idx.toNat*sz+k) new λh'=>K (.val undef) st h'
     |_,_=>False
    |_,_=>False
   |_=>False
  |_=>U03 P o st h K
 | .build t ps=>match P.underlying t,w9 P t with
  |some (.struct fs),some z=>match V03 P fs.toList with
   |true=>u05 P fs (rdO st) ps.toList (vals z.cells.toList) λcs=>K (.agg cs) st h
   |false=>False
  |some (.array _ e),some z=>match s5 P e with
   |some sz=>t07 sz (rdO st) ps.toList (vals z.cells.toList) λcs=>K (.agg cs) st h
   |none=>False
  |_,_=>False
 | .buildSlice t n ps=>match H9 P t with
  |some e=>match s5 P e,U06 P e,w9 P e with
   |some (sz+1),some by_,some z=>match Nat.beq n ps.size,Nat.ble (n*(sz+1)) 16777216,F04 z.cells.toList (sz+1)with
    |true,true,true=>L0e (sz+1) 0 ps.toList st h λxs st h=>newOwn st e (sz+1) by_ true xs λav st=>K av st h
    |_,_,_=>False
   |_,_,_=>False
  |none=>False
 | .makeSlice t l c=>match H9 P t with
  |some e=>match s5 P e,U06 P e,w9 P e,rdO st l,rdO st c with
   |some (sz+1),some by_,some z,.val (.int _ nl),.val (.int _ nc)=>match F04 z.cells.toList (sz+1),P02 z.cells.toList with
    |true,true=>(0<=nl/\nl<=nc/\nc*by_<=140737488355328/\nc<=9223372036854775807) /\
      newOwn st e (sz+1) by_ true (List.replicate nl.toNat z.cells.toList) λav st=>K av st h
    |_,_=>False
   |_,_,_,_,_=>False
  |none=>False
 | .field t x k=>match t05 (rdO st x),P.underlying t with
  |some cs,some (.struct fs)=>match fs[k]? with
   |some f=>n03 P f.type cs f.offset λav=>K av st h
   |none=>False
  |_,_=>False
 | .slice t x lo hi none=>match rdO st x with
  | .own i _=>match H9 P t with
   |some e=>match s5 P e with
    |some _=>N0g i (lo.map (rdO st)) (hi.map (rdO st)) st h K
    |none=>False
   |none=>False
  | .val (.slice a n c)=>match H9 P t with
   |some e=>match s5 P e with
    |some sz=>P0g sz (.slice a n c) n (lo.map (rdO st)) (hi.map (rdO st)) st h K
    |none=>False
   |none=>False
  | .val (.string s)=>match P.underlying t with
   |some .string=>J0k s (lo.map (rdO st)) (hi.map (rdO st)) st h K
   |_=>False
  |_=>False
 | .index t x i=>match rdO st x,rdO st i,P.underlying t with
  | .val (.string s),.val (.int _ j),some .string=>∃ c,(0<=j/\s[j.toNat]?=some c)/\K (.val (.int .u8 c.toNat)) st h
  |_,_,_=>U03 P o st h K
 | .binOp .eql t x y _=>match Q02 (rdO st x),Q02 (rdO st y)with
  |some (.agg xs),some (.agg ys)=>∃ b,v07 P o x y (.agg xs) (.agg ys) b/\K (.val (.bool b)) st h
  |some (.slice a n m),some (.slice none 0 0)=>∃ b,v07 P o x y (.slice a n m) (.slice none 0 0) b/\K (.val (.bool b)) st h
  |_,_=>L0g P o st h K
 | .binOp .neq t x y _=>match Q02 (rdO st x),Q02 (rdO st y)with
  |some (.agg xs),some (.agg ys)=>∃ b,v07 P o x y (.agg xs) (.agg ys) b/\K (.val (.bool b)) st h
  |_,_=>L0g P o st h K
 | .binOp .add t x y _=>match rdO st x,rdO st y with
  | .val (.string a),.val (.string b)=>a.size+b.size<=9223372036854775807/\K (.val (.string (a++b))) st h
  |_,_=>U03 P o st h K
 | .binOp .quo t x y _=>match rdO st x,rdO st y with
  | .val (.int .i64 a),.val (.int .i64 b)=>b≠0/\K (.val (.int .i64 (IntKind.i64.wrap (a.tdiv b)))) st h
  |_,_=>U03 P o st h K
 | .binOp .rem t x y _=>match rdO st x,rdO st y with
  | .val (.int .i64 a),.val (.int .i64 b)=>b≠0/\K (.val (.int .i64 (a.tmod b))) st h
  |_,_=>U03 P o st h K
 | .binOp .shl t x y _=>match rdO st x,rdO st y with
  | .val (.int .i64 a),.val (.int .i64 b)=>0<=b/\K (.val (.int .i64 (IntKind.i64.wrap (a*2 ^ min b.toNat 64)))) st h
  |_,_=>U03 P o st h K
 | .binOp .shr t x y _=>match rdO st x,rdO st y with
  | .val (.int .i64 a),.val (.int .i64 b)=>0<=b/\K (.val (.int .i64 (a.fdiv (2 ^ min b.toNat 64)))) st h
  |_,_=>U03 P o st h K
 | .convert tf tt x=>match rdO st x with
  | .own i _=>match nth st.ow i,P.underlying tf,P.underlying tt with
   |some ⟨_,.live _ _ _ _ xs⟩,some (.slice e),some .string=>match P.underlying e with
    |some (.int .u8)=>∃ ns:List Int,xs=ns.map (λn=>[.int .u8 n])/\K (.val (.string (strOfNums ns))) st h
    |_=>False
   |_,_,_=>L0g P o st h K
  |_=>L0g P o st h K
 | .call { callee := .builtin .len,args:=as,argTypes:=ts }=>match as.toList,ts.toList with
  | [x],[t]=>match rdO st x with
   | .own i _=>match nth st.ow i,H9 P t with
    |some ⟨_,.live _ _ _ _ xs⟩,some _=>K (.val (.int .i64 xs.length)) st h
    |_,_=>False
   |_=>U03 P o st h K
  |_,_=>False
 | .call { callee := .builtin .append,args:=as,argTypes:=ts }=>match as.toList,ts.toList with
  | [a,b],[t,t']=>match Nat.beq t t' with
   |true=>v0a P t a b st h K
   |false=>False
  |_,_=>False
 | .lookup _ _ _ _=>H0k P o st h K
 | .mapUpdate _ _ _ _=>H0k P o st h K
 | .insert _ _ _ _=>H0k P o st h K
 |_=>L0g P o st h K
end Go.H
