/- Plain laws over the model: what a function's code asks, written out by a recursive function; slices and variables that the call itself makes are kept apart as lists. -/
import Derived.Test.YtkjhghloldgioaaGreatH1
import Derived.Laws.BytesArg
namespace Go.H
set_option linter.unusedVariables false
def nth{α:Type}:List α->Nat->Option α
 | [],_=>none
 |x::_,0=>some x
 |_::r,k+1=>nth r k
inductive P4 where
 |val (v:Value)
 |own (i k:Nat)
inductive AV where
 |val (v:Value)
 |own (i k:Nat)
 |box (i off:Nat)
 |hel (s:Value) (idx:Int) (sz k:Nat)
 |oel (i st:Nat) (idx:Int) (sz k:Nat)
 |agg (cs:List P4)
 |dead
inductive OSt where
 |live (e:TypeId) (sz by_:Nat) (nn:Bool) (xs:List (List Value))
 |frozen (v:Value)
structure Own where
 stamp:Nat
 st:OSt
inductive BSt where
 |live (cells:List P4) (ty:TypeId)
 |publ (b:Nat)
structure St where
 n:Nat
 fr:List (Nat×AV)
 bx:List BSt
 ow:List Own
def St.withOw(st:St)(l:List Own):St:=match st with
 |⟨n,fr,bx,_⟩=>⟨n,fr,bx,l⟩
def St.withBx(st:St)(l:List BSt):St:=match st with
 |⟨n,fr,_,ow⟩=>⟨n,fr,l,ow⟩
@[simp] theorem St.withOw_eq (st:St) (l:List Own):st.withOw l = { st with ow:=l }:=rfl
@[simp] theorem St.withBx_eq (st:St) (l:List BSt):st.withBx l = { st with bx:=l }:=rfl
def ptr(b off:Nat):Value := .pointer (some ⟨b,off,none⟩)
def O2:List (Nat×AV)->Nat->AV
 | [],_ => .dead
 |(k,v)::r,s=>match Nat.beq k s with
  |true=>v
  |false=>O2 r s
def SlE(h:Hp)(sz:Nat)(s:Value)(xs:List (List Value)):Prop :=
 (∀ x∈xs,x.length=sz/\∀ v∈x,v.oneCell'=true)/\∃ a n c,s = .slice a n c/\n=xs.length/\n<=c /\
  (xs.flatten = []∨∃ b o,a=some ⟨b,o,none⟩/\∀ j v,xs.flatten[j]?=some v->Hp.cell h b (o+j)=some v)
def h8(h:Hp)(s:Value)(sz:Nat)(idx:Int)(c:List Value):Prop :=
 c.length=sz/\0<=idx/\∃ b o n cp,s = .slice (some ⟨b,o,none⟩) n cp/\∀ j v,c[j]?=some v->Hp.cell h b (o+idx.toNat*sz+j)=some v
def InB(s:Value)(j:Int):Prop:=∃ b o n c,s = .slice (some ⟨b,o,none⟩) n c/\0<=j/\j<(n:Int)
def Q0(h h':Hp)(v:Value)(e:TypeId)(sz:Nat)(nn:Bool)(xs:List (List Value)):Prop :=
  (∀ x∈xs,x.length=sz/\∀ v∈x,v.oneCell'=true) /\
  ((v = .slice none 0 0/\xs = []/\nn=false/\h'=h) ∨
   ∃ g cap cur,v = .slice (some ⟨g,0,none⟩) xs.length cap/\h g=none/\h'=h.set g (.cells cur e (0,0)) /\
     xs.length<=cap/\cap<=maxLen/\cur.size=cap*sz/\cur.toList.take (xs.length*sz)=xs.flatten)
def U4(P:Program)(t:TypeId):Option Nat:=match P.info? t with
 |some i=>some i.size
 |none=>none
def m06(P:Program)(t:TypeId):Option Nat:=match P.info? t with
 |some i=>some i.bytes
 |none=>none
def j9(P:Program)(t:TypeId):Option Value:=match P.info? t with
 |some i=>i.zero
 |none=>none
def f0d(P:Program)(t:TypeId):Option Bool:=match P.underlying t with
 |some (.struct _)=>some true
 |some (.array _ _)=>some true
 |some _=>some false
 |none=>none
def g0d(P:Program)(t:TypeId)(k:Nat):Option Nat:=match P.underlying t with
 |some (.struct fs)=>match fs[k]? with
  |some f=>match U4 P f.type with
   |some (_+1)=>some f.offset
   |_=>none
  |none=>none
 |_=>none
def W8(P:Program)(t:TypeId):Option TypeId:=match P.underlying t with
 |some (.slice e)=>some e
 |_=>none
def rdA(st:St):AV->AV
 | .own i k=>match nth st.ow i with
  |some ⟨s,o⟩=>match Nat.beq s k with
   |true=>match o with
    | .live .. => .own i k
    | .frozen v => .val v
   |false => .dead
  |none => .dead
 | .box i off=>match nth st.bx i with
  |some (.live ..) => .box i off
  |some (.publ b) => .val (ptr b off)
  |none => .dead
 | .oel i s idx sz k=>match nth st.ow i with
  |some ⟨s',.live ..⟩=>match Nat.beq s' s with
   |true => .oel i s idx sz k
   |false => .dead
  |_ => .dead
 |av=>av
def rdO(st:St):Operand->AV
 | .tmp t=>rdA st (O2 st.fr t)
 | .const v => .val v
 | .global _ => .dead
 | .func f => .val (.func (.func f) #[] #[])
def J8{α:Type}:List α->Nat->α->List α
 | [],_,_=>[]
 |_::r,0,y=>y::r
 |x::r,k+1,y=>x::J8 r k y
def vals:List Value->List P4
 | []=>[]
 |v::r => .val v::vals r
def h0d(i k:Nat)(st:St)(h:Hp)(K:Value->St->Hp->Prop):Prop :=
 match nth st.ow i with
 |some ⟨s,.live e sz _ nn xs⟩=>match Nat.beq s k with
  |true=>∀ v h',Q0 h h' v e sz nn xs->K v (st.withOw (J8 st.ow i ⟨s,.frozen v⟩)) h'
  |false=>False
 |some ⟨s,.frozen v⟩=>match Nat.beq s k with
  |true=>K v st h
  |false=>False
 |none=>False
def J04:List P4->St->Hp->(List Value->St->Hp->Prop)->Prop
 | [],st,h,K=>K [] st h
 | .val v::r,st,h,K=>J04 r st h λvs st h=>K (v::vs) st h
 | .own i k::r,st,h,K=>h0d i k st h λv st h=>J04 r st h λvs st h=>K (v::vs) st h
def p0j(i off:Nat)(st:St)(h:Hp)(K:Value->St->Hp->Prop):Prop :=
 match nth st.bx i with
 |some (.live cells ty)=>J04 cells st h λvs st h=>∀ b,h b=none ->
   K (ptr b off) (st.withBx (J8 st.bx i (.publ b))) (h.set b (.cells vs.toArray ty (0,0)))
 |some (.publ b)=>K (ptr b off) st h
 |none=>False
def rfy(av:AV)(st:St)(h:Hp)(K:Value->St->Hp->Prop):Prop :=
 match av with
 | .val v=>K v st h
 | .own i k=>h0d i k st h K
 | .box i off=>p0j i off st h K
 | .agg cs=>J04 cs st h λvs st h=>K (.agg vs.toArray) st h
 |_=>False
def V09:List Operand->St->Hp->(List (Nat×Value)->St->Hp->Prop)->Prop
 | [],st,h,K=>K [] st h
 | .tmp t::r,st,h,K=>rfy (rdO st (.tmp t)) st h λv st h=>V09 r st h λvs st h=>K ((t,v)::vs) st h
 | .global _::_,_,_,_=>False
 |_::r,st,h,K=>V09 r st h K
def e0h:List (Nat×Value)->Nat->Value
 | [],_=>undef
 |(k,v)::r,s=>match Nat.beq k s with
  |true=>v
  |false=>e0h r s
def rho(vs:List (Nat×Value)):Operand->Value
 | .tmp t=>e0h vs t
 | .const v=>v
 | .global g => .pointer (some ⟨g,0,none⟩)
 | .func f => .func (.func f) #[] #[]
def Z08:Op->Bool
 | .select _ _=>true
 |_=>false
def i0d(ρ:Operand->Value):List Operand->List Value
 | []=>[]
 |x::r=>ρ x::i0d ρ r
def q0j:List Value->List Value->List Value
 | [],l=>l
 |x::r,l=>x::q0j r l
def U05(ρ:Operand->Value)(o:Oper):Option (FuncId×List Value):=match o.op with
 | .call c=>match c.callee with
  | .value x=>match ρ x with
   | .func (.func f) first captured=>some (f,q0j first.toList (q0j (i0d ρ c.args.toList) captured.toList))
   |_=>none
  |_=>none
 |_=>none
def okF(P:Program)(f:FuncId):Bool:=match P.funcs[f]? with
 |some fn=>match fn.body with
  |some _=>match fn.name == "runtime.NumGoroutine" with
   |true=>false
   |false=>true
  |none=>false
 |none=>false
def K04:List Operand->List Bool
 | []=>[]
 | .const _::r=>true::K04 r
 |_::r=>false::K04 r
def h0e(ρ:Operand->Value)(o:Oper):Sem Next:=match o.op with
 | .call c=>match c.callee with
  | .builtin b=>invoke (.builtin b c.argTypes o.type (K04 c.args.toList).toArray) (i0d ρ c.args.toList).toArray
  |_=>execOp ρ o
 | .makeFunc fn first captured=>do pure (.value (←Instr.makeFunc fn (i0d ρ first.toList).toArray (i0d ρ captured.toList).toArray))
 |_=>execOp ρ o
def s03(P:Program)(o:Oper)(st:St)(h:Hp)(K:AV->St->Hp->Prop):Prop :=
 match Z08 o.op with
 |true=>False
 |false=>V09 o.op.operands.toList st h λvs st h=>match U05 (rho vs) o with
  |some (f,l)=>match okF P f with
   |true=>Tr P f l.toArray h λv h''=>K (.val v) st h''
   |false=>False
  |none=>wpS P (h0e (rho vs) o) h λn h'=>match n with
   | .value v=>K (.val v) st h'
   | .skip=>K (.val undef) st h'
   |_=>False
def evP(P:Program){α:Type}:Sem α->Option α
 | .pure a=>some a
 | .program k=>evP P (k P)
 | .mark _ k=>evP P k
 |_=>none
def r0j(P:Program)(o:Oper)(st:St)(h:Hp)(K:AV->St->Hp->Prop):Prop :=
 match Z08 o.op with
 |true=>False
 |false=>V09 o.op.operands.toList st h λvs _ hf=>match U05 (rho vs) o with
  |some (f,l)=>match okF P f with
   |true=>Tr P f l.toArray hf λr h'=>h'=hf/\K (.val r) st h
   |false=>False
  |none=>False
def s0j(st:St):List Operand->Bool
 | []=>false
 |x::r=>match rdO st x with
  | .own _ _=>true
  |_=>s0j st r
def a0g(P:Program)(o:Oper)(st:St)(h:Hp)(K:AV->St->Hp->Prop):Prop :=
 match s0j st o.op.operands.toList with
 |true=>s03 P o st h K∨r0j P o st h K
 |false=>s03 P o st h K
def a9:AV->Option (List P4)
 | .val (.agg cs)=>some (vals cs.toList)
 | .val (.tuple _)=>none
 | .val v=>some [.val v]
 | .own i k=>some [.own i k]
 | .agg cs=>some cs
 |_=>none
def ofCell:P4->AV
 | .val v => .val v
 | .own i k => .own i k
def E04{α:Type}:List α->Nat->Bool
 | [],0=>true
 |_::r,k+1=>E04 r k
 |_,_=>false
def j02(P:Program)(t:TypeId)(cs:List P4)(off:Nat)(K:AV->Prop):Prop :=
 match f0d P t with
 |some true=>match U4 P t with
  |some n=>match E04 ((cs.drop off).take n) n with
   |true=>K (.agg ((cs.drop off).take n))
   |false=>False
  |none=>False
 |some false=>match nth cs off with
  |some c=>K (ofCell c)
  |none=>False
 |none=>False
def splice{α:Type}:List α->Nat->List α->List α
 |cs,_,[]=>cs
 |cs,off,x::r=>splice (J8 cs off x) (off+1) r
def p0i{α:Type}(cs:List α)(off:Nat)(new:List α)(K:List α->Prop):Prop :=
 match Nat.ble (off+new.length) cs.length with
 |true=>K (splice cs off new)
 |false=>False
def W09:List P4->Option (List Value)
 | []=>some []
 | .val v::r=>match W09 r with
  |some vs=>some (v::vs)
  |none=>none
 | .own _ _::_=>none
def k02:List Value->Bool
 | []=>true
 |v::r=>match v.oneCell' with
  |true=>k02 r
  |false=>false
def N02(st:St):List P4->Bool
 | []=>true
 | .val v::r=>match v.oneCell' with
  |true=>N02 st r
  |false=>false
 | .own i k::r=>match rdA st (.own i k)with
  | .own _ _=>N02 st r
  | .val v=>match v.oneCell' with
   |true=>N02 st r
   |false=>false
  |_=>false
def i0e(sz:Nat):Nat->List (Nat×Operand)->St->Hp->(List (List Value)->St->Hp->Prop)->Prop
 |_,[],st,h,K=>K [] st h
 |i,(j,x)::r,st,h,K=>match Nat.beq i j with
  |true=>rfy (rdO st x) st h λv st h=>match E04 v.cells.toList sz,k02 v.cells.toList with
   |true,true=>i0e sz (i+1) r st h λvs st h=>K (v.cells.toList::vs) st h
   |_,_=>False
  |false=>False
def t03(P:Program):List Field->Bool
 | []=>true
 |f::r=>match U4 P f.type with
  |some _=>t03 P r
  |none=>false
def L04:AV->Option (List P4)
 | .val (.agg cs)=>some (vals cs.toList)
 | .agg cs=>some cs
 |_=>none
def M04(P:Program)(fs:Array Field)(rd:Operand->AV):List (Nat×Operand)->List P4->(List P4->Prop)->Prop
 | [],cs,K=>K cs
 |(i,x)::r,cs,K=>match fs[i]?,a9 (rd x)with
  |some f,some new=>match U4 P f.type with
   |some n=>match E04 new n,Nat.ble (f.offset+n) cs.length with
    |true,true=>M04 P fs rd r (splice cs f.offset new) K
    |_,_=>False
   |none=>False
  |_,_=>False
def b0g{α:Type}:List α->(Nat->Prop)->Prop
 | [],K=>K 0
 |_::r,K=>b0g r λn=>K (n+1)
theorem N06{α:Type}:∀(l:List α) (K:Nat->Prop),b0g l K=K l.length
 | [],K=>rfl
 |_::r,K=>by simp only[b0g,N06 r,List.length_cons]
def newOwn(st:St)(e:TypeId)(sz by_:Nat)(nn:Bool)(xs:List (List Value))(K:AV->St->Prop):Prop :=
 b0g st.ow λn=>K (.own n 0) (st.withOw (st.ow ++ [⟨0,.live e sz by_ nn xs⟩]))
theorem S07(st:St)(e:TypeId)(sz by_:Nat)(nn:Bool)(xs:List (List Value))(K:AV->St->Prop):newOwn st e sz by_ nn xs K=K (.own st.ow.length 0) (st.withOw (st.ow ++ [⟨0,.live e sz by_ nn xs⟩])):=N06 _ _
def newBox(st:St)(cs:List P4)(t:TypeId)(K:AV->St->Prop):Prop :=
 b0g st.bx λn=>K (.box n 0) (st.withBx (st.bx ++ [.live cs t]))
theorem T07(st:St)(cs:List P4)(t:TypeId)(K:AV->St->Prop):newBox st cs t K=K (.box st.bx.length 0) (st.withBx (st.bx ++ [.live cs t])):=N06 _ _
def X09(st:St)(h:Hp)(sz:Nat)(av:AV)(K:List (List Value)->Prop):Prop :=
 match av with
 | .own j _=>match nth st.ow j with
  |some ⟨_,.live _ sz' _ _ ys⟩=>match Nat.beq sz' sz with
   |true=>K ys
   |false=>False
  |_=>False
 | .val s=>∃ ys,SlE h sz s ys/\K ys
 |_=>False
def T0m(av:AV)(i:Nat):Bool:=match av with
 | .own j _=>Nat.beq i j
 |_=>false
def C01:List (List Value)->Bool
 | []=>false
 |_::_=>true
def N04(n by_:Nat):Prop:=n*by_<=140737488355328
def c0g(h:Hp)(sz:Nat)(v:Value)(xs:List (List Value)):Prop :=
 (∀ x∈xs,x.length=sz/\∀ v∈x,v.oneCell'=true)/\∃ g o c cur ty,v = .slice (some ⟨g,o,none⟩) xs.length c/\xs.length<=c/\c<=maxLen/\o+c*sz<=cur.size/\h g=some (.cells cur ty (0,0)) /\
  ∀ j u,xs.flatten[j]?=some u->cur[o+j]?=some u
def q0i(h h':Hp)(sz g:Nat)(v:Value)(zs:List (List Value)):Prop :=
 c0g h' sz v zs/\∃ g' o' n' c',v = .slice (some ⟨g',o',none⟩) n' c'/\(g'=g∨h g'=none)/\∀ b,b≠g'->h' b=h b
def U0m(h h':Hp)(sz:Nat)(v:Value)(zs:List (List Value)):Prop :=
 c0g h' sz v zs/\∃ g' o' n' c',v = .slice (some ⟨g',o',none⟩) n' c'/\h g'=none/\∀ b,b≠g'->h' b=h b
def Y09(P:Program)(t:TypeId)(a b:Operand)(st:St)(h:Hp)(K:AV->St->Hp->Prop):Prop :=
 match W8 P t with
 |some e=>match U4 P e,m06 P e,j9 P e with
  |some (sz+1),some (by_+1),some z=>match E04 z.cells.toList (sz+1)with
   |true=>match rdO st a with
    | .own i k=>match nth st.ow i with
     |some ⟨s,.live e' sz' by' nn xs⟩=>match Nat.beq e' e,Nat.beq sz' (sz+1),T0m (rdO st b) i with
      |true,true,false=>X09 st h (sz+1) (rdO st b) λys=>N04 (xs.length+ys.length) (by_+1) /\
        K (.own i (s+1)) (st.withOw (J8 st.ow i ⟨s+1,.live e (sz+1) (by_+1) (nn || C01 ys) (xs++ys)⟩)) h
      |_,_,_=>False
     |_=>False
    | .val (.slice none 0 0)=>(X09 st h (sz+1) (rdO st b) λys=>N04 ys.length (by_+1) /\
      newOwn st e (sz+1) (by_+1) (C01 ys) ys λav st=>K av st h) ∨
     (X09 st h (sz+1) (rdO st b) λys=>(C01 ys=true/\N04 ys.length (by_+1))/\∀ v h',U0m h h' (sz+1) v ys->K (.val v) st h')
    | .val (.slice (some ⟨g,o,none⟩) n c)=>X09 st h (sz+1) (rdO st b) λys=>∃ xs,c0g h (sz+1) (.slice (some ⟨g,o,none⟩) n c) xs/\N04 (xs.length+ys.length) (by_+1) /\
      ∀ v h',q0i h h' (sz+1) g v (xs++ys)->K (.val v) st h'
    |_=>False
   |false=>False
  |_,_,_=>False
 |none=>False
def d0g(i:Nat)(lo hi:Option AV)(st:St)(h:Hp)(K:AV->St->Hp->Prop):Prop :=
 match lo,hi with
 |none,some (.val (.int _ m))=>match nth st.ow i with
  |some ⟨s,.live e sz by_ nn xs⟩=>(0<=m/\m<=(xs.length:Int)) /\
    K (.own i (s+1)) (st.withOw (J8 st.ow i ⟨s+1,.live e sz by_ nn (xs.take m.toNat)⟩)) h
  |_=>False
 |_,_=>False
def O02(d:Int):Option AV->Option Int
 |none=>some d
 |some (.val (.int _ n))=>some n
 |_=>none
def e0g(sz:Nat)(s:Value)(l m:Nat)(v:Value):Prop:=∀ ad n c,s = .slice ad n c->v = .slice (if c=l then ad else ad.map (·.add (l*sz))) (m-l) (c-l)
def f0g(sz:Nat)(s:Value)(n:Nat)(lo hi:Option AV)(st:St)(h:Hp)(K:AV->St->Hp->Prop):Prop :=
 match O02 0 lo,O02 n hi with
 |some l,some m=>(0<=l/\l<=m/\m<=(n:Int))/\∃ xs,SlE h sz s xs/\∀ v,SlE h sz v ((xs.take m.toNat).drop l.toNat)->e0g sz s l.toNat m.toNat v->K (.val v) st h
 |_,_=>False
def t0j(s:ByteArray)(lo hi:Option AV)(st:St)(h:Hp)(K:AV->St->Hp->Prop):Prop :=
 match O02 0 lo,O02 s.size hi with
 |some l,some m=>(0<=l/\l<=m/\m<=(s.size:Int))/\K (.val (.string (s.extract l.toNat m.toNat))) st h
 |_,_=>False
def l02:AV->Option Value
 | .val v=>some v
 | .agg cs=>match W09 cs with
  |some vs=>some (.agg vs.toArray)
  |none=>none
 |_=>none
def O06(P:Program)(o:Oper)(x y:Operand)(xs ys:Value)(b:Bool):Prop:=∀ ρ:Operand->Value,ρ x=xs->ρ y=ys->∀ w:World,(execOp ρ o).run P w = .ok (.value (.bool b)) w
def F9(h:Hp)(s:Value)(idx:Int)(off:Nat)(v:Value)(K:Hp->Prop):Prop :=
 ∃ b of n cp cur ty,(s = .slice (some ⟨b,of,none⟩) n cp/\0<=idx/\h b=some (.cells cur ty (0,0))/\of+off<cur.size/\x01 v) /\
  K (h.set b (.cells (cur.setIfInBounds (of+off) v) ty (0,0)))
theorem F9.mk{h:Hp}{b of n cp p:Nat}{cur:Array Value}{ty:TypeId}{idx:Int}{off:Nat}{v:Value}{K:Hp->Prop}(h1:0<=idx)(h2:h b=some (.cells cur ty (0,0)))(h3:p<cur.size)(he:of+off=p)(h4:x01 v)
  (hk:K (h.set b (.cells (cur.setIfInBounds p v) ty (0,0)))):F9 h (.slice (some ⟨b,of,none⟩) n cp) idx off v K:=by
 subst he
 exact⟨b,of,n,cp,cur,ty,⟨rfl,h1,h2,h3,h4⟩,hk⟩
def u03(h:Hp)(s:Value)(idx:Int)(off:Nat)(new:List Value)(K:Hp->Prop):Prop :=
 ∃ b of n cp cur ty,(s = .slice (some ⟨b,of,none⟩) n cp/\0<=idx/\h b=some (.cells cur ty (0,0))/\of+off+new.length<=cur.size) /\
  K (h.set b (.cells (splice cur.toList (of+off) new).toArray ty (0,0)))
def a7(P:Program)(o:Oper)(st:St)(h:Hp)(K:AV->St->Hp->Prop):Prop :=
 match o.op with
 | .move x | .assign x=>match rdO st x with
  | .dead=>False
  |a=>K a st h
 | .box t x=>match a9 (rdO st x)with
  |some cs=>newBox st cs t λav st=>K av st h
  |none=>False
 | .alloc t=>match j9 P t with
  |some z=>newBox st (vals z.cells.toList) t λav st=>K av st h
  |none=>False
 | .fieldAddr t x k=>match rdO st x,g0d P t k with
  | .box i off,some fo=>K (.box i (off+fo)) st h
  | .hel s i sz k,some fo=>K (.hel s i sz (k+fo)) st h
  | .oel i s j sz k,some fo=>K (.oel i s j sz (k+fo)) st h
  | .val (.pointer (some ⟨b,off,none⟩)),some fo=>K (.val (ptr b (off+fo))) st h
  |_,_=>False
 | .indexAddr t x i=>match rdO st i with
  | .val (.int _ j)=>match W8 P t with
   |some e=>match U4 P e with
    |some sz=>match rdO st x with
     | .val (.slice a n c)=>InB (.slice a n c) j/\K (.hel (.slice a n c) j sz 0) st h
     | .own i k=>match nth st.ow i with
      |some ⟨_,.live _ sz' _ _ xs⟩=>match Nat.beq sz' sz with
       |true=>(0<=j/\j<(xs.length:Int))/\K (.oel i k j sz 0) st h
       |false=>False
      |_=>False
     |_=>False
    |none=>False
   |none=>False
  |_=>False
 | .load t x=>match rdO st x with
  | .box i off=>match nth st.bx i with
   |some (.live cs _)=>j02 P t cs off λav=>K av st h
   |_=>False
  | .hel s idx sz k=>∃ c,h8 h s sz idx c/\j02 P t (vals c) k λav=>K av st h
  | .oel i _ idx sz k=>match nth st.ow i with
   |some ⟨_,.live _ sz' _ _ xs⟩=>match Nat.beq sz' sz with
    |true=>∃ c,xs[idx.toNat]?=some c/\j02 P t (vals c) k λav=>K av st h
    |false=>False
   |_=>False
  |_=>s03 P o st h K
 | .store t a x=>match rdO st a with
  | .box i off=>match nth st.bx i,a9 (rdO st x),U4 P t with
   |some (.live cs ty),some new,some n=>match E04 new n,N02 st new with
    |true,true=>p0i cs off new λcs=>K (.val undef) (st.withBx (J8 st.bx i (.live cs ty))) h
    |_,_=>False
   |_,_,_=>False
  | .oel i s idx sz k=>rfy (rdO st x) st h λv st h=>match nth st.ow i,U4 P t with
   |some ⟨s',.live e sz' by_ nn xs⟩,some n=>match E04 v.cells.toList n,k02 v.cells.toList,Nat.beq s' s,Nat.beq sz' sz with
    |true,true,true,true=>∃ c,xs[idx.toNat]?=some c/\p0i c k v.cells.toList λc' =>
      K (.val undef) (st.withOw (J8 st.ow i ⟨s',.live e sz' by_ nn (xs.set idx.toNat c')⟩)) h
    |_,_,_,_=>False
   |_,_=>False
  | .hel s idx sz k=>match rdO st x with
   | .val v=>match U4 P t with
    |some 1=>F9 h s idx (idx.toNat*sz+k) v λh'=>K (.val undef) st h'
    |some n=>match E04 v.cells.toList n,k02 v.cells.toList with
     |true,true=>u03 h s idx (idx.toNat*sz+k) v.cells.toList λh'=>K (.val undef) st h'
     |_,_=>False
    |_=>False
   | .agg cs=>match U4 P t,W09 cs with
    |some n,some new=>match E04 new n,k02 new with
     |true,true=>u03 h s idx (idx.toNat*sz+k) new λh'=>K (.val undef) st h'
     |_,_=>False
    |_,_=>False
   |_=>False
  |_=>s03 P o st h K
 | .build t ps=>match P.underlying t,j9 P t with
  |some (.struct fs),some z=>match t03 P fs.toList with
   |true=>M04 P fs (rdO st) ps.toList (vals z.cells.toList) λcs=>K (.agg cs) st h
   |false=>False
  |_,_=>False
 | .buildSlice t n ps=>match W8 P t with
  |some e=>match U4 P e,m06 P e,j9 P e with
   |some (sz+1),some by_,some z=>match Nat.beq n ps.size,Nat.ble (n*(sz+1)) 16777216,E04 z.cells.toList (sz+1)with
    |true,true,true=>i0e (sz+1) 0 ps.toList st h λxs st h=>newOwn st e (sz+1) by_ true xs λav st=>K av st h
    |_,_,_=>False
   |_,_,_=>False
  |none=>False
 | .makeSlice t l c=>match W8 P t with
  |some e=>match U4 P e,m06 P e,j9 P e,rdO st l,rdO st c with
   |some (sz+1),some by_,some z,.val (.int _ nl),.val (.int _ nc)=>match E04 z.cells.toList (sz+1),k02 z.cells.toList with
    |true,true=>(0<=nl/\nl<=nc/\nc*by_<=140737488355328/\nc<=9223372036854775807) /\
      newOwn st e (sz+1) by_ true (List.replicate nl.toNat z.cells.toList) λav st=>K av st h
    |_,_=>False
   |_,_,_,_,_=>False
  |none=>False
 | .field t x k=>match L04 (rdO st x),P.underlying t with
  |some cs,some (.struct fs)=>match fs[k]? with
   |some f=>j02 P f.type cs f.offset λav=>K av st h
   |none=>False
  |_,_=>False
 | .slice t x lo hi none=>match rdO st x with
  | .own i _=>match W8 P t with
   |some e=>match U4 P e with
    |some _=>d0g i (lo.map (rdO st)) (hi.map (rdO st)) st h K
    |none=>False
   |none=>False
  | .val (.slice a n c)=>match W8 P t with
   |some e=>match U4 P e with
    |some sz=>f0g sz (.slice a n c) n (lo.map (rdO st)) (hi.map (rdO st)) st h K
    |none=>False
   |none=>False
  | .val (.string s)=>match P.underlying t with
   |some .string=>t0j s (lo.map (rdO st)) (hi.map (rdO st)) st h K
   |_=>False
  |_=>False
 | .index t x i=>match rdO st x,rdO st i,P.underlying t with
  | .val (.string s),.val (.int _ j),some .string=>∃ c,(0<=j/\s[j.toNat]?=some c)/\K (.val (.int .u8 c.toNat)) st h
  |_,_,_=>s03 P o st h K
 | .binOp .eql t x y _=>match l02 (rdO st x),l02 (rdO st y)with
  |some (.agg xs),some (.agg ys)=>∃ b,O06 P o x y (.agg xs) (.agg ys) b/\K (.val (.bool b)) st h
  |some (.slice a n m),some (.slice none 0 0)=>∃ b,O06 P o x y (.slice a n m) (.slice none 0 0) b/\K (.val (.bool b)) st h
  |_,_=>a0g P o st h K
 | .binOp .neq t x y _=>match l02 (rdO st x),l02 (rdO st y)with
  |some (.agg xs),some (.agg ys)=>∃ b,O06 P o x y (.agg xs) (.agg ys) b/\K (.val (.bool b)) st h
  |_,_=>a0g P o st h K
 | .binOp .add t x y _=>match rdO st x,rdO st y with
  | .val (.string a),.val (.string b)=>a.size+b.size<=9223372036854775807/\K (.val (.string (a++b))) st h
  |_,_=>s03 P o st h K
 | .binOp .quo t x y _=>match rdO st x,rdO st y with
  | .val (.int .i64 a),.val (.int .i64 b)=>b≠0/\K (.val (.int .i64 (IntKind.i64.wrap (a.tdiv b)))) st h
  |_,_=>s03 P o st h K
 | .binOp .rem t x y _=>match rdO st x,rdO st y with
  | .val (.int .i64 a),.val (.int .i64 b)=>b≠0/\K (.val (.int .i64 (a.tmod b))) st h
  |_,_=>s03 P o st h K
 | .binOp .shl t x y _=>match rdO st x,rdO st y with
  | .val (.int .i64 a),.val (.int .i64 b)=>0<=b/\K (.val (.int .i64 (IntKind.i64.wrap (a*2 ^ min b.toNat 64)))) st h
  |_,_=>s03 P o st h K
 | .binOp .shr t x y _=>match rdO st x,rdO st y with
  | .val (.int .i64 a),.val (.int .i64 b)=>0<=b/\K (.val (.int .i64 (a.fdiv (2 ^ min b.toNat 64)))) st h
  |_,_=>s03 P o st h K
 | .convert tf tt x=>match rdO st x with
  | .own i _=>match nth st.ow i,P.underlying tf,P.underlying tt with
   |some ⟨_,.live _ _ _ _ xs⟩,some (.slice e),some .string=>match P.underlying e with
    |some (.int .u8)=>∃ ns:List Int,xs=ns.map (λn=>[.int .u8 n])/\K (.val (.string (strOfNums ns))) st h
    |_=>False
   |_,_,_=>a0g P o st h K
  |_=>a0g P o st h K
 | .call { callee := .builtin .len,args:=as,argTypes:=ts }=>match as.toList,ts.toList with
  | [x],[t]=>match rdO st x with
   | .own i _=>match nth st.ow i,W8 P t with
    |some ⟨_,.live _ _ _ _ xs⟩,some _=>K (.val (.int .i64 xs.length)) st h
    |_,_=>False
   |_=>s03 P o st h K
  |_,_=>False
 | .call { callee := .builtin .append,args:=as,argTypes:=ts }=>match as.toList,ts.toList with
  | [a,b],[t,t']=>match Nat.beq t t' with
   |true=>Y09 P t a b st h K
   |false=>False
  |_,_=>False
 |_=>a0g P o st h K
end Go.H
