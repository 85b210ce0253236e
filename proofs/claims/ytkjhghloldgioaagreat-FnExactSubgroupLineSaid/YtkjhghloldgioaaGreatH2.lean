/- Plain laws over the model: what a function's code asks, written out by a recursive function; slices and variables that the call itself makes are kept apart as lists. -/
import Derived.Test.YtkjhghloldgioaaGreatH1
import Derived.Laws.BytesArg
namespace Go.H
set_option linter.unusedVariables false
def nth{α:Type}:List α->Nat->Option α
 | [],_=>none
 |x::_,0=>some x
 |_::r,k+1=>nth r k
inductive l5 where
 |val (v:Value)
 |own (i k:Nat)
inductive AV where
 |val (v:Value)
 |own (i k:Nat)
 |box (i off:Nat)
 |hel (s:Value) (idx:Int) (sz k:Nat)
 |oel (i st:Nat) (idx:Int) (sz k:Nat)
 |agg (cs:List l5)
 |dead
inductive OSt where
 |live (e:TypeId) (sz by_:Nat) (nn:Bool) (xs:List (List Value))
 |frozen (v:Value)
structure Own where
 stamp:Nat
 st:OSt
inductive BSt where
 |live (cells:List l5) (ty:TypeId)
 |publ (b:Nat)
structure St where
 n:Nat
 fr:List (Nat×AV)
 bx:List BSt
 ow:List Own
def St.withOw(st:St)(l:List Own):St:=match st with
 |⟨n,fr,bx,_⟩=>⟨n,fr,bx,l⟩
def St.withBx(st:St)(l:List BSt):St:=match st with
 |⟨n,fr,_,ow⟩=>⟨n,fr,l,ow⟩
@[simp] theorem St.withOw_eq (st:St) (l:List Own):st.withOw l = { st with ow:=l }:=rfl
@[simp] theorem St.withBx_eq (st:St) (l:List BSt):st.withBx l = { st with bx:=l }:=rfl
def ptr(b off:Nat):Value := .pointer (some ⟨b,off,none⟩)
def Z2:List (Nat×AV)->Nat->AV
 | [],_ => .dead
 |(k,v)::r,s=>match Nat.beq k s with
  |true=>v
  |false=>Z2 r s
def SlE(h:Hp)(sz:Nat)(s:Value)(xs:List (List Value)):Prop :=
 (∀ x∈xs,x.length=sz/\∀ v∈x,v.oneCell'=true)/\∃ a n c,s = .slice a n c/\n=xs.length/\n<=c /\
  (xs.flatten = []∨∃ b o,a=some ⟨b,o,none⟩/\∀ j v,xs.flatten[j]?=some v->Hp.cell h b (o+j)=some v)
def d00(h:Hp)(s:Value)(sz:Nat)(idx:Int)(c:List Value):Prop :=
 c.length=sz/\0<=idx/\∃ b o n cp,s = .slice (some ⟨b,o,none⟩) n cp/\∀ j v,c[j]?=some v->Hp.cell h b (o+idx.toNat*sz+j)=some v
def InB(s:Value)(j:Int):Prop:=∃ b o n c,s = .slice (some ⟨b,o,none⟩) n c/\0<=j/\j<(n:Int)
def U0(h h':Hp)(v:Value)(e:TypeId)(sz:Nat)(nn:Bool)(xs:List (List Value)):Prop :=
  (∀ x∈xs,x.length=sz/\∀ v∈x,v.oneCell'=true) /\
  ((v = .slice none 0 0/\xs = []/\nn=false/\h'=h) ∨
   ∃ g cap cur,v = .slice (some ⟨g,0,none⟩) xs.length cap/\h g=none/\h'=h.set g (.cells cur e (0,0)) /\
     xs.length<=cap/\cap<=maxLen/\cur.size=cap*sz/\cur.toList.take (xs.length*sz)=xs.flatten)
def E5(P:Program)(t:TypeId):Option Nat:=match P.info? t with
 |some i=>some i.size
 |none=>none
def N08(P:Program)(t:TypeId):Option Nat:=match P.info? t with
 |some i=>some i.bytes
 |none=>none
def z00(P:Program)(t:TypeId):Option Value:=match P.info? t with
 |some i=>i.zero
 |none=>none
def G0g(P:Program)(t:TypeId):Option Bool:=match P.underlying t with
 |some (.struct _)=>some true
 |some (.array _ _)=>some true
 |some _=>some false
 |none=>none
def H0g(P:Program)(t:TypeId)(k:Nat):Option Nat:=match P.underlying t with
 |some (.struct fs)=>match fs[k]? with
  |some f=>match E5 P f.type with
   |some (_+1)=>some f.offset
   |_=>none
  |none=>none
 |_=>none
def M0n(P:Program)(t:TypeId)(j:Int):Option Nat:=match P.underlying t,j with
 |some (.array n e),.ofNat m=>match E5 P e,Nat.blt m n with
  |some (sz+1),true=>some (m*(sz+1))
  |_,_=>none
 |_,_=>none
def S00(P:Program)(t:TypeId):Option TypeId:=match P.underlying t with
 |some (.slice e)=>some e
 |_=>none
def rdA(st:St):AV->AV
 | .own i k=>match nth st.ow i with
  |some ⟨s,o⟩=>match Nat.beq s k with
   |true=>match o with
    | .live .. => .own i k
    | .frozen v => .val v
   |false => .dead
  |none => .dead
 | .box i off=>match nth st.bx i with
  |some (.live ..) => .box i off
  |some (.publ b) => .val (ptr b off)
  |none => .dead
 | .oel i s idx sz k=>match nth st.ow i with
  |some ⟨s',.live ..⟩=>match Nat.beq s' s with
   |true => .oel i s idx sz k
   |false => .dead
  |_ => .dead
 |av=>av
def rdO(st:St):Operand->AV
 | .tmp t=>rdA st (Z2 st.fr t)
 | .const v => .val v
 | .global _ => .dead
 | .func f => .val (.func (.func f) #[] #[])
def r00{α:Type}:List α->Nat->α->List α
 | [],_,_=>[]
 |_::r,0,y=>y::r
 |x::r,k+1,y=>x::r00 r k y
def vals:List Value->List l5
 | []=>[]
 |v::r => .val v::vals r
def I0g(i k:Nat)(st:St)(h:Hp)(K:Value->St->Hp->Prop):Prop :=
 match nth st.ow i with
 |some ⟨s,.live e sz _ nn xs⟩=>match Nat.beq s k with
  |true=>∀ v h',U0 h h' v e sz nn xs->K v (st.withOw (r00 st.ow i ⟨s,.frozen v⟩)) h'
  |false=>False
 |some ⟨s,.frozen v⟩=>match Nat.beq s k with
  |true=>K v st h
  |false=>False
 |none=>False
def R06:List l5->St->Hp->(List Value->St->Hp->Prop)->Prop
 | [],st,h,K=>K [] st h
 | .val v::r,st,h,K=>R06 r st h λvs st h=>K (v::vs) st h
 | .own i k::r,st,h,K=>I0g i k st h λv st h=>R06 r st h λvs st h=>K (v::vs) st h
def N0n(i off:Nat)(st:St)(h:Hp)(K:Value->St->Hp->Prop):Prop :=
 match nth st.bx i with
 |some (.live cells ty)=>R06 cells st h λvs st h=>∀ b,h b=none ->
   K (ptr b off) (st.withBx (r00 st.bx i (.publ b))) (h.set b (.cells vs.toArray ty (0,0)))
 |some (.publ b)=>K (ptr b off) st h
 |none=>False
def rfy(av:AV)(st:St)(h:Hp)(K:Value->St->Hp->Prop):Prop :=
 match av with
 | .val v=>K v st h
 | .own i k=>I0g i k st h K
 | .box i off=>N0n i off st h K
 | .agg cs=>R06 cs st h λvs st h=>K (.agg vs.toArray) st h
 |_=>False
def E0a:List Operand->St->Hp->(List (Nat×Value)->St->Hp->Prop)->Prop
 | [],st,h,K=>K [] st h
 | .tmp t::r,st,h,K=>rfy (rdO st (.tmp t)) st h λv st h=>E0a r st h λvs st h=>K ((t,v)::vs) st h
 | .global _::_,_,_,_=>False
 |_::r,st,h,K=>E0a r st h K
def f0l:List (Nat×Value)->Nat->Value
 | [],_=>undef
 |(k,v)::r,s=>match Nat.beq k s with
  |true=>v
  |false=>f0l r s
def rho(vs:List (Nat×Value)):Operand->Value
 | .tmp t=>f0l vs t
 | .const v=>v
 | .global g => .pointer (some ⟨g,0,none⟩)
 | .func f => .func (.func f) #[] #[]
def u09:Op->Bool
 | .select _ _=>true
 |_=>false
def J0g(ρ:Operand->Value):List Operand->List Value
 | []=>[]
 |x::r=>ρ x::J0g ρ r
def O0n:List Value->List Value->List Value
 | [],l=>l
 |x::r,l=>x::O0n r l
def S06(ρ:Operand->Value)(o:Oper):Option (FuncId×List Value):=match o.op with
 | .call c=>match c.callee with
  | .value x=>match ρ x with
   | .func (.func f) first captured=>some (f,O0n first.toList (O0n (J0g ρ c.args.toList) captured.toList))
   |_=>none
  |_=>none
 |_=>none
def okF(P:Program)(f:FuncId):Bool:=match P.funcs[f]? with
 |some fn=>match fn.body with
  |some _=>match fn.name == "runtime.NumGoroutine" with
   |true=>false
   |false=>true
  |none=>false
 |none=>false
def T06:List Operand->List Bool
 | []=>[]
 | .const _::r=>true::T06 r
 |_::r=>false::T06 r
def s0f(ρ:Operand->Value)(o:Oper):Sem Next:=match o.op with
 | .call c=>match c.callee with
  | .builtin b=>invoke (.builtin b c.argTypes o.type (T06 c.args.toList).toArray) (J0g ρ c.args.toList).toArray
  |_=>execOp ρ o
 | .makeFunc fn first captured=>do pure (.value (←Instr.makeFunc fn (J0g ρ first.toList).toArray (J0g ρ captured.toList).toArray))
 |_=>execOp ρ o
def v05(P:Program)(o:Oper)(st:St)(h:Hp)(K:AV->St->Hp->Prop):Prop :=
 match u09 o.op with
 |true=>False
 |false=>E0a o.op.operands.toList st h λvs st h=>match S06 (rho vs) o with
  |some (f,l)=>match okF P f with
   |true=>Tr P f l.toArray h λv h''=>K (.val v) st h''
   |false=>False
  |none=>wpS P (s0f (rho vs) o) h λn h'=>match n with
   | .value v=>K (.val v) st h'
   | .skip=>K (.val undef) st h'
   |_=>False
def evP(P:Program){α:Type}:Sem α->Option α
 | .pure a=>some a
 | .program k=>evP P (k P)
 | .mark _ k=>evP P k
 |_=>none
def P0n(P:Program)(o:Oper)(st:St)(h:Hp)(K:AV->St->Hp->Prop):Prop :=
 match u09 o.op with
 |true=>False
 |false=>E0a o.op.operands.toList st h λvs _ hf=>match S06 (rho vs) o with
  |some (f,l)=>match okF P f with
   |true=>Tr P f l.toArray hf λr h'=>h'=hf/\K (.val r) st h
   |false=>False
  |none=>False
def Q0n(st:St):List Operand->Bool
 | []=>false
 |x::r=>match rdO st x with
  | .own _ _=>true
  |_=>Q0n st r
def W0j(P:Program)(o:Oper)(st:St)(h:Hp)(K:AV->St->Hp->Prop):Prop :=
 match Q0n st o.op.operands.toList with
 |true=>v05 P o st h K∨P0n P o st h K
 |false=>v05 P o st h K
def X0r(P:Program)(ρ:Operand->Value)(o:Oper)(h h':Hp)(v:Value):Prop:=∀ K:Next->Hp->Prop,(K (.value v) h'/\(v=undef->K .skip h'))->wpS P (s0f ρ o) h K
def R0n(P:Program)(o:Oper)(st:St)(h:Hp)(K:AV->St->Hp->Prop):Prop :=
 match u09 o.op with
 |true=>False
 |false=>E0a o.op.operands.toList st h λvs st h=>match S06 (rho vs) o with
  |some _=>False
  |none=>∃ v h',X0r P (rho vs) o h h' v/\K (.val v) st h'
def b00:AV->Option (List l5)
 | .val (.agg cs)=>some (vals cs.toList)
 | .val (.tuple _)=>none
 | .val v=>some [.val v]
 | .own i k=>some [.own i k]
 | .agg cs=>some cs
 |_=>none
def ofCell:l5->AV
 | .val v => .val v
 | .own i k => .own i k
def Z05{α:Type}:List α->Nat->Bool
 | [],0=>true
 |_::r,k+1=>Z05 r k
 |_,_=>false
def d04(P:Program)(t:TypeId)(cs:List l5)(off:Nat)(K:AV->Prop):Prop :=
 match G0g P t with
 |some true=>match E5 P t with
  |some n=>match Z05 ((cs.drop off).take n) n with
   |true=>K (.agg ((cs.drop off).take n))
   |false=>False
  |none=>False
 |some false=>match nth cs off with
  |some c=>K (ofCell c)
  |none=>False
 |none=>False
def splice{α:Type}:List α->Nat->List α->List α
 |cs,_,[]=>cs
 |cs,off,x::r=>splice (r00 cs off x) (off+1) r
def B0m{α:Type}(cs:List α)(off:Nat)(new:List α)(K:List α->Prop):Prop :=
 match Nat.ble (off+new.length) cs.length with
 |true=>K (splice cs off new)
 |false=>False
def Y0c:List l5->Option (List Value)
 | []=>some []
 | .val v::r=>match Y0c r with
  |some vs=>some (v::vs)
  |none=>none
 | .own _ _::_=>none
def e04:List Value->Bool
 | []=>true
 |v::r=>match v.oneCell' with
  |true=>e04 r
  |false=>false
def S04(st:St):List l5->Bool
 | []=>true
 | .val v::r=>match v.oneCell' with
  |true=>S04 st r
  |false=>false
 | .own i k::r=>match rdA st (.own i k)with
  | .own _ _=>S04 st r
  | .val v=>match v.oneCell' with
   |true=>S04 st r
   |false=>false
  |_=>false
def V0h(sz:Nat):Nat->List (Nat×Operand)->St->Hp->(List (List Value)->St->Hp->Prop)->Prop
 |_,[],st,h,K=>K [] st h
 |i,(j,x)::r,st,h,K=>match Nat.beq i j with
  |true=>rfy (rdO st x) st h λv st h=>match Z05 v.cells.toList sz,e04 v.cells.toList with
   |true,true=>V0h sz (i+1) r st h λvs st h=>K (v.cells.toList::vs) st h
   |_,_=>False
  |false=>False
def w05(P:Program):List Field->Bool
 | []=>true
 |f::r=>match E5 P f.type with
  |some _=>w05 P r
  |none=>false
def U06:AV->Option (List l5)
 | .val (.agg cs)=>some (vals cs.toList)
 | .agg cs=>some cs
 |_=>none
def V06(P:Program)(fs:Array Field)(rd:Operand->AV):List (Nat×Operand)->List l5->(List l5->Prop)->Prop
 | [],cs,K=>K cs
 |(i,x)::r,cs,K=>match fs[i]?,b00 (rd x)with
  |some f,some new=>match E5 P f.type with
   |some n=>match Z05 new n,Nat.ble (f.offset+n) cs.length with
    |true,true=>V06 P fs rd r (splice cs f.offset new) K
    |_,_=>False
   |none=>False
  |_,_=>False
def v09(sz:Nat)(rd:Operand->AV):List (Nat×Operand)->List l5->(List l5->Prop)->Prop
 | [],cs,K=>K cs
 |(i,x)::r,cs,K=>match b00 (rd x)with
  |some new=>match Z05 new sz,Nat.ble (i*sz+sz) cs.length with
   |true,true=>v09 sz rd r (splice cs (i*sz) new) K
   |_,_=>False
  |none=>False
def X0j{α:Type}:List α->(Nat->Prop)->Prop
 | [],K=>K 0
 |_::r,K=>X0j r λn=>K (n+1)
theorem w09{α:Type}:∀(l:List α) (K:Nat->Prop),X0j l K=K l.length
 | [],K=>rfl
 |_::r,K=>by simp only[X0j,w09 r,List.length_cons]
def newOwn(st:St)(e:TypeId)(sz by_:Nat)(nn:Bool)(xs:List (List Value))(K:AV->St->Prop):Prop :=
 X0j st.ow λn=>K (.own n 0) (st.withOw (st.ow ++ [⟨0,.live e sz by_ nn xs⟩]))
theorem F0a(st:St)(e:TypeId)(sz by_:Nat)(nn:Bool)(xs:List (List Value))(K:AV->St->Prop):newOwn st e sz by_ nn xs K=K (.own st.ow.length 0) (st.withOw (st.ow ++ [⟨0,.live e sz by_ nn xs⟩])):=w09 _ _
def newBox(st:St)(cs:List l5)(t:TypeId)(K:AV->St->Prop):Prop :=
 X0j st.bx λn=>K (.box n 0) (st.withBx (st.bx ++ [.live cs t]))
theorem G0a(st:St)(cs:List l5)(t:TypeId)(K:AV->St->Prop):newBox st cs t K=K (.box st.bx.length 0) (st.withBx (st.bx ++ [.live cs t])):=w09 _ _
def Z0c(st:St)(h:Hp)(sz:Nat)(av:AV)(K:List (List Value)->Prop):Prop :=
 match av with
 | .own j _=>match nth st.ow j with
  |some ⟨_,.live _ sz' _ _ ys⟩=>match Nat.beq sz' sz with
   |true=>K ys
   |false=>False
  |_=>False
 | .val s=>∃ ys,SlE h sz s ys/\K ys
 |_=>False
def Y0r(av:AV)(i:Nat):Bool:=match av with
 | .own j _=>Nat.beq i j
 |_=>false
def q03:List (List Value)->Bool
 | []=>false
 |_::_=>true
def W06(n by_:Nat):Prop:=n*by_<=140737488355328
def C0m(h:Hp)(sz:Nat)(v:Value)(xs:List (List Value)):Prop :=
 (∀ x∈xs,x.length=sz/\∀ v∈x,v.oneCell'=true)/\∃ g o c cur ty,v = .slice (some ⟨g,o,none⟩) xs.length c/\xs.length<=c/\c<=maxLen/\o+c*sz<=cur.size/\h g=some (.cells cur ty (0,0)) /\
  ∀ j u,xs.flatten[j]?=some u->cur[o+j]?=some u
def S0n(h h':Hp)(sz g:Nat)(v:Value)(zs:List (List Value)):Prop :=
 C0m h' sz v zs/\∃ g' o' n' c',v = .slice (some ⟨g',o',none⟩) n' c'/\(g'=g∨h g'=none)/\∀ b,b≠g'->h' b=h b
def Z0r(h h':Hp)(sz:Nat)(v:Value)(zs:List (List Value)):Prop :=
 C0m h' sz v zs/\∃ g' o' n' c',v = .slice (some ⟨g',o',none⟩) n' c'/\h g'=none/\∀ b,b≠g'->h' b=h b
def a0d(P:Program)(t:TypeId)(a b:Operand)(st:St)(h:Hp)(K:AV->St->Hp->Prop):Prop :=
 match S00 P t with
 |some e=>match E5 P e,N08 P e,z00 P e with
  |some (sz+1),some (by_+1),some z=>match Z05 z.cells.toList (sz+1)with
   |true=>match rdO st a with
    | .own i k=>match nth st.ow i with
     |some ⟨s,.live e' sz' by' nn xs⟩=>match Nat.beq e' e,Nat.beq sz' (sz+1),Y0r (rdO st b) i with
      |true,true,false=>Z0c st h (sz+1) (rdO st b) λys=>W06 (xs.length+ys.length) (by_+1) /\
        K (.own i (s+1)) (st.withOw (r00 st.ow i ⟨s+1,.live e (sz+1) (by_+1) (nn || q03 ys) (xs++ys)⟩)) h
      |_,_,_=>False
     |_=>False
    | .val (.slice none 0 0)=>(Z0c st h (sz+1) (rdO st b) λys=>W06 ys.length (by_+1) /\
      newOwn st e (sz+1) (by_+1) (q03 ys) ys λav st=>K av st h) ∨
     (Z0c st h (sz+1) (rdO st b) λys=>(q03 ys=true/\W06 ys.length (by_+1))/\∀ v h',Z0r h h' (sz+1) v ys->K (.val v) st h')
    | .val (.slice (some ⟨g,o,none⟩) n c)=>Z0c st h (sz+1) (rdO st b) λys=>∃ xs,C0m h (sz+1) (.slice (some ⟨g,o,none⟩) n c) xs/\W06 (xs.length+ys.length) (by_+1) /\
      ∀ v h',S0n h h' (sz+1) g v (xs++ys)->K (.val v) st h'
    |_=>False
   |false=>False
  |_,_,_=>False
 |none=>False
def Y0j(i:Nat)(lo hi:Option AV)(st:St)(h:Hp)(K:AV->St->Hp->Prop):Prop :=
 match lo,hi with
 |none,some (.val (.int _ m))=>match nth st.ow i with
  |some ⟨s,.live e sz by_ nn xs⟩=>(0<=m/\m<=(xs.length:Int)) /\
    K (.own i (s+1)) (st.withOw (r00 st.ow i ⟨s+1,.live e sz by_ nn (xs.take m.toNat)⟩)) h
  |_=>False
 |_,_=>False
def T04(d:Int):Option AV->Option Int
 |none=>some d
 |some (.val (.int _ n))=>some n
 |_=>none
def Z0j(sz:Nat)(s:Value)(l m:Nat)(v:Value):Prop:=∀ ad n c,s = .slice ad n c->v = .slice (if c=l then ad else ad.map (·.add (l*sz))) (m-l) (c-l)
def a0k(sz:Nat)(s:Value)(n:Nat)(lo hi:Option AV)(st:St)(h:Hp)(K:AV->St->Hp->Prop):Prop :=
 match T04 0 lo,T04 n hi with
 |some l,some m=>(0<=l/\l<=m/\m<=(n:Int))/\∃ xs,SlE h sz s xs/\∀ v,SlE h sz v ((xs.take m.toNat).drop l.toNat)->Z0j sz s l.toNat m.toNat v->K (.val v) st h
 |_,_=>False
def T0n(s:ByteArray)(lo hi:Option AV)(st:St)(h:Hp)(K:AV->St->Hp->Prop):Prop :=
 match T04 0 lo,T04 s.size hi with
 |some l,some m=>(0<=l/\l<=m/\m<=(s.size:Int))/\K (.val (.string (s.extract l.toNat m.toNat))) st h
 |_,_=>False
def f04:AV->Option Value
 | .val v=>some v
 | .agg cs=>match Y0c cs with
  |some vs=>some (.agg vs.toArray)
  |none=>none
 |_=>none
def x09(P:Program)(o:Oper)(x y:Operand)(xs ys:Value)(b:Bool):Prop:=∀ ρ:Operand->Value,ρ x=xs->ρ y=ys->∀ w:World,(execOp ρ o).run P w = .ok (.value (.bool b)) w
def g04(h:Hp)(s:Value)(idx:Int)(off:Nat)(v:Value)(K:Hp->Prop):Prop :=
 ∃ b of n cp cur ty,(s = .slice (some ⟨b,of,none⟩) n cp/\0<=idx/\h b=some (.cells cur ty (0,0))/\of+off<cur.size/\I02 v) /\
  K (h.set b (.cells (cur.setIfInBounds (of+off) v) ty (0,0)))
theorem g04.mk{h:Hp}{b of n cp p:Nat}{cur:Array Value}{ty:TypeId}{idx:Int}{off:Nat}{v:Value}{K:Hp->Prop}(h1:0<=idx)(h2:h b=some (.cells cur ty (0,0)))(h3:p<cur.size)(he:of+off=p)(h4:I02 v)
  (hk:K (h.set b (.cells (cur.setIfInBounds p v) ty (0,0)))):g04 h (.slice (some ⟨b,of,none⟩) n cp) idx off v K:=by
 subst he
 exact⟨b,of,n,cp,cur,ty,⟨rfl,h1,h2,h3,h4⟩,hk⟩
def x05(h:Hp)(s:Value)(idx:Int)(off:Nat)(new:List Value)(K:Hp->Prop):Prop :=
 ∃ b of n cp cur ty,(s = .slice (some ⟨b,of,none⟩) n cp/\0<=idx/\h b=some (.cells cur ty (0,0))/\of+off+new.length<=cur.size) /\
  K (h.set b (.cells (splice cur.toList (of+off) new).toArray ty (0,0)))
def F7(P:Program)(o:Oper)(st:St)(h:Hp)(K:AV->St->Hp->Prop):Prop :=
 match o.op with
 | .move x | .assign x=>match rdO st x with
  | .dead=>False
  |a=>K a st h
 | .box t x=>match b00 (rdO st x)with
  |some cs=>newBox st cs t λav st=>K av st h
  |none=>False
 | .alloc t=>match z00 P t with
  |some z=>newBox st (vals z.cells.toList) t λav st=>K av st h
  |none=>False
 | .fieldAddr t x k=>match rdO st x,H0g P t k with
  | .box i off,some fo=>K (.box i (off+fo)) st h
  | .hel s i sz k,some fo=>K (.hel s i sz (k+fo)) st h
  | .oel i s j sz k,some fo=>K (.oel i s j sz (k+fo)) st h
  | .val (.pointer (some ⟨b,off,none⟩)),some fo=>K (.val (ptr b (off+fo))) st h
  |_,_=>False
 | .indexAddr t x i=>match rdO st i with
  | .val (.int _ j)=>match S00 P t with
   |some e=>match E5 P e with
    |some sz=>match rdO st x with
     | .val (.slice a n c)=>InB (.slice a n c) j/\K (.hel (.slice a n c) j sz 0) st h
     | .own i k=>match nth st.ow i with
      |some ⟨_,.live _ sz' _ _ xs⟩=>match Nat.beq sz' sz with
       |true=>(0<=j/\j<(xs.length:Int))/\K (.oel i k j sz 0) st h
       |false=>False
      |_=>False
     |_=>False
    |none=>False
   |none=>match rdO st x,M0n P t j with
    | .box i off,some fo=>K (.box i (off+fo)) st h
    | .hel s i sz k,some fo=>K (.hel s i sz (k+fo)) st h
    | .oel i s j sz k,some fo=>K (.oel i s j sz (k+fo)) st h
    |_,_=>False
  |_=>False
 | .load t x=>match rdO st x with
  | .box i off=>match nth st.bx i with
   |some (.live cs _)=>d04 P t cs off λav=>K av st h
   |_=>False
  | .hel s idx sz k=>∃ c,d00 h s sz idx c/\d04 P t (vals c) k λav=>K av st h
  | .oel i _ idx sz k=>match nth st.ow i with
   |some ⟨_,.live _ sz' _ _ xs⟩=>match Nat.beq sz' sz with
    |true=>∃ c,xs[idx.toNat]?=some c/\d04 P t (vals c) k λav=>K av st h
    |false=>False
   |_=>False
  |_=>v05 P o st h K
 | .store t a x=>match rdO st a with
  | .box i off=>match nth st.bx i,b00 (rdO st x),E5 P t with
   |some (.live cs ty),some new,some n=>match Z05 new n,S04 st new with
    |true,true=>B0m cs off new λcs=>K (.val undef) (st.withBx (r00 st.bx i (.live cs ty))) h
    |_,_=>False
   |_,_,_=>False
  | .oel i s idx sz k=>rfy (rdO st x) st h λv st h=>match nth st.ow i,E5 P t with
   |some ⟨s',.live e sz' by_ nn xs⟩,some n=>match Z05 v.cells.toList n,e04 v.cells.toList,Nat.beq s' s,Nat.beq sz' sz with
    |true,true,true,true=>∃ c,xs[idx.toNat]?=some c/\B0m c k v.cells.toList λc' =>
      K (.val undef) (st.withOw (r00 st.ow i ⟨s',.live e sz' by_ nn (xs.set idx.toNat c')⟩)) h
    |_,_,_,_=>False
   |_,_=>False
  | .hel s idx sz k=>match rdO st x with
   | .val v=>match E5 P t with
    |some 1=>g04 h s idx (idx.toNat*sz+k) v λh'=>K (.val undef) st h'
    |some n=>match Z05 v.cells.toList n,e04 v.cells.toList with
     |true,true=>x05 h s idx (idx.toNat*sz+k) v.cells.toList λh'=>K (.val undef) st h'
     |_,_=>False
    |_=>False
   | .agg cs=>match E5 P t,Y0c cs with
    |some n,some new=>match Z05 new n,e04 new with
     |true,true=>x05 h s idx (idx.toNat*sz+k) new λh'=>K (.val undef) st h'
     |_,_=>False
    |_,_=>False
   |_=>False
  |_=>v05 P o st h K
 | .build t ps=>match P.underlying t,z00 P t with
  |some (.struct fs),some z=>match w05 P fs.toList with
   |true=>V06 P fs (rdO st) ps.toList (vals z.cells.toList) λcs=>K (.agg cs) st h
   |false=>False
  |some (.array _ e),some z=>match E5 P e with
   |some sz=>v09 sz (rdO st) ps.toList (vals z.cells.toList) λcs=>K (.agg cs) st h
   |none=>False
  |_,_=>False
 | .buildSlice t n ps=>match S00 P t with
  |some e=>match E5 P e,N08 P e,z00 P e with
   |some (sz+1),some by_,some z=>match Nat.beq n ps.size,Nat.ble (n*(sz+1)) 16777216,Z05 z.cells.toList (sz+1)with
    |true,true,true=>V0h (sz+1) 0 ps.toList st h λxs st h=>newOwn st e (sz+1) by_ true xs λav st=>K av st h
    |_,_,_=>False
   |_,_,_=>False
  |none=>False
 | .makeSlice t l c=>match S00 P t with
  |some e=>match E5 P e,N08 P e,z00 P e,rdO st l,rdO st c with
   |some (sz+1),some by_,some z,.val (.int _ nl),.val (.int _ nc)=>match Z05 z.cells.toList (sz+1),e04 z.cells.toList with
    |true,true=>(0<=nl/\nl<=nc/\nc*by_<=140737488355328/\nc<=9223372036854775807) /\
      newOwn st e (sz+1) by_ true (List.replicate nl.toNat z.cells.toList) λav st=>K av st h
    |_,_=>False
   |_,_,_,_,_=>False
  |none=>False
 | .field t x k=>match U06 (rdO st x),P.underlying t with
  |some cs,some (.struct fs)=>match fs[k]? with
   |some f=>d04 P f.type cs f.offset λav=>K av st h
   |none=>False
  |_,_=>False
 | .slice t x lo hi none=>match rdO st x with
  | .own i _=>match S00 P t with
   |some e=>match E5 P e with
    |some _=>Y0j i (lo.map (rdO st)) (hi.map (rdO st)) st h K
    |none=>False
   |none=>False
  | .val (.slice a n c)=>match S00 P t with
   |some e=>match E5 P e with
    |some sz=>a0k sz (.slice a n c) n (lo.map (rdO st)) (hi.map (rdO st)) st h K
    |none=>False
   |none=>False
  | .val (.string s)=>match P.underlying t with
   |some .string=>T0n s (lo.map (rdO st)) (hi.map (rdO st)) st h K
   |_=>False
  |_=>False
 | .index t x i=>match rdO st x,rdO st i,P.underlying t with
  | .val (.string s),.val (.int _ j),some .string=>∃ c,(0<=j/\s[j.toNat]?=some c)/\K (.val (.int .u8 c.toNat)) st h
  |_,_,_=>v05 P o st h K
 | .binOp .eql t x y _=>match f04 (rdO st x),f04 (rdO st y)with
  |some (.agg xs),some (.agg ys)=>∃ b,x09 P o x y (.agg xs) (.agg ys) b/\K (.val (.bool b)) st h
  |some (.slice a n m),some (.slice none 0 0)=>∃ b,x09 P o x y (.slice a n m) (.slice none 0 0) b/\K (.val (.bool b)) st h
  |_,_=>W0j P o st h K
 | .binOp .neq t x y _=>match f04 (rdO st x),f04 (rdO st y)with
  |some (.agg xs),some (.agg ys)=>∃ b,x09 P o x y (.agg xs) (.agg ys) b/\K (.val (.bool b)) st h
  |_,_=>W0j P o st h K
 | .binOp .add t x y _=>match rdO st x,rdO st y with
  | .val (.string a),.val (.string b)=>a.size+b.size<=9223372036854775807/\K (.val (.string (a++b))) st h
  |_,_=>v05 P o st h K
 | .binOp .quo t x y _=>match rdO st x,rdO st y with
  | .val (.int .i64 a),.val (.int .i64 b)=>b≠0/\K (.val (.int .i64 (IntKind.i64.wrap (a.tdiv b)))) st h
  |_,_=>v05 P o st h K
 | .binOp .rem t x y _=>match rdO st x,rdO st y with
  | .val (.int .i64 a),.val (.int .i64 b)=>b≠0/\K (.val (.int .i64 (a.tmod b))) st h
  |_,_=>v05 P o st h K
 | .binOp .shl t x y _=>match rdO st x,rdO st y with
  | .val (.int .i64 a),.val (.int .i64 b)=>0<=b/\K (.val (.int .i64 (IntKind.i64.wrap (a*2 ^ min b.toNat 64)))) st h
  |_,_=>v05 P o st h K
 | .binOp .shr t x y _=>match rdO st x,rdO st y with
  | .val (.int .i64 a),.val (.int .i64 b)=>0<=b/\K (.val (.int .i64 (a.fdiv (2 ^ min b.toNat 64)))) st h
  |_,_=>v05 P o st h K
 | .convert tf tt x=>match rdO st x with
  | .own i _=>match nth st.ow i,P.underlying tf,P.underlying tt with
   |some ⟨_,.live _ _ _ _ xs⟩,some (.slice e),some .string=>match P.underlying e with
    |some (.int .u8)=>∃ ns:List Int,xs=ns.map (λn=>[.int .u8 n])/\K (.val (.string (strOfNums ns))) st h
    |_=>False
   |_,_,_=>W0j P o st h K
  |_=>W0j P o st h K
 | .call { callee := .builtin .len,args:=as,argTypes:=ts }=>match as.toList,ts.toList with
  | [x],[t]=>match rdO st x with
   | .own i _=>match nth st.ow i,S00 P t with
    |some ⟨_,.live _ _ _ _ xs⟩,some _=>K (.val (.int .i64 xs.length)) st h
    |_,_=>False
   |_=>v05 P o st h K
  |_,_=>False
 | .call { callee := .builtin .append,args:=as,argTypes:=ts }=>match as.toList,ts.toList with
  | [a,b],[t,t']=>match Nat.beq t t' with
   |true=>a0d P t a b st h K
   |false=>False
  |_,_=>False
 | .lookup _ _ _ _=>R0n P o st h K
 | .mapUpdate _ _ _ _=>R0n P o st h K
 | .insert _ _ _ _=>R0n P o st h K
 |_=>W0j P o st h K
end Go.H
