/- Plain laws over the model: what a function's code asks, written out by a recursive function; slices and variables that the call itself makes are kept apart as lists. -/
import Derived.Test.YtkjhghloldgioaaGreatH1
import Derived.Laws.BytesArg
namespace Go.H
set_option linter.unusedVariables false
def nth{a:Type}:List a->Nat->Option a
 | [],_=>none
 |x::_,0=>some x
 |_::r,k+1=>nth r k
inductive i4 where
 |val (v:Value)
 |own (i k:Nat)
inductive AV where
 |val (v:Value)
 |own (i k:Nat)
 |box (i off:Nat)
 |hel (s:Value) (idx:Int) (sz k:Nat)
 |oel (i st:Nat) (idx:Int) (sz k:Nat)
 |agg (cs:List i4)
 |dead
inductive OSt where
 |live (e:TypeId) (sz by_:Nat) (nn:Bool) (xs:List (List Value))
 |frozen (v:Value)
structure Own where
 stamp:Nat
 st:OSt
inductive BSt where
 |live (cells:List i4) (ty:TypeId)
 |publ (b:Nat)
structure St where
 n:Nat
 fr:List (Nat×AV)
 bx:List BSt
 ow:List Own
def St.withOw(st:St)(l:List Own):St:=match st with
 |⟨n,fr,bx,_⟩=>⟨n,fr,bx,l⟩
def St.withBx(st:St)(l:List BSt):St:=match st with
 |⟨n,fr,_,ow⟩=>⟨n,fr,l,ow⟩
@[simp] theorem St.withOw_eq (st:St) (l:List Own):st.withOw l = { st with ow:=l }:=rfl
@[simp] theorem St.withBx_eq (st:St) (l:List BSt):st.withBx l = { st with bx:=l }:=rfl
def ptr(b off:Nat):Value := .pointer (some ⟨b,off,none⟩)
def A2:List (Nat×AV)->Nat->AV
 | [],_ => .dead
 |(k,v)::r,s=>match Nat.beq k s with
  |true=>v
  |false=>A2 r s
def SlE(h:Hp)(sz:Nat)(s:Value)(xs:List (List Value)):Prop :=
 (∀ x∈xs,x.length=sz/\∀ v∈x,v.oneCell'=true)/\∃ a n c,s = .slice a n c/\n=xs.length/\n<=c /\
  (xs.flatten = []∨∃ b o,a=some ⟨b,o,none⟩/\∀ j v,xs.flatten[j]?=some v->Hp.cell h b (o+j)=some v)
def V4(h:Hp)(d:Value)(sz:Nat)(idx:Int)(c:List Value):Prop :=
 c.length=sz/\0<=idx/\∃ b o n a,d = .slice (some ⟨b,o,none⟩) n a/\∀ j v,c[j]?=some v->Hp.cell h b (o+idx.toNat*sz+j)=some v
def InB(s:Value)(j:Int):Prop:=∃ b o n c,s = .slice (some ⟨b,o,none⟩) n c/\0<=j/\j<(n:Int)
def U0(h a:Hp)(v:Value)(e:TypeId)(sz:Nat)(nn:Bool)(xs:List (List Value)):Prop :=
  (∀ x∈xs,x.length=sz/\∀ v∈x,v.oneCell'=true) /\
  ((v = .slice none 0 0/\xs = []/\nn=false/\a=h) ∨
   ∃ g cap cur,v = .slice (some ⟨g,0,none⟩) xs.length cap/\h g=none/\a=h.set g (.cells cur e (0,0)) /\
     xs.length<=cap/\cap<=maxLen/\cur.size=cap*sz/\cur.toList.take (xs.length*sz)=xs.flatten)
def E4(P:Program)(t:TypeId):Option Nat:=match P.info? t with
 |some i=>some i.size
 |none=>none
def O03(P:Program)(t:TypeId):Option Nat:=match P.info? t with
 |some i=>some i.bytes
 |none=>none
def J7(P:Program)(t:TypeId):Option Value:=match P.info? t with
 |some i=>i.zero
 |none=>none
def h0a(P:Program)(t:TypeId):Option Bool:=match P.underlying t with
 |some (.struct _)=>some true
 |some (.array _ _)=>some true
 |some _=>some false
 |none=>none
def k09(P:Program)(t:TypeId)(k:Nat):Option Nat:=match P.underlying t with
 |some (.struct fs)=>match fs[k]? with
  |some f=>match E4 P f.type with
   |some (_+1)=>some f.offset
   |_=>none
  |none=>none
 |_=>none
def B7(P:Program)(t:TypeId):Option TypeId:=match P.underlying t with
 |some (.slice e)=>some e
 |_=>none
def rdA(st:St):AV->AV
 | .own i k=>match nth st.ow i with
  |some ⟨a,o⟩=>match Nat.beq a k with
   |true=>match o with
    | .live .. => .own i k
    | .frozen v => .val v
   |false => .dead
  |none => .dead
 | .box i off=>match nth st.bx i with
  |some (.live ..) => .box i off
  |some (.publ b) => .val (ptr b off)
  |none => .dead
 | .oel i a idx sz k=>match nth st.ow i with
  |some ⟨c,.live ..⟩=>match Nat.beq c a with
   |true => .oel i a idx sz k
   |false => .dead
  |_ => .dead
 |av=>av
def rdO(st:St):Operand->AV
 | .tmp t=>rdA st (A2 st.fr t)
 | .const v => .val v
 | .global _ => .dead
 | .func f => .val (.func (.func f) #[] #[])
def W6{b:Type}:List b->Nat->b->List b
 | [],_,_=>[]
 |_::r,0,a=>a::r
 |x::r,k+1,a=>x::W6 r k a
def vals:List Value->List i4
 | []=>[]
 |v::r => .val v::vals r
def l09(i k:Nat)(st:St)(h:Hp)(K:Value->St->Hp->Prop):Prop :=
 match nth st.ow i with
 |some ⟨a,.live e sz _ nn xs⟩=>match Nat.beq a k with
  |true=>∀ v b,U0 h b v e sz nn xs->K v (st.withOw (W6 st.ow i ⟨a,.frozen v⟩)) b
  |false=>False
 |some ⟨a,.frozen v⟩=>match Nat.beq a k with
  |true=>K v st h
  |false=>False
 |none=>False
def s02:List i4->St->Hp->(List Value->St->Hp->Prop)->Prop
 | [],st,h,K=>K [] st h
 | .val v::r,st,h,K=>s02 r st h λvs st h=>K (v::vs) st h
 | .own i k::r,st,h,K=>l09 i k st h λv st h=>s02 r st h λvs st h=>K (v::vs) st h
def P0e(i off:Nat)(st:St)(h:Hp)(K:Value->St->Hp->Prop):Prop :=
 match nth st.bx i with
 |some (.live cells ty)=>s02 cells st h λvs st h=>∀ b,h b=none ->
   K (ptr b off) (st.withBx (W6 st.bx i (.publ b))) (h.set b (.cells vs.toArray ty (0,0)))
 |some (.publ b)=>K (ptr b off) st h
 |none=>False
def rfy(av:AV)(st:St)(h:Hp)(K:Value->St->Hp->Prop):Prop :=
 match av with
 | .val v=>K v st h
 | .own i k=>l09 i k st h K
 | .box i off=>P0e i off st h K
 | .agg cs=>s02 cs st h λvs st h=>K (.agg vs.toArray) st h
 |_=>False
def I06:List Operand->St->Hp->(List (Nat×Value)->St->Hp->Prop)->Prop
 | [],st,h,K=>K [] st h
 | .tmp t::r,st,h,K=>rfy (rdO st (.tmp t)) st h λv st h=>I06 r st h λvs st h=>K ((t,v)::vs) st h
 | .global _::_,_,_,_=>False
 |_::r,st,h,K=>I06 r st h K
def D0c:List (Nat×Value)->Nat->Value
 | [],_=>undef
 |(k,v)::r,s=>match Nat.beq k s with
  |true=>v
  |false=>D0c r s
def rho(vs:List (Nat×Value)):Operand->Value
 | .tmp t=>D0c vs t
 | .const v=>v
 | .global g => .pointer (some ⟨g,0,none⟩)
 | .func f => .func (.func f) #[] #[]
def X05:Op->Bool
 | .select _ _=>true
 |_=>false
def m09(a:Operand->Value):List Operand->List Value
 | []=>[]
 |x::r=>a x::m09 a r
def Q0e:List Value->List Value->List Value
 | [],l=>l
 |x::r,l=>x::Q0e r l
def s03(a:Operand->Value)(o:Oper):Option (FuncId×List Value):=match o.op with
 | .call c=>match c.callee with
  | .value x=>match a x with
   | .func (.func f) first captured=>some (f,Q0e first.toList (Q0e (m09 a c.args.toList) captured.toList))
   |_=>none
  |_=>none
 |_=>none
def okF(P:Program)(f:FuncId):Bool:=match P.funcs[f]? with
 |some fn=>match fn.body with
  |some _=>match fn.name == "runtime.NumGoroutine" with
   |true=>false
   |false=>true
  |none=>false
 |none=>false
def t02:List Operand->List Bool
 | []=>[]
 | .const _::r=>true::t02 r
 |_::r=>false::t02 r
def i0a(a:Operand->Value)(o:Oper):Sem Next:=match o.op with
 | .call c=>match c.callee with
  | .builtin b=>invoke (.builtin b c.argTypes o.type (t02 c.args.toList).toArray) (m09 a c.args.toList).toArray
  |_=>execOp a o
 | .makeFunc fn first captured=>do pure (.value (←Instr.makeFunc fn (m09 a first.toList).toArray (m09 a captured.toList).toArray))
 |_=>execOp a o
def l01(P:Program)(o:Oper)(st:St)(h:Hp)(K:AV->St->Hp->Prop):Prop :=
 match X05 o.op with
 |true=>False
 |false=>I06 o.op.operands.toList st h λvs st h=>match s03 (rho vs) o with
  |some (f,l)=>match okF P f with
   |true=>Tr P f l.toArray h λv b=>K (.val v) st b
   |false=>False
  |none=>wpS P (i0a (rho vs) o) h λn a=>match n with
   | .value v=>K (.val v) st a
   | .skip=>K (.val undef) st a
   |_=>False
def evP(P:Program){b:Type}:Sem b->Option b
 | .pure a=>some a
 | .program k=>evP P (k P)
 | .mark _ k=>evP P k
 |_=>none
def R0e(P:Program)(o:Oper)(st:St)(h:Hp)(K:AV->St->Hp->Prop):Prop :=
 match X05 o.op with
 |true=>False
 |false=>I06 o.op.operands.toList st h λvs _ hf=>match s03 (rho vs) o with
  |some (f,l)=>match okF P f with
   |true=>Tr P f l.toArray hf λr a=>a=hf/\K (.val r) st h
   |false=>False
  |none=>False
def S0e(st:St):List Operand->Bool
 | []=>false
 |x::r=>match rdO st x with
  | .own _ _=>true
  |_=>S0e st r
def H0b(P:Program)(o:Oper)(st:St)(h:Hp)(K:AV->St->Hp->Prop):Prop :=
 match S0e st o.op.operands.toList with
 |true=>l01 P o st h K∨R0e P o st h K
 |false=>l01 P o st h K
def E7:AV->Option (List i4)
 | .val (.agg cs)=>some (vals cs.toList)
 | .val (.tuple _)=>none
 | .val v=>some [.val v]
 | .own i k=>some [.own i k]
 | .agg cs=>some cs
 |_=>none
def ofCell:i4->AV
 | .val v => .val v
 | .own i k => .own i k
def n02{a:Type}:List a->Nat->Bool
 | [],0=>true
 |_::r,k+1=>n02 r k
 |_,_=>false
def H00(P:Program)(t:TypeId)(cs:List i4)(off:Nat)(K:AV->Prop):Prop :=
 match h0a P t with
 |some true=>match E4 P t with
  |some n=>match n02 ((cs.drop off).take n) n with
   |true=>K (.agg ((cs.drop off).take n))
   |false=>False
  |none=>False
 |some false=>match nth cs off with
  |some c=>K (ofCell c)
  |none=>False
 |none=>False
def splice{a:Type}:List a->Nat->List a->List a
 |cs,_,[]=>cs
 |cs,off,x::r=>splice (W6 cs off x) (off+1) r
def R0d{a:Type}(cs:List a)(off:Nat)(new:List a)(K:List a->Prop):Prop :=
 match Nat.ble (off+new.length) cs.length with
 |true=>K (splice cs off new)
 |false=>False
def J06:List i4->Option (List Value)
 | []=>some []
 | .val v::r=>match J06 r with
  |some vs=>some (v::vs)
  |none=>none
 | .own _ _::_=>none
def k00:List Value->Bool
 | []=>true
 |v::r=>match v.oneCell' with
  |true=>k00 r
  |false=>false
def J00(st:St):List i4->Bool
 | []=>true
 | .val v::r=>match v.oneCell' with
  |true=>J00 st r
  |false=>false
 | .own i k::r=>match rdA st (.own i k)with
  | .own _ _=>J00 st r
  | .val v=>match v.oneCell' with
   |true=>J00 st r
   |false=>false
  |_=>false
def j0a(sz:Nat):Nat->List (Nat×Operand)->St->Hp->(List (List Value)->St->Hp->Prop)->Prop
 |_,[],st,h,K=>K [] st h
 |i,(j,x)::r,st,h,K=>match Nat.beq i j with
  |true=>rfy (rdO st x) st h λv st h=>match n02 v.cells.toList sz,k00 v.cells.toList with
   |true,true=>j0a sz (i+1) r st h λvs st h=>K (v.cells.toList::vs) st h
   |_,_=>False
  |false=>False
def m01(P:Program):List Field->Bool
 | []=>true
 |f::r=>match E4 P f.type with
  |some _=>m01 P r
  |none=>false
def u02:AV->Option (List i4)
 | .val (.agg cs)=>some (vals cs.toList)
 | .agg cs=>some cs
 |_=>none
def v02(P:Program)(a:Array Field)(b:Operand->AV):List (Nat×Operand)->List i4->(List i4->Prop)->Prop
 | [],cs,K=>K cs
 |(i,x)::r,cs,K=>match a[i]?,E7 (b x)with
  |some f,some new=>match E4 P f.type with
   |some n=>match n02 new n,Nat.ble (f.offset+n) cs.length with
    |true,true=>v02 P a b r (splice cs f.offset new) K
    |_,_=>False
   |none=>False
  |_,_=>False
def I0b{a:Type}:List a->(Nat->Prop)->Prop
 | [],K=>K 0
 |_::r,K=>I0b r λn=>K (n+1)
theorem i04{a:Type}:∀(l:List a) (K:Nat->Prop),I0b l K=K l.length
 | [],K=>rfl
 |_::r,K=>by simp only[I0b,i04 r,List.length_cons]
def newOwn(st:St)(e:TypeId)(sz by_:Nat)(nn:Bool)(xs:List (List Value))(K:AV->St->Prop):Prop :=
 I0b st.ow λn=>K (.own n 0) (st.withOw (st.ow ++ [⟨0,.live e sz by_ nn xs⟩]))
theorem h05(st:St)(e:TypeId)(sz by_:Nat)(nn:Bool)(xs:List (List Value))(K:AV->St->Prop):newOwn st e sz by_ nn xs K=K (.own st.ow.length 0) (st.withOw (st.ow ++ [⟨0,.live e sz by_ nn xs⟩])):=i04 _ _
def newBox(st:St)(cs:List i4)(t:TypeId)(K:AV->St->Prop):Prop :=
 I0b st.bx λn=>K (.box n 0) (st.withBx (st.bx ++ [.live cs t]))
theorem i05(st:St)(cs:List i4)(t:TypeId)(K:AV->St->Prop):newBox st cs t K=K (.box st.bx.length 0) (st.withBx (st.bx ++ [.live cs t])):=i04 _ _
def K06(st:St)(h:Hp)(sz:Nat)(av:AV)(K:List (List Value)->Prop):Prop :=
 match av with
 | .own j _=>match nth st.ow j with
  |some ⟨_,.live _ b _ _ a⟩=>match Nat.beq b sz with
   |true=>K a
   |false=>False
  |_=>False
 | .val s=>∃ a,SlE h sz s a/\K a
 |_=>False
def m0i(av:AV)(i:Nat):Bool:=match av with
 | .own j _=>Nat.beq i j
 |_=>false
def K9:List (List Value)->Bool
 | []=>false
 |_::_=>true
def n01(n by_:Nat):Prop:=n*by_<=140737488355328
def S0d(h:Hp)(sz:Nat)(v:Value)(xs:List (List Value)):Prop :=
 (∀ x∈xs,x.length=sz/\∀ v∈x,v.oneCell'=true)/\∃ g o c cur ty,v = .slice (some ⟨g,o,none⟩) xs.length c/\xs.length<=c/\c<=maxLen/\o+c*sz<=cur.size/\h g=some (.cells cur ty (0,0)) /\
  ∀ j u,xs.flatten[j]?=some u->cur[o+j]?=some u
def T0e(h c:Hp)(sz g:Nat)(v:Value)(i:List (List Value)):Prop :=
 S0d c sz v i/\∃ a f e d,v = .slice (some ⟨a,f,none⟩) e d/\(a=g∨h a=none)/\∀ b,b≠a->c b=h b
def G0h(h c:Hp)(sz:Nat)(v:Value)(g:List (List Value)):Prop :=
 S0d c sz v g/\∃ a f e d,v = .slice (some ⟨a,f,none⟩) e d/\h a=none/\∀ b,b≠a->c b=h b
def L06(P:Program)(t:TypeId)(a b:Operand)(st:St)(h:Hp)(K:AV->St->Hp->Prop):Prop :=
 match B7 P t with
 |some e=>match E4 P e,O03 P e,J7 P e with
  |some (sz+1),some (by_+1),some z=>match n02 z.cells.toList (sz+1)with
   |true=>match rdO st a with
    | .own i k=>match nth st.ow i with
     |some ⟨j,.live l m p nn xs⟩=>match Nat.beq l e,Nat.beq m (sz+1),m0i (rdO st b) i with
      |true,true,false=>K06 st h (sz+1) (rdO st b) λd=>n01 (xs.length+d.length) (by_+1) /\
        K (.own i (j+1)) (st.withOw (W6 st.ow i ⟨j+1,.live e (sz+1) (by_+1) (nn || K9 d) (xs++d)⟩)) h
      |_,_,_=>False
     |_=>False
    | .val (.slice none 0 0)=>(K06 st h (sz+1) (rdO st b) λd=>n01 d.length (by_+1) /\
      newOwn st e (sz+1) (by_+1) (K9 d) d λav st=>K av st h) ∨
     (K06 st h (sz+1) (rdO st b) λd=>(K9 d=true/\n01 d.length (by_+1))/\∀ v f,G0h h f (sz+1) v d->K (.val v) st f)
    | .val (.slice (some ⟨g,o,none⟩) n c)=>K06 st h (sz+1) (rdO st b) λd=>∃ xs,S0d h (sz+1) (.slice (some ⟨g,o,none⟩) n c) xs/\n01 (xs.length+d.length) (by_+1) /\
      ∀ v f,T0e h f (sz+1) g v (xs++d)->K (.val v) st f
    |_=>False
   |false=>False
  |_,_,_=>False
 |none=>False
def J0b(i:Nat)(c b:Option AV)(st:St)(h:Hp)(K:AV->St->Hp->Prop):Prop :=
 match c,b with
 |none,some (.val (.int _ m))=>match nth st.ow i with
  |some ⟨a,.live e sz by_ nn xs⟩=>(0<=m/\m<=(xs.length:Int)) /\
    K (.own i (a+1)) (st.withOw (W6 st.ow i ⟨a+1,.live e sz by_ nn (xs.take m.toNat)⟩)) h
  |_=>False
 |_,_=>False
def K00(d:Int):Option AV->Option Int
 |none=>some d
 |some (.val (.int _ n))=>some n
 |_=>none
def K0b(sz:Nat)(b:Value)(l m:Nat)(v:Value):Prop:=∀ a n c,b = .slice a n c->v = .slice (if c=l then a else a.map (·.add (l*sz))) (m-l) (c-l)
def L0b(sz:Nat)(a:Value)(n:Nat)(c b:Option AV)(st:St)(h:Hp)(K:AV->St->Hp->Prop):Prop :=
 match K00 0 c,K00 n b with
 |some l,some m=>(0<=l/\l<=m/\m<=(n:Int))/\∃ xs,SlE h sz a xs/\∀ v,SlE h sz v ((xs.take m.toNat).drop l.toNat)->K0b sz a l.toNat m.toNat v->K (.val v) st h
 |_,_=>False
def U0e(a:ByteArray)(c b:Option AV)(st:St)(h:Hp)(K:AV->St->Hp->Prop):Prop :=
 match K00 0 c,K00 a.size b with
 |some l,some m=>(0<=l/\l<=m/\m<=(a.size:Int))/\K (.val (.string (a.extract l.toNat m.toNat))) st h
 |_,_=>False
def l00:AV->Option Value
 | .val v=>some v
 | .agg cs=>match J06 cs with
  |some vs=>some (.agg vs.toArray)
  |none=>none
 |_=>none
def j04(P:Program)(o:Oper)(x c:Operand)(xs d:Value)(b:Bool):Prop:=∀ a:Operand->Value,a x=xs->a c=d->∀ w:World,(execOp a o).run P w = .ok (.value (.bool b)) w
def T7(h:Hp)(c:Value)(idx:Int)(off:Nat)(v:Value)(K:Hp->Prop):Prop :=
 ∃ b of n a cur ty,(c = .slice (some ⟨b,of,none⟩) n a/\0<=idx/\h b=some (.cells cur ty (0,0))/\of+off<cur.size/\C9 v) /\
  K (h.set b (.cells (cur.setIfInBounds (of+off) v) ty (0,0)))
theorem T7.mk{h:Hp}{b of n a p:Nat}{cur:Array Value}{ty:TypeId}{idx:Int}{off:Nat}{v:Value}{K:Hp->Prop}(c:0<=idx)(d:h b=some (.cells cur ty (0,0)))(e:p<cur.size)(g:of+off=p)(f:C9 v)
  (i:K (h.set b (.cells (cur.setIfInBounds p v) ty (0,0)))):T7 h (.slice (some ⟨b,of,none⟩) n a) idx off v K:=by
 subst g
 exact⟨b,of,n,a,cur,ty,⟨rfl,c,d,e,f⟩,i⟩
def r9(h:Hp)(c:Value)(idx:Int)(off:Nat)(new:List Value)(K:Hp->Prop):Prop :=
 ∃ b of n a cur ty,(c = .slice (some ⟨b,of,none⟩) n a/\0<=idx/\h b=some (.cells cur ty (0,0))/\of+off+new.length<=cur.size) /\
  K (h.set b (.cells (splice cur.toList (of+off) new).toArray ty (0,0)))
def v6(P:Program)(o:Oper)(st:St)(h:Hp)(K:AV->St->Hp->Prop):Prop :=
 match o.op with
 | .move x | .assign x=>match rdO st x with
  | .dead=>False
  |a=>K a st h
 | .box t x=>match E7 (rdO st x)with
  |some cs=>newBox st cs t λav st=>K av st h
  |none=>False
 | .alloc t=>match J7 P t with
  |some z=>newBox st (vals z.cells.toList) t λav st=>K av st h
  |none=>False
 | .fieldAddr t x k=>match rdO st x,k09 P t k with
  | .box i off,some g=>K (.box i (off+g)) st h
  | .hel d i sz k,some g=>K (.hel d i sz (k+g)) st h
  | .oel i d j sz k,some g=>K (.oel i d j sz (k+g)) st h
  | .val (.pointer (some ⟨b,off,none⟩)),some g=>K (.val (ptr b (off+g))) st h
  |_,_=>False
 | .indexAddr t x i=>match rdO st i with
  | .val (.int _ j)=>match B7 P t with
   |some e=>match E4 P e with
    |some sz=>match rdO st x with
     | .val (.slice a n c)=>InB (.slice a n c) j/\K (.hel (.slice a n c) j sz 0) st h
     | .own i k=>match nth st.ow i with
      |some ⟨_,.live _ p _ _ xs⟩=>match Nat.beq p sz with
       |true=>(0<=j/\j<(xs.length:Int))/\K (.oel i k j sz 0) st h
       |false=>False
      |_=>False
     |_=>False
    |none=>False
   |none=>False
  |_=>False
 | .load t x=>match rdO st x with
  | .box i off=>match nth st.bx i with
   |some (.live cs _)=>H00 P t cs off λav=>K av st h
   |_=>False
  | .hel d idx sz k=>∃ c,V4 h d sz idx c/\H00 P t (vals c) k λav=>K av st h
  | .oel i _ idx sz k=>match nth st.ow i with
   |some ⟨_,.live _ p _ _ xs⟩=>match Nat.beq p sz with
    |true=>∃ c,xs[idx.toNat]?=some c/\H00 P t (vals c) k λav=>K av st h
    |false=>False
   |_=>False
  |_=>l01 P o st h K
 | .store t a x=>match rdO st a with
  | .box i off=>match nth st.bx i,E7 (rdO st x),E4 P t with
   |some (.live cs ty),some new,some n=>match n02 new n,J00 st new with
    |true,true=>R0d cs off new λcs=>K (.val undef) (st.withBx (W6 st.bx i (.live cs ty))) h
    |_,_=>False
   |_,_,_=>False
  | .oel i d idx sz k=>rfy (rdO st x) st h λv st h=>match nth st.ow i,E4 P t with
   |some ⟨D,.live e p by_ nn xs⟩,some n=>match n02 v.cells.toList n,k00 v.cells.toList,Nat.beq D d,Nat.beq p sz with
    |true,true,true,true=>∃ c,xs[idx.toNat]?=some c/\R0d c k v.cells.toList λE =>
      K (.val undef) (st.withOw (W6 st.ow i ⟨D,.live e p by_ nn (xs.set idx.toNat E)⟩)) h
    |_,_,_,_=>False
   |_,_=>False
  | .hel d idx sz k=>match rdO st x with
   | .val v=>match E4 P t with
    |some 1=>T7 h d idx (idx.toNat*sz+k) v λq=>K (.val undef) st q
    |some n=>match n02 v.cells.toList n,k00 v.cells.toList with
     |true,true=>r9 h d idx (idx.toNat*sz+k) v.cells.toList λq=>K (.val undef) st q
     |_,_=>False
    |_=>False
   | .agg cs=>match E4 P t,J06 cs with
    |some n,some new=>match n02 new n,k00 new with
     |true,true=>r9 h d idx (idx.toNat*sz+k) new λq=>K (.val undef) st q
     |_,_=>False
    |_,_=>False
   |_=>False
  |_=>l01 P o st h K
 | .build t ps=>match P.underlying t,J7 P t with
  |some (.struct s),some z=>match m01 P s.toList with
   |true=>v02 P s (rdO st) ps.toList (vals z.cells.toList) λcs=>K (.agg cs) st h
   |false=>False
  |_,_=>False
 | .buildSlice t n ps=>match B7 P t with
  |some e=>match E4 P e,O03 P e,J7 P e with
   |some (sz+1),some by_,some z=>match Nat.beq n ps.size,Nat.ble (n*(sz+1)) 16777216,n02 z.cells.toList (sz+1)with
    |true,true,true=>j0a (sz+1) 0 ps.toList st h λxs st h=>newOwn st e (sz+1) by_ true xs λav st=>K av st h
    |_,_,_=>False
   |_,_,_=>False
  |none=>False
 | .makeSlice t l c=>match B7 P t with
  |some e=>match E4 P e,O03 P e,J7 P e,rdO st l,rdO st c with
   |some (sz+1),some by_,some z,.val (.int _ w),.val (.int _ u)=>match n02 z.cells.toList (sz+1),k00 z.cells.toList with
    |true,true=>(0<=w/\w<=u/\u*by_<=140737488355328/\u<=9223372036854775807) /\
      newOwn st e (sz+1) by_ true (List.replicate w.toNat z.cells.toList) λav st=>K av st h
    |_,_=>False
   |_,_,_,_,_=>False
  |none=>False
 | .field t x k=>match u02 (rdO st x),P.underlying t with
  |some cs,some (.struct s)=>match s[k]? with
   |some f=>H00 P f.type cs f.offset λav=>K av st h
   |none=>False
  |_,_=>False
 | .slice t x lo hi none=>match rdO st x with
  | .own i _=>match B7 P t with
   |some e=>match E4 P e with
    |some _=>J0b i (lo.map (rdO st)) (hi.map (rdO st)) st h K
    |none=>False
   |none=>False
  | .val (.slice a n c)=>match B7 P t with
   |some e=>match E4 P e with
    |some sz=>L0b sz (.slice a n c) n (lo.map (rdO st)) (hi.map (rdO st)) st h K
    |none=>False
   |none=>False
  | .val (.string d)=>match P.underlying t with
   |some .string=>U0e d (lo.map (rdO st)) (hi.map (rdO st)) st h K
   |_=>False
  |_=>False
 | .index t x i=>match rdO st x,rdO st i,P.underlying t with
  | .val (.string d),.val (.int _ j),some .string=>∃ c,(0<=j/\d[j.toNat]?=some c)/\K (.val (.int .u8 c.toNat)) st h
  |_,_,_=>l01 P o st h K
 | .binOp .eql t x y _=>match l00 (rdO st x),l00 (rdO st y)with
  |some (.agg xs),some (.agg B)=>∃ b,j04 P o x y (.agg xs) (.agg B) b/\K (.val (.bool b)) st h
  |some (.slice a n m),some (.slice none 0 0)=>∃ b,j04 P o x y (.slice a n m) (.slice none 0 0) b/\K (.val (.bool b)) st h
  |_,_=>H0b P o st h K
 | .binOp .neq t x y _=>match l00 (rdO st x),l00 (rdO st y)with
  |some (.agg xs),some (.agg B)=>∃ b,j04 P o x y (.agg xs) (.agg B) b/\K (.val (.bool b)) st h
  |_,_=>H0b P o st h K
 | .binOp .add t x y _=>match rdO st x,rdO st y with
  | .val (.string a),.val (.string b)=>a.size+b.size<=9223372036854775807/\K (.val (.string (a++b))) st h
  |_,_=>l01 P o st h K
 | .binOp .quo t x y _=>match rdO st x,rdO st y with
  | .val (.int .i64 a),.val (.int .i64 b)=>b≠0/\K (.val (.int .i64 (IntKind.i64.wrap (a.tdiv b)))) st h
  |_,_=>l01 P o st h K
 | .binOp .rem t x y _=>match rdO st x,rdO st y with
  | .val (.int .i64 a),.val (.int .i64 b)=>b≠0/\K (.val (.int .i64 (a.tmod b))) st h
  |_,_=>l01 P o st h K
 | .binOp .shl t x y _=>match rdO st x,rdO st y with
  | .val (.int .i64 a),.val (.int .i64 b)=>0<=b/\K (.val (.int .i64 (IntKind.i64.wrap (a*2 ^ min b.toNat 64)))) st h
  |_,_=>l01 P o st h K
 | .binOp .shr t x y _=>match rdO st x,rdO st y with
  | .val (.int .i64 a),.val (.int .i64 b)=>0<=b/\K (.val (.int .i64 (a.fdiv (2 ^ min b.toNat 64)))) st h
  |_,_=>l01 P o st h K
 | .convert tf tt x=>match rdO st x with
  | .own i _=>match nth st.ow i,P.underlying tf,P.underlying tt with
   |some ⟨_,.live _ _ _ _ xs⟩,some (.slice e),some .string=>match P.underlying e with
    |some (.int .u8)=>∃ C:List Int,xs=C.map (λn=>[.int .u8 n])/\K (.val (.string (strOfNums C))) st h
    |_=>False
   |_,_,_=>H0b P o st h K
  |_=>H0b P o st h K
 | .call { callee := .builtin .len,args:=as,argTypes:=A }=>match as.toList,A.toList with
  | [x],[t]=>match rdO st x with
   | .own i _=>match nth st.ow i,B7 P t with
    |some ⟨_,.live _ _ _ _ xs⟩,some _=>K (.val (.int .i64 xs.length)) st h
    |_,_=>False
   |_=>l01 P o st h K
  |_,_=>False
 | .call { callee := .builtin .append,args:=as,argTypes:=A }=>match as.toList,A.toList with
  | [a,b],[t,F]=>match Nat.beq t F with
   |true=>L06 P t a b st h K
   |false=>False
  |_,_=>False
 |_=>H0b P o st h K
end Go.H
