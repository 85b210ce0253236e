/- Plain laws over the model: what a function's code asks, written out by a recursive function; slices and variables that the call itself makes are kept apart as lists. -/
import Derived.Test.YtfphndijjmdiiaaGreatH1
import Derived.Laws.BytesArg
namespace Go.H
set_option linter.unusedVariables false
def nth{a:Type}:List a->Nat->Option a
 | [],_=>none
 |x::_,0=>some x
 |_::r,k+1=>nth r k
inductive N5 where
 |val (v:Value)
 |own (i k:Nat)
inductive AV where
 |val (v:Value)
 |own (i k:Nat)
 |box (i off:Nat)
 |hel (s:Value) (idx:Int) (sz k:Nat)
 |oel (i st:Nat) (idx:Int) (sz k:Nat)
 |agg (cs:List N5)
 |dead
inductive OSt where
 |live (e:TypeId) (sz by_:Nat) (nn:Bool) (xs:List (List Value))
 |frozen (v:Value)
structure Own where
 stamp:Nat
 st:OSt
inductive BSt where
 |live (cells:List N5) (ty:TypeId)
 |publ (b:Nat)
structure St where
 n:Nat
 fr:List (Nat×AV)
 bx:List BSt
 ow:List Own
def St.withOw(st:St)(l:List Own):St:=match st with
 |⟨n,fr,bx,_⟩=>⟨n,fr,bx,l⟩
def St.withBx(st:St)(l:List BSt):St:=match st with
 |⟨n,fr,_,ow⟩=>⟨n,fr,l,ow⟩
@[simp] theorem St.withOw_eq (st:St) (l:List Own):st.withOw l = { st with ow:=l }:=rfl
@[simp] theorem St.withBx_eq (st:St) (l:List BSt):st.withBx l = { st with bx:=l }:=rfl
def ptr(b off:Nat):Value := .pointer (some ⟨b,off,none⟩)
def G3:List (Nat×AV)->Nat->AV
 | [],_ => .dead
 |(k,v)::r,s=>match Nat.beq k s with
  |true=>v
  |false=>G3 r s
def SlE(h:Hp)(sz:Nat)(s:Value)(xs:List (List Value)):Prop :=
 (∀ x∈xs,x.length=sz/\∀ v∈x,v.oneCell'=true)/\∃ a n c,s = .slice a n c/\n=xs.length/\n<=c /\
  (xs.flatten = []∨∃ b o,a=some ⟨b,o,none⟩/\∀ j v,xs.flatten[j]?=some v->Hp.cell h b (o+j)=some v)
def Z7(h:Hp)(d:Value)(sz:Nat)(idx:Int)(c:List Value):Prop :=
 c.length=sz/\0<=idx/\∃ b o n a,d = .slice (some ⟨b,o,none⟩) n a/\∀ j v,c[j]?=some v->Hp.cell h b (o+idx.toNat*sz+j)=some v
def InB(s:Value)(j:Int):Prop:=∃ b o n c,s = .slice (some ⟨b,o,none⟩) n c/\0<=j/\j<(n:Int)
def U0(h h':Hp)(v:Value)(e:TypeId)(sz:Nat)(nn:Bool)(xs:List (List Value)):Prop :=
  (∀ x∈xs,x.length=sz/\∀ v∈x,v.oneCell'=true) /\
  ((v = .slice none 0 0/\xs = []/\nn=false/\h'=h) ∨
   ∃ g cap cur,v = .slice (some ⟨g,0,none⟩) xs.length cap/\h g=none/\h'=h.set g (.cells cur e (0,0)) /\
     xs.length<=cap/\cap<=maxLen/\cur.size=cap*sz/\cur.toList.take (xs.length*sz)=xs.flatten)
def W5(P:Program)(t:TypeId):Option Nat:=match P.info? t with
 |some i=>some i.size
 |none=>none
def F09(P:Program)(t:TypeId):Option Nat:=match P.info? t with
 |some i=>some i.bytes
 |none=>none
def K00(P:Program)(t:TypeId):Option Value:=match P.info? t with
 |some i=>i.zero
 |none=>none
def x0i(P:Program)(t:TypeId):Option Bool:=match P.underlying t with
 |some (.struct _)=>some true
 |some (.array _ _)=>some true
 |some _=>some false
 |none=>none
def y0i(P:Program)(t:TypeId)(k:Nat):Option Nat:=match P.underlying t with
 |some (.struct fs)=>match fs[k]? with
  |some f=>match W5 P f.type with
   |some (_+1)=>some f.offset
   |_=>none
  |none=>none
 |_=>none
def I0p(P:Program)(t:TypeId)(j:Int):Option Nat:=match P.underlying t,j with
 |some (.array n e),.ofNat m=>match W5 P e,Nat.blt m n with
  |some (sz+1),true=>some (m*(sz+1))
  |_,_=>none
 |_,_=>none
def V00(P:Program)(t:TypeId):Option TypeId:=match P.underlying t with
 |some (.slice e)=>some e
 |_=>none
def rdA(st:St):AV->AV
 | .own i k=>match nth st.ow i with
  |some ⟨a,o⟩=>match Nat.beq a k with
   |true=>match o with
    | .live .. => .own i k
    | .frozen v => .val v
   |false => .dead
  |none => .dead
 | .box i off=>match nth st.bx i with
  |some (.live ..) => .box i off
  |some (.publ b) => .val (ptr b off)
  |none => .dead
 | .oel i a idx sz k=>match nth st.ow i with
  |some ⟨c,.live ..⟩=>match Nat.beq c a with
   |true => .oel i a idx sz k
   |false => .dead
  |_ => .dead
 |av=>av
def rdO(st:St):Operand->AV
 | .tmp t=>rdA st (G3 st.fr t)
 | .const v => .val v
 | .global _ => .dead
 | .func f => .val (.func (.func f) #[] #[])
def B00{a:Type}:List a->Nat->a->List a
 | [],_,_=>[]
 |_::r,0,y=>y::r
 |x::r,k+1,y=>x::B00 r k y
def vals:List Value->List N5
 | []=>[]
 |v::r => .val v::vals r
def z0i(i k:Nat)(st:St)(h:Hp)(K:Value->St->Hp->Prop):Prop :=
 match nth st.ow i with
 |some ⟨s,.live e sz _ nn xs⟩=>match Nat.beq s k with
  |true=>∀ v h',U0 h h' v e sz nn xs->K v (st.withOw (B00 st.ow i ⟨s,.frozen v⟩)) h'
  |false=>False
 |some ⟨s,.frozen v⟩=>match Nat.beq s k with
  |true=>K v st h
  |false=>False
 |none=>False
def A07:List N5->St->Hp->(List Value->St->Hp->Prop)->Prop
 | [],st,h,K=>K [] st h
 | .val v::r,st,h,K=>A07 r st h λvs st h=>K (v::vs) st h
 | .own i k::r,st,h,K=>z0i i k st h λv st h=>A07 r st h λvs st h=>K (v::vs) st h
def J0p(i off:Nat)(st:St)(h:Hp)(K:Value->St->Hp->Prop):Prop :=
 match nth st.bx i with
 |some (.live cells ty)=>A07 cells st h λvs st h=>∀ b,h b=none ->
   K (ptr b off) (st.withBx (B00 st.bx i (.publ b))) (h.set b (.cells vs.toArray ty (0,0)))
 |some (.publ b)=>K (ptr b off) st h
 |none=>False
def rfy(av:AV)(st:St)(h:Hp)(K:Value->St->Hp->Prop):Prop :=
 match av with
 | .val v=>K v st h
 | .own i k=>z0i i k st h K
 | .box i off=>J0p i off st h K
 | .agg cs=>A07 cs st h λvs st h=>K (.agg vs.toArray) st h
 |_=>False
def Q0b:List Operand->St->Hp->(List (Nat×Value)->St->Hp->Prop)->Prop
 | [],st,h,K=>K [] st h
 | .tmp t::r,st,h,K=>rfy (rdO st (.tmp t)) st h λv st h=>Q0b r st h λvs st h=>K ((t,v)::vs) st h
 | .global _::_,_,_,_=>False
 |_::r,st,h,K=>Q0b r st h K
def k0n:List (Nat×Value)->Nat->Value
 | [],_=>undef
 |(k,v)::r,s=>match Nat.beq k s with
  |true=>v
  |false=>k0n r s
def rho(vs:List (Nat×Value)):Operand->Value
 | .tmp t=>k0n vs t
 | .const v=>v
 | .global g => .pointer (some ⟨g,0,none⟩)
 | .func f => .func (.func f) #[] #[]
def n0a:Op->Bool
 | .select _ _=>true
 |_=>false
def A0i(a:Operand->Value):List Operand->List Value
 | []=>[]
 |x::r=>a x::A0i a r
def K0p:List Value->List Value->List Value
 | [],l=>l
 |x::r,l=>x::K0p r l
def B07(a:Operand->Value)(o:Oper):Option (FuncId×List Value):=match o.op with
 | .call c=>match c.callee with
  | .value x=>match a x with
   | .func (.func f) first captured=>some (f,K0p first.toList (K0p (A0i a c.args.toList) captured.toList))
   |_=>none
  |_=>none
 |_=>none
def okF(P:Program)(f:FuncId):Bool:=match P.funcs[f]? with
 |some fn=>match fn.body with
  |some _=>match fn.name == "runtime.NumGoroutine" with
   |true=>false
   |false=>true
  |none=>false
 |none=>false
def C07:List Operand->List Bool
 | []=>[]
 | .const _::r=>true::C07 r
 |_::r=>false::C07 r
def W0g(a:Operand->Value)(o:Oper):Sem Next:=match o.op with
 | .call c=>match c.callee with
  | .builtin b=>invoke (.builtin b c.argTypes o.type (C07 c.args.toList).toArray) (A0i a c.args.toList).toArray
  |_=>execOp a o
 | .makeFunc fn first captured=>do pure (.value (←Instr.makeFunc fn (A0i a first.toList).toArray (A0i a captured.toList).toArray))
 |_=>execOp a o
def T05(P:Program)(o:Oper)(st:St)(h:Hp)(K:AV->St->Hp->Prop):Prop :=
 match n0a o.op with
 |true=>False
 |false=>Q0b o.op.operands.toList st h λvs st h=>match B07 (rho vs) o with
  |some (f,l)=>match okF P f with
   |true=>Tr P f l.toArray h λv a=>K (.val v) st a
   |false=>False
  |none=>wpS P (W0g (rho vs) o) h λn h'=>match n with
   | .value v=>K (.val v) st h'
   | .skip=>K (.val undef) st h'
   |_=>False
def evP(P:Program){b:Type}:Sem b->Option b
 | .pure a=>some a
 | .program k=>evP P (k P)
 | .mark _ k=>evP P k
 |_=>none
def L0p(P:Program)(o:Oper)(st:St)(h:Hp)(K:AV->St->Hp->Prop):Prop :=
 match n0a o.op with
 |true=>False
 |false=>Q0b o.op.operands.toList st h λvs _ hf=>match B07 (rho vs) o with
  |some (f,l)=>match okF P f with
   |true=>Tr P f l.toArray hf λr h'=>h'=hf/\K (.val r) st h
   |false=>False
  |none=>False
def M0p(st:St):List Operand->Bool
 | []=>false
 |x::r=>match rdO st x with
  | .own _ _=>true
  |_=>M0p st r
def e0m(P:Program)(o:Oper)(st:St)(h:Hp)(K:AV->St->Hp->Prop):Prop :=
 match M0p st o.op.operands.toList with
 |true=>T05 P o st h K∨L0p P o st h K
 |false=>T05 P o st h K
def D0u(P:Program)(a:Operand->Value)(o:Oper)(h h':Hp)(v:Value):Prop:=∀ K:Next->Hp->Prop,(K (.value v) h'/\(v=undef->K .skip h'))->wpS P (W0g a o) h K
def N0p(P:Program)(o:Oper)(st:St)(h:Hp)(K:AV->St->Hp->Prop):Prop :=
 match n0a o.op with
 |true=>False
 |false=>Q0b o.op.operands.toList st h λvs st h=>match B07 (rho vs) o with
  |some _=>False
  |none=>∃ v h',D0u P (rho vs) o h h' v/\K (.val v) st h'
def c00:AV->Option (List N5)
 | .val (.agg cs)=>some (vals cs.toList)
 | .val (.tuple _)=>none
 | .val v=>some [.val v]
 | .own i k=>some [.own i k]
 | .agg cs=>some cs
 |_=>none
def ofCell:N5->AV
 | .val v => .val v
 | .own i k => .own i k
def D06{a:Type}:List a->Nat->Bool
 | [],0=>true
 |_::r,k+1=>D06 r k
 |_,_=>false
def y04(P:Program)(t:TypeId)(cs:List N5)(off:Nat)(K:AV->Prop):Prop :=
 match x0i P t with
 |some true=>match W5 P t with
  |some n=>match D06 ((cs.drop off).take n) n with
   |true=>K (.agg ((cs.drop off).take n))
   |false=>False
  |none=>False
 |some false=>match nth cs off with
  |some c=>K (ofCell c)
  |none=>False
 |none=>False
def splice{a:Type}:List a->Nat->List a->List a
 |cs,_,[]=>cs
 |cs,off,x::r=>splice (B00 cs off x) (off+1) r
def G0o{a:Type}(cs:List a)(off:Nat)(new:List a)(K:List a->Prop):Prop :=
 match Nat.ble (off+new.length) cs.length with
 |true=>K (splice cs off new)
 |false=>False
def u0e:List N5->Option (List Value)
 | []=>some []
 | .val v::r=>match u0e r with
  |some vs=>some (v::vs)
  |none=>none
 | .own _ _::_=>none
def z04:List Value->Bool
 | []=>true
 |v::r=>match v.oneCell' with
  |true=>z04 r
  |false=>false
def j05(st:St):List N5->Bool
 | []=>true
 | .val v::r=>match v.oneCell' with
  |true=>j05 st r
  |false=>false
 | .own i k::r=>match rdA st (.own i k)with
  | .own _ _=>j05 st r
  | .val v=>match v.oneCell' with
   |true=>j05 st r
   |false=>false
  |_=>false
def R0j(sz:Nat):Nat->List (Nat×Operand)->St->Hp->(List (List Value)->St->Hp->Prop)->Prop
 |_,[],st,h,K=>K [] st h
 |i,(j,x)::r,st,h,K=>match Nat.beq i j with
  |true=>rfy (rdO st x) st h λv st h=>match D06 v.cells.toList sz,z04 v.cells.toList with
   |true,true=>R0j sz (i+1) r st h λvs st h=>K (v.cells.toList::vs) st h
   |_,_=>False
  |false=>False
def U05(P:Program):List Field->Bool
 | []=>true
 |f::r=>match W5 P f.type with
  |some _=>U05 P r
  |none=>false
def D07:AV->Option (List N5)
 | .val (.agg cs)=>some (vals cs.toList)
 | .agg cs=>some cs
 |_=>none
def E07(P:Program)(a:Array Field)(rd:Operand->AV):List (Nat×Operand)->List N5->(List N5->Prop)->Prop
 | [],cs,K=>K cs
 |(i,x)::r,cs,K=>match a[i]?,c00 (rd x)with
  |some f,some new=>match W5 P f.type with
   |some n=>match D06 new n,Nat.ble (f.offset+n) cs.length with
    |true,true=>E07 P a rd r (splice cs f.offset new) K
    |_,_=>False
   |none=>False
  |_,_=>False
def o0a(sz:Nat)(rd:Operand->AV):List (Nat×Operand)->List N5->(List N5->Prop)->Prop
 | [],cs,K=>K cs
 |(i,x)::r,cs,K=>match c00 (rd x)with
  |some new=>match D06 new sz,Nat.ble (i*sz+sz) cs.length with
   |true,true=>o0a sz rd r (splice cs (i*sz) new) K
   |_,_=>False
  |none=>False
def f0m{a:Type}:List a->(Nat->Prop)->Prop
 | [],K=>K 0
 |_::r,K=>f0m r λn=>K (n+1)
theorem p0a{a:Type}:∀(l:List a) (K:Nat->Prop),f0m l K=K l.length
 | [],K=>rfl
 |_::r,K=>by simp only[f0m,p0a r,List.length_cons]
def newOwn(st:St)(e:TypeId)(sz by_:Nat)(nn:Bool)(xs:List (List Value))(K:AV->St->Prop):Prop :=
 f0m st.ow λn=>K (.own n 0) (st.withOw (st.ow ++ [⟨0,.live e sz by_ nn xs⟩]))
theorem R0b(st:St)(e:TypeId)(sz by_:Nat)(nn:Bool)(xs:List (List Value))(K:AV->St->Prop):newOwn st e sz by_ nn xs K=K (.own st.ow.length 0) (st.withOw (st.ow ++ [⟨0,.live e sz by_ nn xs⟩])):=p0a _ _
def newBox(st:St)(cs:List N5)(t:TypeId)(K:AV->St->Prop):Prop :=
 f0m st.bx λn=>K (.box n 0) (st.withBx (st.bx ++ [.live cs t]))
theorem S0b(st:St)(cs:List N5)(t:TypeId)(K:AV->St->Prop):newBox st cs t K=K (.box st.bx.length 0) (st.withBx (st.bx ++ [.live cs t])):=p0a _ _
def v0e(st:St)(h:Hp)(sz:Nat)(av:AV)(K:List (List Value)->Prop):Prop :=
 match av with
 | .own j _=>match nth st.ow j with
  |some ⟨_,.live _ b _ _ a⟩=>match Nat.beq b sz with
   |true=>K a
   |false=>False
  |_=>False
 | .val s=>∃ a,SlE h sz s a/\K a
 |_=>False
def E0u(av:AV)(i:Nat):Bool:=match av with
 | .own j _=>Nat.beq i j
 |_=>false
def J03:List (List Value)->Bool
 | []=>false
 |_::_=>true
def V05(n by_:Nat):Prop:=n*by_<=140737488355328
def w0e(h:Hp)(sz:Nat)(v:Value)(xs:List (List Value)):Prop :=
 (∀ x∈xs,x.length=sz/\∀ v∈x,v.oneCell'=true)/\∃ g o c cur ty,v = .slice (some ⟨g,o,none⟩) xs.length c/\xs.length<=c/\c<=maxLen/\o+c*sz<=cur.size/\h g=some (.cells cur ty (0,0)) /\
  ∀ j u,xs.flatten[j]?=some u->cur[o+j]?=some u
def B0i(h h':Hp)(sz g:Nat)(v:Value)(f:List (List Value)):Prop :=
 w0e h' sz v f/\∃ a e d c,v = .slice (some ⟨a,e,none⟩) d c/\(a=g∨h a=none)/\∀ b,b≠a->h' b=h b
def g0m(h h':Hp)(sz:Nat)(v:Value)(f:List (List Value)):Prop :=
 w0e h' sz v f/\∃ a e d c,v = .slice (some ⟨a,e,none⟩) d c/\h a=none/\∀ b,b≠a->h' b=h b
def x0e(P:Program)(t:TypeId)(a b:Operand)(st:St)(h:Hp)(K:AV->St->Hp->Prop):Prop :=
 match V00 P t with
 |some e=>match W5 P e,F09 P e,K00 P e with
  |some (sz+1),some (by_+1),some z=>match D06 z.cells.toList (sz+1)with
   |true=>match rdO st a with
    | .own i k=>match nth st.ow i with
     |some ⟨f,.live j l m nn xs⟩=>match Nat.beq j e,Nat.beq l (sz+1),E0u (rdO st b) i with
      |true,true,false=>v0e st h (sz+1) (rdO st b) λd=>V05 (xs.length+d.length) (by_+1) /\
        K (.own i (f+1)) (st.withOw (B00 st.ow i ⟨f+1,.live e (sz+1) (by_+1) (nn || J03 d) (xs++d)⟩)) h
      |_,_,_=>False
     |_=>False
    | .val (.slice none 0 0)=>(v0e st h (sz+1) (rdO st b) λd=>V05 d.length (by_+1) /\
      newOwn st e (sz+1) (by_+1) (J03 d) d λav st=>K av st h) ∨
     (v0e st h (sz+1) (rdO st b) λd=>(J03 d=true/\V05 d.length (by_+1))/\∀ v h',g0m h h' (sz+1) v d->K (.val v) st h')
    | .val (.slice (some ⟨g,o,none⟩) n c)=>v0e st h (sz+1) (rdO st b) λd=>∃ xs,w0e h (sz+1) (.slice (some ⟨g,o,none⟩) n c) xs/\V05 (xs.length+d.length) (by_+1) /\
      ∀ v h',B0i h h' (sz+1) g v (xs++d)->K (.val v) st h'
    |_=>False
   |false=>False
  |_,_,_=>False
 |none=>False
def h0m(i:Nat)(c b:Option AV)(st:St)(h:Hp)(K:AV->St->Hp->Prop):Prop :=
 match c,b with
 |none,some (.val (.int _ m))=>match nth st.ow i with
  |some ⟨a,.live e sz by_ nn xs⟩=>(0<=m/\m<=(xs.length:Int)) /\
    K (.own i (a+1)) (st.withOw (B00 st.ow i ⟨a+1,.live e sz by_ nn (xs.take m.toNat)⟩)) h
  |_=>False
 |_,_=>False
def k05(d:Int):Option AV->Option Int
 |none=>some d
 |some (.val (.int _ n))=>some n
 |_=>none
def S0j(sz:Nat)(b:Value)(l m:Nat)(v:Value):Prop:=∀ a n c,b = .slice a n c->v = .slice (if c=l then a else a.map (·.add (l*sz))) (m-l) (c-l)
def i0m(sz:Nat)(a:Value)(n:Nat)(c b:Option AV)(st:St)(h:Hp)(K:AV->St->Hp->Prop):Prop :=
 match k05 0 c,k05 n b with
 |some l,some m=>(0<=l/\l<=m/\m<=(n:Int))/\∃ xs,SlE h sz a xs/\∀ v,SlE h sz v ((xs.take m.toNat).drop l.toNat)->S0j sz a l.toNat m.toNat v->K (.val v) st h
 |_,_=>False
def O0p(a:ByteArray)(c b:Option AV)(st:St)(h:Hp)(K:AV->St->Hp->Prop):Prop :=
 match k05 0 c,k05 a.size b with
 |some l,some m=>(0<=l/\l<=m/\m<=(a.size:Int))/\K (.val (.string (a.extract l.toNat m.toNat))) st h
 |_,_=>False
def A04:AV->Option Value
 | .val v=>some v
 | .agg cs=>match u0e cs with
  |some vs=>some (.agg vs.toArray)
  |none=>none
 |_=>none
def y0e(P:Program)(o:Oper)(x y:Operand)(xs c:Value)(b:Bool):Prop:=∀ a:Operand->Value,a x=xs->a y=c->∀ w:World,(execOp a o).run P w = .ok (.value (.bool b)) w
def F07(h:Hp)(c:Value)(idx:Int)(off:Nat)(v:Value)(K:Hp->Prop):Prop :=
 ∃ b of n a cur ty,(c = .slice (some ⟨b,of,none⟩) n a/\0<=idx/\h b=some (.cells cur ty (0,0))/\of+off<cur.size/\v02 v) /\
  K (h.set b (.cells (cur.setIfInBounds (of+off) v) ty (0,0)))
theorem F07.mk{h:Hp}{b of n a p:Nat}{cur:Array Value}{ty:TypeId}{idx:Int}{off:Nat}{v:Value}{K:Hp->Prop}(c:0<=idx)(d:h b=some (.cells cur ty (0,0)))(e:p<cur.size)(g:of+off=p)(f:v02 v)
  (i:K (h.set b (.cells (cur.setIfInBounds p v) ty (0,0)))):F07 h (.slice (some ⟨b,of,none⟩) n a) idx off v K:=by
 subst g
 exact⟨b,of,n,a,cur,ty,⟨rfl,c,d,e,f⟩,i⟩
def x08(h:Hp)(c:Value)(idx:Int)(off:Nat)(new:List Value)(K:Hp->Prop):Prop :=
 ∃ b of n a cur ty,(c = .slice (some ⟨b,of,none⟩) n a/\0<=idx/\h b=some (.cells cur ty (0,0))/\of+off+new.length<=cur.size) /\
  K (h.set b (.cells (splice cur.toList (of+off) new).toArray ty (0,0)))
def c8(P:Program)(o:Oper)(st:St)(h:Hp)(K:AV->St->Hp->Prop):Prop :=
 match o.op with
 | .move x | .assign x=>match rdO st x with
  | .dead=>False
  |a=>K a st h
 | .box t x=>match c00 (rdO st x)with
  |some cs=>newBox st cs t λav st=>K av st h
  |none=>False
 | .alloc t=>match K00 P t with
  |some z=>newBox st (vals z.cells.toList) t λav st=>K av st h
  |none=>False
 | .fieldAddr t x k=>match rdO st x,y0i P t k with
  | .box i off,some g=>K (.box i (off+g)) st h
  | .hel d i sz k,some g=>K (.hel d i sz (k+g)) st h
  | .oel i d j sz k,some g=>K (.oel i d j sz (k+g)) st h
  | .val (.pointer (some ⟨b,off,none⟩)),some g=>K (.val (ptr b (off+g))) st h
  |_,_=>False
 | .indexAddr t x i=>match rdO st i with
  | .val (.int _ j)=>match V00 P t with
   |some e=>match W5 P e with
    |some sz=>match rdO st x with
     | .val (.slice a n c)=>InB (.slice a n c) j/\K (.hel (.slice a n c) j sz 0) st h
     | .own i k=>match nth st.ow i with
      |some ⟨_,.live _ p _ _ xs⟩=>match Nat.beq p sz with
       |true=>(0<=j/\j<(xs.length:Int))/\K (.oel i k j sz 0) st h
       |false=>False
      |_=>False
     |_=>False
    |none=>False
   |none=>match rdO st x,I0p P t j with
    | .box i off,some g=>K (.box i (off+g)) st h
    | .hel d i sz k,some g=>K (.hel d i sz (k+g)) st h
    | .oel i d j sz k,some g=>K (.oel i d j sz (k+g)) st h
    |_,_=>False
  |_=>False
 | .load t x=>match rdO st x with
  | .box i off=>match nth st.bx i with
   |some (.live cs _)=>y04 P t cs off λav=>K av st h
   |_=>False
  | .hel d idx sz k=>∃ c,Z7 h d sz idx c/\y04 P t (vals c) k λav=>K av st h
  | .oel i _ idx sz k=>match nth st.ow i with
   |some ⟨_,.live _ p _ _ xs⟩=>match Nat.beq p sz with
    |true=>∃ c,xs[idx.toNat]?=some c/\y04 P t (vals c) k λav=>K av st h
    |false=>False
   |_=>False
  |_=>T05 P o st h K
 | .store t a x=>match rdO st a with
  | .box i off=>match nth st.bx i,c00 (rdO st x),W5 P t with
   |some (.live cs ty),some new,some n=>match D06 new n,j05 st new with
    |true,true=>G0o cs off new λcs=>K (.val undef) (st.withBx (B00 st.bx i (.live cs ty))) h
    |_,_=>False
   |_,_,_=>False
  | .oel i d idx sz k=>rfy (rdO st x) st h λv st h=>match nth st.ow i,W5 P t with
   |some ⟨B,.live e p by_ nn xs⟩,some n=>match D06 v.cells.toList n,z04 v.cells.toList,Nat.beq B d,Nat.beq p sz with
    |true,true,true,true=>∃ c,xs[idx.toNat]?=some c/\G0o c k v.cells.toList λC =>
      K (.val undef) (st.withOw (B00 st.ow i ⟨B,.live e p by_ nn (xs.set idx.toNat C)⟩)) h
    |_,_,_,_=>False
   |_,_=>False
  | .hel d idx sz k=>match rdO st x with
   | .val v=>match W5 P t with
    |some 1=>F07 h d idx (idx.toNat*sz+k) v λh'=>K (.val undef) st h'
    |some n=>match D06 v.cells.toList n,z04 v.cells.toList with
     |true,true=>x08 h d idx (idx.toNat*sz+k) v.cells.toList λh'=>K (.val undef) st h'
     |_,_=>False
    |_=>False
   | .agg cs=>match W5 P t,u0e cs with
    |some n,some new=>match D06 new n,z04 new with
     |true,true=>x08 h d idx (idx.toNat*sz+k) new λh'=>K (.val undef) st h'
     |_,_=>False
    |_,_=>False
   |_=>False
  |_=>T05 P o st h K
 | .build t ps=>match P.underlying t,K00 P t with
  |some (.struct q),some z=>match U05 P q.toList with
   |true=>E07 P q (rdO st) ps.toList (vals z.cells.toList) λcs=>K (.agg cs) st h
   |false=>False
  |some (.array _ e),some z=>match W5 P e with
   |some sz=>o0a sz (rdO st) ps.toList (vals z.cells.toList) λcs=>K (.agg cs) st h
   |none=>False
  |_,_=>False
 | .buildSlice t n ps=>match V00 P t with
  |some e=>match W5 P e,F09 P e,K00 P e with
   |some (sz+1),some by_,some z=>match Nat.beq n ps.size,Nat.ble (n*(sz+1)) 16777216,D06 z.cells.toList (sz+1)with
    |true,true,true=>R0j (sz+1) 0 ps.toList st h λxs st h=>newOwn st e (sz+1) by_ true xs λav st=>K av st h
    |_,_,_=>False
   |_,_,_=>False
  |none=>False
 | .makeSlice t l c=>match V00 P t with
  |some e=>match W5 P e,F09 P e,K00 P e,rdO st l,rdO st c with
   |some (sz+1),some by_,some z,.val (.int _ u),.val (.int _ s)=>match D06 z.cells.toList (sz+1),z04 z.cells.toList with
    |true,true=>(0<=u/\u<=s/\s*by_<=140737488355328/\s<=9223372036854775807) /\
      newOwn st e (sz+1) by_ true (List.replicate u.toNat z.cells.toList) λav st=>K av st h
    |_,_=>False
   |_,_,_,_,_=>False
  |none=>False
 | .field t x k=>match D07 (rdO st x),P.underlying t with
  |some cs,some (.struct q)=>match q[k]? with
   |some f=>y04 P f.type cs f.offset λav=>K av st h
   |none=>False
  |_,_=>False
 | .slice t x lo hi none=>match rdO st x with
  | .own i _=>match V00 P t with
   |some e=>match W5 P e with
    |some _=>h0m i (lo.map (rdO st)) (hi.map (rdO st)) st h K
    |none=>False
   |none=>False
  | .val (.slice a n c)=>match V00 P t with
   |some e=>match W5 P e with
    |some sz=>i0m sz (.slice a n c) n (lo.map (rdO st)) (hi.map (rdO st)) st h K
    |none=>False
   |none=>False
  | .val (.string d)=>match P.underlying t with
   |some .string=>O0p d (lo.map (rdO st)) (hi.map (rdO st)) st h K
   |_=>False
  |_=>False
 | .index t x i=>match rdO st x,rdO st i,P.underlying t with
  | .val (.string d),.val (.int _ j),some .string=>∃ c,(0<=j/\d[j.toNat]?=some c)/\K (.val (.int .u8 c.toNat)) st h
  |_,_,_=>T05 P o st h K
 | .binOp .eql t x y _=>match A04 (rdO st x),A04 (rdO st y)with
  |some (.agg xs),some (.agg w)=>∃ b,y0e P o x y (.agg xs) (.agg w) b/\K (.val (.bool b)) st h
  |some (.slice a n m),some (.slice none 0 0)=>∃ b,y0e P o x y (.slice a n m) (.slice none 0 0) b/\K (.val (.bool b)) st h
  |_,_=>e0m P o st h K
 | .binOp .neq t x y _=>match A04 (rdO st x),A04 (rdO st y)with
  |some (.agg xs),some (.agg w)=>∃ b,y0e P o x y (.agg xs) (.agg w) b/\K (.val (.bool b)) st h
  |_,_=>e0m P o st h K
 | .binOp .add t x y _=>match rdO st x,rdO st y with
  | .val (.string a),.val (.string b)=>a.size+b.size<=9223372036854775807/\K (.val (.string (a++b))) st h
  |_,_=>T05 P o st h K
 | .binOp .quo t x y _=>match rdO st x,rdO st y with
  | .val (.int .i64 a),.val (.int .i64 b)=>b≠0/\K (.val (.int .i64 (IntKind.i64.wrap (a.tdiv b)))) st h
  |_,_=>T05 P o st h K
 | .binOp .rem t x y _=>match rdO st x,rdO st y with
  | .val (.int .i64 a),.val (.int .i64 b)=>b≠0/\K (.val (.int .i64 (a.tmod b))) st h
  |_,_=>T05 P o st h K
 | .binOp .shl t x y _=>match rdO st x,rdO st y with
  | .val (.int .i64 a),.val (.int .i64 b)=>0<=b/\K (.val (.int .i64 (IntKind.i64.wrap (a*2 ^ min b.toNat 64)))) st h
  |_,_=>T05 P o st h K
 | .binOp .shr t x y _=>match rdO st x,rdO st y with
  | .val (.int .i64 a),.val (.int .i64 b)=>0<=b/\K (.val (.int .i64 (a.fdiv (2 ^ min b.toNat 64)))) st h
  |_,_=>T05 P o st h K
 | .convert tf tt x=>match rdO st x with
  | .own i _=>match nth st.ow i,P.underlying tf,P.underlying tt with
   |some ⟨_,.live _ _ _ _ xs⟩,some (.slice e),some .string=>match P.underlying e with
    |some (.int .u8)=>∃ A:List Int,xs=A.map (λn=>[.int .u8 n])/\K (.val (.string (strOfNums A))) st h
    |_=>False
   |_,_,_=>e0m P o st h K
  |_=>e0m P o st h K
 | .call { callee := .builtin .len,args:=as,argTypes:=ts }=>match as.toList,ts.toList with
  | [x],[t]=>match rdO st x with
   | .own i _=>match nth st.ow i,V00 P t with
    |some ⟨_,.live _ _ _ _ xs⟩,some _=>K (.val (.int .i64 xs.length)) st h
    |_,_=>False
   |_=>T05 P o st h K
  |_,_=>False
 | .call { callee := .builtin .append,args:=as,argTypes:=ts }=>match as.toList,ts.toList with
  | [a,b],[t,D]=>match Nat.beq t D with
   |true=>x0e P t a b st h K
   |false=>False
  |_,_=>False
 | .lookup _ _ _ _=>N0p P o st h K
 | .mapUpdate _ _ _ _=>N0p P o st h K
 | .insert _ _ _ _=>N0p P o st h K
 |_=>e0m P o st h K
end Go.H
