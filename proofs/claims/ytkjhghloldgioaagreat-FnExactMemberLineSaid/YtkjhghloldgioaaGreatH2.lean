/- Plain laws over the model: what a function's code asks, written out by a recursive function; slices and variables that the call itself makes are kept apart as lists. -/
import Derived.Test.YtkjhghloldgioaaGreatH1
import Derived.Laws.BytesArg
namespace Go.H
set_option linter.unusedVariables false
def nth{a:Type}:List a->Nat->Option a
 | [],_=>none
 |x::_,0=>some x
 |_::r,k+1=>nth r k
inductive p5 where
 |val (v:Value)
 |own (i k:Nat)
inductive AV where
 |val (v:Value)
 |own (i k:Nat)
 |box (i off:Nat)
 |hel (s:Value) (idx:Int) (sz k:Nat)
 |oel (i st:Nat) (idx:Int) (sz k:Nat)
 |agg (cs:List p5)
 |dead
inductive OSt where
 |live (e:TypeId) (sz by_:Nat) (nn:Bool) (xs:List (List Value))
 |frozen (v:Value)
structure Own where
 stamp:Nat
 st:OSt
inductive BSt where
 |live (cells:List p5) (ty:TypeId)
 |publ (b:Nat)
structure St where
 n:Nat
 fr:List (Nat×AV)
 bx:List BSt
 ow:List Own
def St.withOw(st:St)(l:List Own):St:=match st with
 |⟨n,fr,bx,_⟩=>⟨n,fr,bx,l⟩
def St.withBx(st:St)(l:List BSt):St:=match st with
 |⟨n,fr,_,ow⟩=>⟨n,fr,l,ow⟩
@[simp] theorem St.withOw_eq (st:St) (l:List Own):st.withOw l = { st with ow:=l }:=rfl
@[simp] theorem St.withBx_eq (st:St) (l:List BSt):st.withBx l = { st with bx:=l }:=rfl
def ptr(b off:Nat):Value := .pointer (some ⟨b,off,none⟩)
def D2:List (Nat×AV)->Nat->AV
 | [],_ => .dead
 |(k,v)::r,s=>match Nat.beq k s with
  |true=>v
  |false=>D2 r s
def SlE(h:Hp)(sz:Nat)(s:Value)(xs:List (List Value)):Prop :=
 (∀ x∈xs,x.length=sz/\∀ v∈x,v.oneCell'=true)/\∃ a n c,s = .slice a n c/\n=xs.length/\n<=c /\
  (xs.flatten = []∨∃ b o,a=some ⟨b,o,none⟩/\∀ j v,xs.flatten[j]?=some v->Hp.cell h b (o+j)=some v)
def Y8(h:Hp)(d:Value)(sz:Nat)(idx:Int)(c:List Value):Prop :=
 c.length=sz/\0<=idx/\∃ b o n a,d = .slice (some ⟨b,o,none⟩) n a/\∀ j v,c[j]?=some v->Hp.cell h b (o+idx.toNat*sz+j)=some v
def InB(s:Value)(j:Int):Prop:=∃ b o n c,s = .slice (some ⟨b,o,none⟩) n c/\0<=j/\j<(n:Int)
def E1(h a:Hp)(v:Value)(e:TypeId)(sz:Nat)(nn:Bool)(xs:List (List Value)):Prop :=
  (∀ x∈xs,x.length=sz/\∀ v∈x,v.oneCell'=true) /\
  ((v = .slice none 0 0/\xs = []/\nn=false/\a=h) ∨
   ∃ g cap cur,v = .slice (some ⟨g,0,none⟩) xs.length cap/\h g=none/\a=h.set g (.cells cur e (0,0)) /\
     xs.length<=cap/\cap<=maxLen/\cur.size=cap*sz/\cur.toList.take (xs.length*sz)=xs.flatten)
def G5(P:Program)(t:TypeId):Option Nat:=match P.info? t with
 |some i=>some i.size
 |none=>none
def Z07(P:Program)(t:TypeId):Option Nat:=match P.info? t with
 |some i=>some i.bytes
 |none=>none
def v00(P:Program)(t:TypeId):Option Value:=match P.info? t with
 |some i=>i.zero
 |none=>none
def y0f(P:Program)(t:TypeId):Option Bool:=match P.underlying t with
 |some (.struct _)=>some true
 |some (.array _ _)=>some true
 |some _=>some false
 |none=>none
def z0f(P:Program)(t:TypeId)(k:Nat):Option Nat:=match P.underlying t with
 |some (.struct fs)=>match fs[k]? with
  |some f=>match G5 P f.type with
   |some (_+1)=>some f.offset
   |_=>none
  |none=>none
 |_=>none
def k00(P:Program)(t:TypeId):Option TypeId:=match P.underlying t with
 |some (.slice e)=>some e
 |_=>none
def rdA(st:St):AV->AV
 | .own i k=>match nth st.ow i with
  |some ⟨a,o⟩=>match Nat.beq a k with
   |true=>match o with
    | .live .. => .own i k
    | .frozen v => .val v
   |false => .dead
  |none => .dead
 | .box i off=>match nth st.bx i with
  |some (.live ..) => .box i off
  |some (.publ b) => .val (ptr b off)
  |none => .dead
 | .oel i a idx sz k=>match nth st.ow i with
  |some ⟨c,.live ..⟩=>match Nat.beq c a with
   |true => .oel i a idx sz k
   |false => .dead
  |_ => .dead
 |av=>av
def rdO(st:St):Operand->AV
 | .tmp t=>rdA st (D2 st.fr t)
 | .const v => .val v
 | .global _ => .dead
 | .func f => .val (.func (.func f) #[] #[])
def F9{a:Type}:List a->Nat->a->List a
 | [],_,_=>[]
 |_::r,0,y=>y::r
 |x::r,k+1,y=>x::F9 r k y
def vals:List Value->List p5
 | []=>[]
 |v::r => .val v::vals r
def A0f(i k:Nat)(st:St)(h:Hp)(K:Value->St->Hp->Prop):Prop :=
 match nth st.ow i with
 |some ⟨a,.live e sz _ nn xs⟩=>match Nat.beq a k with
  |true=>∀ v b,E1 h b v e sz nn xs->K v (st.withOw (F9 st.ow i ⟨a,.frozen v⟩)) b
  |false=>False
 |some ⟨a,.frozen v⟩=>match Nat.beq a k with
  |true=>K v st h
  |false=>False
 |none=>False
def Y05:List p5->St->Hp->(List Value->St->Hp->Prop)->Prop
 | [],st,h,K=>K [] st h
 | .val v::r,st,h,K=>Y05 r st h λvs st h=>K (v::vs) st h
 | .own i k::r,st,h,K=>A0f i k st h λv st h=>Y05 r st h λvs st h=>K (v::vs) st h
def w0m(i off:Nat)(st:St)(h:Hp)(K:Value->St->Hp->Prop):Prop :=
 match nth st.bx i with
 |some (.live cells ty)=>Y05 cells st h λvs st h=>∀ b,h b=none ->
   K (ptr b off) (st.withBx (F9 st.bx i (.publ b))) (h.set b (.cells vs.toArray ty (0,0)))
 |some (.publ b)=>K (ptr b off) st h
 |none=>False
def rfy(av:AV)(st:St)(h:Hp)(K:Value->St->Hp->Prop):Prop :=
 match av with
 | .val v=>K v st h
 | .own i k=>A0f i k st h K
 | .box i off=>w0m i off st h K
 | .agg cs=>Y05 cs st h λvs st h=>K (.agg vs.toArray) st h
 |_=>False
def X0b:List Operand->St->Hp->(List (Nat×Value)->St->Hp->Prop)->Prop
 | [],st,h,K=>K [] st h
 | .tmp t::r,st,h,K=>rfy (rdO st (.tmp t)) st h λv st h=>X0b r st h λvs st h=>K ((t,v)::vs) st h
 | .global _::_,_,_,_=>False
 |_::r,st,h,K=>X0b r st h K
def V0j:List (Nat×Value)->Nat->Value
 | [],_=>undef
 |(k,v)::r,s=>match Nat.beq k s with
  |true=>v
  |false=>V0j r s
def rho(vs:List (Nat×Value)):Operand->Value
 | .tmp t=>V0j vs t
 | .const v=>v
 | .global g => .pointer (some ⟨g,0,none⟩)
 | .func f => .func (.func f) #[] #[]
def Y0a:Op->Bool
 | .select _ _=>true
 |_=>false
def B0f(a:Operand->Value):List Operand->List Value
 | []=>[]
 |x::r=>a x::B0f a r
def x0m:List Value->List Value->List Value
 | [],l=>l
 |x::r,l=>x::x0m r l
def J07(a:Operand->Value)(o:Oper):Option (FuncId×List Value):=match o.op with
 | .call c=>match c.callee with
  | .value x=>match a x with
   | .func (.func f) first captured=>some (f,x0m first.toList (x0m (B0f a c.args.toList) captured.toList))
   |_=>none
  |_=>none
 |_=>none
def okF(P:Program)(f:FuncId):Bool:=match P.funcs[f]? with
 |some fn=>match fn.body with
  |some _=>match fn.name == "runtime.NumGoroutine" with
   |true=>false
   |false=>true
  |none=>false
 |none=>false
def Z05:List Operand->List Bool
 | []=>[]
 | .const _::r=>true::Z05 r
 |_::r=>false::Z05 r
def F0g(a:Operand->Value)(o:Oper):Sem Next:=match o.op with
 | .call c=>match c.callee with
  | .builtin b=>invoke (.builtin b c.argTypes o.type (Z05 c.args.toList).toArray) (B0f a c.args.toList).toArray
  |_=>execOp a o
 | .makeFunc fn first captured=>do pure (.value (←Instr.makeFunc fn (B0f a first.toList).toArray (B0f a captured.toList).toArray))
 |_=>execOp a o
def G04(P:Program)(o:Oper)(st:St)(h:Hp)(K:AV->St->Hp->Prop):Prop :=
 match Y0a o.op with
 |true=>False
 |false=>X0b o.op.operands.toList st h λvs st h=>match J07 (rho vs) o with
  |some (f,l)=>match okF P f with
   |true=>Tr P f l.toArray h λv b=>K (.val v) st b
   |false=>False
  |none=>wpS P (F0g (rho vs) o) h λn a=>match n with
   | .value v=>K (.val v) st a
   | .skip=>K (.val undef) st a
   |_=>False
def evP(P:Program){b:Type}:Sem b->Option b
 | .pure a=>some a
 | .program k=>evP P (k P)
 | .mark _ k=>evP P k
 |_=>none
def y0m(P:Program)(o:Oper)(st:St)(h:Hp)(K:AV->St->Hp->Prop):Prop :=
 match Y0a o.op with
 |true=>False
 |false=>X0b o.op.operands.toList st h λvs _ hf=>match J07 (rho vs) o with
  |some (f,l)=>match okF P f with
   |true=>Tr P f l.toArray hf λr a=>a=hf/\K (.val r) st h
   |false=>False
  |none=>False
def z0m(st:St):List Operand->Bool
 | []=>false
 |x::r=>match rdO st x with
  | .own _ _=>true
  |_=>z0m st r
def N0i(P:Program)(o:Oper)(st:St)(h:Hp)(K:AV->St->Hp->Prop):Prop :=
 match z0m st o.op.operands.toList with
 |true=>G04 P o st h K∨y0m P o st h K
 |false=>G04 P o st h K
def q00:AV->Option (List p5)
 | .val (.agg cs)=>some (vals cs.toList)
 | .val (.tuple _)=>none
 | .val v=>some [.val v]
 | .own i k=>some [.own i k]
 | .agg cs=>some cs
 |_=>none
def ofCell:p5->AV
 | .val v => .val v
 | .own i k => .own i k
def T05{a:Type}:List a->Nat->Bool
 | [],0=>true
 |_::r,k+1=>T05 r k
 |_,_=>false
def A03(P:Program)(t:TypeId)(cs:List p5)(off:Nat)(K:AV->Prop):Prop :=
 match y0f P t with
 |some true=>match G5 P t with
  |some n=>match T05 ((cs.drop off).take n) n with
   |true=>K (.agg ((cs.drop off).take n))
   |false=>False
  |none=>False
 |some false=>match nth cs off with
  |some c=>K (ofCell c)
  |none=>False
 |none=>False
def splice{a:Type}:List a->Nat->List a->List a
 |cs,_,[]=>cs
 |cs,off,x::r=>splice (F9 cs off x) (off+1) r
def m0l{a:Type}(cs:List a)(off:Nat)(new:List a)(K:List a->Prop):Prop :=
 match Nat.ble (off+new.length) cs.length with
 |true=>K (splice cs off new)
 |false=>False
def Y0b:List p5->Option (List Value)
 | []=>some []
 | .val v::r=>match Y0b r with
  |some vs=>some (v::vs)
  |none=>none
 | .own _ _::_=>none
def B03:List Value->Bool
 | []=>true
 |v::r=>match v.oneCell' with
  |true=>B03 r
  |false=>false
def a04(st:St):List p5->Bool
 | []=>true
 | .val v::r=>match v.oneCell' with
  |true=>a04 st r
  |false=>false
 | .own i k::r=>match rdA st (.own i k)with
  | .own _ _=>a04 st r
  | .val v=>match v.oneCell' with
   |true=>a04 st r
   |false=>false
  |_=>false
def G0g(sz:Nat):Nat->List (Nat×Operand)->St->Hp->(List (List Value)->St->Hp->Prop)->Prop
 |_,[],st,h,K=>K [] st h
 |i,(j,x)::r,st,h,K=>match Nat.beq i j with
  |true=>rfy (rdO st x) st h λv st h=>match T05 v.cells.toList sz,B03 v.cells.toList with
   |true,true=>G0g sz (i+1) r st h λvs st h=>K (v.cells.toList::vs) st h
   |_,_=>False
  |false=>False
def H04(P:Program):List Field->Bool
 | []=>true
 |f::r=>match G5 P f.type with
  |some _=>H04 P r
  |none=>false
def a06:AV->Option (List p5)
 | .val (.agg cs)=>some (vals cs.toList)
 | .agg cs=>some cs
 |_=>none
def b06(P:Program)(a:Array Field)(rd:Operand->AV):List (Nat×Operand)->List p5->(List p5->Prop)->Prop
 | [],cs,K=>K cs
 |(i,x)::r,cs,K=>match a[i]?,q00 (rd x)with
  |some f,some new=>match G5 P f.type with
   |some n=>match T05 new n,Nat.ble (f.offset+n) cs.length with
    |true,true=>b06 P a rd r (splice cs f.offset new) K
    |_,_=>False
   |none=>False
  |_,_=>False
def O0i{a:Type}:List a->(Nat->Prop)->Prop
 | [],K=>K 0
 |_::r,K=>O0i r λn=>K (n+1)
theorem B08{a:Type}:∀(l:List a) (K:Nat->Prop),O0i l K=K l.length
 | [],K=>rfl
 |_::r,K=>by simp only[O0i,B08 r,List.length_cons]
def newOwn(st:St)(e:TypeId)(sz by_:Nat)(nn:Bool)(xs:List (List Value))(K:AV->St->Prop):Prop :=
 O0i st.ow λn=>K (.own n 0) (st.withOw (st.ow ++ [⟨0,.live e sz by_ nn xs⟩]))
theorem O09(st:St)(e:TypeId)(sz by_:Nat)(nn:Bool)(xs:List (List Value))(K:AV->St->Prop):newOwn st e sz by_ nn xs K=K (.own st.ow.length 0) (st.withOw (st.ow ++ [⟨0,.live e sz by_ nn xs⟩])):=B08 _ _
def newBox(st:St)(cs:List p5)(t:TypeId)(K:AV->St->Prop):Prop :=
 O0i st.bx λn=>K (.box n 0) (st.withBx (st.bx ++ [.live cs t]))
theorem P09(st:St)(cs:List p5)(t:TypeId)(K:AV->St->Prop):newBox st cs t K=K (.box st.bx.length 0) (st.withBx (st.bx ++ [.live cs t])):=B08 _ _
def l0e(st:St)(h:Hp)(sz:Nat)(av:AV)(K:List (List Value)->Prop):Prop :=
 match av with
 | .own j _=>match nth st.ow j with
  |some ⟨_,.live _ b _ _ a⟩=>match Nat.beq b sz with
   |true=>K a
   |false=>False
  |_=>False
 | .val s=>∃ a,SlE h sz s a/\K a
 |_=>False
def p0q(av:AV)(i:Nat):Bool:=match av with
 | .own j _=>Nat.beq i j
 |_=>false
def I04:List (List Value)->Bool
 | []=>false
 |_::_=>true
def C08(n by_:Nat):Prop:=n*by_<=140737488355328
def A0m(h:Hp)(sz:Nat)(v:Value)(xs:List (List Value)):Prop :=
 (∀ x∈xs,x.length=sz/\∀ v∈x,v.oneCell'=true)/\∃ g o c cur ty,v = .slice (some ⟨g,o,none⟩) xs.length c/\xs.length<=c/\c<=maxLen/\o+c*sz<=cur.size/\h g=some (.cells cur ty (0,0)) /\
  ∀ j u,xs.flatten[j]?=some u->cur[o+j]?=some u
def B0m(h c:Hp)(sz g:Nat)(v:Value)(i:List (List Value)):Prop :=
 A0m c sz v i/\∃ a f e d,v = .slice (some ⟨a,f,none⟩) e d/\(a=g∨h a=none)/\∀ b,b≠a->c b=h b
def Z0b(P:Program)(t:TypeId)(a b:Operand)(st:St)(h:Hp)(K:AV->St->Hp->Prop):Prop :=
 match k00 P t with
 |some e=>match G5 P e,Z07 P e,v00 P e with
  |some (sz+1),some (by_+1),some z=>match T05 z.cells.toList (sz+1)with
   |true=>match rdO st a with
    | .own i k=>match nth st.ow i with
     |some ⟨j,.live l m p nn xs⟩=>match Nat.beq l e,Nat.beq m (sz+1),p0q (rdO st b) i with
      |true,true,false=>l0e st h (sz+1) (rdO st b) λd=>C08 (xs.length+d.length) (by_+1) /\
        K (.own i (j+1)) (st.withOw (F9 st.ow i ⟨j+1,.live e (sz+1) (by_+1) (nn || I04 d) (xs++d)⟩)) h
      |_,_,_=>False
     |_=>False
    | .val (.slice none 0 0)=>l0e st h (sz+1) (rdO st b) λd=>C08 d.length (by_+1) /\
      newOwn st e (sz+1) (by_+1) (I04 d) d λav st=>K av st h
    | .val (.slice (some ⟨g,o,none⟩) n c)=>l0e st h (sz+1) (rdO st b) λd=>∃ xs,A0m h (sz+1) (.slice (some ⟨g,o,none⟩) n c) xs/\C08 (xs.length+d.length) (by_+1) /\
      ∀ v f,B0m h f (sz+1) g v (xs++d)->K (.val v) st f
    |_=>False
   |false=>False
  |_,_,_=>False
 |none=>False
def P0i(i:Nat)(c b:Option AV)(st:St)(h:Hp)(K:AV->St->Hp->Prop):Prop :=
 match c,b with
 |none,some (.val (.int _ m))=>match nth st.ow i with
  |some ⟨a,.live e sz by_ nn xs⟩=>(0<=m/\m<=(xs.length:Int)) /\
    K (.own i (a+1)) (st.withOw (F9 st.ow i ⟨a+1,.live e sz by_ nn (xs.take m.toNat)⟩)) h
  |_=>False
 |_,_=>False
def b04(d:Int):Option AV->Option Int
 |none=>some d
 |some (.val (.int _ n))=>some n
 |_=>none
def Q0i(sz:Nat)(b:Value)(l m:Nat)(v:Value):Prop:=∀ a n c,b = .slice a n c->v = .slice (if c=l then a else a.map (·.add (l*sz))) (m-l) (c-l)
def R0i(sz:Nat)(a:Value)(n:Nat)(c b:Option AV)(st:St)(h:Hp)(K:AV->St->Hp->Prop):Prop :=
 match b04 0 c,b04 n b with
 |some l,some m=>(0<=l/\l<=m/\m<=(n:Int))/\∃ xs,SlE h sz a xs/\∀ v,SlE h sz v ((xs.take m.toNat).drop l.toNat)->Q0i sz a l.toNat m.toNat v->K (.val v) st h
 |_,_=>False
def C0m(a:ByteArray)(c b:Option AV)(st:St)(h:Hp)(K:AV->St->Hp->Prop):Prop :=
 match b04 0 c,b04 a.size b with
 |some l,some m=>(0<=l/\l<=m/\m<=(a.size:Int))/\K (.val (.string (a.extract l.toNat m.toNat))) st h
 |_,_=>False
def C03:AV->Option Value
 | .val v=>some v
 | .agg cs=>match Y0b cs with
  |some vs=>some (.agg vs.toArray)
  |none=>none
 |_=>none
def D08(P:Program)(o:Oper)(x y:Operand)(xs c:Value)(b:Bool):Prop:=∀ a:Operand->Value,a x=xs->a y=c->∀ w:World,(execOp a o).run P w = .ok (.value (.bool b)) w
def c06(h:Hp)(c:Value)(idx:Int)(off:Nat)(v:Value)(K:Hp->Prop):Prop :=
 ∃ b of n a cur ty,(c = .slice (some ⟨b,of,none⟩) n a/\0<=idx/\h b=some (.cells cur ty (0,0))/\of+off<cur.size/\G02 v) /\
  K (h.set b (.cells (cur.setIfInBounds (of+off) v) ty (0,0)))
theorem c06.mk{h:Hp}{b of n a p:Nat}{cur:Array Value}{ty:TypeId}{idx:Int}{off:Nat}{v:Value}{K:Hp->Prop}(c:0<=idx)(d:h b=some (.cells cur ty (0,0)))(e:p<cur.size)(g:of+off=p)(f:G02 v)
  (i:K (h.set b (.cells (cur.setIfInBounds p v) ty (0,0)))):c06 h (.slice (some ⟨b,of,none⟩) n a) idx off v K:=by
 subst g
 exact⟨b,of,n,a,cur,ty,⟨rfl,c,d,e,f⟩,i⟩
def J04(h:Hp)(c:Value)(idx:Int)(off:Nat)(new:List Value)(K:Hp->Prop):Prop :=
 ∃ b of n a cur ty,(c = .slice (some ⟨b,of,none⟩) n a/\0<=idx/\h b=some (.cells cur ty (0,0))/\of+off+new.length<=cur.size) /\
  K (h.set b (.cells (splice cur.toList (of+off) new).toArray ty (0,0)))
def U7(P:Program)(o:Oper)(st:St)(h:Hp)(K:AV->St->Hp->Prop):Prop :=
 match o.op with
 | .move x | .assign x=>match rdO st x with
  | .dead=>False
  |a=>K a st h
 | .box t x=>match q00 (rdO st x)with
  |some cs=>newBox st cs t λav st=>K av st h
  |none=>False
 | .alloc t=>match v00 P t with
  |some z=>newBox st (vals z.cells.toList) t λav st=>K av st h
  |none=>False
 | .fieldAddr t x k=>match rdO st x,z0f P t k with
  | .box i off,some g=>K (.box i (off+g)) st h
  | .hel d i sz k,some g=>K (.hel d i sz (k+g)) st h
  | .oel i d j sz k,some g=>K (.oel i d j sz (k+g)) st h
  | .val (.pointer (some ⟨b,off,none⟩)),some g=>K (.val (ptr b (off+g))) st h
  |_,_=>False
 | .indexAddr t x i=>match rdO st i with
  | .val (.int _ j)=>match k00 P t with
   |some e=>match G5 P e with
    |some sz=>match rdO st x with
     | .val (.slice a n c)=>InB (.slice a n c) j/\K (.hel (.slice a n c) j sz 0) st h
     | .own i k=>match nth st.ow i with
      |some ⟨_,.live _ p _ _ xs⟩=>match Nat.beq p sz with
       |true=>(0<=j/\j<(xs.length:Int))/\K (.oel i k j sz 0) st h
       |false=>False
      |_=>False
     |_=>False
    |none=>False
   |none=>False
  |_=>False
 | .load t x=>match rdO st x with
  | .box i off=>match nth st.bx i with
   |some (.live cs _)=>A03 P t cs off λav=>K av st h
   |_=>False
  | .hel d idx sz k=>∃ c,Y8 h d sz idx c/\A03 P t (vals c) k λav=>K av st h
  | .oel i _ idx sz k=>match nth st.ow i with
   |some ⟨_,.live _ p _ _ xs⟩=>match Nat.beq p sz with
    |true=>∃ c,xs[idx.toNat]?=some c/\A03 P t (vals c) k λav=>K av st h
    |false=>False
   |_=>False
  |_=>G04 P o st h K
 | .store t a x=>match rdO st a with
  | .box i off=>match nth st.bx i,q00 (rdO st x),G5 P t with
   |some (.live cs ty),some new,some n=>match T05 new n,a04 st new with
    |true,true=>m0l cs off new λcs=>K (.val undef) (st.withBx (F9 st.bx i (.live cs ty))) h
    |_,_=>False
   |_,_,_=>False
  | .oel i d idx sz k=>rfy (rdO st x) st h λv st h=>match nth st.ow i,G5 P t with
   |some ⟨E,.live e p by_ nn xs⟩,some n=>match T05 v.cells.toList n,B03 v.cells.toList,Nat.beq E d,Nat.beq p sz with
    |true,true,true,true=>∃ c,xs[idx.toNat]?=some c/\m0l c k v.cells.toList λF =>
      K (.val undef) (st.withOw (F9 st.ow i ⟨E,.live e p by_ nn (xs.set idx.toNat F)⟩)) h
    |_,_,_,_=>False
   |_,_=>False
  | .hel d idx sz k=>match rdO st x with
   | .val v=>match G5 P t with
    |some 1=>c06 h d idx (idx.toNat*sz+k) v λq=>K (.val undef) st q
    |some n=>match T05 v.cells.toList n,B03 v.cells.toList with
     |true,true=>J04 h d idx (idx.toNat*sz+k) v.cells.toList λq=>K (.val undef) st q
     |_,_=>False
    |_=>False
   | .agg cs=>match G5 P t,Y0b cs with
    |some n,some new=>match T05 new n,B03 new with
     |true,true=>J04 h d idx (idx.toNat*sz+k) new λq=>K (.val undef) st q
     |_,_=>False
    |_,_=>False
   |_=>False
  |_=>G04 P o st h K
 | .build t ps=>match P.underlying t,v00 P t with
  |some (.struct s),some z=>match H04 P s.toList with
   |true=>b06 P s (rdO st) ps.toList (vals z.cells.toList) λcs=>K (.agg cs) st h
   |false=>False
  |_,_=>False
 | .buildSlice t n ps=>match k00 P t with
  |some e=>match G5 P e,Z07 P e,v00 P e with
   |some (sz+1),some by_,some z=>match Nat.beq n ps.size,Nat.ble (n*(sz+1)) 16777216,T05 z.cells.toList (sz+1)with
    |true,true,true=>G0g (sz+1) 0 ps.toList st h λxs st h=>newOwn st e (sz+1) by_ true xs λav st=>K av st h
    |_,_,_=>False
   |_,_,_=>False
  |none=>False
 | .makeSlice t l c=>match k00 P t with
  |some e=>match G5 P e,Z07 P e,v00 P e,rdO st l,rdO st c with
   |some (sz+1),some by_,some z,.val (.int _ w),.val (.int _ u)=>match T05 z.cells.toList (sz+1),B03 z.cells.toList with
    |true,true=>(0<=w/\w<=u/\u*by_<=140737488355328/\u<=9223372036854775807) /\
      newOwn st e (sz+1) by_ true (List.replicate w.toNat z.cells.toList) λav st=>K av st h
    |_,_=>False
   |_,_,_,_,_=>False
  |none=>False
 | .field t x k=>match a06 (rdO st x),P.underlying t with
  |some cs,some (.struct s)=>match s[k]? with
   |some f=>A03 P f.type cs f.offset λav=>K av st h
   |none=>False
  |_,_=>False
 | .slice t x lo hi none=>match rdO st x with
  | .own i _=>match k00 P t with
   |some e=>match G5 P e with
    |some _=>P0i i (lo.map (rdO st)) (hi.map (rdO st)) st h K
    |none=>False
   |none=>False
  | .val (.slice a n c)=>match k00 P t with
   |some e=>match G5 P e with
    |some sz=>R0i sz (.slice a n c) n (lo.map (rdO st)) (hi.map (rdO st)) st h K
    |none=>False
   |none=>False
  | .val (.string d)=>match P.underlying t with
   |some .string=>C0m d (lo.map (rdO st)) (hi.map (rdO st)) st h K
   |_=>False
  |_=>False
 | .index t x i=>match rdO st x,rdO st i,P.underlying t with
  | .val (.string d),.val (.int _ j),some .string=>∃ c,(0<=j/\d[j.toNat]?=some c)/\K (.val (.int .u8 c.toNat)) st h
  |_,_,_=>G04 P o st h K
 | .binOp .eql t x y _=>match C03 (rdO st x),C03 (rdO st y)with
  |some (.agg xs),some (.agg C)=>∃ b,D08 P o x y (.agg xs) (.agg C) b/\K (.val (.bool b)) st h
  |some (.slice a n m),some (.slice none 0 0)=>∃ b,D08 P o x y (.slice a n m) (.slice none 0 0) b/\K (.val (.bool b)) st h
  |_,_=>N0i P o st h K
 | .binOp .neq t x y _=>match C03 (rdO st x),C03 (rdO st y)with
  |some (.agg xs),some (.agg C)=>∃ b,D08 P o x y (.agg xs) (.agg C) b/\K (.val (.bool b)) st h
  |_,_=>N0i P o st h K
 | .binOp .add t x y _=>match rdO st x,rdO st y with
  | .val (.string a),.val (.string b)=>a.size+b.size<=9223372036854775807/\K (.val (.string (a++b))) st h
  |_,_=>G04 P o st h K
 | .binOp .quo t x y _=>match rdO st x,rdO st y with
  | .val (.int .i64 a),.val (.int .i64 b)=>b≠0/\K (.val (.int .i64 (IntKind.i64.wrap (a.tdiv b)))) st h
  |_,_=>G04 P o st h K
 | .binOp .rem t x y _=>match rdO st x,rdO st y with
  | .val (.int .i64 a),.val (.int .i64 b)=>b≠0/\K (.val (.int .i64 (a.tmod b))) st h
  |_,_=>G04 P o st h K
 | .binOp .shl t x y _=>match rdO st x,rdO st y with
  | .val (.int .i64 a),.val (.int .i64 b)=>0<=b/\K (.val (.int .i64 (IntKind.i64.wrap (a*2 ^ min b.toNat 64)))) st h
  |_,_=>G04 P o st h K
 | .binOp .shr t x y _=>match rdO st x,rdO st y with
  | .val (.int .i64 a),.val (.int .i64 b)=>0<=b/\K (.val (.int .i64 (a.fdiv (2 ^ min b.toNat 64)))) st h
  |_,_=>G04 P o st h K
 | .convert tf tt x=>match rdO st x with
  | .own i _=>match nth st.ow i,P.underlying tf,P.underlying tt with
   |some ⟨_,.live _ _ _ _ xs⟩,some (.slice e),some .string=>match P.underlying e with
    |some (.int .u8)=>∃ D:List Int,xs=D.map (λn=>[.int .u8 n])/\K (.val (.string (strOfNums D))) st h
    |_=>False
   |_,_,_=>N0i P o st h K
  |_=>N0i P o st h K
 | .call { callee := .builtin .len,args:=as,argTypes:=A }=>match as.toList,A.toList with
  | [x],[t]=>match rdO st x with
   | .own i _=>match nth st.ow i,k00 P t with
    |some ⟨_,.live _ _ _ _ xs⟩,some _=>K (.val (.int .i64 xs.length)) st h
    |_,_=>False
   |_=>G04 P o st h K
  |_,_=>False
 | .call { callee := .builtin .append,args:=as,argTypes:=A }=>match as.toList,A.toList with
  | [a,b],[t,G]=>match Nat.beq t G with
   |true=>Z0b P t a b st h K
   |false=>False
  |_,_=>False
 |_=>N0i P o st h K
end Go.H
