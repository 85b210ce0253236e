/- Plain laws over the model: what a function's code asks: regions with guards, regions that draw their order, branches and loops. -/
import Derived.Test.YtkjhghloldgioaaGreatH2
namespace Go.H
set_option linter.unusedVariables false
structure BE where
 j:Nat
 d:Nat
 e:Bool
 ch:List (Nat×Bool)
structure RS where
 st:St
 h:Hp
 gf:List (Nat×List (Nat×Bool)×AV)
 bs:List BE
def a0c:List (Nat×List (Nat×Bool)×AV)->Nat->Option (List (Nat×Bool)×AV)
 | [],_=>none
 |(k,x)::r,s=>match Nat.beq k s with
  |true=>some x
  |false=>a0c r s
def eqB(a b:Bool):Bool:=match a,b with
 |true,true=>true
 |false,false=>true
 |_,_=>false
def D0m:List (Nat×Bool)->List (Nat×Bool)->Bool
 | [],[]=>true
 |(j,w)::r,(a,c)::b=>match Nat.beq j a,eqB w c with
  |true,true=>D0m r b
  |_,_=>false
 |_,_=>false
def H0g(a:List (Nat×Bool)):List (Nat×Bool)->Bool
 | []=>D0m a []
 |x::r=>match D0m a (x::r)with
  |true=>true
  |false=>H0g a r
def rdG(rs:RS)(ch:List (Nat×Bool)):Operand->AV
 | .tmp t=>match a0c rs.gf t with
  |some (a,av)=>match H0g a ch with
   |true=>rdA rs.st av
   |false => .dead
  |none=>rdA rs.st (D2 rs.st.fr t)
 |x=>rdO rs.st x
def V01:List BE->Nat->Option BE
 | [],_=>none
 |b::r,j=>match Nat.beq b.j j with
  |true=>some b
  |false=>V01 r j
def E08:List BE->Nat->Option BE
 | [],_=>none
 |b::r,s=>match Nat.beq b.d s with
  |true=>some b
  |false=>E08 r s
def lit(w e:Bool):Bool:=match w with
 |true=>e
 |false => !e
def cB(bs:List BE):List (Nat×Bool)->Option Bool
 | []=>some true
 |(j,w)::r=>match V01 bs j with
  |some b=>match r with
   | []=>some (lit w b.e)
   |_=>match cB bs r with
    |some c=>some (lit w b.e&&c)
    |none=>none
  |none=>none
def j9(bs:List BE):Option (Nat×Bool)->Option (List (Nat×Bool))
 |none=>some []
 |some (j,w)=>match V01 bs j with
  |some b=>some ((j,w)::b.ch)
  |none=>none
def imp(ch:List (Nat×Bool))(c:Bool)(X:Prop):Prop:=match ch with
 | []=>X
 |_=>c=true->X
def I0g(rs:RS)(ch:List (Nat×Bool)):List Operand->Option (List (Nat×Value))
 | []=>some []
 | .tmp t::r=>match C03 (rdG rs ch (.tmp t))with
  |some v=>match I0g rs ch r with
   |some vs=>some ((t,v)::vs)
   |none=>none
  |none=>none
 | .global _::_=>none
 |_::r=>I0g rs ch r
def p0o(rs:RS)(ch:List (Nat×Bool)):List Operand->St->Hp->(List (Nat×Value)->St->Hp->Prop)->Prop
 | [],st,h,K=>K [] st h
 | .tmp t::r,st,h,K=>rfy (rdA st (rdG rs ch (.tmp t))) st h λv st h=>p0o rs ch r st h λvs st h=>K ((t,v)::vs) st h
 | .global _::_,_,_,_=>False
 |_::r,st,h,K=>p0o rs ch r st h K
def C0f(P:Program)(o:Oper)(ch:List (Nat×Bool))(c:Bool)(rs:RS)(K:AV->Prop):Prop :=
 match Y0a o.op,I0g rs ch o.op.operands.toList with
 |false,some vs=>match J07 (rho vs) o with
  |some (f,l)=>match okF P f with
   |true=>∃ v,imp ch c (Tr P f l.toArray rs.h λb a=>b=v/\a=rs.h)/\K (.val v)
   |false=>False
  |none=>match evP P (F0g (rho vs) o)with
   |some (.value v)=>K (.val v)
   |_=>False
 |false,none=>∃ r,imp ch c (p0o rs ch o.op.operands.toList rs.st rs.h λvs _ hf=>match J07 (rho vs) o with
  |some (f,l)=>match okF P f with
   |true=>Tr P f l.toArray hf λv a=>v=r/\a=hf
   |false=>False
  |none=>False)/\K (.val r)
 |_,_=>False
def evG(P:Program)(o:Oper)(ch:List (Nat×Bool))(c:Bool)(rs:RS)(K:AV->Prop):Prop :=
 match o.op with
 | .move x | .assign x=>match rdG rs ch x with
  | .dead=>False
  |a=>K a
 | .pick (.tmp d) a b=>match rdG rs ch (.tmp d),E08 rs.bs d with
  | .val (.bool e),some q=>match H0g q.ch ch with
   |true=>match rdG rs ((q.j,true)::q.ch) a,rdG rs ((q.j,false)::q.ch) b with
    | .val (.bool x),.val (.bool y)=>K (.val (.bool (cond e x y)))
    |_,_=>False
   |false=>False
  |_,_=>False
 | .fieldAddr t x k=>match rdG rs ch x,z0f P t k with
  | .box i off,some g=>K (.box i (off+g))
  | .hel d i sz k,some g=>K (.hel d i sz (k+g))
  | .oel i d j sz k,some g=>K (.oel i d j sz (k+g))
  |_,_=>False
 | .indexAddr t x i=>match rdG rs ch i with
  | .val (.int _ j)=>match k00 P t with
   |some e=>match G5 P e with
    |some sz=>match rdG rs ch x with
     | .val (.slice a n f)=>imp ch c (InB (.slice a n f) j)/\K (.hel (.slice a n f) j sz 0)
     | .own i k=>match nth rs.st.ow i with
      |some ⟨_,.live _ p _ _ xs⟩=>match Nat.beq p sz with
       |true=>imp ch c (0<=j/\j<(xs.length:Int))/\K (.oel i k j sz 0)
       |false=>False
      |_=>False
     |_=>False
    |none=>False
   |none=>False
  |_=>False
 | .load t x=>match rdG rs ch x with
  | .box i off=>match nth rs.st.bx i with
   |some (.live cs _)=>A03 P t cs off K
   |_=>False
  | .hel d idx sz k=>∃ e,imp ch c (Y8 rs.h d sz idx e)/\A03 P t (vals e) k K
  | .oel i _ idx sz k=>match nth rs.st.ow i with
   |some ⟨_,.live _ p _ _ xs⟩=>match Nat.beq p sz with
    |true=>∃ e,imp ch c (xs[idx.toNat]?=some e)/\A03 P t (vals e) k K
    |false=>False
   |_=>False
  |_=>False
 | .build t ps=>match P.underlying t,v00 P t with
  |some (.struct u),some z=>match H04 P u.toList with
   |true=>b06 P u (rdG rs ch) ps.toList (vals z.cells.toList) λcs=>K (.agg cs)
   |false=>False
  |_,_=>False
 | .index t x i=>match rdG rs ch x,rdG rs ch i,P.underlying t with
  | .val (.string d),.val (.int _ j),some .string=>∃ e,imp ch c (0<=j/\d[j.toNat]?=some e)/\K (.val (.int .u8 e.toNat))
  |_,_,_=>False
 | .slice t x lo hi none=>match rdG rs ch x,P.underlying t with
  | .val (.string d),some .string=>match b04 0 (lo.map (rdG rs ch)),b04 d.size (hi.map (rdG rs ch))with
   |some l,some m=>imp ch c (0<=l/\l<=m/\m<=(d.size:Int))/\K (.val (.string (d.extract l.toNat m.toNat)))
   |_,_=>False
  | .val (.slice w n f),_=>match k00 P t with
   |some e=>match G5 P e with
    |some sz=>match b04 0 (lo.map (rdG rs ch)),b04 n (hi.map (rdG rs ch))with
     |some l,some m=>∃ v,imp ch c ((0<=l/\l<=m/\m<=(n:Int)/\n<=f)/\Q0i sz (.slice w n f) l.toNat m.toNat v)/\K (.val v)
     |_,_=>False
    |none=>False
   |none=>False
  |_,_=>False
 | .binOp .eql t x y yt=>match C03 (rdG rs ch x),C03 (rdG rs ch y)with
  |some (.agg xs),some (.agg s)=>∃ b,imp ch c (D08 P o x y (.agg xs) (.agg s) b)/\K (.val (.bool b))
  |some (.slice a n m),some (.slice none 0 0)=>∃ b,imp ch c (D08 P o x y (.slice a n m) (.slice none 0 0) b)/\K (.val (.bool b))
  |_,_=>C0f P o ch c rs K
 | .binOp .neq t x y yt=>match C03 (rdG rs ch x),C03 (rdG rs ch y)with
  |some (.agg xs),some (.agg s)=>∃ b,imp ch c (D08 P o x y (.agg xs) (.agg s) b)/\K (.val (.bool b))
  |_,_=>C0f P o ch c rs K
 | .binOp .add t x y yt=>match rdG rs ch x,rdG rs ch y with
  | .val (.string a),.val (.string b)=>imp ch c (a.size+b.size<=9223372036854775807)/\K (.val (.string (a++b)))
  |_,_=>C0f P o ch c rs K
 | .binOp .quo t x y yt=>match rdG rs ch x,rdG rs ch y with
  | .val (.int .i64 a),.val (.int .i64 b)=>imp ch c (b≠0)/\K (.val (.int .i64 (IntKind.i64.wrap (a.tdiv b))))
  |_,_=>C0f P o ch c rs K
 | .binOp .rem t x y yt=>match rdG rs ch x,rdG rs ch y with
  | .val (.int .i64 a),.val (.int .i64 b)=>imp ch c (b≠0)/\K (.val (.int .i64 (a.tmod b)))
  |_,_=>C0f P o ch c rs K
 | .call { callee := .builtin .len,args:=as,argTypes:=A }=>match as.toList,A.toList with
  | [x],[t]=>match rdG rs ch x with
   | .own i _=>match nth rs.st.ow i,k00 P t with
    |some ⟨_,.live _ _ _ _ xs⟩,some _=>K (.val (.int .i64 xs.length))
    |_,_=>False
   |_=>C0f P o ch c rs K
  |_,_=>False
 |_=>C0f P o ch c rs K
def d06(rs:RS)(d:Nat):Bool:=match a0c rs.gf d,E08 rs.bs d with
 |none,none=>false
 |_,_=>true
def J0g(i d:Nat)(ch:List (Nat×Bool))(av:AV)(bs:List BE):List BE:=match av with
 | .val (.bool e)=>⟨i,d,e,ch⟩::bs
 |_=>bs
def b0c(d:Option Tmp)(i:Nat)(ch:List (Nat×Bool))(av:AV)(rs:RS)(K:RS->Prop):Prop :=
 match d with
 |none=>K rs
 |some d=>match Nat.blt d rs.st.n,d06 rs d with
  |true,false=>match ch with
   | []=>K { rs with st := { rs.st with fr:=(d,av)::rs.st.fr },bs:=J0g i d ch av rs.bs }
   |_=>K { rs with st := { rs.st with fr:=(d,.dead)::rs.st.fr },gf:=(d,ch,av)::rs.gf,bs:=J0g i d ch av rs.bs }
  |_,_=>False
def S0i:Op->Bool
 | .pick ..=>true
 |_=>false
def Z0a(P:Program):List Oper->Nat->RS->(RS->Prop)->Prop
 | [],_,rs,K=>K rs
 |o::r,i,rs,K=>match o.guard,S0i o.op with
  |none,false=>U7 P o rs.st rs.h λav st h=>b0c o.dst i [] av { rs with st:=st,h:=h } λrs=>Z0a P r (i+1) rs K
  |_,_=>match j9 rs.bs o.guard with
   |some ch=>match cB rs.bs ch with
    |some c=>evG P o ch c rs λav=>b0c o.dst i ch av rs λrs=>Z0a P r (i+1) rs K
    |none=>False
   |none=>False
def evQ(P:Program):List Oper->Nat->RS->(RS->Prop)->Prop
 | [],_,rs,K=>K rs
 |o::r,i,rs,K=>match j9 rs.bs o.guard with
  |some ch=>match cB rs.bs ch with
   |some c=>evG P o ch c rs λav=>b0c o.dst i ch av rs λrs=>evQ P r (i+1) rs K
   |none=>False
  |none=>False
def Sub(h a:Hp):Prop:=∀ b o,h b=some o->a b=some o
def E0m(v:Value)(K:Value->Prop):Prop:=match v with
 | .bool b=>K (.bool b)
 | .int k n=>K (.int k n)
 | .string s=>K (.string s)
 | .pointer a=>K (.pointer a)
 | .slice a n c=>K (.slice a n c)
 | .func f x y=>K (.func f x y)
 | .agg cs=>K (.agg cs)
 | .tuple vs=>K (.tuple vs)
 |v=>K v
theorem n0l(v:Value)(K:Value->Prop):E0m v K=K v:=by cases v<;>rfl
def K8{a:Type}:List a->(List a->Prop)->Prop
 | [],K=>K []
 |x::r,K=>K8 r λr=>K (x::r)
theorem h01{a:Type}:∀(l:List a) (K:List a->Prop),K8 l K=K l
 | [],K=>rfl
 |x::r,K=>by simp only[K8,h01 r]
def D03:Nat->(Nat->Prop)->Prop
 |0,K=>K 0
 |n+1,K=>D03 n λm=>K (m+1)
theorem e06:∀(n:Nat) (K:Nat->Prop),D03 n K=K n
 |0,K=>rfl
 |n+1,K=>by simp only[D03,e06 n]
def O00(av:AV)(K:AV->Prop):Prop:=match av with
 | .val v=>E0m v λv=>K (.val v)
 | .own i k=>K (.own i k)
 | .box i k=>K (.box i k)
 | .hel s i z k=>D03 z λz=>D03 k λk=>K (.hel s i z k)
 | .oel j s i z k=>D03 z λz=>D03 k λk=>K (.oel j s i z k)
 | .agg cs=>K8 cs λcs=>K (.agg cs)
 | .dead=>K .dead
theorem W01(av:AV)(K:AV->Prop):O00 av K=K av:=by
 cases av with
 |val v=>exact n0l v (λv=>K (.val v))
 |hel s i z k=>simp only[O00,e06]
 |oel j s i z k=>simp only[O00,e06]
 |agg cs=>simp only[O00,h01]
 |_=>rfl
inductive V5 where
 |pu (av:AV)
 |ef (F:Value->Hp->Prop)
def P2:List (Nat×V5)->Nat->Option V5
 | [],_=>none
 |(k,x)::r,s=>match Nat.beq k s with
  |true=>some x
  |false=>P2 r s
def rdS(L:List (Nat×V5))(st:St):Operand->AV
 | .tmp t=>match P2 L t with
  |some (.pu av)=>rdA st av
  |some (.ef _) => .dead
  |none=>rdA st (D2 st.fr t)
 |x=>rdO st x
def c0c(P:Program)(t:TypeId)(cs:List p5)(off:Nat):Option AV :=
 match y0f P t with
 |some true=>match G5 P t with
  |some n=>match T05 ((cs.drop off).take n) n with
   |true=>some (.agg ((cs.drop off).take n))
   |false=>none
  |none=>none
 |some false=>match nth cs off with
  |some c=>some (ofCell c)
  |none=>none
 |none=>none
def T0i(P:Program)(L:List (Nat×V5))(o:Oper)(st:St):Option AV:=match o.op with
 | .move x | .assign x=>match rdS L st x with
  | .dead=>none
  |a=>some a
 | .load t x=>match rdS L st x with
  | .box i off=>match nth st.bx i with
   |some (.live cs _)=>c0c P t cs off
   |_=>none
  |_=>none
 |_=>none
def d0c(L:List (Nat×V5))(st:St)(h:Hp):List Operand->List (Nat×AV)->(List (Nat×AV)->Prop)->Prop
 | [],acc,K=>K acc
 | .tmp t::r,acc,K=>match P2 L t with
  |some (.pu av)=>d0c L st h r ((t,av)::acc) K
  |some (.ef F)=>∀ v,F v h->d0c L st h r ((t,.val v)::acc) K
  |none=>d0c L st h r ((t,D2 st.fr t)::acc) K
 |_::r,acc,K=>d0c L st h r acc K
def f06(d:Option Tmp)(f:V5)(L:List (Nat×V5)):List (Nat×V5):=match d with
 |some d=>(d,f)::L
 |none=>L
def q0q(st:St)(h:Hp)(F:Value->Hp->Prop):AV->St->Hp->Prop
 | .val v,st',a=>st'=st/\Sub h a/\F v a
 |_,_,_=>False
def Z8(i:Nat)(o:Oper):Bool:=o.after.toList.any λe=>Region.binds .any e&&Nat.beq e.on i
def i01(o:Oper)(t:Nat):List Oper->Nat->Bool
 | [],_=>true
 |x::r,i=>match x.dst with
  |some d=>match Nat.beq d t with
   |true=>Z8 i o&&i01 o t r (i+1)
   |false=>i01 o t r (i+1)
  |none=>i01 o t r (i+1)
def F08(o:Oper)(ops:List Oper):List Operand->Bool
 | []=>true
 | .tmp t::r=>i01 o t ops 0&&F08 o ops r
 |_::r=>F08 o ops r
def g06(d:Nat):List Oper->Bool
 | []=>true
 |o::r=>match o.dst with
  |some a => !Nat.beq d a&&g06 d r
  |none=>g06 d r
def K0g(n:Nat):List Oper->Bool
 | []=>true
 |o::r=>match o.dst with
  |some d=>Nat.blt d n&&g06 d r&&K0g n r
  |none=>K0g n r
def a0b:List Oper->Nat->Bool
 | [],_=>true
 |o::r,j=>(o.after.toList.all λe => !Region.binds .any e || Nat.blt e.on j)&&a0b r (j+1)
def W0j(ops:List Oper):List Oper->Bool
 | []=>true
 |o::r=>F08 o ops o.op.operands.toList&&W0j ops r
def I01(n:Nat)(ops:List Oper):Bool:=K0g n ops&&a0b ops 0&&W0j ops ops
def X0j:List p5->Bool
 | []=>true
 | .val _::r=>X0j r
 | .own _ _::_=>false
def D0f:AV->Bool
 | .val _=>true
 | .box _ _=>true
 | .own _ _=>true
 | .agg cs=>X0j cs
 |_=>false
def x04(L:List (Nat×V5))(st:St):Operand->AV
 | .tmp t=>match P2 L t with
  |some (.pu av)=>av
  |some (.ef _) => .dead
  |none=>D2 st.fr t
 | .const v => .val v
 |_ => .dead
def b0b(L:List (Nat×V5))(st:St):List Operand->Option (List (Nat×Value))
 | []=>some []
 | .tmp t::r=>match x04 L st (.tmp t)with
  | .val v=>match b0b L st r with
   |some vs=>some ((t,v)::vs)
   |none=>none
  |_=>none
 | .global _::_=>none
 |_::r=>b0b L st r
def U0i(P:Program)(L:List (Nat×V5))(o:Oper)(st:St):Option AV:=match Y0a o.op,b0b L st o.op.operands.toList with
 |false,some vs=>match J07 (rho vs) o with
  |some _=>none
  |none=>match evP P (F0g (rho vs) o)with
   |some (.value v)=>some (.val v)
   |_=>none
 |_,_=>none
def r0q:AV->Bool
 | .val (.int _ _)=>true
 |_=>false
def I0q:BinOp->Bool
 | .lss=>true
 | .leq=>true
 | .gtr=>true
 | .geq=>true
 |_=>false
def K07(P:Program)(L:List (Nat×V5))(o:Oper)(st:St):Option AV:=match o.op with
 | .move x=>match D0f (x04 L st x)with
  |true=>some (x04 L st x)
  |false=>none
 | .assign x=>match D0f (x04 L st x)with
  |true=>some (x04 L st x)
  |false=>none
 | .load t x=>match x04 L st x with
  | .box i off=>match nth st.bx i with
   |some (.live cs _)=>match c0c P t cs off with
    |some av=>match D0f av with
     |true=>some av
     |false=>none
    |none=>none
   |_=>none
  |_=>none
 | .fieldAddr t x k=>match x04 L st x,z0f P t k with
  | .box i off,some a=>some (.box i (off+a))
  |_,_=>none
 | .binOp op _ x y _=>match I0q op,r0q (x04 L st x),r0q (x04 L st y)with
  |true,true,true=>U0i P L o st
  |_,_,_=>none
 | .call { callee := .builtin .len,args:=as,argTypes:=_ }=>match as.toList with
  | [x]=>match x04 L st x with
   | .val (.slice _ _ _)=>U0i P L o st
   |_=>none
  |_=>none
 |_=>none
def G9(L:List (Nat×V5))(st:St):List Oper->List Nat
 | []=>[]
 |o::r=>match o.op with
  | .load _ x=>match x04 L st x with
   | .box i _=>i::G9 L st r
   |_=>G9 L st r
  |_=>G9 L st r
def L07(bx:List BSt):List Nat->List (Option BSt)
 | []=>[]
 |i::r=>nth bx i::L07 bx r
def c04(L:List (Nat×V5))(a:List (Nat×AV)):List Operand->List (Nat×AV)->(List (Nat×AV)->Prop)->Prop
 | [],acc,K=>K acc
 | .tmp t::r,acc,K=>match P2 L t with
  |some (.pu av)=>c04 L a r ((t,av)::acc) K
  |some (.ef _)=>c04 L a r ((t,.dead)::acc) K
  |none=>c04 L a r ((t,D2 a t)::acc) K
 |_::r,acc,K=>c04 L a r acc K
def V0i:List (Nat×V5)->List (Nat×AV)->List (Nat×AV)
 | [],fr=>fr
 |(d,.pu av)::r,fr=>(d,av)::V0i r fr
 |(d,.ef _)::r,fr=>(d,.dead)::V0i r fr
def Y0j(av:AV)(st:St)(h:Hp):AV->St->Hp->Prop:=λa st' b=>a=av/\st'=st/\b=h
def L0g(P:Program)(st:St)(h:Hp)(L:List (Nat×V5))(o:Oper)(av:AV):Prop :=
 match st with
 |⟨n,fr,bx,ow⟩=>∀ a,Sub h a->c04 L fr o.op.operands.toList [] λfr=>U7 P o ⟨n,fr,bx,ow⟩ a (Y0j av ⟨n,fr,bx,ow⟩ a)
def C02(P:Program)(st:St)(h:Hp):List Oper->Nat->List (Nat×V5)->List (Nat×Oper)->List (Nat×Oper)->(List (Nat×V5)->List (Nat×Oper)->List (Nat×Oper)->Prop)->Prop
 | [],_,L,X,E,K=>K L X E
 |o::r,i,L,X,E,K=>match o.guard with
  |some _=>False
  |none=>match K07 P L o st with
   |some av=>O00 av λav=>C02 P st h r (i+1) (f06 o.dst (.pu av) L) X E K
   |none=>(∃ av,L0g P st h L o av/\O00 av λav=>C02 P st h r (i+1) (f06 o.dst (.pu av) L) (X ++ [(i,o)]) E K) ∨
     C02 P st h r (i+1) (f06 o.dst (.ef λ_ _=>True) L) X (E ++ [(i,o)]) K
def E0f(X:List (Nat×Oper)):Nat->Nat->Oper->Bool
 |0,i,q=>Z8 i q
 |n+1,i,q=>Z8 i q || X.any λy=>Z8 y.1 q&&E0f X n i y.2
def e0c(X Y:List (Nat×Oper)):List (Nat×Oper)->Bool
 | []=>true
 |(_,q)::_=>X.all λx=>E0f Y 8 x.1 q
def E03:List (Nat×Oper)->Bool
 |(i,o)::(j,a)::r=>Z8 i a&&E03 ((j,a)::r)
 |_=>true
def F03:Nat->Nat->Oper->Bool
 |0,_,_=>true
 |k+1,i,o=>(Nat.beq k i || Z8 k o)&&F03 k i o
def h06(d:Nat):List Operand->Bool
 | []=>false
 | .tmp t::r=>Nat.beq t d || h06 d r
 |_::r=>h06 d r
def f0c(d:Nat):List Oper->Bool
 | []=>false
 |o::r=>h06 d o.op.operands.toList || f0c d r
def l00:List Oper->List Oper
 | []=>[]
 |o::r=>match r with
  | []=>[]
  |_::_=>o::l00 r
def g0c:List Oper->Option Oper
 | []=>none
 |o::r=>match r with
  | []=>some o
  |_::_=>g0c r
def F0m(ops:List Oper):Option Oper:=match g0c ops with
 |some o=>match o.guard,o.dst with
  |none,some d=>match f0c d (l00 ops)&&F03 (l00 ops).length (l00 ops).length o with
   |true=>some o
   |false=>none
  |_,_=>none
 |none=>none
def O02(P:Program)(o:Oper)(st:St)(h:Hp)(K:St->Hp->Prop):Prop :=
 U7 P o st h λav st h=>b0c o.dst 0 [] av ⟨st,h,[],[]⟩ λrs=>K rs.st rs.h
def h0c(N i:Nat)(o:Oper):List (Nat×Oper)->Bool
 | []=>F03 N i o
 |_::_=>false
def Z0j(c:Nat)(b:Bool)(rd:List Nat)(bx a:List BSt):Prop:=match b with
 |true=>True
 |false=>match c with
  |0=>L07 a rd=L07 bx rd
  |_+1=>a=bx
def F0f:Nat->List Own->List Own->Hp->Hp->Prop
 |0,_,_,_,_=>True
 |_+1,ow,b,h,a=>b=ow/\Sub h a
def evC(rd:List Nat)(N:Nat)(P:Program):Nat->List (Nat×Oper)->List (Nat×V5)->St->Hp->(St->Hp->Prop)->Prop
 |_,[],L,⟨n,fr,bx,ow⟩,h,K=>K8 (V0i L fr) λfr=>K ⟨n,fr,bx,ow⟩ h
 |c,(i,o)::r,L,⟨n,fr,bx,ow⟩,h,K=>c04 L fr o.op.operands.toList [] λe=>U7 P o ⟨n,e,bx,ow⟩ h λav st' d=>match st' with
  |⟨_,_,a,b⟩=>F0f c ow b h d/\Z0j c (h0c N i o r) rd bx a/\O00 av λav=>K8 a λa=>K8 b λb=>evC rd N P (c-1) r (f06 o.dst (.pu av) L) ⟨n,fr,a,b⟩ d K
def q0o(f:Nat×Oper)(rd:List Nat)(N:Nat)(P:Program):Nat->List (Nat×Oper)->List (Nat×V5)->St->Hp->(St->Hp->Prop)->Prop
 |0,E,L,st,h,K=>evC rd N P 0 (f::E) L st h K
 |p+1,E,L,st,h,K=>evC rd N P 0 (f::E) L st h K/\match E with
  | []=>False
  |(i,o)::r=>match st with
   |⟨n,fr,bx,ow⟩=>c04 L fr o.op.operands.toList [] λd=>U7 P o ⟨n,d,bx,ow⟩ h λav st' c=>match st' with
    |⟨_,_,a,b⟩=>F0f 0 ow b h c/\Z0j 0 (h0c N i o r) rd bx a/\O00 av λav=>K8 a λa=>K8 b λb=>q0o f rd N P p r (f06 o.dst (.pu av) L) ⟨n,fr,a,b⟩ c K
def o0l(f:Nat×Oper):Nat->List (Nat×Oper)->Bool
 |_,[]=>false
 |0,(_,q)::_=>Z8 f.1 q
 |p+1,_::r=>o0l f p r
def m0e:Nat->List (Nat×Oper)->Option ((Nat×Oper)×List (Nat×Oper))
 |_,[]=>none
 |0,x::r=>some (x,r)
 |k+1,x::r=>match m0e k r with
  |some (f,a)=>some (f,x::a)
  |none=>none
def noX:List (Nat×Oper)->Bool
 | []=>true
 |_::_=>false
def evD(rd:List Nat)(N:Nat)(P:Program)(X E:List (Nat×Oper))(L:List (Nat×V5))(st:St)(h:Hp)(K:St->Hp->Prop):Prop :=
 (∃ c,(E03 E=true/\e0c X (X++E) (E.drop c)=true)/\evC rd N P c E L st h K) ∨
 (∃ k p,match m0e k E with
  |some (f,E')=>(noX X=true/\E03 E'=true/\o0l f p E'=true)/\q0o f rd N P p E' L st h K
  |none=>False)
abbrev FL:=List (Nat×List (Nat×Bool)×V5)
def y02:FL->Nat->Option (List (Nat×Bool)×V5)
 | [],_=>none
 |(k,x)::r,s=>match Nat.beq k s with
  |true=>some x
  |false=>y02 r s
def rdU(L:FL)(st:St)(ch:List (Nat×Bool)):Operand->AV
 | .tmp t=>match y02 L t with
  |some (a,.pu av)=>match H0g a ch with
   |true=>rdA st av
   |false => .dead
  |some (_,.ef _) => .dead
  |none=>rdA st (D2 st.fr t)
 |x=>rdO st x
def M07(P:Program)(L:FL)(bs:List BE)(ch:List (Nat×Bool))(o:Oper)(st:St):Option AV:=match o.op with
 | .move x | .assign x=>match rdU L st ch x with
  | .dead=>none
  |a=>some a
 | .load t x=>match rdU L st ch x with
  | .box i off=>match nth st.bx i with
   |some (.live cs _)=>c0c P t cs off
   |_=>none
  |_=>none
 | .fieldAddr t x k=>match rdU L st ch x,z0f P t k with
  | .box i off,some d=>some (.box i (off+d))
  | .hel c i sz k,some d=>some (.hel c i sz (k+d))
  |_,_=>none
 | .pick (.tmp c) a b=>match rdU L st ch (.tmp c),E08 bs c with
  | .val (.bool e),some q=>match H0g q.ch ch with
   |true=>match rdU L st ((q.j,true)::q.ch) a,rdU L st ((q.j,false)::q.ch) b with
    | .val (.bool x),.val (.bool y)=>some (.val (.bool (cond e x y)))
    |_,_=>none
   |false=>none
  |_,_=>none
 |_=>none
def O05(L:FL)(st:St)(h:Hp)(ch:List (Nat×Bool)):List Operand->List (Nat×AV)->(List (Nat×AV)->Prop)->Prop
 | [],acc,K=>K acc
 | .tmp t::r,acc,K=>match y02 L t with
  |some (a,f)=>match H0g a ch with
   |true=>match f with
    | .pu av=>O05 L st h ch r ((t,av)::acc) K
    | .ef F=>∀ v,F v h->O05 L st h ch r ((t,.val v)::acc) K
   |false=>False
  |none=>O05 L st h ch r ((t,D2 st.fr t)::acc) K
 |_::r,acc,K=>O05 L st h ch r acc K
def T0d(h:Hp):FL->List (Nat×AV)->(List (Nat×AV)->Prop)->Prop
 | [],fr,K=>K fr
 |(d,[],.pu av)::r,fr,K=>T0d h r ((d,av)::fr) K
 |(d,[],.ef F)::r,fr,K=>∀ v,F v h->T0d h r ((d,.val v)::fr) K
 |(d,_::_,_)::r,fr,K=>T0d h r ((d,.dead)::fr) K
def G0f(d:Option Tmp)(ch:List (Nat×Bool))(f:V5)(L:FL):FL:=match d with
 |some d=>(d,ch,f)::L
 |none=>L
def H0f(i:Nat)(d:Option Tmp)(ch:List (Nat×Bool))(av:AV)(bs:List BE):List BE:=match d with
 |some d=>match av with
  | .val (.bool e)=>⟨i,d,e,ch⟩::bs
  |_=>bs
 |none=>bs
def W0i(st st':St):Prop:=st'.n=st.n/\st'.fr=st.fr/\st'.bx=st.bx/\∃ t,st'.ow=st.ow++t
def G0m(st:St)(h:Hp)(F:Value->Hp->Prop):AV->St->Hp->Prop:=λav st' b=>rfy av st' b λv c a=>W0i st c/\Sub h a/\F v a
def H0m(P:Program)(t n:Nat)(st:St)(h:Hp)(K:AV->St->Hp->Prop):Prop :=
 match k00 P t with
 |some e=>match G5 P e,Nat.beq n 0 with
  |some (_+1),true=>∀ g,h g=none->K (.val (.slice (some ⟨g,0,none⟩) 0 0)) st (h.set g (.cells #[] e (0,0)))
  |_,_=>False
 |none=>False
def I0m(P:Program)(t:TypeId)(a b:Operand)(st:St)(h:Hp)(K:AV->St->Hp->Prop):Prop :=
 match k00 P t with
 |some e=>match G5 P e,Z07 P e,v00 P e with
  |some (sz+1),some (by_+1),some z=>match T05 z.cells.toList (sz+1)with
   |true=>match rdO st a with
    | .val (.slice (some ⟨g,o,none⟩) 0 0)=>l0e st h (sz+1) (rdO st b) λc=>C08 c.length (by_+1) /\
      ((c = []->K (.val (.slice (some ⟨g,o,none⟩) 0 0)) st h)/\∀ v d,E1 h d v e (sz+1) true c->K (.val v) st d)
    |_=>False
   |false=>False
  |_,_,_=>False
 |none=>False
def M0g(P:Program)(o:Oper)(st:St)(h:Hp)(K:AV->St->Hp->Prop):Prop :=
 match o.op with
 | .buildSlice t n ps=>match ps.toList with
  | []=>H0m P t n st h K
  |_::_=>U7 P o st h K
 | .call { callee := .builtin .append,args:=as,argTypes:=d }=>match as.toList,d.toList with
  | [a,b],[t,c]=>match Nat.beq t c with
   |true=>I0m P t a b st h K
   |false=>False
  |_,_=>False
 |_=>U7 P o st h K
def evU(P:Program)(l:List Oper):Nat->FL->List BE->St->Hp->(St->Hp->Prop)->Prop :=
  List.rec (motive:=λ_=>Nat->FL->List BE->St->Hp->(St->Hp->Prop)->Prop)
    (λ_ L _ st h K=>match st with
      |⟨n,fr,bx,ow⟩=>∀ a,Sub h a->T0d a L fr λfr=>K ⟨n,fr,bx,ow⟩ a)
    (λo _ b i L bs st h K=>match st with
      |⟨n,fr,bx,ow⟩=>match j9 bs o.guard with
        |some ch=>match cB bs ch with
          |some c=>match M07 P L bs ch o ⟨n,fr,bx,ow⟩with
            |some av=>O00 av λav=>b (i+1) (G0f o.dst ch (.pu av) L) (H0f i o.dst ch av bs) ⟨n,fr,bx,ow⟩ h K
            |none=>(∃ av,(∀ a,Sub h a->imp ch c (O05 L ⟨n,fr,bx,ow⟩ a ch o.op.operands.toList [] λfr=>U7 P o ⟨n,fr,bx,ow⟩ a (Y0j av ⟨n,fr,bx,ow⟩ a))) /\
                  O00 av λav=>b (i+1) (G0f o.dst ch (.pu av) L) (H0f i o.dst ch av bs) ⟨n,fr,bx,ow⟩ h K) ∨
                (∃ F:Value->Hp->Prop,(∀ v d e,Sub d e->F v d->F v e) /\
                  (∀ a,Sub h a->imp ch c (O05 L ⟨n,fr,bx,ow⟩ a ch o.op.operands.toList [] λfr=>M0g P o ⟨n,fr,bx,ow⟩ a (G0m ⟨n,fr,bx,ow⟩ a F))) /\
                  b (i+1) (G0f o.dst ch (.ef F) L) bs ⟨n,fr,bx,ow⟩ h K)
          |none=>False
        |none=>False) l
def J0b:List Oper->Bool
 | []=>true
 |o::r=>(match o.guard with
  |some (j,_)=>Z8 j o
  |none=>true)&&J0b r
def H02(n:Nat)(ops:List Oper):Bool:=I01 n ops&&J0b ops
def r0o(P:Program):List Oper->Bool
 | []=>false
 |o::r=>(match o.guard,o.op with
  |some _,.call { callee := .value _,args:=_,argTypes:=_ }=>match P.underlying o.type with
   |some (.slice _)=>true
   |some (.struct _)=>true
   |some (.tuple _)=>true
   |_=>false
  |_,_=>false) || r0o P r
def G03(o:Oper):Bool:=match o.op with
 | .alloc _=>true
 |_=>false
def y9(o:Oper):Oper:=match o.op with
 | .alloc _ => { o with op := .move (.const undef) }
 |_=>o
def l5:List Oper->List Oper
 | []=>[]
 |o::r=>y9 o::l5 r
def okA(P:Program)(all:List Oper):List Oper->Bool
 | []=>true
 |o::r=>(match o.op with
  | .alloc t=>(match o.guard,o.dst,v00 P t with
   |none,some d,some _ => !f0c d all
   |_,_,_=>false)
  |_=>true)&&okA P all r
def X0i(x:Nat):List Nat->Bool
 | []=>false
 |y::r=>Nat.beq x y || X0i x r
def G08(ops:List Oper)(i:Nat):List Nat->Bool
 | []=>false
 |j::r=>(match nth ops j with
  |some o=>Z8 i o
  |none=>false) || G08 ops i r
def n0e(ops:List Oper):Nat->List Nat->List Nat
 |0,acc=>acc
 |i+1,acc=>match G08 ops i acc with
  |true=>n0e ops i (i::acc)
  |false=>n0e ops i acc
def H08(o:Oper):Option Nat:=match o.guard with
 |some _=>none
 |none=>match o.op with
  | .extract (.tmp t) _=>some t
  | .move (.tmp t)=>some t
  | .assign (.tmp t)=>some t
  |_=>none
def I08(d:Nat):List Oper->Bool
 | []=>false
 |o::r=>(match o.dst with
  |some e=>Nat.beq e d
  |none=>false) || I08 d r
def K04(a:List Nat)(t:Nat):List Oper->Nat->Bool
 | [],_=>true
 |o::r,i=>(match o.dst with
  |some e => !Nat.beq e t || X0i i a
  |none=>true)&&K04 a t r (i+1)
def L04(i d:Nat):List Oper->Bool
 | []=>true
 |o::r=>(!h06 d o.op.operands.toList || Z8 i o)&&L04 i d r
def a0k(c a:List Oper)(b:List Nat)(i:Nat)(o:Oper):Bool:=match H08 o,o.dst with
 |some t,some d => !I08 d a && !I08 t a&&K04 b t c 0&&L04 i d a
 |_,_=>false
def K0b(b c:List Oper)(a:List Nat):List Oper->Nat->Bool
 | [],_=>true
 |o::r,i=>(X0i i a || a0k b c a i o)&&K0b b c a r (i+1)
def N0g:List Oper->Bool
 | []=>true
 |o::r => !Y0a o.op&&N0g r
def J0m:Nat->List Oper->Bool
 |_,[]=>true
 |k,o::r=>(match o.guard with
  |none=>true
  |some _=>false)&&(match r with
  | []=>true
  |o'::_=>Z8 k o')&&J0m (k+1) r
def s0q:List Oper->Bool
 | []=>true
 |_::_=>false
def okZ(P:Program)(n m:Nat)(ops:List Oper):Bool :=
 H02 n (l5 (ops.take m))&&okA P (ops.take m) (ops.take m)&&a0b ops 0&&J0m m (ops.drop m)&&(s0q (ops.drop m) || (K0b (ops.take m) (ops.drop m) (n0e ops m [m]) (ops.take m) 0&&N0g (ops.drop m)))
abbrev H0p:=Oper->St->Hp->(St->Hp->Prop)->Prop
def doA(R:H0p)(l:List Oper):St->Hp->(St->Hp->Prop)->Prop :=
 List.rec (motive:=λ_=>St->Hp->(St->Hp->Prop)->Prop) (λst h K=>K st h) (λo _ a st h K=>match G03 o with
  |true=>R o st h λst h=>a st h K
  |false=>a st h K) l
def doT(R:H0p)(l:List Oper):St->Hp->(St->Hp->Prop)->Prop :=
 List.rec (motive:=λ_=>St->Hp->(St->Hp->Prop)->Prop) (λst h K=>K st h) (λo _ a st h K=>R o st h λst h=>a st h K) l
def evT(P:Program)(R:H0p)(m:Nat)(ops:List Oper)(st:St)(h:Hp)(K:St->Hp->Prop):Prop :=
 evU P (l5 (ops.take m)) 0 [] [] st h λst h=>doA R (ops.take m) st h λst h=>doT R (ops.drop m) st h K
inductive Ex where
 |normal|ret
 |exit (i:Nat)
structure Ann where
 vars:List Nat
 boxes:List Nat
 owns:List Nat
 nils:List (Nat×Nat×Nat×Nat):=[]
 nilsB:List (Nat×Nat×Nat×Nat×Nat):=[]
 kept:List Nat:=[]
 fuel:Bool:=false
 pubs:List Nat:=[]
def O0g:List (Nat×Nat×Nat×Nat)->St->(St->Prop)->Prop
 | [],st,K=>K st
 |(s,e,sz,by_)::r,⟨n,fr,bx,ow⟩,K=>match rdA ⟨n,fr,bx,ow⟩ (D2 fr s),Nat.blt s n with
  | .val (.slice none 0 0),true=>O0i ow λk=>O0g r ⟨n,(s,.own k 0)::fr,bx,ow ++ [⟨0,.live e sz by_ false []⟩]⟩ K
  |_,_=>False
def i0c:List (Nat×Nat×Nat×Nat×Nat)->St->(St->Prop)->Prop
 | [],st,K=>K st
 |(i,k,e,sz,by_)::r,⟨n,fr,bx,ow⟩,K=>match nth bx i with
  |some (.live cs ty)=>match nth cs k with
   |some (.val (.slice none 0 0))=>O0i ow λj=>i0c r ⟨n,fr,F9 bx i (.live (F9 cs k (.own j 0)) ty),ow ++ [⟨0,.live e sz by_ false []⟩]⟩ K
   |_=>False
  |_=>False
def P0g:List Nat->St->Hp->(St->Hp->Prop)->Prop
 | [],st,h,K=>K st h
 |s::r,st,h,K=>rfy (rdA st (D2 st.fr s)) st h λv st h=>match st with
  |⟨n,fr,bx,ow⟩=>match Nat.blt s n with
   |true=>P0g r ⟨n,(s,.val v)::fr,bx,ow⟩ h K
   |false=>False
def a08(x:Nat):List Nat->Bool
 | []=>false
 |y::r=>match Nat.beq x y with
  |true=>true
  |false=>a08 x r
def I0p:List Oper->List Nat->List Nat
 | [],acc=>acc
 |o::r,acc=>match o.dst with
  |some d=>I0p r (d::acc)
  |none=>I0p r acc
def U0d:Code->List Nat->List Nat
 | .region _ ops _,acc=>I0p ops.toList acc
 | .seq a b,acc=>U0d a (U0d b acc)
 | .cond _ a b,acc=>U0d a (U0d b acc)
 | .block _ a,acc=>U0d a acc
 | .loop a,acc=>U0d a acc
 | .scope a,acc=>U0d a acc
 |_,acc=>acc
def Q09:List Nat->(List Nat->Prop)->Prop
 | [],K=>K []
 |x::r,K=>Q09 r λr=>K (x::r)
def s0o:List Nat->St->(List Value->Prop)->Prop
 | [],_,K=>K []
 |s::r,st,K=>match rdA st (D2 st.fr s)with
  | .val v=>s0o r st λvs=>K (v::vs)
  |_=>False
def Q0g:List p5->St->(List Value->Prop)->Prop
 | [],_,K=>K []
 | .val v::r,st,K=>Q0g r st λvs=>K (v::vs)
 | .own _ _::r,st,K=>Q0g r st K
def j0c:List Nat->St->(List Value->Prop)->Prop
 | [],_,K=>K []
 |i::r,st,K=>match nth st.bx i with
  |some (.live cs _)=>Q0g cs st λvs=>j0c r st λa=>K (vs++a)
  |_=>False
def o0e:List Nat->St->(List (List (List Value))->Prop)->Prop
 | [],_,K=>K []
 |i::r,st,K=>match nth st.ow i with
  |some ⟨_,.live _ _ _ _ xs⟩=>o0e r st λos=>K (xs::os)
  |_=>False
def Y0i(A:Ann)(st:St)(K:List Value->List (List (List Value))->Prop):Prop :=
 s0o A.vars st λvs=>j0c A.boxes st λa=>o0e A.owns st λos=>K (vs++a) os
def I02:List p5->List Value->(List p5->List Value->Prop)->Prop
 | [],vs,K=>K [] vs
 | .val _::r,v::vs,K=>I02 r vs λcs a=>K (.val v::cs) a
 | .val _::_,[],_=>False
 | .own i k::r,vs,K=>I02 r vs λcs a=>K (.own i k::cs) a
def M04:List Nat->List Value->List BSt->(List BSt->Prop)->Prop
 | [],_,bx,K=>K bx
 |i::r,vs,bx,K=>match nth bx i with
  |some (.live cs ty)=>I02 cs vs λcs a=>M04 r a (F9 bx i (.live cs ty)) K
  |_=>False
def N04:List Nat->List (List (List Value))->List Own->(List Own->Prop)->Prop
 | [],_,ow,K=>K ow
 |i::r,xs::os,ow,K=>match nth ow i with
  |some ⟨s,.live e sz by_ nn _⟩=>N04 r os (F9 ow i ⟨s,.live e sz by_ nn xs⟩) K
  |_=>False
 |_::_,[],_,_=>False
def i06{c:Type}:Nat->List c->(List c->List c->Prop)->Prop
 |0,l,K=>K [] l
 |n+1,x::l,K=>i06 n l λa b=>K (x::a) b
 |_+1,[],_=>False
def headD(A:Ann)(st:St):List Nat->List (Nat×AV)->(List (Nat×AV)->Prop)->Prop
 | [],acc,K=>K acc
 |s::r,acc,K=>match a08 s A.vars with
  |true=>headD A st r acc K
  |false=>match rdA st (D2 st.fr s)with
   | .own i k=>headD A st r ((s,.own i k)::acc) K
   | .box i o=>headD A st r ((s,.box i o)::acc) K
   |_=>headD A st r ((s,.dead)::acc) K
def b0k:List p5->Bool
 | []=>true
 | .val _::r=>b0k r
 | .own _ _::_=>false
def O04(A:Ann)(ds:List Nat)(st:St):List (Nat×AV)->(List (Nat×AV)->Prop)->Prop
 | [],K=>K []
 |(s,av)::r,K=>match a08 s ds with
  |true=>O04 A ds st r K
  |false=>match rdA st av with
   | .own i k=>match a08 i A.owns,a08 i A.kept with
    |true,false=>O04 A ds st r λl=>K ((s,.dead)::l)
    |_,_=>O04 A ds st r λl=>K ((s,.own i k)::l)
   | .oel _ _ _ _ _=>O04 A ds st r λl=>K ((s,.dead)::l)
   | .agg cs=>match b0k cs with
    |true=>O04 A ds st r λl=>K ((s,.agg cs)::l)
    |false=>O04 A ds st r λl=>K ((s,.dead)::l)
   |a=>O04 A ds st r λl=>K ((s,a)::l)
def R09:List Nat->List Value->List (Nat×AV)->List (Nat×AV)
 |s::r,v::vs,acc=>R09 r vs ((s,.val v)::acc)
 |_,_,acc=>acc
def c0b(b a:St):List (Nat×AV)->Bool
 | []=>true
 |(c,av)::r=>match av with
  | .own i _=>match rdA a (D2 a.fr c)with
   | .own j _=>match Nat.beq i j with
    |true=>c0b b a r
    |false=>false
   |_=>false
  | .box i o=>match rdA a (D2 a.fr c)with
   | .box j p=>match Nat.beq i j,Nat.beq o p with
    |true,true=>c0b b a r
    |_,_=>false
   |_=>false
  |_=>c0b b a r
def Z0i:AV->Bool
 | .dead=>true
 |_=>false
def p0l:List (Nat×AV)->List AV
 | []=>[]
 |(_,av)::r=>match Z0i av with
  |true=>p0l r
  |false=>av::p0l r
def p0e(fr:List (Nat×AV)):List (Nat×AV)->List AV
 | []=>[]
 |(s,av)::r=>match Z0i av with
  |true=>p0e fr r
  |false=>D2 fr s::p0e fr r
def P04(c a:St):List p5->List p5->Bool
 | [],[]=>true
 | .val _::r,.val _::b=>P04 c a r b
 | .own i _::r,.own j d::b=>match Nat.beq i j,rdA a (.own j d)with
  |true,.own _ _=>P04 c a r b
  |_,_=>false
 |_,_=>false
def J08(os:List Nat):List p5->Bool
 | []=>true
 | .val _::r=>J08 os r
 | .own i _::r=>match a08 i os with
  |true=>false
  |false=>J08 os r
def a0j(os:List Nat):BSt->Bool
 | .live cs _=>J08 os cs
 | .publ _=>true
def S09(A:Ann)(c a:St):Nat->List BSt->List BSt->Prop
 |_,[],_=>True
 |i,b::r,d::e=>match a08 i A.boxes with
  |true=>match b,d with
   | .live cs ty,.live cs' f=>match Nat.beq ty f,P04 c a cs cs' with
    |true,true=>S09 A c a (i+1) r e
    |_,_=>False
   |_,_=>False
  |false=>match a0j A.owns b with
   |true=>d=b/\S09 A c a (i+1) r e
   |false=>False
 |_,_::_,[]=>False
def leB(a b:Bool):Bool:=match a with
 |true=>b
 |false=>true
def T09(A:Ann):Nat->List Own->List Own->Prop
 |_,[],_=>True
 |i,b::r,a::c=>match a08 i A.owns with
  |true=>match b,a with
   |⟨h,.live e sz by_ nn _⟩,⟨j,.live f k d g _⟩=>match Nat.beq e f,Nat.beq sz k,Nat.beq by_ d,leB nn g,leB (a08 i A.kept) (Nat.beq h j)with
    |true,true,true,true,true=>T09 A (i+1) r c
    |_,_,_,_,_=>False
   |_,_=>False
  |false=>a=b/\T09 A (i+1) r c
 |_,_::_,[]=>False
def K08:Nat->(List Value->Prop)->Prop
 |0,K=>K []
 |n+1,K=>∀ v,K08 n λvs=>K (v::vs)
def L08:Nat->(List (List (List Value))->Prop)->Prop
 |0,K=>K []
 |n+1,K=>∀ xs,L08 n λos=>K (xs::os)
abbrev U09:=List Value->List (List (List Value))->Hp->Prop
abbrev P05:=List Value->List (List (List Value))->Nat
def t0o:List Value->List Value->Bool
 | [],[]=>true
 |_::r,_::a=>t0o r a
 |_,_=>false
def R0g(A:Ann)(I:U09)(vs:List Value)(os:List (List (List Value)))(h:Hp):Prop:=match A.fuel with
 |false=>I vs os h
 |true=>∃ m:Nat,I (.int .i64 m::vs) os h
def S0g(A:Ann)(b:U09)(μ:P05)(vs:List Value)(os:List (List (List Value)))(X:Nat->Hp->Prop):Prop:=match A.fuel with
 |false=>∀ a,b vs os a->X (μ vs os) a
 |true=>∀(m:Nat) (a:Hp),b (.int .i64 m::vs) os a->X m a
def u0o(A:Ann)(a:U09)(μ:P05)(m:Nat)(vs:List Value)(os:List (List (List Value)))(h:Hp):Prop:=match A.fuel with
 |false=>a vs os h/\μ vs os<m
 |true=>∃ b:Nat,a (.int .i64 b::vs) os h/\b<m
def atI(A:Ann)(I:U09)(μ:P05)(m:Nat)(vs:List Value)(os:List (List (List Value)))(h:Hp):Prop:=match A.fuel with
 |false=>I vs os h/\m=μ vs os
 |true=>I (.int .i64 m::vs) os h
theorem K0m{A:Ann}{b:U09}{μ:P05}{vs:List Value}{os:List (List (List Value))}{h:Hp}(a:R0g A b vs os h):∃ m,atI A b μ m vs os h:=by
 unfold R0g at a
 unfold atI
 cases hf:A.fuel with
 |false=>rw[hf]at a;exact⟨_,a,rfl⟩
 |true=>rw[hf]at a;exact a
theorem L0m{A:Ann}{c:U09}{μ:P05}{vs:List Value}{os:List (List (List Value))}{X:Nat->Hp->Prop}(b:S0g A c μ vs os X){m:Nat}{h:Hp}(a:atI A c μ m vs os h):X m h:=by
 unfold S0g at b
 unfold atI at a
 cases hf:A.fuel with
 |false=>rw[hf]at b a;rw[a.2];exact b _ a.1
 |true=>rw[hf]at b a;exact b _ _ a
theorem v0o{A:Ann}{b:U09}{μ:P05}{m:Nat}{vs:List Value}{os:List (List (List Value))}{h:Hp}(a:u0o A b μ m vs os h):∃ c,atI A b μ c vs os h/\c<m:=by
 unfold u0o at a
 unfold atI
 cases hf:A.fuel with
 |false=>rw[hf]at a;exact⟨_,⟨a.1,rfl⟩,a.2⟩
 |true=>rw[hf]at a;exact a
def M0m(A:Ann)(d b:List (Nat×AV))(a:St)(c:U09)(μ:P05)(f:List Value)(m:Nat)(st:St)(h:Hp):Prop :=
 match Nat.beq st.n a.n,c0b a st d with
 |true,true=>p0e st.fr b=p0l b/\S09 A a st 0 a.bx st.bx/\T09 A 0 a.ow st.ow /\
   Y0i A st λvs os=>match t0o vs f with
    |true=>i06 A.vars.length vs λ_ e=>M04 A.boxes e a.bx λ_=>N04 A.owns os a.ow λ_=>u0o A c μ m vs os h
    |false=>False
 |_,_=>False
def c0k(i:(Ex->St->Hp->Prop)->St->Hp->Prop)(j:List Nat)(Q:Ex->St->Hp->Prop)(st:St)(h:Hp):Prop :=
 ∃(A:Ann) (b:U09) (μ:P05),O0g A.nils st λst=>i0c A.nilsB st λst=>P0g A.pubs st h λst h=>Y0i A st λg d=>R0g A b g d h /\
  Q09 j λds=>headD A st ds [] λc=>O04 A ds st st.fr λf =>
   K08 g.length λvs=>L08 d.length λos=>S0g A b μ vs os λm k =>
    i06 A.vars.length vs λl o=>M04 A.boxes o st.bx λbx=>N04 A.owns os st.ow λow =>
     i (λe st' a=>match e with
      | .normal=>P0g A.pubs st' a λst' a=>M0m A c f st b μ vs m st' a
      |e=>Q e st' a) ⟨st.n,R09 A.vars l (c++f),bx,ow⟩ k
def N0m(b:Bool)(X Y:Prop):Prop:=(b=true->X)/\(b=false->Y)
def ev(P:Program):Code->(Ex->St->Hp->Prop)->St->Hp->Prop
 | .skip,Q,st,h=>Q .normal st h
 | .region _ ops false,Q,st,h=>match r0o P ops.toList with
  |true=>H02 st.n ops.toList=true/\evU P ops.toList 0 [] [] st h λst h=>Q .normal st h
  |false=>Z0a P ops.toList 0 ⟨st,h,[],[]⟩ λrs=>Q .normal rs.st rs.h
 | .region _ ops true,Q,st,h=>((P.follows .mixedOrders=true/\Region.lexB .any ops=true) /\
   evQ P ops.toList 0 ⟨st,h,[],[]⟩ λrs=>Q .normal rs.st rs.h) ∨
   False ∨
   (match F0m ops.toList with
    |none=>(P.follows .mixedOrders=true/\I01 st.n ops.toList=true)/\C02 P st h ops.toList 0 [] [] [] λL X E=>evD (G9 L st ops.toList) ops.size P X E L st h λst h=>Q .normal st h
    |some o=>(P.follows .mixedOrders=true/\(I01 st.n (l00 ops.toList)&&a0b ops.toList 0)=true)/\C02 P st h (l00 ops.toList) 0 [] [] [] λL X E=>evD (G9 L st (l00 ops.toList)) (l00 ops.toList).length P X E L st h λst h=>O02 P o st h λst h=>Q .normal st h) ∨
   ((P.follows .mixedOrders=true/\H02 st.n ops.toList=true)/\evU P ops.toList 0 [] [] st h λst h=>Q .normal st h) ∨
   (∃ m,(P.follows .mixedOrders=true/\okZ P st.n m ops.toList=true)/\evT P (O02 P) m ops.toList st h λst h=>Q .normal st h)
 | .seq a b,Q,st,h=>ev P a (λe st h=>match e with
  | .normal=>ev P b Q st h
  |e=>Q e st h) st h
 | .cond c t e,Q,st,h=>match rdO st c with
  | .val (.bool b)=>N0m b (ev P t Q st h) (ev P e Q st h)
  |_=>False
 | .block id c,Q,st,h=>ev P c (λe st h=>match e with
  | .exit i=>match Nat.beq i id with
   |true=>Q .normal st h
   |false=>Q (.exit i) st h
  |e=>Q e st h) st h
 | .loop d,Q,st,h=>c0k (λQ=>ev P d Q) (U0d d []) Q st h
 | .exit id,Q,st,h=>Q (.exit id) st h
 | .ret,Q,st,h=>Q .ret st h
 |_,_,_,_=>False
def b0j(P:Program):List ResultVar->St->Hp->(List Value->St->Hp->Prop)->Prop
 | [],st,h,K=>K [] st h
 | .tmp t::r,st,h,K=>rfy (rdA st (D2 st.fr t)) st h λv st h=>b0j P r st h λvs st h=>K (v::vs) st h
 | .cell t ty::r,st,h,K=>match rdA st (D2 st.fr t)with
  | .box i off=>match nth st.bx i with
   |some (.live cs _)=>A03 P ty cs off λav=>rfy av st h λv st h=>b0j P r st h λvs st h=>K (v::vs) st h
   |_=>False
  |_=>False
def T0g:List Value->Value
 | [v]=>v
 |vs => .tuple vs.toArray
def M08:Nat->List Value->List (Nat×AV)
 |_,[]=>[]
 |i,v::r=>(i,.val v)::M08 (i+1) r
def J0p(P:Program)(fn:Func)(args:List Value)(h:Hp)(T:Value->Hp->Prop):Prop :=
 match fn.body with
 |some c=>match Nat.ble args.length fn.ntmps with
  |true=>ev P c (λe st h=>match e with
   | .exit _=>False
   |_=>b0j P fn.results.toList st h λvs _ h=>T (T0g vs) h) ⟨fn.ntmps,M08 0 args,[],[]⟩ h
  |false=>False
 |none=>False
end Go.H
