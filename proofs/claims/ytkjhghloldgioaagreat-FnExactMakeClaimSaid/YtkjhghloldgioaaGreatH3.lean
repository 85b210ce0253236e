/- Plain laws over the model: what a function's code asks: regions with guards, regions that draw their order, branches and loops. -/
import Derived.Test.YtkjhghloldgioaaGreatH2
namespace Go.H
set_option linter.unusedVariables false
structure BE where
 j:Nat
 d:Nat
 e:Bool
 ch:List (Nat×Bool)
structure RS where
 st:St
 h:Hp
 gf:List (Nat×List (Nat×Bool)×AV)
 bs:List BE
def c0e:List (Nat×List (Nat×Bool)×AV)->Nat->Option (List (Nat×Bool)×AV)
 | [],_=>none
 |(k,x)::r,s=>match Nat.beq k s with
  |true=>some x
  |false=>c0e r s
def eqB(a b:Bool):Bool:=match a,b with
 |true,true=>true
 |false,false=>true
 |_,_=>false
def E0o:List (Nat×Bool)->List (Nat×Bool)->Bool
 | [],[]=>true
 |(j,w)::r,(a,c)::b=>match Nat.beq j a,eqB w c with
  |true,true=>E0o r b
  |_,_=>false
 |_,_=>false
def R0i(a:List (Nat×Bool)):List (Nat×Bool)->Bool
 | []=>E0o a []
 |x::r=>match E0o a (x::r)with
  |true=>true
  |false=>R0i a r
def rdG(rs:RS)(ch:List (Nat×Bool)):Operand->AV
 | .tmp t=>match c0e rs.gf t with
  |some (a,av)=>match R0i a ch with
   |true=>rdA rs.st av
   |false => .dead
  |none=>rdA rs.st (Z2 rs.st.fr t)
 |x=>rdO rs.st x
def q03:List BE->Nat->Option BE
 | [],_=>none
 |b::r,j=>match Nat.beq b.j j with
  |true=>some b
  |false=>q03 r j
def v0a:List BE->Nat->Option BE
 | [],_=>none
 |b::r,s=>match Nat.beq b.d s with
  |true=>some b
  |false=>v0a r s
def lit(w e:Bool):Bool:=match w with
 |true=>e
 |false => !e
def cB(bs:List BE):List (Nat×Bool)->Option Bool
 | []=>some true
 |(j,w)::r=>match q03 bs j with
  |some b=>match r with
   | []=>some (lit w b.e)
   |_=>match cB bs r with
    |some c=>some (lit w b.e&&c)
    |none=>none
  |none=>none
def o00(bs:List BE):Option (Nat×Bool)->Option (List (Nat×Bool))
 |none=>some []
 |some (j,w)=>match q03 bs j with
  |some b=>some ((j,w)::b.ch)
  |none=>none
def imp(ch:List (Nat×Bool))(c:Bool)(X:Prop):Prop:=match ch with
 | []=>X
 |_=>c=true->X
def S0i(rs:RS)(ch:List (Nat×Bool)):List Operand->Option (List (Nat×Value))
 | []=>some []
 | .tmp t::r=>match V04 (rdG rs ch (.tmp t))with
  |some v=>match S0i rs ch r with
   |some vs=>some ((t,v)::vs)
   |none=>none
  |none=>none
 | .global _::_=>none
 |_::r=>S0i rs ch r
def n0q(rs:RS)(ch:List (Nat×Bool)):List Operand->St->Hp->(List (Nat×Value)->St->Hp->Prop)->Prop
 | [],st,h,K=>K [] st h
 | .tmp t::r,st,h,K=>rfy (rdA st (rdG rs ch (.tmp t))) st h λv st h=>n0q rs ch r st h λvs st h=>K ((t,v)::vs) st h
 | .global _::_,_,_,_=>False
 |_::r,st,h,K=>n0q rs ch r st h K
def K0h(P:Program)(o:Oper)(ch:List (Nat×Bool))(c:Bool)(rs:RS)(K:AV->Prop):Prop :=
 match P0c o.op,S0i rs ch o.op.operands.toList with
 |false,some vs=>match s09 (rho vs) o with
  |some (f,l)=>match okF P f with
   |true=>∃ v,imp ch c (Tr P f l.toArray rs.h λb a=>b=v/\a=rs.h)/\K (.val v)
   |false=>False
  |none=>match evP P (P0i (rho vs) o)with
   |some (.value v)=>K (.val v)
   |_=>False
 |false,none=>∃ r,imp ch c (n0q rs ch o.op.operands.toList rs.st rs.h λvs _ hf=>match s09 (rho vs) o with
  |some (f,l)=>match okF P f with
   |true=>Tr P f l.toArray hf λv a=>v=r/\a=hf
   |false=>False
  |none=>False)/\K (.val r)
 |_,_=>False
def evG(P:Program)(o:Oper)(ch:List (Nat×Bool))(c:Bool)(rs:RS)(K:AV->Prop):Prop :=
 match o.op with
 | .move x | .assign x=>match rdG rs ch x with
  | .dead=>False
  |a=>K a
 | .pick (.tmp d) a b=>match rdG rs ch (.tmp d),v0a rs.bs d with
  | .val (.bool e),some q=>match R0i q.ch ch with
   |true=>match rdG rs ((q.j,true)::q.ch) a,rdG rs ((q.j,false)::q.ch) b with
    | .val (.bool x),.val (.bool y)=>K (.val (.bool (cond e x y)))
    |_,_=>False
   |false=>False
  |_,_=>False
 | .fieldAddr t x k=>match rdG rs ch x,H0h P t k with
  | .box i off,some g=>K (.box i (off+g))
  | .hel d i sz k,some g=>K (.hel d i sz (k+g))
  | .oel i d j sz k,some g=>K (.oel i d j sz (k+g))
  |_,_=>False
 | .indexAddr t x i=>match rdG rs ch i with
  | .val (.int _ j)=>match m01 P t with
   |some e=>match B6 P e with
    |some sz=>match rdG rs ch x with
     | .val (.slice a n f)=>imp ch c (InB (.slice a n f) j)/\K (.hel (.slice a n f) j sz 0)
     | .own i k=>match nth rs.st.ow i with
      |some ⟨_,.live _ p _ _ xs⟩=>match Nat.beq p sz with
       |true=>imp ch c (0<=j/\j<(xs.length:Int))/\K (.oel i k j sz 0)
       |false=>False
      |_=>False
     |_=>False
    |none=>False
   |none=>False
  |_=>False
 | .load t x=>match rdG rs ch x with
  | .box i off=>match nth rs.st.bx i with
   |some (.live cs _)=>T04 P t cs off K
   |_=>False
  | .hel d idx sz k=>∃ e,imp ch c (O9 rs.h d sz idx e)/\T04 P t (vals e) k K
  | .oel i _ idx sz k=>match nth rs.st.ow i with
   |some ⟨_,.live _ p _ _ xs⟩=>match Nat.beq p sz with
    |true=>∃ e,imp ch c (xs[idx.toNat]?=some e)/\T04 P t (vals e) k K
    |false=>False
   |_=>False
  |_=>False
 | .build t ps=>match P.underlying t,y01 P t with
  |some (.struct u),some z=>match o06 P u.toList with
   |true=>P07 P u (rdG rs ch) ps.toList (vals z.cells.toList) λcs=>K (.agg cs)
   |false=>False
  |_,_=>False
 | .index t x i=>match rdG rs ch x,rdG rs ch i,P.underlying t with
  | .val (.string d),.val (.int _ j),some .string=>∃ e,imp ch c (0<=j/\d[j.toNat]?=some e)/\K (.val (.int .u8 e.toNat))
  |_,_,_=>False
 | .slice t x lo hi none=>match rdG rs ch x,P.underlying t with
  | .val (.string d),some .string=>match A05 0 (lo.map (rdG rs ch)),A05 d.size (hi.map (rdG rs ch))with
   |some l,some m=>imp ch c (0<=l/\l<=m/\m<=(d.size:Int))/\K (.val (.string (d.extract l.toNat m.toNat)))
   |_,_=>False
  | .val (.slice w n f),_=>match m01 P t with
   |some e=>match B6 P e with
    |some sz=>match A05 0 (lo.map (rdG rs ch)),A05 n (hi.map (rdG rs ch))with
     |some l,some m=>∃ v,imp ch c ((0<=l/\l<=m/\m<=(n:Int)/\n<=f)/\X0k sz (.slice w n f) l.toNat m.toNat v)/\K (.val v)
     |_,_=>False
    |none=>False
   |none=>False
  |_,_=>False
 | .binOp .eql t x y yt=>match V04 (rdG rs ch x),V04 (rdG rs ch y)with
  |some (.agg xs),some (.agg s)=>∃ b,imp ch c (u0a P o x y (.agg xs) (.agg s) b)/\K (.val (.bool b))
  |some (.slice a n m),some (.slice none 0 0)=>∃ b,imp ch c (u0a P o x y (.slice a n m) (.slice none 0 0) b)/\K (.val (.bool b))
  |_,_=>K0h P o ch c rs K
 | .binOp .neq t x y yt=>match V04 (rdG rs ch x),V04 (rdG rs ch y)with
  |some (.agg xs),some (.agg s)=>∃ b,imp ch c (u0a P o x y (.agg xs) (.agg s) b)/\K (.val (.bool b))
  |_,_=>K0h P o ch c rs K
 | .binOp .add t x y yt=>match rdG rs ch x,rdG rs ch y with
  | .val (.string a),.val (.string b)=>imp ch c (a.size+b.size<=9223372036854775807)/\K (.val (.string (a++b)))
  |_,_=>K0h P o ch c rs K
 | .binOp .quo t x y yt=>match rdG rs ch x,rdG rs ch y with
  | .val (.int .i64 a),.val (.int .i64 b)=>imp ch c (b≠0)/\K (.val (.int .i64 (IntKind.i64.wrap (a.tdiv b))))
  |_,_=>K0h P o ch c rs K
 | .binOp .rem t x y yt=>match rdG rs ch x,rdG rs ch y with
  | .val (.int .i64 a),.val (.int .i64 b)=>imp ch c (b≠0)/\K (.val (.int .i64 (a.tmod b)))
  |_,_=>K0h P o ch c rs K
 | .call { callee := .builtin .len,args:=as,argTypes:=A }=>match as.toList,A.toList with
  | [x],[t]=>match rdG rs ch x with
   | .own i _=>match nth rs.st.ow i,m01 P t with
    |some ⟨_,.live _ _ _ _ xs⟩,some _=>K (.val (.int .i64 xs.length))
    |_,_=>False
   |_=>K0h P o ch c rs K
  |_,_=>False
 |_=>K0h P o ch c rs K
def R07(rs:RS)(d:Nat):Bool:=match c0e rs.gf d,v0a rs.bs d with
 |none,none=>false
 |_,_=>true
def T0i(i d:Nat)(ch:List (Nat×Bool))(av:AV)(bs:List BE):List BE:=match av with
 | .val (.bool e)=>⟨i,d,e,ch⟩::bs
 |_=>bs
def d0e(d:Option Tmp)(i:Nat)(ch:List (Nat×Bool))(av:AV)(rs:RS)(K:RS->Prop):Prop :=
 match d with
 |none=>K rs
 |some d=>match Nat.blt d rs.st.n,R07 rs d with
  |true,false=>match ch with
   | []=>K { rs with st := { rs.st with fr:=(d,av)::rs.st.fr },bs:=T0i i d ch av rs.bs }
   |_=>K { rs with st := { rs.st with fr:=(d,.dead)::rs.st.fr },gf:=(d,ch,av)::rs.gf,bs:=T0i i d ch av rs.bs }
  |_,_=>False
def Z0k:Op->Bool
 | .pick ..=>true
 |_=>false
def Q0c(P:Program):List Oper->Nat->RS->(RS->Prop)->Prop
 | [],_,rs,K=>K rs
 |o::r,i,rs,K=>match o.guard,Z0k o.op with
  |none,false=>Z8 P o rs.st rs.h λav st h=>d0e o.dst i [] av { rs with st:=st,h:=h } λrs=>Q0c P r (i+1) rs K
  |_,_=>match o00 rs.bs o.guard with
   |some ch=>match cB rs.bs ch with
    |some c=>evG P o ch c rs λav=>d0e o.dst i ch av rs λrs=>Q0c P r (i+1) rs K
    |none=>False
   |none=>False
def evQ(P:Program):List Oper->Nat->RS->(RS->Prop)->Prop
 | [],_,rs,K=>K rs
 |o::r,i,rs,K=>match o00 rs.bs o.guard with
  |some ch=>match cB rs.bs ch with
   |some c=>evG P o ch c rs λav=>d0e o.dst i ch av rs λrs=>evQ P r (i+1) rs K
   |none=>False
  |none=>False
def Sub(h a:Hp):Prop:=∀ b o,h b=some o->a b=some o
def F0o(v:Value)(K:Value->Prop):Prop:=match v with
 | .bool b=>K (.bool b)
 | .int k n=>K (.int k n)
 | .string s=>K (.string s)
 | .pointer a=>K (.pointer a)
 | .slice a n c=>K (.slice a n c)
 | .func f x y=>K (.func f x y)
 | .agg cs=>K (.agg cs)
 | .tuple vs=>K (.tuple vs)
 |v=>K v
theorem z0n(v:Value)(K:Value->Prop):F0o v K=K v:=by cases v<;>rfl
def P9{a:Type}:List a->(List a->Prop)->Prop
 | [],K=>K []
 |x::r,K=>P9 r λr=>K (x::r)
theorem B02{a:Type}:∀(l:List a) (K:List a->Prop),P9 l K=K l
 | [],K=>rfl
 |x::r,K=>by simp only[P9,B02 r]
def W04:Nat->(Nat->Prop)->Prop
 |0,K=>K 0
 |n+1,K=>W04 n λm=>K (m+1)
theorem S07:∀(n:Nat) (K:Nat->Prop),W04 n K=K n
 |0,K=>rfl
 |n+1,K=>by simp only[W04,S07 n]
def Y01(av:AV)(K:AV->Prop):Prop:=match av with
 | .val v=>F0o v λv=>K (.val v)
 | .own i k=>K (.own i k)
 | .box i k=>K (.box i k)
 | .hel s i z k=>W04 z λz=>W04 k λk=>K (.hel s i z k)
 | .oel j s i z k=>W04 z λz=>W04 k λk=>K (.oel j s i z k)
 | .agg cs=>P9 cs λcs=>K (.agg cs)
 | .dead=>K .dead
theorem r03(av:AV)(K:AV->Prop):Y01 av K=K av:=by
 cases av with
 |val v=>exact z0n v (λv=>K (.val v))
 |hel s i z k=>simp only[Y01,S07]
 |oel j s i z k=>simp only[Y01,S07]
 |agg cs=>simp only[Y01,B02]
 |_=>rfl
inductive R6 where
 |pu (av:AV)
 |ef (F:Value->Hp->Prop)
def I3:List (Nat×R6)->Nat->Option R6
 | [],_=>none
 |(k,x)::r,s=>match Nat.beq k s with
  |true=>some x
  |false=>I3 r s
def rdS(L:List (Nat×R6))(st:St):Operand->AV
 | .tmp t=>match I3 L t with
  |some (.pu av)=>rdA st av
  |some (.ef _) => .dead
  |none=>rdA st (Z2 st.fr t)
 |x=>rdO st x
def e0e(P:Program)(t:TypeId)(cs:List S5)(off:Nat):Option AV :=
 match G0h P t with
 |some true=>match B6 P t with
  |some n=>match H07 ((cs.drop off).take n) n with
   |true=>some (.agg ((cs.drop off).take n))
   |false=>none
  |none=>none
 |some false=>match nth cs off with
  |some c=>some (ofCell c)
  |none=>none
 |none=>none
def a0l(P:Program)(L:List (Nat×R6))(o:Oper)(st:St):Option AV:=match o.op with
 | .move x | .assign x=>match rdS L st x with
  | .dead=>none
  |a=>some a
 | .load t x=>match rdS L st x with
  | .box i off=>match nth st.bx i with
   |some (.live cs _)=>e0e P t cs off
   |_=>none
  |_=>none
 |_=>none
def f0e(L:List (Nat×R6))(st:St)(h:Hp):List Operand->List (Nat×AV)->(List (Nat×AV)->Prop)->Prop
 | [],acc,K=>K acc
 | .tmp t::r,acc,K=>match I3 L t with
  |some (.pu av)=>f0e L st h r ((t,av)::acc) K
  |some (.ef F)=>∀ v,F v h->f0e L st h r ((t,.val v)::acc) K
  |none=>f0e L st h r ((t,Z2 st.fr t)::acc) K
 |_::r,acc,K=>f0e L st h r acc K
def T07(d:Option Tmp)(f:R6)(L:List (Nat×R6)):List (Nat×R6):=match d with
 |some d=>(d,f)::L
 |none=>L
def s0s(st:St)(h:Hp)(F:Value->Hp->Prop):AV->St->Hp->Prop
 | .val v,st',a=>st'=st/\Sub h a/\F v a
 |_,_,_=>False
def c00(i:Nat)(o:Oper):Bool:=o.after.toList.any λe=>Region.binds .any e&&Nat.beq e.on i
def C02(o:Oper)(t:Nat):List Oper->Nat->Bool
 | [],_=>true
 |x::r,i=>match x.dst with
  |some d=>match Nat.beq d t with
   |true=>c00 i o&&C02 o t r (i+1)
   |false=>C02 o t r (i+1)
  |none=>C02 o t r (i+1)
def w0a(o:Oper)(ops:List Oper):List Operand->Bool
 | []=>true
 | .tmp t::r=>C02 o t ops 0&&w0a o ops r
 |_::r=>w0a o ops r
def U07(d:Nat):List Oper->Bool
 | []=>true
 |o::r=>match o.dst with
  |some a => !Nat.beq d a&&U07 d r
  |none=>U07 d r
def U0i(n:Nat):List Oper->Bool
 | []=>true
 |o::r=>match o.dst with
  |some d=>Nat.blt d n&&U07 d r&&U0i n r
  |none=>U0i n r
def R0c:List Oper->Nat->Bool
 | [],_=>true
 |o::r,j=>(o.after.toList.all λe => !Region.binds .any e || Nat.blt e.on j)&&R0c r (j+1)
def k0m(ops:List Oper):List Oper->Bool
 | []=>true
 |o::r=>w0a o ops o.op.operands.toList&&k0m ops r
def e03(n:Nat)(ops:List Oper):Bool:=U0i n ops&&R0c ops 0&&k0m ops ops
def l0m:List S5->Bool
 | []=>true
 | .val _::r=>l0m r
 | .own _ _::_=>false
def L0h:AV->Bool
 | .val _=>true
 | .box _ _=>true
 | .own _ _=>true
 | .agg cs=>l0m cs
 |_=>false
def b06(L:List (Nat×R6))(st:St):Operand->AV
 | .tmp t=>match I3 L t with
  |some (.pu av)=>av
  |some (.ef _) => .dead
  |none=>Z2 st.fr t
 | .const v => .val v
 |_ => .dead
def S0c(L:List (Nat×R6))(st:St):List Operand->Option (List (Nat×Value))
 | []=>some []
 | .tmp t::r=>match b06 L st (.tmp t)with
  | .val v=>match S0c L st r with
   |some vs=>some ((t,v)::vs)
   |none=>none
  |_=>none
 | .global _::_=>none
 |_::r=>S0c L st r
def b0l(P:Program)(L:List (Nat×R6))(o:Oper)(st:St):Option AV:=match P0c o.op,S0c L st o.op.operands.toList with
 |false,some vs=>match s09 (rho vs) o with
  |some _=>none
  |none=>match evP P (P0i (rho vs) o)with
   |some (.value v)=>some (.val v)
   |_=>none
 |_,_=>none
def t0s:AV->Bool
 | .val (.int _ _)=>true
 |_=>false
def H0s:BinOp->Bool
 | .lss=>true
 | .leq=>true
 | .gtr=>true
 | .geq=>true
 | .eql=>true
 | .neq=>true
 | .add=>true
 | .sub=>true
 | .mul=>true
 |_=>false
def t09(P:Program)(L:List (Nat×R6))(o:Oper)(st:St):Option AV:=match o.op with
 | .move x=>match L0h (b06 L st x)with
  |true=>some (b06 L st x)
  |false=>none
 | .assign x=>match L0h (b06 L st x)with
  |true=>some (b06 L st x)
  |false=>none
 | .load t x=>match b06 L st x with
  | .box i off=>match nth st.bx i with
   |some (.live cs _)=>match e0e P t cs off with
    |some av=>match L0h av with
     |true=>some av
     |false=>none
    |none=>none
   |_=>none
  |_=>none
 | .fieldAddr t x k=>match b06 L st x,H0h P t k with
  | .box i off,some a=>some (.box i (off+a))
  |_,_=>none
 | .binOp op _ x y _=>match H0s op,t0s (b06 L st x),t0s (b06 L st y)with
  |true,true,true=>b0l P L o st
  |_,_,_=>none
 | .call { callee := .builtin .len,args:=as,argTypes:=_ }=>match as.toList with
  | [x]=>match b06 L st x with
   | .val (.slice _ _ _)=>b0l P L o st
   |_=>none
  |_=>none
 |_=>none
def J00(L:List (Nat×R6))(st:St):List Oper->List Nat
 | []=>[]
 |o::r=>match o.op with
  | .load _ x=>match b06 L st x with
   | .box i _=>i::J00 L st r
   |_=>J00 L st r
  |_=>J00 L st r
def u09(bx:List BSt):List Nat->List (Option BSt)
 | []=>[]
 |i::r=>nth bx i::u09 bx r
def B05(L:List (Nat×R6))(a:List (Nat×AV)):List Operand->List (Nat×AV)->(List (Nat×AV)->Prop)->Prop
 | [],acc,K=>K acc
 | .tmp t::r,acc,K=>match I3 L t with
  |some (.pu av)=>B05 L a r ((t,av)::acc) K
  |some (.ef _)=>B05 L a r ((t,.dead)::acc) K
  |none=>B05 L a r ((t,Z2 a t)::acc) K
 |_::r,acc,K=>B05 L a r acc K
def c0l:List (Nat×R6)->List (Nat×AV)->List (Nat×AV)
 | [],fr=>fr
 |(d,.pu av)::r,fr=>(d,av)::c0l r fr
 |(d,.ef _)::r,fr=>(d,.dead)::c0l r fr
def m0m(av:AV)(st:St)(h:Hp):AV->St->Hp->Prop:=λa st' b=>a=av/\st'=st/\b=h
def V0i(P:Program)(st:St)(h:Hp)(L:List (Nat×R6))(o:Oper)(av:AV):Prop :=
 match st with
 |⟨n,fr,bx,ow⟩=>∀ a,Sub h a->B05 L fr o.op.operands.toList [] λfr=>Z8 P o ⟨n,fr,bx,ow⟩ a (m0m av ⟨n,fr,bx,ow⟩ a)
def b04(P:Program)(st:St)(h:Hp):List Oper->Nat->List (Nat×R6)->List (Nat×Oper)->List (Nat×Oper)->(List (Nat×R6)->List (Nat×Oper)->List (Nat×Oper)->Prop)->Prop
 | [],_,L,X,E,K=>K L X E
 |o::r,i,L,X,E,K=>match o.guard with
  |some _=>False
  |none=>match t09 P L o st with
   |some av=>Y01 av λav=>b04 P st h r (i+1) (T07 o.dst (.pu av) L) X E K
   |none=>(∃ av,V0i P st h L o av/\Y01 av λav=>b04 P st h r (i+1) (T07 o.dst (.pu av) L) (X ++ [(i,o)]) E K) ∨
     b04 P st h r (i+1) (T07 o.dst (.ef λ_ _=>True) L) X (E ++ [(i,o)]) K
def M0h(X:List (Nat×Oper)):Nat->Nat->Oper->Bool
 |0,i,q=>c00 i q
 |n+1,i,q=>c00 i q || X.any λy=>c00 y.1 q&&M0h X n i y.2
def g0e(X Y:List (Nat×Oper)):List (Nat×Oper)->Bool
 | []=>true
 |(_,q)::_=>X.all λx=>M0h Y 8 x.1 q
def X04:List (Nat×Oper)->Bool
 |(i,o)::(j,a)::r=>c00 i a&&X04 ((j,a)::r)
 |_=>true
def Y04:Nat->Nat->Oper->Bool
 |0,_,_=>true
 |k+1,i,o=>(Nat.beq k i || c00 k o)&&Y04 k i o
def V07(d:Nat):List Operand->Bool
 | []=>false
 | .tmp t::r=>Nat.beq t d || V07 d r
 |_::r=>V07 d r
def h0e(d:Nat):List Oper->Bool
 | []=>false
 |o::r=>V07 d o.op.operands.toList || h0e d r
def n01:List Oper->List Oper
 | []=>[]
 |o::r=>match r with
  | []=>[]
  |_::_=>o::n01 r
def i0e:List Oper->Option Oper
 | []=>none
 |o::r=>match r with
  | []=>some o
  |_::_=>i0e r
def G0o(ops:List Oper):Option Oper:=match i0e ops with
 |some o=>match o.guard,o.dst with
  |none,some d=>match h0e d (n01 ops)&&Y04 (n01 ops).length (n01 ops).length o with
   |true=>some o
   |false=>none
  |_,_=>none
 |none=>none
def s04(P:Program)(o:Oper)(st:St)(h:Hp)(K:St->Hp->Prop):Prop :=
 Z8 P o st h λav st h=>d0e o.dst 0 [] av ⟨st,h,[],[]⟩ λrs=>K rs.st rs.h
def j0e(N i:Nat)(o:Oper):List (Nat×Oper)->Bool
 | []=>Y04 N i o
 |_::_=>false
def n0m(c:Nat)(b:Bool)(rd:List Nat)(bx a:List BSt):Prop:=match b with
 |true=>True
 |false=>match c with
  |0=>u09 a rd=u09 bx rd
  |_+1=>a=bx
def N0h:Nat->List Own->List Own->Hp->Hp->Prop
 |0,_,_,_,_=>True
 |_+1,ow,b,h,a=>b=ow/\Sub h a
def evC(rd:List Nat)(N:Nat)(P:Program):Nat->List (Nat×Oper)->List (Nat×R6)->St->Hp->(St->Hp->Prop)->Prop
 |_,[],L,⟨n,fr,bx,ow⟩,h,K=>P9 (c0l L fr) λfr=>K ⟨n,fr,bx,ow⟩ h
 |c,(i,o)::r,L,⟨n,fr,bx,ow⟩,h,K=>B05 L fr o.op.operands.toList [] λe=>Z8 P o ⟨n,e,bx,ow⟩ h λav st' d=>match st' with
  |⟨_,_,a,b⟩=>N0h c ow b h d/\n0m c (j0e N i o r) rd bx a/\Y01 av λav=>P9 a λa=>P9 b λb=>evC rd N P (c-1) r (T07 o.dst (.pu av) L) ⟨n,fr,a,b⟩ d K
def o0q(f:Nat×Oper)(rd:List Nat)(N:Nat)(P:Program):Nat->List (Nat×Oper)->List (Nat×R6)->St->Hp->(St->Hp->Prop)->Prop
 |0,E,L,st,h,K=>evC rd N P 0 (f::E) L st h K
 |p+1,E,L,st,h,K=>evC rd N P 0 (f::E) L st h K/\match E with
  | []=>False
  |(i,o)::r=>match st with
   |⟨n,fr,bx,ow⟩=>B05 L fr o.op.operands.toList [] λd=>Z8 P o ⟨n,d,bx,ow⟩ h λav st' c=>match st' with
    |⟨_,_,a,b⟩=>N0h 0 ow b h c/\n0m 0 (j0e N i o r) rd bx a/\Y01 av λav=>P9 a λa=>P9 b λb=>o0q f rd N P p r (T07 o.dst (.pu av) L) ⟨n,fr,a,b⟩ c K
def A0n(f:Nat×Oper):Nat->List (Nat×Oper)->Bool
 |_,[]=>false
 |0,(_,q)::_=>c00 f.1 q
 |p+1,_::r=>A0n f p r
def r0g:Nat->List (Nat×Oper)->Option ((Nat×Oper)×List (Nat×Oper))
 |_,[]=>none
 |0,x::r=>some (x,r)
 |k+1,x::r=>match r0g k r with
  |some (f,a)=>some (f,x::a)
  |none=>none
def noX:List (Nat×Oper)->Bool
 | []=>true
 |_::_=>false
def evD(rd:List Nat)(N:Nat)(P:Program)(X E:List (Nat×Oper))(L:List (Nat×R6))(st:St)(h:Hp)(K:St->Hp->Prop):Prop :=
 (∃ c,(X04 E=true/\g0e X (X++E) (E.drop c)=true)/\evC rd N P c E L st h K) ∨
 (∃ k p,match r0g k E with
  |some (f,E')=>(noX X=true/\X04 E'=true/\A0n f p E'=true)/\o0q f rd N P p E' L st h K
  |none=>False)
abbrev FL:=List (Nat×List (Nat×Bool)×R6)
def U03:FL->Nat->Option (List (Nat×Bool)×R6)
 | [],_=>none
 |(k,x)::r,s=>match Nat.beq k s with
  |true=>some x
  |false=>U03 r s
def rdU(L:FL)(st:St)(ch:List (Nat×Bool)):Operand->AV
 | .tmp t=>match U03 L t with
  |some (a,.pu av)=>match R0i a ch with
   |true=>rdA st av
   |false => .dead
  |some (_,.ef _) => .dead
  |none=>rdA st (Z2 st.fr t)
 |x=>rdO st x
def v09(P:Program)(L:FL)(bs:List BE)(ch:List (Nat×Bool))(o:Oper)(st:St):Option AV:=match o.op with
 | .move x | .assign x=>match rdU L st ch x with
  | .dead=>none
  |a=>some a
 | .load t x=>match rdU L st ch x with
  | .box i off=>match nth st.bx i with
   |some (.live cs _)=>e0e P t cs off
   |_=>none
  |_=>none
 | .fieldAddr t x k=>match rdU L st ch x,H0h P t k with
  | .box i off,some d=>some (.box i (off+d))
  | .hel c i sz k,some d=>some (.hel c i sz (k+d))
  |_,_=>none
 | .pick (.tmp c) a b=>match rdU L st ch (.tmp c),v0a bs c with
  | .val (.bool e),some q=>match R0i q.ch ch with
   |true=>match rdU L st ((q.j,true)::q.ch) a,rdU L st ((q.j,false)::q.ch) b with
    | .val (.bool x),.val (.bool y)=>some (.val (.bool (cond e x y)))
    |_,_=>none
   |false=>none
  |_,_=>none
 |_=>none
def u07(L:FL)(st:St)(h:Hp)(ch:List (Nat×Bool)):List Operand->List (Nat×AV)->(List (Nat×AV)->Prop)->Prop
 | [],acc,K=>K acc
 | .tmp t::r,acc,K=>match U03 L t with
  |some (a,f)=>match R0i a ch with
   |true=>match f with
    | .pu av=>u07 L st h ch r ((t,av)::acc) K
    | .ef F=>∀ v,F v h->u07 L st h ch r ((t,.val v)::acc) K
   |false=>False
  |none=>u07 L st h ch r ((t,Z2 st.fr t)::acc) K
 |_::r,acc,K=>u07 L st h ch r acc K
def e0g(h:Hp):FL->List (Nat×AV)->(List (Nat×AV)->Prop)->Prop
 | [],fr,K=>K fr
 |(d,[],.pu av)::r,fr,K=>e0g h r ((d,av)::fr) K
 |(d,[],.ef F)::r,fr,K=>∀ v,F v h->e0g h r ((d,.val v)::fr) K
 |(d,_::_,_)::r,fr,K=>e0g h r ((d,.dead)::fr) K
def O0h(d:Option Tmp)(ch:List (Nat×Bool))(f:R6)(L:FL):FL:=match d with
 |some d=>(d,ch,f)::L
 |none=>L
def P0h(i:Nat)(d:Option Tmp)(ch:List (Nat×Bool))(av:AV)(bs:List BE):List BE:=match d with
 |some d=>match av with
  | .val (.bool e)=>⟨i,d,e,ch⟩::bs
  |_=>bs
 |none=>bs
def d0l(st st':St):Prop:=st'.n=st.n/\st'.fr=st.fr/\st'.bx=st.bx/\∃ t,st'.ow=st.ow++t
def H0o(st:St)(h:Hp)(F:Value->Hp->Prop):AV->St->Hp->Prop:=λav st' b=>rfy av st' b λv c a=>d0l st c/\Sub h a/\F v a
def I0o(P:Program)(t n:Nat)(st:St)(h:Hp)(K:AV->St->Hp->Prop):Prop :=
 match m01 P t with
 |some e=>match B6 P e,Nat.beq n 0 with
  |some (_+1),true=>∀ g,h g=none->K (.val (.slice (some ⟨g,0,none⟩) 0 0)) st (h.set g (.cells #[] e (0,0)))
  |_,_=>False
 |none=>False
def J0o(P:Program)(t:TypeId)(a b:Operand)(st:St)(h:Hp)(K:AV->St->Hp->Prop):Prop :=
 match m01 P t with
 |some e=>match B6 P e,Q09 P e,y01 P e with
  |some (sz+1),some (by_+1),some z=>match H07 z.cells.toList (sz+1)with
   |true=>match rdO st a with
    | .val (.slice (some ⟨g,o,none⟩) 0 0)=>a0e st h (sz+1) (rdO st b) λc=>Q07 c.length (by_+1) /\
      ((c = []->K (.val (.slice (some ⟨g,o,none⟩) 0 0)) st h)/\∀ v d,H1 h d v e (sz+1) true c->K (.val v) st d)
    |_=>False
   |false=>False
  |_,_,_=>False
 |none=>False
def W0i(P:Program)(o:Oper)(st:St)(h:Hp)(K:AV->St->Hp->Prop):Prop :=
 match o.op with
 | .buildSlice t n ps=>match ps.toList with
  | []=>I0o P t n st h K
  |_::_=>Z8 P o st h K
 | .call { callee := .builtin .append,args:=as,argTypes:=d }=>match as.toList,d.toList with
  | [a,b],[t,c]=>match Nat.beq t c with
   |true=>J0o P t a b st h K
   |false=>False
  |_,_=>False
 |_=>Z8 P o st h K
def evU(P:Program)(l:List Oper):Nat->FL->List BE->St->Hp->(St->Hp->Prop)->Prop :=
  List.rec (motive:=λ_=>Nat->FL->List BE->St->Hp->(St->Hp->Prop)->Prop)
    (λ_ L _ st h K=>match st with
      |⟨n,fr,bx,ow⟩=>∀ a,Sub h a->e0g a L fr λfr=>K ⟨n,fr,bx,ow⟩ a)
    (λo _ b i L bs st h K=>match st with
      |⟨n,fr,bx,ow⟩=>match o00 bs o.guard with
        |some ch=>match cB bs ch with
          |some c=>match v09 P L bs ch o ⟨n,fr,bx,ow⟩with
            |some av=>Y01 av λav=>b (i+1) (O0h o.dst ch (.pu av) L) (P0h i o.dst ch av bs) ⟨n,fr,bx,ow⟩ h K
            |none=>(∃ av,(∀ a,Sub h a->imp ch c (u07 L ⟨n,fr,bx,ow⟩ a ch o.op.operands.toList [] λfr=>Z8 P o ⟨n,fr,bx,ow⟩ a (m0m av ⟨n,fr,bx,ow⟩ a))) /\
                  Y01 av λav=>b (i+1) (O0h o.dst ch (.pu av) L) (P0h i o.dst ch av bs) ⟨n,fr,bx,ow⟩ h K) ∨
                (∃ F:Value->Hp->Prop,(∀ v d e,Sub d e->F v d->F v e) /\
                  (∀ a,Sub h a->imp ch c (u07 L ⟨n,fr,bx,ow⟩ a ch o.op.operands.toList [] λfr=>W0i P o ⟨n,fr,bx,ow⟩ a (H0o ⟨n,fr,bx,ow⟩ a F))) /\
                  b (i+1) (O0h o.dst ch (.ef F) L) bs ⟨n,fr,bx,ow⟩ h K)
          |none=>False
        |none=>False) l
def Q0d:List Oper->Bool
 | []=>true
 |o::r=>(match o.guard with
  |some (j,_)=>c00 j o
  |none=>true)&&Q0d r
def k04(n:Nat)(ops:List Oper):Bool:=e03 n ops&&Q0d ops
def p0q(P:Program):List Oper->Bool
 | []=>false
 |o::r=>(match o.guard,o.op with
  |some _,.call { callee := .value _,args:=_,argTypes:=_ }=>match P.underlying o.type with
   |some (.slice _)=>true
   |some (.struct _)=>true
   |some (.tuple _)=>true
   |_=>false
  |_,_=>false) || p0q P r
def Z04(o:Oper):Bool:=match o.op with
 | .alloc _=>true
 |_=>false
def B00(o:Oper):Oper:=match o.op with
 | .alloc _ => { o with op := .move (.const undef) }
 |_=>o
def Q5:List Oper->List Oper
 | []=>[]
 |o::r=>B00 o::Q5 r
def okA(P:Program)(all:List Oper):List Oper->Bool
 | []=>true
 |o::r=>(match o.op with
  | .alloc t=>(match o.guard,o.dst,y01 P t with
   |none,some d,some _ => !h0e d all
   |_,_,_=>false)
  |_=>true)&&okA P all r
def e0l(x:Nat):List Nat->Bool
 | []=>false
 |y::r=>Nat.beq x y || e0l x r
def x0a(ops:List Oper)(i:Nat):List Nat->Bool
 | []=>false
 |j::r=>(match nth ops j with
  |some o=>c00 i o
  |none=>false) || x0a ops i r
def s0g(ops:List Oper):Nat->List Nat->List Nat
 |0,acc=>acc
 |i+1,acc=>match x0a ops i acc with
  |true=>s0g ops i (i::acc)
  |false=>s0g ops i acc
def I0b:Operand->List Nat
 | .tmp t=>[t]
 |_=>[]
def w09(o:Oper):Option (List Nat):=match o.guard with
 |some _=>none
 |none=>match o.op with
  | .extract x _=>some (I0b x)
  | .move x=>some (I0b x)
  | .assign x=>some (I0b x)
  | .pick c x y=>some (I0b c++(I0b x++I0b y))
  |_=>none
def x09(d:Nat):List Oper->Bool
 | []=>false
 |o::r=>(match o.dst with
  |some e=>Nat.beq e d
  |none=>false) || x09 d r
def a05(a:List Nat)(t:Nat):List Oper->Nat->Bool
 | [],_=>true
 |o::r,i=>(match o.dst with
  |some e => !Nat.beq e t || e0l i a
  |none=>true)&&a05 a t r (i+1)
def q06(i d:Nat):List Oper->Bool
 | []=>true
 |o::r=>(!V07 d o.op.operands.toList || c00 i o)&&q06 i d r
def o0m(b c:List Oper)(a:List Nat):List Nat->Bool
 | []=>true
 |t::r=>(!x09 t c&&a05 a t b 0)&&o0m b c a r
def p0m(c a:List Oper)(b:List Nat)(i:Nat)(o:Oper):Bool:=match w09 o,o.dst with
 |some e,some d => !x09 d a&&o0m c a b e&&q06 i d a
 |_,_=>false
def R0d(b c:List Oper)(a:List Nat):List Oper->Nat->Bool
 | [],_=>true
 |o::r,i=>(e0l i a || p0m b c a i o)&&R0d b c a r (i+1)
def X0i:List Oper->Bool
 | []=>true
 |o::r => !P0c o.op&&X0i r
def K0o:Nat->List Oper->Bool
 |_,[]=>true
 |k,o::r=>(match o.guard with
  |none=>true
  |some _=>false)&&(match r with
  | []=>true
  |o'::_=>c00 k o')&&K0o (k+1) r
def u0s:List Oper->Bool
 | []=>true
 |_::_=>false
def okZ(P:Program)(n m:Nat)(ops:List Oper):Bool :=
 k04 n (Q5 (ops.take m))&&okA P (ops.take m) (ops.take m)&&R0c ops 0&&K0o m (ops.drop m)&&(u0s (ops.drop m) || (R0d (ops.take m) (ops.drop m) (s0g ops m [m]) (ops.take m) 0&&X0i (ops.drop m)))
abbrev K0r:=Oper->St->Hp->(St->Hp->Prop)->Prop
def doA(R:K0r)(l:List Oper):St->Hp->(St->Hp->Prop)->Prop :=
 List.rec (motive:=λ_=>St->Hp->(St->Hp->Prop)->Prop) (λst h K=>K st h) (λo _ a st h K=>match Z04 o with
  |true=>R o st h λst h=>a st h K
  |false=>a st h K) l
def doT(R:K0r)(l:List Oper):St->Hp->(St->Hp->Prop)->Prop :=
 List.rec (motive:=λ_=>St->Hp->(St->Hp->Prop)->Prop) (λst h K=>K st h) (λo _ a st h K=>R o st h λst h=>a st h K) l
def evT(P:Program)(R:K0r)(m:Nat)(ops:List Oper)(st:St)(h:Hp)(K:St->Hp->Prop):Prop :=
 evU P (Q5 (ops.take m)) 0 [] [] st h λst h=>doA R (ops.take m) st h λst h=>doT R (ops.drop m) st h K
inductive Ex where
 |normal|ret
 |exit (i:Nat)
structure Ann where
 vars:List Nat
 boxes:List Nat
 owns:List Nat
 nils:List (Nat×Nat×Nat×Nat):=[]
 nilsB:List (Nat×Nat×Nat×Nat×Nat):=[]
 kept:List Nat:=[]
 fuel:Bool:=false
 pubs:List Nat:=[]
def Y0i:List (Nat×Nat×Nat×Nat)->St->(St->Prop)->Prop
 | [],st,K=>K st
 |(s,e,sz,by_)::r,⟨n,fr,bx,ow⟩,K=>match rdA ⟨n,fr,bx,ow⟩ (Z2 fr s),Nat.blt s n with
  | .val (.slice none 0 0),true=>V0k ow λk=>Y0i r ⟨n,(s,.own k 0)::fr,bx,ow ++ [⟨0,.live e sz by_ false []⟩]⟩ K
  |_,_=>False
def k0e:List (Nat×Nat×Nat×Nat×Nat)->St->(St->Prop)->Prop
 | [],st,K=>K st
 |(i,k,e,sz,by_)::r,⟨n,fr,bx,ow⟩,K=>match nth bx i with
  |some (.live cs ty)=>match nth cs k with
   |some (.val (.slice none 0 0))=>V0k ow λj=>k0e r ⟨n,fr,I00 bx i (.live (I00 cs k (.own j 0)) ty),ow ++ [⟨0,.live e sz by_ false []⟩]⟩ K
   |_=>False
  |_=>False
def Z0i:List Nat->St->Hp->(St->Hp->Prop)->Prop
 | [],st,h,K=>K st h
 |s::r,st,h,K=>rfy (rdA st (Z2 st.fr s)) st h λv st h=>match st with
  |⟨n,fr,bx,ow⟩=>match Nat.blt s n with
   |true=>Z0i r ⟨n,(s,.val v)::fr,bx,ow⟩ h K
   |false=>False
def R09(x:Nat):List Nat->Bool
 | []=>false
 |y::r=>match Nat.beq x y with
  |true=>true
  |false=>R09 x r
def L0r:List Oper->List Nat->List Nat
 | [],acc=>acc
 |o::r,acc=>match o.dst with
  |some d=>L0r r (d::acc)
  |none=>L0r r acc
def f0g:Code->List Nat->List Nat
 | .region _ ops _,acc=>L0r ops.toList acc
 | .seq a b,acc=>f0g a (f0g b acc)
 | .cond _ a b,acc=>f0g a (f0g b acc)
 | .block _ a,acc=>f0g a acc
 | .loop a,acc=>f0g a acc
 | .scope a,acc=>f0g a acc
 |_,acc=>acc
def J0b:List Nat->(List Nat->Prop)->Prop
 | [],K=>K []
 |x::r,K=>J0b r λr=>K (x::r)
def q0q:List Nat->St->(List Value->Prop)->Prop
 | [],_,K=>K []
 |s::r,st,K=>match rdA st (Z2 st.fr s)with
  | .val v=>q0q r st λvs=>K (v::vs)
  |_=>False
def a0j:List S5->St->(List Value->Prop)->Prop
 | [],_,K=>K []
 | .val v::r,st,K=>a0j r st λvs=>K (v::vs)
 | .own _ _::r,st,K=>a0j r st K
def l0e:List Nat->St->(List Value->Prop)->Prop
 | [],_,K=>K []
 |i::r,st,K=>match nth st.bx i with
  |some (.live cs _)=>a0j cs st λvs=>l0e r st λa=>K (vs++a)
  |_=>False
def t0g:List Nat->St->(List (List (List Value))->Prop)->Prop
 | [],_,K=>K []
 |i::r,st,K=>match nth st.ow i with
  |some ⟨_,.live _ _ _ _ xs⟩=>t0g r st λos=>K (xs::os)
  |_=>False
def f0l(A:Ann)(st:St)(K:List Value->List (List (List Value))->Prop):Prop :=
 q0q A.vars st λvs=>l0e A.boxes st λa=>t0g A.owns st λos=>K (vs++a) os
def l04:List S5->List Value->(List S5->List Value->Prop)->Prop
 | [],vs,K=>K [] vs
 | .val _::r,v::vs,K=>l04 r vs λcs a=>K (.val v::cs) a
 | .val _::_,[],_=>False
 | .own i k::r,vs,K=>l04 r vs λcs a=>K (.own i k::cs) a
def r06:List Nat->List Value->List BSt->(List BSt->Prop)->Prop
 | [],_,bx,K=>K bx
 |i::r,vs,bx,K=>match nth bx i with
  |some (.live cs ty)=>l04 cs vs λcs a=>r06 r a (I00 bx i (.live cs ty)) K
  |_=>False
def s06:List Nat->List (List (List Value))->List Own->(List Own->Prop)->Prop
 | [],_,ow,K=>K ow
 |i::r,xs::os,ow,K=>match nth ow i with
  |some ⟨s,.live e sz by_ nn _⟩=>s06 r os (I00 ow i ⟨s,.live e sz by_ nn xs⟩) K
  |_=>False
 |_::_,[],_,_=>False
def W07{c:Type}:Nat->List c->(List c->List c->Prop)->Prop
 |0,l,K=>K [] l
 |n+1,x::l,K=>W07 n l λa b=>K (x::a) b
 |_+1,[],_=>False
def y09(A:Ann)(st:St):List Nat->List (Nat×AV)->(List (Nat×AV)->Prop)->Prop
 | [],acc,K=>K acc
 |s::r,acc,K=>match R09 s A.vars with
  |true=>y09 A st r acc K
  |false=>match rdA st (Z2 st.fr s)with
   | .own i k=>y09 A st r ((s,.own i k)::acc) K
   | .box i o=>y09 A st r ((s,.box i o)::acc) K
   |_=>y09 A st r ((s,.dead)::acc) K
def q0m:List S5->Bool
 | []=>true
 | .val _::r=>q0m r
 | .own _ _::_=>false
def t06(A:Ann)(ds:List Nat)(st:St):List (Nat×AV)->(List (Nat×AV)->Prop)->Prop
 | [],K=>K []
 |(s,av)::r,K=>match R09 s ds with
  |true=>t06 A ds st r K
  |false=>match rdA st av with
   | .own i k=>match R09 i A.owns,R09 i A.kept with
    |true,false=>t06 A ds st r λl=>K ((s,.dead)::l)
    |_,_=>t06 A ds st r λl=>K ((s,.own i k)::l)
   | .oel _ _ _ _ _=>t06 A ds st r λl=>K ((s,.dead)::l)
   | .agg cs=>match q0m cs with
    |true=>t06 A ds st r λl=>K ((s,.agg cs)::l)
    |false=>t06 A ds st r λl=>K ((s,.dead)::l)
   |a=>t06 A ds st r λl=>K ((s,a)::l)
def K0b:List Nat->List Value->List (Nat×AV)->List (Nat×AV)
 |s::r,v::vs,acc=>K0b r vs ((s,.val v)::acc)
 |_,_,acc=>acc
def T0c(b a:St):List (Nat×AV)->Bool
 | []=>true
 |(c,av)::r=>match av with
  | .own i _=>match rdA a (Z2 a.fr c)with
   | .own j _=>match Nat.beq i j with
    |true=>T0c b a r
    |false=>false
   |_=>false
  | .box i o=>match rdA a (Z2 a.fr c)with
   | .box j p=>match Nat.beq i j,Nat.beq o p with
    |true,true=>T0c b a r
    |_,_=>false
   |_=>false
  |_=>T0c b a r
def g0l:AV->Bool
 | .dead=>true
 |_=>false
def B0n:List (Nat×AV)->List AV
 | []=>[]
 |(_,av)::r=>match g0l av with
  |true=>B0n r
  |false=>av::B0n r
def u0g(fr:List (Nat×AV)):List (Nat×AV)->List AV
 | []=>[]
 |(s,av)::r=>match g0l av with
  |true=>u0g fr r
  |false=>Z2 fr s::u0g fr r
def u06(c a:St):List S5->List S5->Bool
 | [],[]=>true
 | .val _::r,.val _::b=>u06 c a r b
 | .own i _::r,.own j d::b=>match Nat.beq i j,rdA a (.own j d)with
  |true,.own _ _=>u06 c a r b
  |_,_=>false
 |_,_=>false
def y0a(os:List Nat):List S5->Bool
 | []=>true
 | .val _::r=>y0a os r
 | .own i _::r=>match R09 i os with
  |true=>false
  |false=>y0a os r
def h0l(os:List Nat):BSt->Bool
 | .live cs _=>y0a os cs
 | .publ _=>true
def L0b(A:Ann)(c a:St):Nat->List BSt->List BSt->Prop
 |_,[],_=>True
 |i,b::r,d::e=>match R09 i A.boxes with
  |true=>match b,d with
   | .live cs ty,.live cs' f=>match Nat.beq ty f,u06 c a cs cs' with
    |true,true=>L0b A c a (i+1) r e
    |_,_=>False
   |_,_=>False
  |false=>match h0l A.owns b with
   |true=>d=b/\L0b A c a (i+1) r e
   |false=>False
 |_,_::_,[]=>False
def leB(a b:Bool):Bool:=match a with
 |true=>b
 |false=>true
def M0b(A:Ann):Nat->List Own->List Own->Prop
 |_,[],_=>True
 |i,b::r,a::c=>match R09 i A.owns with
  |true=>match b,a with
   |⟨h,.live e sz by_ nn _⟩,⟨j,.live f k d g _⟩=>match Nat.beq e f,Nat.beq sz k,Nat.beq by_ d,leB nn g,leB (R09 i A.kept) (Nat.beq h j)with
    |true,true,true,true,true=>M0b A (i+1) r c
    |_,_,_,_,_=>False
   |_,_=>False
  |false=>a=b/\M0b A (i+1) r c
 |_,_::_,[]=>False
def z0a:Nat->(List Value->Prop)->Prop
 |0,K=>K []
 |n+1,K=>∀ v,z0a n λvs=>K (v::vs)
def A0a:Nat->(List (List (List Value))->Prop)->Prop
 |0,K=>K []
 |n+1,K=>∀ xs,A0a n λos=>K (xs::os)
abbrev N0b:=List Value->List (List (List Value))->Hp->Prop
abbrev v07:=List Value->List (List (List Value))->Nat
def r0q:List Value->List Value->Bool
 | [],[]=>true
 |_::r,_::a=>r0q r a
 |_,_=>false
def b0j(A:Ann)(I:N0b)(vs:List Value)(os:List (List (List Value)))(h:Hp):Prop:=match A.fuel with
 |false=>I vs os h
 |true=>∃ m:Nat,I (.int .i64 m::vs) os h
def c0j(A:Ann)(b:N0b)(μ:v07)(vs:List Value)(os:List (List (List Value)))(X:Nat->Hp->Prop):Prop:=match A.fuel with
 |false=>∀ a,b vs os a->X (μ vs os) a
 |true=>∀(m:Nat) (a:Hp),b (.int .i64 m::vs) os a->X m a
def s0q(A:Ann)(a:N0b)(μ:v07)(m:Nat)(vs:List Value)(os:List (List (List Value)))(h:Hp):Prop:=match A.fuel with
 |false=>a vs os h/\μ vs os<m
 |true=>∃ b:Nat,a (.int .i64 b::vs) os h/\b<m
def atI(A:Ann)(I:N0b)(μ:v07)(m:Nat)(vs:List Value)(os:List (List (List Value)))(h:Hp):Prop:=match A.fuel with
 |false=>I vs os h/\m=μ vs os
 |true=>I (.int .i64 m::vs) os h
theorem L0o{A:Ann}{b:N0b}{μ:v07}{vs:List Value}{os:List (List (List Value))}{h:Hp}(a:b0j A b vs os h):∃ m,atI A b μ m vs os h:=by
 unfold b0j at a
 unfold atI
 cases hf:A.fuel with
 |false=>rw[hf]at a;exact⟨_,a,rfl⟩
 |true=>rw[hf]at a;exact a
theorem M0o{A:Ann}{c:N0b}{μ:v07}{vs:List Value}{os:List (List (List Value))}{X:Nat->Hp->Prop}(b:c0j A c μ vs os X){m:Nat}{h:Hp}(a:atI A c μ m vs os h):X m h:=by
 unfold c0j at b
 unfold atI at a
 cases hf:A.fuel with
 |false=>rw[hf]at b a;rw[a.2];exact b _ a.1
 |true=>rw[hf]at b a;exact b _ _ a
theorem t0q{A:Ann}{b:N0b}{μ:v07}{m:Nat}{vs:List Value}{os:List (List (List Value))}{h:Hp}(a:s0q A b μ m vs os h):∃ c,atI A b μ c vs os h/\c<m:=by
 unfold s0q at a
 unfold atI
 cases hf:A.fuel with
 |false=>rw[hf]at a;exact⟨_,⟨a.1,rfl⟩,a.2⟩
 |true=>rw[hf]at a;exact a
def N0o(A:Ann)(d b:List (Nat×AV))(a:St)(c:N0b)(μ:v07)(f:List Value)(m:Nat)(st:St)(h:Hp):Prop :=
 match Nat.beq st.n a.n,T0c a st d with
 |true,true=>u0g st.fr b=B0n b/\L0b A a st 0 a.bx st.bx/\M0b A 0 a.ow st.ow /\
   f0l A st λvs os=>match r0q vs f with
    |true=>W07 A.vars.length vs λ_ e=>r06 A.boxes e a.bx λ_=>s06 A.owns os a.ow λ_=>s0q A c μ m vs os h
    |false=>False
 |_,_=>False
def r0m(i:(Ex->St->Hp->Prop)->St->Hp->Prop)(j:List Nat)(Q:Ex->St->Hp->Prop)(st:St)(h:Hp):Prop :=
 ∃(A:Ann) (b:N0b) (μ:v07),Y0i A.nils st λst=>k0e A.nilsB st λst=>Z0i A.pubs st h λst h=>f0l A st λg d=>b0j A b g d h /\
  J0b j λds=>y09 A st ds [] λc=>t06 A ds st st.fr λf =>
   z0a g.length λvs=>A0a d.length λos=>c0j A b μ vs os λm k =>
    W07 A.vars.length vs λl o=>r06 A.boxes o st.bx λbx=>s06 A.owns os st.ow λow =>
     i (λe st' a=>match e with
      | .normal=>Z0i A.pubs st' a λst' a=>N0o A c f st b μ vs m st' a
      |e=>Q e st' a) ⟨st.n,K0b A.vars l (c++f),bx,ow⟩ k
def O0o(b:Bool)(X Y:Prop):Prop:=(b=true->X)/\(b=false->Y)
def ev(P:Program):Code->(Ex->St->Hp->Prop)->St->Hp->Prop
 | .skip,Q,st,h=>Q .normal st h
 | .region _ ops false,Q,st,h=>match p0q P ops.toList with
  |true=>k04 st.n ops.toList=true/\evU P ops.toList 0 [] [] st h λst h=>Q .normal st h
  |false=>Q0c P ops.toList 0 ⟨st,h,[],[]⟩ λrs=>Q .normal rs.st rs.h
 | .region _ ops true,Q,st,h=>((P.follows .mixedOrders=true/\Region.lexB .any ops=true) /\
   evQ P ops.toList 0 ⟨st,h,[],[]⟩ λrs=>Q .normal rs.st rs.h) ∨
   False ∨
   (match G0o ops.toList with
    |none=>(P.follows .mixedOrders=true/\e03 st.n ops.toList=true)/\b04 P st h ops.toList 0 [] [] [] λL X E=>evD (J00 L st ops.toList) ops.size P X E L st h λst h=>Q .normal st h
    |some o=>(P.follows .mixedOrders=true/\(e03 st.n (n01 ops.toList)&&R0c ops.toList 0)=true)/\b04 P st h (n01 ops.toList) 0 [] [] [] λL X E=>evD (J00 L st (n01 ops.toList)) (n01 ops.toList).length P X E L st h λst h=>s04 P o st h λst h=>Q .normal st h) ∨
   ((P.follows .mixedOrders=true/\k04 st.n ops.toList=true)/\evU P ops.toList 0 [] [] st h λst h=>Q .normal st h) ∨
   (∃ m,(P.follows .mixedOrders=true/\okZ P st.n m ops.toList=true)/\evT P (s04 P) m ops.toList st h λst h=>Q .normal st h)
 | .seq a b,Q,st,h=>ev P a (λe st h=>match e with
  | .normal=>ev P b Q st h
  |e=>Q e st h) st h
 | .cond c t e,Q,st,h=>match rdO st c with
  | .val (.bool b)=>O0o b (ev P t Q st h) (ev P e Q st h)
  |_=>False
 | .block id c,Q,st,h=>ev P c (λe st h=>match e with
  | .exit i=>match Nat.beq i id with
   |true=>Q .normal st h
   |false=>Q (.exit i) st h
  |e=>Q e st h) st h
 | .loop d,Q,st,h=>r0m (λQ=>ev P d Q) (f0g d []) Q st h
 | .exit id,Q,st,h=>Q (.exit id) st h
 | .ret,Q,st,h=>Q .ret st h
 |_,_,_,_=>False
def i0l(P:Program):List ResultVar->St->Hp->(List Value->St->Hp->Prop)->Prop
 | [],st,h,K=>K [] st h
 | .tmp t::r,st,h,K=>rfy (rdA st (Z2 st.fr t)) st h λv st h=>i0l P r st h λvs st h=>K (v::vs) st h
 | .cell t ty::r,st,h,K=>match rdA st (Z2 st.fr t)with
  | .box i off=>match nth st.bx i with
   |some (.live cs _)=>T04 P ty cs off λav=>rfy av st h λv st h=>i0l P r st h λvs st h=>K (v::vs) st h
   |_=>False
  |_=>False
def d0j:List Value->Value
 | [v]=>v
 |vs => .tuple vs.toArray
def B0a:Nat->List Value->List (Nat×AV)
 |_,[]=>[]
 |i,v::r=>(i,.val v)::B0a (i+1) r
def M0r(P:Program)(fn:Func)(args:List Value)(h:Hp)(T:Value->Hp->Prop):Prop :=
 match fn.body with
 |some c=>match Nat.ble args.length fn.ntmps with
  |true=>ev P c (λe st h=>match e with
   | .exit _=>False
   |_=>i0l P fn.results.toList st h λvs _ h=>T (d0j vs) h) ⟨fn.ntmps,B0a 0 args,[],[]⟩ h
  |false=>False
 |none=>False
end Go.H
