/- Plain laws over the model: what a function's code asks: regions with guards, regions that draw their order, branches and loops. -/
import Derived.Test.YtkjhghloldgioaaGreatH2
namespace Go.H
set_option linter.unusedVariables false
structure BE where
 j:Nat
 d:Nat
 e:Bool
 ch:List (Nat×Bool)
structure RS where
 st:St
 h:Hp
 gf:List (Nat×List (Nat×Bool)×AV)
 bs:List BE
def L0d:List (Nat×List (Nat×Bool)×AV)->Nat->Option (List (Nat×Bool)×AV)
 | [],_=>none
 |(k,x)::r,s=>match Nat.beq k s with
  |true=>some x
  |false=>L0d r s
def eqB(a b:Bool):Bool:=match a,b with
 |true,true=>true
 |false,false=>true
 |_,_=>false
def l0o:List (Nat×Bool)->List (Nat×Bool)->Bool
 | [],[]=>true
 |(j,w)::r,(a,c)::b=>match Nat.beq j a,eqB w c with
  |true,true=>l0o r b
  |_,_=>false
 |_,_=>false
def C0i(a:List (Nat×Bool)):List (Nat×Bool)->Bool
 | []=>l0o a []
 |x::r=>match l0o a (x::r)with
  |true=>true
  |false=>C0i a r
def rdG(rs:RS)(ch:List (Nat×Bool)):Operand->AV
 | .tmp t=>match L0d rs.gf t with
  |some (a,av)=>match C0i a ch with
   |true=>rdA rs.st av
   |false => .dead
  |none=>rdA rs.st (M2 rs.st.fr t)
 |x=>rdO rs.st x
def Y02:List BE->Nat->Option BE
 | [],_=>none
 |b::r,j=>match Nat.beq b.j j with
  |true=>some b
  |false=>Y02 r j
def a0a:List BE->Nat->Option BE
 | [],_=>none
 |b::r,s=>match Nat.beq b.d s with
  |true=>some b
  |false=>a0a r s
def lit(w e:Bool):Bool:=match w with
 |true=>e
 |false => !e
def cB(bs:List BE):List (Nat×Bool)->Option Bool
 | []=>some true
 |(j,w)::r=>match Y02 bs j with
  |some b=>match r with
   | []=>some (lit w b.e)
   |_=>match cB bs r with
    |some c=>some (lit w b.e&&c)
    |none=>none
  |none=>none
def e00(bs:List BE):Option (Nat×Bool)->Option (List (Nat×Bool))
 |none=>some []
 |some (j,w)=>match Y02 bs j with
  |some b=>some ((j,w)::b.ch)
  |none=>none
def imp(ch:List (Nat×Bool))(c:Bool)(X:Prop):Prop:=match ch with
 | []=>X
 |_=>c=true->X
def D0i(rs:RS)(ch:List (Nat×Bool)):List Operand->Option (List (Nat×Value))
 | []=>some []
 | .tmp t::r=>match K04 (rdG rs ch (.tmp t))with
  |some v=>match D0i rs ch r with
   |some vs=>some ((t,v)::vs)
   |none=>none
  |none=>none
 | .global _::_=>none
 |_::r=>D0i rs ch r
def V0p(rs:RS)(ch:List (Nat×Bool)):List Operand->St->Hp->(List (Nat×Value)->St->Hp->Prop)->Prop
 | [],st,h,K=>K [] st h
 | .tmp t::r,st,h,K=>rfy (rdA st (rdG rs ch (.tmp t))) st h λv st h=>V0p rs ch r st h λvs st h=>K ((t,v)::vs) st h
 | .global _::_,_,_,_=>False
 |_::r,st,h,K=>V0p rs ch r st h K
def r0h(P:Program)(o:Oper)(ch:List (Nat×Bool))(c:Bool)(rs:RS)(K:AV->Prop):Prop :=
 match y0c o.op,D0i rs ch o.op.operands.toList with
 |false,some vs=>match Y08 (rho vs) o with
  |some (f,l)=>match okF P f with
   |true=>∃ v,imp ch c (Tr P f l.toArray rs.h λb a=>b=v/\a=rs.h)/\K (.val v)
   |false=>False
  |none=>match evP P (A0i (rho vs) o)with
   |some (.value v)=>K (.val v)
   |_=>False
 |false,none=>∃ r,imp ch c (V0p rs ch o.op.operands.toList rs.st rs.h λvs _ hf=>match Y08 (rho vs) o with
  |some (f,l)=>match okF P f with
   |true=>Tr P f l.toArray hf λv a=>v=r/\a=hf
   |false=>False
  |none=>False)/\K (.val r)
 |_,_=>False
def evG(P:Program)(o:Oper)(ch:List (Nat×Bool))(c:Bool)(rs:RS)(K:AV->Prop):Prop :=
 match o.op with
 | .move x | .assign x=>match rdG rs ch x with
  | .dead=>False
  |a=>K a
 | .pick (.tmp d) a b=>match rdG rs ch (.tmp d),a0a rs.bs d with
  | .val (.bool e),some q=>match C0i q.ch ch with
   |true=>match rdG rs ((q.j,true)::q.ch) a,rdG rs ((q.j,false)::q.ch) b with
    | .val (.bool x),.val (.bool y)=>K (.val (.bool (cond e x y)))
    |_,_=>False
   |false=>False
  |_,_=>False
 | .fieldAddr t x k=>match rdG rs ch x,o0h P t k with
  | .box i off,some g=>K (.box i (off+g))
  | .hel d i sz k,some g=>K (.hel d i sz (k+g))
  | .oel i d j sz k,some g=>K (.oel i d j sz (k+g))
  |_,_=>False
 | .indexAddr t x i=>match rdG rs ch i with
  | .val (.int _ j)=>match Z00 P t with
   |some e=>match Z5 P e with
    |some sz=>match rdG rs ch x with
     | .val (.slice a n f)=>imp ch c (InB (.slice a n f) j)/\K (.hel (.slice a n f) j sz 0)
     | .own i k=>match nth rs.st.ow i with
      |some ⟨_,.live _ p _ _ xs⟩=>match Nat.beq p sz with
       |true=>imp ch c (0<=j/\j<(xs.length:Int))/\K (.oel i k j sz 0)
       |false=>False
      |_=>False
     |_=>False
    |none=>False
   |none=>False
  |_=>False
 | .load t x=>match rdG rs ch x with
  | .box i off=>match nth rs.st.bx i with
   |some (.live cs _)=>I04 P t cs off K
   |_=>False
  | .hel d idx sz k=>∃ e,imp ch c (C8 rs.h d sz idx e)/\I04 P t (vals e) k K
  | .oel i _ idx sz k=>match nth rs.st.ow i with
   |some ⟨_,.live _ p _ _ xs⟩=>match Nat.beq p sz with
    |true=>∃ e,imp ch c (xs[idx.toNat]?=some e)/\I04 P t (vals e) k K
    |false=>False
   |_=>False
  |_=>False
 | .build t ps=>match P.underlying t,h01 P t with
  |some (.struct u),some z=>match b06 P u.toList with
   |true=>x07 P u (rdG rs ch) ps.toList (vals z.cells.toList) λcs=>K (.agg cs)
   |false=>False
  |_,_=>False
 | .index t x i=>match rdG rs ch x,rdG rs ch i,P.underlying t with
  | .val (.string d),.val (.int _ j),some .string=>∃ e,imp ch c (0<=j/\d[j.toNat]?=some e)/\K (.val (.int .u8 e.toNat))
  |_,_,_=>False
 | .slice t x lo hi none=>match rdG rs ch x,P.underlying t with
  | .val (.string d),some .string=>match o05 0 (lo.map (rdG rs ch)),o05 d.size (hi.map (rdG rs ch))with
   |some l,some m=>imp ch c (0<=l/\l<=m/\m<=(d.size:Int))/\K (.val (.string (d.extract l.toNat m.toNat)))
   |_,_=>False
  | .val (.slice w n f),_=>match Z00 P t with
   |some e=>match Z5 P e with
    |some sz=>match o05 0 (lo.map (rdG rs ch)),o05 n (hi.map (rdG rs ch))with
     |some l,some m=>∃ v,imp ch c ((0<=l/\l<=m/\m<=(n:Int)/\n<=f)/\C0k sz (.slice w n f) l.toNat m.toNat v)/\K (.val v)
     |_,_=>False
    |none=>False
   |none=>False
  |_,_=>False
 | .binOp .eql t x y yt=>match K04 (rdG rs ch x),K04 (rdG rs ch y)with
  |some (.agg xs),some (.agg s)=>∃ b,imp ch c (Z09 P o x y (.agg xs) (.agg s) b)/\K (.val (.bool b))
  |some (.slice a n m),some (.slice none 0 0)=>∃ b,imp ch c (Z09 P o x y (.slice a n m) (.slice none 0 0) b)/\K (.val (.bool b))
  |_,_=>r0h P o ch c rs K
 | .binOp .neq t x y yt=>match K04 (rdG rs ch x),K04 (rdG rs ch y)with
  |some (.agg xs),some (.agg s)=>∃ b,imp ch c (Z09 P o x y (.agg xs) (.agg s) b)/\K (.val (.bool b))
  |_,_=>r0h P o ch c rs K
 | .binOp .add t x y yt=>match rdG rs ch x,rdG rs ch y with
  | .val (.string a),.val (.string b)=>imp ch c (a.size+b.size<=9223372036854775807)/\K (.val (.string (a++b)))
  |_,_=>r0h P o ch c rs K
 | .binOp .quo t x y yt=>match rdG rs ch x,rdG rs ch y with
  | .val (.int .i64 a),.val (.int .i64 b)=>imp ch c (b≠0)/\K (.val (.int .i64 (IntKind.i64.wrap (a.tdiv b))))
  |_,_=>r0h P o ch c rs K
 | .binOp .rem t x y yt=>match rdG rs ch x,rdG rs ch y with
  | .val (.int .i64 a),.val (.int .i64 b)=>imp ch c (b≠0)/\K (.val (.int .i64 (a.tmod b)))
  |_,_=>r0h P o ch c rs K
 | .call { callee := .builtin .len,args:=as,argTypes:=A }=>match as.toList,A.toList with
  | [x],[t]=>match rdG rs ch x with
   | .own i _=>match nth rs.st.ow i,Z00 P t with
    |some ⟨_,.live _ _ _ _ xs⟩,some _=>K (.val (.int .i64 xs.length))
    |_,_=>False
   |_=>r0h P o ch c rs K
  |_,_=>False
 |_=>r0h P o ch c rs K
def z07(rs:RS)(d:Nat):Bool:=match L0d rs.gf d,a0a rs.bs d with
 |none,none=>false
 |_,_=>true
def E0i(i d:Nat)(ch:List (Nat×Bool))(av:AV)(bs:List BE):List BE:=match av with
 | .val (.bool e)=>⟨i,d,e,ch⟩::bs
 |_=>bs
def M0d(d:Option Tmp)(i:Nat)(ch:List (Nat×Bool))(av:AV)(rs:RS)(K:RS->Prop):Prop :=
 match d with
 |none=>K rs
 |some d=>match Nat.blt d rs.st.n,z07 rs d with
  |true,false=>match ch with
   | []=>K { rs with st := { rs.st with fr:=(d,av)::rs.st.fr },bs:=E0i i d ch av rs.bs }
   |_=>K { rs with st := { rs.st with fr:=(d,.dead)::rs.st.fr },gf:=(d,ch,av)::rs.gf,bs:=E0i i d ch av rs.bs }
  |_,_=>False
def E0k:Op->Bool
 | .pick ..=>true
 |_=>false
def z0c(P:Program):List Oper->Nat->RS->(RS->Prop)->Prop
 | [],_,rs,K=>K rs
 |o::r,i,rs,K=>match o.guard,E0k o.op with
  |none,false=>M8 P o rs.st rs.h λav st h=>M0d o.dst i [] av { rs with st:=st,h:=h } λrs=>z0c P r (i+1) rs K
  |_,_=>match e00 rs.bs o.guard with
   |some ch=>match cB rs.bs ch with
    |some c=>evG P o ch c rs λav=>M0d o.dst i ch av rs λrs=>z0c P r (i+1) rs K
    |none=>False
   |none=>False
def evQ(P:Program):List Oper->Nat->RS->(RS->Prop)->Prop
 | [],_,rs,K=>K rs
 |o::r,i,rs,K=>match e00 rs.bs o.guard with
  |some ch=>match cB rs.bs ch with
   |some c=>evG P o ch c rs λav=>M0d o.dst i ch av rs λrs=>evQ P r (i+1) rs K
   |none=>False
  |none=>False
def Sub(h a:Hp):Prop:=∀ b o,h b=some o->a b=some o
def m0o(v:Value)(K:Value->Prop):Prop:=match v with
 | .bool b=>K (.bool b)
 | .int k n=>K (.int k n)
 | .string s=>K (.string s)
 | .pointer a=>K (.pointer a)
 | .slice a n c=>K (.slice a n c)
 | .func f x y=>K (.func f x y)
 | .agg cs=>K (.agg cs)
 | .tuple vs=>K (.tuple vs)
 |v=>K v
theorem R0m(v:Value)(K:Value->Prop):m0o v K=K v:=by cases v<;>rfl
def F9{a:Type}:List a->(List a->Prop)->Prop
 | [],K=>K []
 |x::r,K=>F9 r λr=>K (x::r)
theorem m02{a:Type}:∀(l:List a) (K:List a->Prop),F9 l K=K l
 | [],K=>rfl
 |x::r,K=>by simp only[F9,m02 r]
def L04:Nat->(Nat->Prop)->Prop
 |0,K=>K 0
 |n+1,K=>L04 n λm=>K (m+1)
theorem A07:∀(n:Nat) (K:Nat->Prop),L04 n K=K n
 |0,K=>rfl
 |n+1,K=>by simp only[L04,A07 n]
def O01(av:AV)(K:AV->Prop):Prop:=match av with
 | .val v=>m0o v λv=>K (.val v)
 | .own i k=>K (.own i k)
 | .box i k=>K (.box i k)
 | .hel s i z k=>L04 z λz=>L04 k λk=>K (.hel s i z k)
 | .oel j s i z k=>L04 z λz=>L04 k λk=>K (.oel j s i z k)
 | .agg cs=>F9 cs λcs=>K (.agg cs)
 | .dead=>K .dead
theorem Z02(av:AV)(K:AV->Prop):O01 av K=K av:=by
 cases av with
 |val v=>exact R0m v (λv=>K (.val v))
 |hel s i z k=>simp only[O01,A07]
 |oel j s i z k=>simp only[O01,A07]
 |agg cs=>simp only[O01,m02]
 |_=>rfl
inductive C6 where
 |pu (av:AV)
 |ef (F:Value->Hp->Prop)
def V2:List (Nat×C6)->Nat->Option C6
 | [],_=>none
 |(k,x)::r,s=>match Nat.beq k s with
  |true=>some x
  |false=>V2 r s
def rdS(L:List (Nat×C6))(st:St):Operand->AV
 | .tmp t=>match V2 L t with
  |some (.pu av)=>rdA st av
  |some (.ef _) => .dead
  |none=>rdA st (M2 st.fr t)
 |x=>rdO st x
def N0d(P:Program)(t:TypeId)(cs:List K5)(off:Nat):Option AV :=
 match n0h P t with
 |some true=>match Z5 P t with
  |some n=>match q07 ((cs.drop off).take n) n with
   |true=>some (.agg ((cs.drop off).take n))
   |false=>none
  |none=>none
 |some false=>match nth cs off with
  |some c=>some (ofCell c)
  |none=>none
 |none=>none
def F0k(P:Program)(L:List (Nat×C6))(o:Oper)(st:St):Option AV:=match o.op with
 | .move x | .assign x=>match rdS L st x with
  | .dead=>none
  |a=>some a
 | .load t x=>match rdS L st x with
  | .box i off=>match nth st.bx i with
   |some (.live cs _)=>N0d P t cs off
   |_=>none
  |_=>none
 |_=>none
def O0d(L:List (Nat×C6))(st:St)(h:Hp):List Operand->List (Nat×AV)->(List (Nat×AV)->Prop)->Prop
 | [],acc,K=>K acc
 | .tmp t::r,acc,K=>match V2 L t with
  |some (.pu av)=>O0d L st h r ((t,av)::acc) K
  |some (.ef F)=>∀ v,F v h->O0d L st h r ((t,.val v)::acc) K
  |none=>O0d L st h r ((t,M2 st.fr t)::acc) K
 |_::r,acc,K=>O0d L st h r acc K
def B07(d:Option Tmp)(f:C6)(L:List (Nat×C6)):List (Nat×C6):=match d with
 |some d=>(d,f)::L
 |none=>L
def K0r(st:St)(h:Hp)(F:Value->Hp->Prop):AV->St->Hp->Prop
 | .val v,st',a=>st'=st/\Sub h a/\F v a
 |_,_,_=>False
def U9(i:Nat)(o:Oper):Bool:=o.after.toList.any λe=>Region.binds .any e&&Nat.beq e.on i
def n02(o:Oper)(t:Nat):List Oper->Nat->Bool
 | [],_=>true
 |x::r,i=>match x.dst with
  |some d=>match Nat.beq d t with
   |true=>U9 i o&&n02 o t r (i+1)
   |false=>n02 o t r (i+1)
  |none=>n02 o t r (i+1)
def b0a(o:Oper)(ops:List Oper):List Operand->Bool
 | []=>true
 | .tmp t::r=>n02 o t ops 0&&b0a o ops r
 |_::r=>b0a o ops r
def C07(d:Nat):List Oper->Bool
 | []=>true
 |o::r=>match o.dst with
  |some a => !Nat.beq d a&&C07 d r
  |none=>C07 d r
def F0i(n:Nat):List Oper->Bool
 | []=>true
 |o::r=>match o.dst with
  |some d=>Nat.blt d n&&C07 d r&&F0i n r
  |none=>F0i n r
def A0c:List Oper->Nat->Bool
 | [],_=>true
 |o::r,j=>(o.after.toList.all λe => !Region.binds .any e || Nat.blt e.on j)&&A0c r (j+1)
def I0l(ops:List Oper):List Oper->Bool
 | []=>true
 |o::r=>b0a o ops o.op.operands.toList&&I0l ops r
def J02(n:Nat)(ops:List Oper):Bool:=F0i n ops&&A0c ops 0&&I0l ops ops
def J0l:List K5->Bool
 | []=>true
 | .val _::r=>J0l r
 | .own _ _::_=>false
def s0h:AV->Bool
 | .val _=>true
 | .box _ _=>true
 | .own _ _=>true
 | .agg cs=>J0l cs
 |_=>false
def M05(L:List (Nat×C6))(st:St):Operand->AV
 | .tmp t=>match V2 L t with
  |some (.pu av)=>av
  |some (.ef _) => .dead
  |none=>M2 st.fr t
 | .const v => .val v
 |_ => .dead
def B0c(L:List (Nat×C6))(st:St):List Operand->Option (List (Nat×Value))
 | []=>some []
 | .tmp t::r=>match M05 L st (.tmp t)with
  | .val v=>match B0c L st r with
   |some vs=>some ((t,v)::vs)
   |none=>none
  |_=>none
 | .global _::_=>none
 |_::r=>B0c L st r
def G0k(P:Program)(L:List (Nat×C6))(o:Oper)(st:St):Option AV:=match y0c o.op,B0c L st o.op.operands.toList with
 |false,some vs=>match Y08 (rho vs) o with
  |some _=>none
  |none=>match evP P (A0i (rho vs) o)with
   |some (.value v)=>some (.val v)
   |_=>none
 |_,_=>none
def L0r:AV->Bool
 | .val (.int _ _)=>true
 |_=>false
def Z0r:BinOp->Bool
 | .lss=>true
 | .leq=>true
 | .gtr=>true
 | .geq=>true
 |_=>false
def Z08(P:Program)(L:List (Nat×C6))(o:Oper)(st:St):Option AV:=match o.op with
 | .move x=>match s0h (M05 L st x)with
  |true=>some (M05 L st x)
  |false=>none
 | .assign x=>match s0h (M05 L st x)with
  |true=>some (M05 L st x)
  |false=>none
 | .load t x=>match M05 L st x with
  | .box i off=>match nth st.bx i with
   |some (.live cs _)=>match N0d P t cs off with
    |some av=>match s0h av with
     |true=>some av
     |false=>none
    |none=>none
   |_=>none
  |_=>none
 | .fieldAddr t x k=>match M05 L st x,o0h P t k with
  | .box i off,some a=>some (.box i (off+a))
  |_,_=>none
 | .binOp op _ x y _=>match Z0r op,L0r (M05 L st x),L0r (M05 L st y)with
  |true,true,true=>G0k P L o st
  |_,_,_=>none
 | .call { callee := .builtin .len,args:=as,argTypes:=_ }=>match as.toList with
  | [x]=>match M05 L st x with
   | .val (.slice _ _ _)=>G0k P L o st
   |_=>none
  |_=>none
 |_=>none
def D00(L:List (Nat×C6))(st:St):List Oper->List Nat
 | []=>[]
 |o::r=>match o.op with
  | .load _ x=>match M05 L st x with
   | .box i _=>i::D00 L st r
   |_=>D00 L st r
  |_=>D00 L st r
def a09(bx:List BSt):List Nat->List (Option BSt)
 | []=>[]
 |i::r=>nth bx i::a09 bx r
def p05(L:List (Nat×C6))(a:List (Nat×AV)):List Operand->List (Nat×AV)->(List (Nat×AV)->Prop)->Prop
 | [],acc,K=>K acc
 | .tmp t::r,acc,K=>match V2 L t with
  |some (.pu av)=>p05 L a r ((t,av)::acc) K
  |some (.ef _)=>p05 L a r ((t,.dead)::acc) K
  |none=>p05 L a r ((t,M2 a t)::acc) K
 |_::r,acc,K=>p05 L a r acc K
def H0k:List (Nat×C6)->List (Nat×AV)->List (Nat×AV)
 | [],fr=>fr
 |(d,.pu av)::r,fr=>(d,av)::H0k r fr
 |(d,.ef _)::r,fr=>(d,.dead)::H0k r fr
def K0l(av:AV)(st:St)(h:Hp):AV->St->Hp->Prop:=λa st' b=>a=av/\st'=st/\b=h
def G0i(P:Program)(st:St)(h:Hp)(L:List (Nat×C6))(o:Oper)(av:AV):Prop :=
 match st with
 |⟨n,fr,bx,ow⟩=>∀ a,Sub h a->p05 L fr o.op.operands.toList [] λfr=>M8 P o ⟨n,fr,bx,ow⟩ a (K0l av ⟨n,fr,bx,ow⟩ a)
def H03(P:Program)(st:St)(h:Hp):List Oper->Nat->List (Nat×C6)->List (Nat×Oper)->List (Nat×Oper)->(List (Nat×C6)->List (Nat×Oper)->List (Nat×Oper)->Prop)->Prop
 | [],_,L,X,E,K=>K L X E
 |o::r,i,L,X,E,K=>match o.guard with
  |some _=>False
  |none=>match Z08 P L o st with
   |some av=>O01 av λav=>H03 P st h r (i+1) (B07 o.dst (.pu av) L) X E K
   |none=>(∃ av,G0i P st h L o av/\O01 av λav=>H03 P st h r (i+1) (B07 o.dst (.pu av) L) (X ++ [(i,o)]) E K) ∨
     H03 P st h r (i+1) (B07 o.dst (.ef λ_ _=>True) L) X (E ++ [(i,o)]) K
def t0h(X:List (Nat×Oper)):Nat->Nat->Oper->Bool
 |0,i,q=>U9 i q
 |n+1,i,q=>U9 i q || X.any λy=>U9 y.1 q&&t0h X n i y.2
def P0d(X Y:List (Nat×Oper)):List (Nat×Oper)->Bool
 | []=>true
 |(_,q)::_=>X.all λx=>t0h Y 8 x.1 q
def M04:List (Nat×Oper)->Bool
 |(i,o)::(j,a)::r=>U9 i a&&M04 ((j,a)::r)
 |_=>true
def N04:Nat->Nat->Oper->Bool
 |0,_,_=>true
 |k+1,i,o=>(Nat.beq k i || U9 k o)&&N04 k i o
def D07(d:Nat):List Operand->Bool
 | []=>false
 | .tmp t::r=>Nat.beq t d || D07 d r
 |_::r=>D07 d r
def Q0d(d:Nat):List Oper->Bool
 | []=>false
 |o::r=>D07 d o.op.operands.toList || Q0d d r
def a01:List Oper->List Oper
 | []=>[]
 |o::r=>match r with
  | []=>[]
  |_::_=>o::a01 r
def R0d:List Oper->Option Oper
 | []=>none
 |o::r=>match r with
  | []=>some o
  |_::_=>R0d r
def n0o(ops:List Oper):Option Oper:=match R0d ops with
 |some o=>match o.guard,o.dst with
  |none,some d=>match Q0d d (a01 ops)&&N04 (a01 ops).length (a01 ops).length o with
   |true=>some o
   |false=>none
  |_,_=>none
 |none=>none
def Z03(P:Program)(o:Oper)(st:St)(h:Hp)(K:St->Hp->Prop):Prop :=
 M8 P o st h λav st h=>M0d o.dst 0 [] av ⟨st,h,[],[]⟩ λrs=>K rs.st rs.h
def S0d(N i:Nat)(o:Oper):List (Nat×Oper)->Bool
 | []=>N04 N i o
 |_::_=>false
def L0l(c:Nat)(b:Bool)(rd:List Nat)(bx a:List BSt):Prop:=match b with
 |true=>True
 |false=>match c with
  |0=>a09 a rd=a09 bx rd
  |_+1=>a=bx
def u0h:Nat->List Own->List Own->Hp->Hp->Prop
 |0,_,_,_,_=>True
 |_+1,ow,b,h,a=>b=ow/\Sub h a
def evC(rd:List Nat)(N:Nat)(P:Program):Nat->List (Nat×Oper)->List (Nat×C6)->St->Hp->(St->Hp->Prop)->Prop
 |_,[],L,⟨n,fr,bx,ow⟩,h,K=>F9 (H0k L fr) λfr=>K ⟨n,fr,bx,ow⟩ h
 |c,(i,o)::r,L,⟨n,fr,bx,ow⟩,h,K=>p05 L fr o.op.operands.toList [] λe=>M8 P o ⟨n,e,bx,ow⟩ h λav st' d=>match st' with
  |⟨_,_,a,b⟩=>u0h c ow b h d/\L0l c (S0d N i o r) rd bx a/\O01 av λav=>F9 a λa=>F9 b λb=>evC rd N P (c-1) r (B07 o.dst (.pu av) L) ⟨n,fr,a,b⟩ d K
def W0p(f:Nat×Oper)(rd:List Nat)(N:Nat)(P:Program):Nat->List (Nat×Oper)->List (Nat×C6)->St->Hp->(St->Hp->Prop)->Prop
 |0,E,L,st,h,K=>evC rd N P 0 (f::E) L st h K
 |p+1,E,L,st,h,K=>evC rd N P 0 (f::E) L st h K/\match E with
  | []=>False
  |(i,o)::r=>match st with
   |⟨n,fr,bx,ow⟩=>p05 L fr o.op.operands.toList [] λd=>M8 P o ⟨n,d,bx,ow⟩ h λav st' c=>match st' with
    |⟨_,_,a,b⟩=>u0h 0 ow b h c/\L0l 0 (S0d N i o r) rd bx a/\O01 av λav=>F9 a λa=>F9 b λb=>W0p f rd N P p r (B07 o.dst (.pu av) L) ⟨n,fr,a,b⟩ c K
def S0m(f:Nat×Oper):Nat->List (Nat×Oper)->Bool
 |_,[]=>false
 |0,(_,q)::_=>U9 f.1 q
 |p+1,_::r=>S0m f p r
def X0f:Nat->List (Nat×Oper)->Option ((Nat×Oper)×List (Nat×Oper))
 |_,[]=>none
 |0,x::r=>some (x,r)
 |k+1,x::r=>match X0f k r with
  |some (f,a)=>some (f,x::a)
  |none=>none
def noX:List (Nat×Oper)->Bool
 | []=>true
 |_::_=>false
def evD(rd:List Nat)(N:Nat)(P:Program)(X E:List (Nat×Oper))(L:List (Nat×C6))(st:St)(h:Hp)(K:St->Hp->Prop):Prop :=
 (∃ c,(M04 E=true/\P0d X (X++E) (E.drop c)=true)/\evC rd N P c E L st h K) ∨
 (∃ k p,match X0f k E with
  |some (f,E')=>(noX X=true/\M04 E'=true/\S0m f p E'=true)/\W0p f rd N P p E' L st h K
  |none=>False)
abbrev FL:=List (Nat×List (Nat×Bool)×C6)
def C03:FL->Nat->Option (List (Nat×Bool)×C6)
 | [],_=>none
 |(k,x)::r,s=>match Nat.beq k s with
  |true=>some x
  |false=>C03 r s
def rdU(L:FL)(st:St)(ch:List (Nat×Bool)):Operand->AV
 | .tmp t=>match C03 L t with
  |some (a,.pu av)=>match C0i a ch with
   |true=>rdA st av
   |false => .dead
  |some (_,.ef _) => .dead
  |none=>rdA st (M2 st.fr t)
 |x=>rdO st x
def b09(P:Program)(L:FL)(bs:List BE)(ch:List (Nat×Bool))(o:Oper)(st:St):Option AV:=match o.op with
 | .move x | .assign x=>match rdU L st ch x with
  | .dead=>none
  |a=>some a
 | .load t x=>match rdU L st ch x with
  | .box i off=>match nth st.bx i with
   |some (.live cs _)=>N0d P t cs off
   |_=>none
  |_=>none
 | .fieldAddr t x k=>match rdU L st ch x,o0h P t k with
  | .box i off,some d=>some (.box i (off+d))
  | .hel c i sz k,some d=>some (.hel c i sz (k+d))
  |_,_=>none
 | .pick (.tmp c) a b=>match rdU L st ch (.tmp c),a0a bs c with
  | .val (.bool e),some q=>match C0i q.ch ch with
   |true=>match rdU L st ((q.j,true)::q.ch) a,rdU L st ((q.j,false)::q.ch) b with
    | .val (.bool x),.val (.bool y)=>some (.val (.bool (cond e x y)))
    |_,_=>none
   |false=>none
  |_,_=>none
 |_=>none
def h07(L:FL)(st:St)(h:Hp)(ch:List (Nat×Bool)):List Operand->List (Nat×AV)->(List (Nat×AV)->Prop)->Prop
 | [],acc,K=>K acc
 | .tmp t::r,acc,K=>match C03 L t with
  |some (a,f)=>match C0i a ch with
   |true=>match f with
    | .pu av=>h07 L st h ch r ((t,av)::acc) K
    | .ef F=>∀ v,F v h->h07 L st h ch r ((t,.val v)::acc) K
   |false=>False
  |none=>h07 L st h ch r ((t,M2 st.fr t)::acc) K
 |_::r,acc,K=>h07 L st h ch r acc K
def F0f(h:Hp):FL->List (Nat×AV)->(List (Nat×AV)->Prop)->Prop
 | [],fr,K=>K fr
 |(d,[],.pu av)::r,fr,K=>F0f h r ((d,av)::fr) K
 |(d,[],.ef F)::r,fr,K=>∀ v,F v h->F0f h r ((d,.val v)::fr) K
 |(d,_::_,_)::r,fr,K=>F0f h r ((d,.dead)::fr) K
def v0h(d:Option Tmp)(ch:List (Nat×Bool))(f:C6)(L:FL):FL:=match d with
 |some d=>(d,ch,f)::L
 |none=>L
def w0h(i:Nat)(d:Option Tmp)(ch:List (Nat×Bool))(av:AV)(bs:List BE):List BE:=match d with
 |some d=>match av with
  | .val (.bool e)=>⟨i,d,e,ch⟩::bs
  |_=>bs
 |none=>bs
def I0k(st st':St):Prop:=st'.n=st.n/\st'.fr=st.fr/\st'.bx=st.bx/\∃ t,st'.ow=st.ow++t
def o0o(st:St)(h:Hp)(F:Value->Hp->Prop):AV->St->Hp->Prop:=λav st' b=>rfy av st' b λv c a=>I0k st c/\Sub h a/\F v a
def p0o(P:Program)(t n:Nat)(st:St)(h:Hp)(K:AV->St->Hp->Prop):Prop :=
 match Z00 P t with
 |some e=>match Z5 P e,Nat.beq n 0 with
  |some (_+1),true=>∀ g,h g=none->K (.val (.slice (some ⟨g,0,none⟩) 0 0)) st (h.set g (.cells #[] e (0,0)))
  |_,_=>False
 |none=>False
def q0o(P:Program)(t:TypeId)(a b:Operand)(st:St)(h:Hp)(K:AV->St->Hp->Prop):Prop :=
 match Z00 P t with
 |some e=>match Z5 P e,v09 P e,h01 P e with
  |some (sz+1),some (by_+1),some z=>match q07 z.cells.toList (sz+1)with
   |true=>match rdO st a with
    | .val (.slice (some ⟨g,o,none⟩) 0 0)=>W0f st h (sz+1) (rdO st b) λc=>Y09 c.length (by_+1) /\
      ((c = []->K (.val (.slice (some ⟨g,o,none⟩) 0 0)) st h)/\∀ v d,Y0 h d v e (sz+1) true c->K (.val v) st d)
    |_=>False
   |false=>False
  |_,_,_=>False
 |none=>False
def H0i(P:Program)(o:Oper)(st:St)(h:Hp)(K:AV->St->Hp->Prop):Prop :=
 match o.op with
 | .buildSlice t n ps=>match ps.toList with
  | []=>p0o P t n st h K
  |_::_=>M8 P o st h K
 | .call { callee := .builtin .append,args:=as,argTypes:=d }=>match as.toList,d.toList with
  | [a,b],[t,c]=>match Nat.beq t c with
   |true=>q0o P t a b st h K
   |false=>False
  |_,_=>False
 |_=>M8 P o st h K
def evU(P:Program)(l:List Oper):Nat->FL->List BE->St->Hp->(St->Hp->Prop)->Prop :=
  List.rec (motive:=λ_=>Nat->FL->List BE->St->Hp->(St->Hp->Prop)->Prop)
    (λ_ L _ st h K=>match st with
      |⟨n,fr,bx,ow⟩=>∀ a,Sub h a->F0f a L fr λfr=>K ⟨n,fr,bx,ow⟩ a)
    (λo _ b i L bs st h K=>match st with
      |⟨n,fr,bx,ow⟩=>match e00 bs o.guard with
        |some ch=>match cB bs ch with
          |some c=>match b09 P L bs ch o ⟨n,fr,bx,ow⟩with
            |some av=>O01 av λav=>b (i+1) (v0h o.dst ch (.pu av) L) (w0h i o.dst ch av bs) ⟨n,fr,bx,ow⟩ h K
            |none=>(∃ av,(∀ a,Sub h a->imp ch c (h07 L ⟨n,fr,bx,ow⟩ a ch o.op.operands.toList [] λfr=>M8 P o ⟨n,fr,bx,ow⟩ a (K0l av ⟨n,fr,bx,ow⟩ a))) /\
                  O01 av λav=>b (i+1) (v0h o.dst ch (.pu av) L) (w0h i o.dst ch av bs) ⟨n,fr,bx,ow⟩ h K) ∨
                (∃ F:Value->Hp->Prop,(∀ v d e,Sub d e->F v d->F v e) /\
                  (∀ a,Sub h a->imp ch c (h07 L ⟨n,fr,bx,ow⟩ a ch o.op.operands.toList [] λfr=>H0i P o ⟨n,fr,bx,ow⟩ a (o0o ⟨n,fr,bx,ow⟩ a F))) /\
                  b (i+1) (v0h o.dst ch (.ef F) L) bs ⟨n,fr,bx,ow⟩ h K)
          |none=>False
        |none=>False) l
def y0d:List Oper->Bool
 | []=>true
 |o::r=>(match o.guard with
  |some (j,_)=>U9 j o
  |none=>true)&&y0d r
def Q03(n:Nat)(ops:List Oper):Bool:=J02 n ops&&y0d ops
def X0p(P:Program):List Oper->Bool
 | []=>false
 |o::r=>(match o.guard,o.op with
  |some _,.call { callee := .value _,args:=_,argTypes:=_ }=>match P.underlying o.type with
   |some (.slice _)=>true
   |some (.struct _)=>true
   |some (.tuple _)=>true
   |_=>false
  |_,_=>false) || X0p P r
def O04(o:Oper):Bool:=match o.op with
 | .alloc _=>true
 |_=>false
def r00(o:Oper):Oper:=match o.op with
 | .alloc _ => { o with op := .move (.const undef) }
 |_=>o
def H5:List Oper->List Oper
 | []=>[]
 |o::r=>r00 o::H5 r
def okA(P:Program)(all:List Oper):List Oper->Bool
 | []=>true
 |o::r=>(match o.op with
  | .alloc t=>(match o.guard,o.dst,h01 P t with
   |none,some d,some _ => !Q0d d all
   |_,_,_=>false)
  |_=>true)&&okA P all r
def J0k(x:Nat):List Nat->Bool
 | []=>false
 |y::r=>Nat.beq x y || J0k x r
def Y0p(ops:List Oper)(i:Nat):List Nat->Bool
 | []=>false
 |j::r=>(match nth ops j with
  |some o=>U9 i o
  |none=>false) || Y0p ops i r
def Y0f(ops:List Oper):Nat->List Nat->List Nat
 |0,acc=>acc
 |i+1,acc=>match Y0p ops i acc with
  |true=>Y0f ops i (i::acc)
  |false=>Y0f ops i acc
def c0a(o:Oper):Option Nat:=match o.guard with
 |some _=>none
 |none=>match o.op with
  | .extract (.tmp t) _=>some t
  | .move (.tmp t)=>some t
  | .assign (.tmp t)=>some t
  |_=>none
def d0a(d:Nat):List Oper->Bool
 | []=>false
 |o::r=>(match o.dst with
  |some e=>Nat.beq e d
  |none=>false) || d0a d r
def e06(a:List Nat)(t:Nat):List Oper->Nat->Bool
 | [],_=>true
 |o::r,i=>(match o.dst with
  |some e => !Nat.beq e t || J0k i a
  |none=>true)&&e06 a t r (i+1)
def f06(i d:Nat):List Oper->Bool
 | []=>true
 |o::r=>(!D07 d o.op.operands.toList || U9 i o)&&f06 i d r
def M0l(c a:List Oper)(b:List Nat)(i:Nat)(o:Oper):Bool:=match c0a o,o.dst with
 |some t,some d => !d0a d a && !d0a t a&&e06 b t c 0&&f06 i d a
 |_,_=>false
def z0d(b c:List Oper)(a:List Nat):List Oper->Nat->Bool
 | [],_=>true
 |o::r,i=>(J0k i a || M0l b c a i o)&&z0d b c a r (i+1)
def I0i:List Oper->Bool
 | []=>true
 |o::r => !y0c o.op&&I0i r
def r0o:Nat->List Oper->Bool
 |_,[]=>true
 |k,o::r=>(match o.guard with
  |none=>true
  |some _=>false)&&(match r with
  | []=>true
  |o'::_=>U9 k o')&&r0o (k+1) r
def M0r:List Oper->Bool
 | []=>true
 |_::_=>false
def okZ(P:Program)(n m:Nat)(ops:List Oper):Bool :=
 Q03 n (H5 (ops.take m))&&okA P (ops.take m) (ops.take m)&&A0c ops 0&&r0o m (ops.drop m)&&(M0r (ops.drop m) || (z0d (ops.take m) (ops.drop m) (Y0f ops m [m]) (ops.take m) 0&&I0i (ops.drop m)))
abbrev c0r:=Oper->St->Hp->(St->Hp->Prop)->Prop
def doA(R:c0r)(l:List Oper):St->Hp->(St->Hp->Prop)->Prop :=
 List.rec (motive:=λ_=>St->Hp->(St->Hp->Prop)->Prop) (λst h K=>K st h) (λo _ a st h K=>match O04 o with
  |true=>R o st h λst h=>a st h K
  |false=>a st h K) l
def doT(R:c0r)(l:List Oper):St->Hp->(St->Hp->Prop)->Prop :=
 List.rec (motive:=λ_=>St->Hp->(St->Hp->Prop)->Prop) (λst h K=>K st h) (λo _ a st h K=>R o st h λst h=>a st h K) l
def evT(P:Program)(R:c0r)(m:Nat)(ops:List Oper)(st:St)(h:Hp)(K:St->Hp->Prop):Prop :=
 evU P (H5 (ops.take m)) 0 [] [] st h λst h=>doA R (ops.take m) st h λst h=>doT R (ops.drop m) st h K
inductive Ex where
 |normal|ret
 |exit (i:Nat)
structure Ann where
 vars:List Nat
 boxes:List Nat
 owns:List Nat
 nils:List (Nat×Nat×Nat×Nat):=[]
 nilsB:List (Nat×Nat×Nat×Nat×Nat):=[]
 kept:List Nat:=[]
 fuel:Bool:=false
 pubs:List Nat:=[]
def J0i:List (Nat×Nat×Nat×Nat)->St->(St->Prop)->Prop
 | [],st,K=>K st
 |(s,e,sz,by_)::r,⟨n,fr,bx,ow⟩,K=>match rdA ⟨n,fr,bx,ow⟩ (M2 fr s),Nat.blt s n with
  | .val (.slice none 0 0),true=>A0k ow λk=>J0i r ⟨n,(s,.own k 0)::fr,bx,ow ++ [⟨0,.live e sz by_ false []⟩]⟩ K
  |_,_=>False
def T0d:List (Nat×Nat×Nat×Nat×Nat)->St->(St->Prop)->Prop
 | [],st,K=>K st
 |(i,k,e,sz,by_)::r,⟨n,fr,bx,ow⟩,K=>match nth bx i with
  |some (.live cs ty)=>match nth cs k with
   |some (.val (.slice none 0 0))=>A0k ow λj=>T0d r ⟨n,fr,C00 bx i (.live (C00 cs k (.own j 0)) ty),ow ++ [⟨0,.live e sz by_ false []⟩]⟩ K
   |_=>False
  |_=>False
def K0i:List Nat->St->Hp->(St->Hp->Prop)->Prop
 | [],st,h,K=>K st h
 |s::r,st,h,K=>rfy (rdA st (M2 st.fr s)) st h λv st h=>match st with
  |⟨n,fr,bx,ow⟩=>match Nat.blt s n with
   |true=>K0i r ⟨n,(s,.val v)::fr,bx,ow⟩ h K
   |false=>False
def w09(x:Nat):List Nat->Bool
 | []=>false
 |y::r=>match Nat.beq x y with
  |true=>true
  |false=>w09 x r
def d0r:List Oper->List Nat->List Nat
 | [],acc=>acc
 |o::r,acc=>match o.dst with
  |some d=>d0r r (d::acc)
  |none=>d0r r acc
def G0f:Code->List Nat->List Nat
 | .region _ ops _,acc=>d0r ops.toList acc
 | .seq a b,acc=>G0f a (G0f b acc)
 | .cond _ a b,acc=>G0f a (G0f b acc)
 | .block _ a,acc=>G0f a acc
 | .loop a,acc=>G0f a acc
 | .scope a,acc=>G0f a acc
 |_,acc=>acc
def t0b:List Nat->(List Nat->Prop)->Prop
 | [],K=>K []
 |x::r,K=>t0b r λr=>K (x::r)
def Z0p:List Nat->St->(List Value->Prop)->Prop
 | [],_,K=>K []
 |s::r,st,K=>match rdA st (M2 st.fr s)with
  | .val v=>Z0p r st λvs=>K (v::vs)
  |_=>False
def L0i:List K5->St->(List Value->Prop)->Prop
 | [],_,K=>K []
 | .val v::r,st,K=>L0i r st λvs=>K (v::vs)
 | .own _ _::r,st,K=>L0i r st K
def U0d:List Nat->St->(List Value->Prop)->Prop
 | [],_,K=>K []
 |i::r,st,K=>match nth st.bx i with
  |some (.live cs _)=>L0i cs st λvs=>U0d r st λws=>K (vs++ws)
  |_=>False
def Z0f:List Nat->St->(List (List (List Value))->Prop)->Prop
 | [],_,K=>K []
 |i::r,st,K=>match nth st.ow i with
  |some ⟨_,.live _ _ _ _ xs⟩=>Z0f r st λos=>K (xs::os)
  |_=>False
def K0k(A:Ann)(st:St)(K:List Value->List (List (List Value))->Prop):Prop :=
 Z0p A.vars st λvs=>U0d A.boxes st λws=>Z0f A.owns st λos=>K (vs++ws) os
def R03:List K5->List Value->(List K5->List Value->Prop)->Prop
 | [],vs,K=>K [] vs
 | .val _::r,v::vs,K=>R03 r vs λcs a=>K (.val v::cs) a
 | .val _::_,[],_=>False
 | .own i k::r,vs,K=>R03 r vs λcs a=>K (.own i k::cs) a
def g06:List Nat->List Value->List BSt->(List BSt->Prop)->Prop
 | [],_,bx,K=>K bx
 |i::r,vs,bx,K=>match nth bx i with
  |some (.live cs ty)=>R03 cs vs λcs a=>g06 r a (C00 bx i (.live cs ty)) K
  |_=>False
def h06:List Nat->List (List (List Value))->List Own->(List Own->Prop)->Prop
 | [],_,ow,K=>K ow
 |i::r,xs::os,ow,K=>match nth ow i with
  |some ⟨s,.live e sz by_ nn _⟩=>h06 r os (C00 ow i ⟨s,.live e sz by_ nn xs⟩) K
  |_=>False
 |_::_,[],_,_=>False
def E07{c:Type}:Nat->List c->(List c->List c->Prop)->Prop
 |0,l,K=>K [] l
 |n+1,x::l,K=>E07 n l λa b=>K (x::a) b
 |_+1,[],_=>False
def c09(A:Ann)(st:St):List Nat->List (Nat×AV)->(List (Nat×AV)->Prop)->Prop
 | [],acc,K=>K acc
 |s::r,acc,K=>match w09 s A.vars with
  |true=>c09 A st r acc K
  |false=>match rdA st (M2 st.fr s)with
   | .own i k=>c09 A st r ((s,.own i k)::acc) K
   | .box i o=>c09 A st r ((s,.box i o)::acc) K
   |_=>c09 A st r ((s,.dead)::acc) K
def N0l:List K5->Bool
 | []=>true
 | .val _::r=>N0l r
 | .own _ _::_=>false
def i06(A:Ann)(ds:List Nat)(st:St):List (Nat×AV)->(List (Nat×AV)->Prop)->Prop
 | [],K=>K []
 |(s,av)::r,K=>match w09 s ds with
  |true=>i06 A ds st r K
  |false=>match rdA st av with
   | .own i k=>match w09 i A.owns,w09 i A.kept with
    |true,false=>i06 A ds st r λl=>K ((s,.dead)::l)
    |_,_=>i06 A ds st r λl=>K ((s,.own i k)::l)
   | .oel _ _ _ _ _=>i06 A ds st r λl=>K ((s,.dead)::l)
   | .agg cs=>match N0l cs with
    |true=>i06 A ds st r λl=>K ((s,.agg cs)::l)
    |false=>i06 A ds st r λl=>K ((s,.dead)::l)
   |a=>i06 A ds st r λl=>K ((s,a)::l)
def u0b:List Nat->List Value->List (Nat×AV)->List (Nat×AV)
 |s::r,v::vs,acc=>u0b r vs ((s,.val v)::acc)
 |_,_,acc=>acc
def C0c(b a:St):List (Nat×AV)->Bool
 | []=>true
 |(c,av)::r=>match av with
  | .own i _=>match rdA a (M2 a.fr c)with
   | .own j _=>match Nat.beq i j with
    |true=>C0c b a r
    |false=>false
   |_=>false
  | .box i o=>match rdA a (M2 a.fr c)with
   | .box j p=>match Nat.beq i j,Nat.beq o p with
    |true,true=>C0c b a r
    |_,_=>false
   |_=>false
  |_=>C0c b a r
def L0k:AV->Bool
 | .dead=>true
 |_=>false
def T0m:List (Nat×AV)->List AV
 | []=>[]
 |(_,av)::r=>match L0k av with
  |true=>T0m r
  |false=>av::T0m r
def a0g(fr:List (Nat×AV)):List (Nat×AV)->List AV
 | []=>[]
 |(s,av)::r=>match L0k av with
  |true=>a0g fr r
  |false=>M2 fr s::a0g fr r
def j06(c a:St):List K5->List K5->Bool
 | [],[]=>true
 | .val _::r,.val _::b=>j06 c a r b
 | .own i _::r,.own j d::b=>match Nat.beq i j,rdA a (.own j d)with
  |true,.own _ _=>j06 c a r b
  |_,_=>false
 |_,_=>false
def e0a(os:List Nat):List K5->Bool
 | []=>true
 | .val _::r=>e0a os r
 | .own i _::r=>match w09 i os with
  |true=>false
  |false=>e0a os r
def M0k(os:List Nat):BSt->Bool
 | .live cs _=>e0a os cs
 | .publ _=>true
def v0b(A:Ann)(c a:St):Nat->List BSt->List BSt->Prop
 |_,[],_=>True
 |i,b::r,d::e=>match w09 i A.boxes with
  |true=>match b,d with
   | .live cs ty,.live cs' f=>match Nat.beq ty f,j06 c a cs cs' with
    |true,true=>v0b A c a (i+1) r e
    |_,_=>False
   |_,_=>False
  |false=>match M0k A.owns b with
   |true=>d=b/\v0b A c a (i+1) r e
   |false=>False
 |_,_::_,[]=>False
def leB(a b:Bool):Bool:=match a with
 |true=>b
 |false=>true
def w0b(A:Ann):Nat->List Own->List Own->Prop
 |_,[],_=>True
 |i,b::r,a::c=>match w09 i A.owns with
  |true=>match b,a with
   |⟨h,.live e sz by_ nn _⟩,⟨j,.live f k d g _⟩=>match Nat.beq e f,Nat.beq sz k,Nat.beq by_ d,leB nn g,leB (w09 i A.kept) (Nat.beq h j)with
    |true,true,true,true,true=>w0b A (i+1) r c
    |_,_,_,_,_=>False
   |_,_=>False
  |false=>a=b/\w0b A (i+1) r c
 |_,_::_,[]=>False
def f0a:Nat->(List Value->Prop)->Prop
 |0,K=>K []
 |n+1,K=>∀ v,f0a n λvs=>K (v::vs)
def g0a:Nat->(List (List (List Value))->Prop)->Prop
 |0,K=>K []
 |n+1,K=>∀ xs,g0a n λos=>K (xs::os)
abbrev x0b:=List Value->List (List (List Value))->Hp->Prop
abbrev i07:=List Value->List (List (List Value))->Nat
def a0q:List Value->List Value->Bool
 | [],[]=>true
 |_::r,_::a=>a0q r a
 |_,_=>false
def M0i(A:Ann)(I:x0b)(vs:List Value)(os:List (List (List Value)))(h:Hp):Prop:=match A.fuel with
 |false=>I vs os h
 |true=>∃ m:Nat,I (.int .i64 m::vs) os h
def N0i(A:Ann)(b:x0b)(μ:i07)(vs:List Value)(os:List (List (List Value)))(X:Nat->Hp->Prop):Prop:=match A.fuel with
 |false=>∀ a,b vs os a->X (μ vs os) a
 |true=>∀(m:Nat) (a:Hp),b (.int .i64 m::vs) os a->X m a
def b0q(A:Ann)(a:x0b)(μ:i07)(m:Nat)(vs:List Value)(os:List (List (List Value)))(h:Hp):Prop:=match A.fuel with
 |false=>a vs os h/\μ vs os<m
 |true=>∃ b:Nat,a (.int .i64 b::vs) os h/\b<m
def atI(A:Ann)(I:x0b)(μ:i07)(m:Nat)(vs:List Value)(os:List (List (List Value)))(h:Hp):Prop:=match A.fuel with
 |false=>I vs os h/\m=μ vs os
 |true=>I (.int .i64 m::vs) os h
theorem s0o{A:Ann}{b:x0b}{μ:i07}{vs:List Value}{os:List (List (List Value))}{h:Hp}(a:M0i A b vs os h):∃ m,atI A b μ m vs os h:=by
 unfold M0i at a
 unfold atI
 cases hf:A.fuel with
 |false=>rw[hf]at a;exact⟨_,a,rfl⟩
 |true=>rw[hf]at a;exact a
theorem t0o{A:Ann}{c:x0b}{μ:i07}{vs:List Value}{os:List (List (List Value))}{X:Nat->Hp->Prop}(b:N0i A c μ vs os X){m:Nat}{h:Hp}(a:atI A c μ m vs os h):X m h:=by
 unfold N0i at b
 unfold atI at a
 cases hf:A.fuel with
 |false=>rw[hf]at b a;rw[a.2];exact b _ a.1
 |true=>rw[hf]at b a;exact b _ _ a
theorem c0q{A:Ann}{b:x0b}{μ:i07}{m:Nat}{vs:List Value}{os:List (List (List Value))}{h:Hp}(a:b0q A b μ m vs os h):∃ c,atI A b μ c vs os h/\c<m:=by
 unfold b0q at a
 unfold atI
 cases hf:A.fuel with
 |false=>rw[hf]at a;exact⟨_,⟨a.1,rfl⟩,a.2⟩
 |true=>rw[hf]at a;exact a
def u0o(A:Ann)(d b:List (Nat×AV))(a:St)(c:x0b)(μ:i07)(f:List Value)(m:Nat)(st:St)(h:Hp):Prop :=
 match Nat.beq st.n a.n,C0c a st d with
 |true,true=>a0g st.fr b=T0m b/\v0b A a st 0 a.bx st.bx/\w0b A 0 a.ow st.ow /\
   K0k A st λvs os=>match a0q vs f with
    |true=>E07 A.vars.length vs λ_ e=>g06 A.boxes e a.bx λ_=>h06 A.owns os a.ow λ_=>b0q A c μ m vs os h
    |false=>False
 |_,_=>False
def O0l(i:(Ex->St->Hp->Prop)->St->Hp->Prop)(j:List Nat)(Q:Ex->St->Hp->Prop)(st:St)(h:Hp):Prop :=
 ∃(A:Ann) (b:x0b) (μ:i07),J0i A.nils st λst=>T0d A.nilsB st λst=>K0i A.pubs st h λst h=>K0k A st λg d=>M0i A b g d h /\
  t0b j λds=>c09 A st ds [] λc=>i06 A ds st st.fr λf =>
   f0a g.length λvs=>g0a d.length λos=>N0i A b μ vs os λm k =>
    E07 A.vars.length vs λl o=>g06 A.boxes o st.bx λbx=>h06 A.owns os st.ow λow =>
     i (λe st' a=>match e with
      | .normal=>K0i A.pubs st' a λst' a=>u0o A c f st b μ vs m st' a
      |e=>Q e st' a) ⟨st.n,u0b A.vars l (c++f),bx,ow⟩ k
def v0o(b:Bool)(X Y:Prop):Prop:=(b=true->X)/\(b=false->Y)
def ev(P:Program):Code->(Ex->St->Hp->Prop)->St->Hp->Prop
 | .skip,Q,st,h=>Q .normal st h
 | .region _ ops false,Q,st,h=>match X0p P ops.toList with
  |true=>Q03 st.n ops.toList=true/\evU P ops.toList 0 [] [] st h λst h=>Q .normal st h
  |false=>z0c P ops.toList 0 ⟨st,h,[],[]⟩ λrs=>Q .normal rs.st rs.h
 | .region _ ops true,Q,st,h=>((P.follows .mixedOrders=true/\Region.lexB .any ops=true) /\
   evQ P ops.toList 0 ⟨st,h,[],[]⟩ λrs=>Q .normal rs.st rs.h) ∨
   False ∨
   (match n0o ops.toList with
    |none=>(P.follows .mixedOrders=true/\J02 st.n ops.toList=true)/\H03 P st h ops.toList 0 [] [] [] λL X E=>evD (D00 L st ops.toList) ops.size P X E L st h λst h=>Q .normal st h
    |some o=>(P.follows .mixedOrders=true/\(J02 st.n (a01 ops.toList)&&A0c ops.toList 0)=true)/\H03 P st h (a01 ops.toList) 0 [] [] [] λL X E=>evD (D00 L st (a01 ops.toList)) (a01 ops.toList).length P X E L st h λst h=>Z03 P o st h λst h=>Q .normal st h) ∨
   ((P.follows .mixedOrders=true/\Q03 st.n ops.toList=true)/\evU P ops.toList 0 [] [] st h λst h=>Q .normal st h) ∨
   (∃ m,(P.follows .mixedOrders=true/\okZ P st.n m ops.toList=true)/\evT P (Z03 P) m ops.toList st h λst h=>Q .normal st h)
 | .seq a b,Q,st,h=>ev P a (λe st h=>match e with
  | .normal=>ev P b Q st h
  |e=>Q e st h) st h
 | .cond c t e,Q,st,h=>match rdO st c with
  | .val (.bool b)=>v0o b (ev P t Q st h) (ev P e Q st h)
  |_=>False
 | .block id c,Q,st,h=>ev P c (λe st h=>match e with
  | .exit i=>match Nat.beq i id with
   |true=>Q .normal st h
   |false=>Q (.exit i) st h
  |e=>Q e st h) st h
 | .loop d,Q,st,h=>O0l (λQ=>ev P d Q) (G0f d []) Q st h
 | .exit id,Q,st,h=>Q (.exit id) st h
 | .ret,Q,st,h=>Q .ret st h
 |_,_,_,_=>False
def N0k(P:Program):List ResultVar->St->Hp->(List Value->St->Hp->Prop)->Prop
 | [],st,h,K=>K [] st h
 | .tmp t::r,st,h,K=>rfy (rdA st (M2 st.fr t)) st h λv st h=>N0k P r st h λvs st h=>K (v::vs) st h
 | .cell t ty::r,st,h,K=>match rdA st (M2 st.fr t)with
  | .box i off=>match nth st.bx i with
   |some (.live cs _)=>I04 P ty cs off λav=>rfy av st h λv st h=>N0k P r st h λvs st h=>K (v::vs) st h
   |_=>False
  |_=>False
def O0i:List Value->Value
 | [v]=>v
 |vs => .tuple vs.toArray
def h0a:Nat->List Value->List (Nat×AV)
 |_,[]=>[]
 |i,v::r=>(i,.val v)::h0a (i+1) r
def e0r(P:Program)(fn:Func)(args:List Value)(h:Hp)(T:Value->Hp->Prop):Prop :=
 match fn.body with
 |some c=>match Nat.ble args.length fn.ntmps with
  |true=>ev P c (λe st h=>match e with
   | .exit _=>False
   |_=>N0k P fn.results.toList st h λvs _ h=>T (O0i vs) h) ⟨fn.ntmps,h0a 0 args,[],[]⟩ h
  |false=>False
 |none=>False
end Go.H
