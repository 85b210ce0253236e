/- Plain laws over the model: what a function's code asks: regions with guards, regions that draw their order, branches and loops. -/
import Derived.Test.YtkjhghloldgioaaGreatH2
namespace Go.H
set_option linter.unusedVariables false
structure BE where
 j:Nat
 d:Nat
 e:Bool
 ch:List (Nat×Bool)
structure RS where
 st:St
 h:Hp
 gf:List (Nat×List (Nat×Bool)×AV)
 bs:List BE
def P0e:List (Nat×List (Nat×Bool)×AV)->Nat->Option (List (Nat×Bool)×AV)
 | [],_=>none
 |(k,x)::r,s=>match Nat.beq k s with
  |true=>some x
  |false=>P0e r s
def eqB(a b:Bool):Bool:=match a,b with
 |true,true=>true
 |false,false=>true
 |_,_=>false
def B0p:List (Nat×Bool)->List (Nat×Bool)->Bool
 | [],[]=>true
 |(j,w)::r,(a,c)::b=>match Nat.beq j a,eqB w c with
  |true,true=>B0p r b
  |_,_=>false
 |_,_=>false
def L0j(a:List (Nat×Bool)):List (Nat×Bool)->Bool
 | []=>B0p a []
 |x::r=>match B0p a (x::r)with
  |true=>true
  |false=>L0j a r
def rdG(rs:RS)(ch:List (Nat×Bool)):Operand->AV
 | .tmp t=>match P0e rs.gf t with
  |some (a,av)=>match L0j a ch with
   |true=>rdA rs.st av
   |false => .dead
  |none=>rdA rs.st (j3 rs.st.fr t)
 |x=>rdO rs.st x
def P03:List BE->Nat->Option BE
 | [],_=>none
 |b::r,j=>match Nat.beq b.j j with
  |true=>some b
  |false=>P03 r j
def c0b:List BE->Nat->Option BE
 | [],_=>none
 |b::r,s=>match Nat.beq b.d s with
  |true=>some b
  |false=>c0b r s
def lit(w e:Bool):Bool:=match w with
 |true=>e
 |false => !e
def cB(bs:List BE):List (Nat×Bool)->Option Bool
 | []=>some true
 |(j,w)::r=>match P03 bs j with
  |some b=>match r with
   | []=>some (lit w b.e)
   |_=>match cB bs r with
    |some c=>some (lit w b.e&&c)
    |none=>none
  |none=>none
def X00(bs:List BE):Option (Nat×Bool)->Option (List (Nat×Bool))
 |none=>some []
 |some (j,w)=>match P03 bs j with
  |some b=>some ((j,w)::b.ch)
  |none=>none
def imp(ch:List (Nat×Bool))(c:Bool)(X:Prop):Prop:=match ch with
 | []=>X
 |_=>c=true->X
def M0j(rs:RS)(ch:List (Nat×Bool)):List Operand->Option (List (Nat×Value))
 | []=>some []
 | .tmp t::r=>match G05 (rdG rs ch (.tmp t))with
  |some v=>match M0j rs ch r with
   |some vs=>some ((t,v)::vs)
   |none=>none
  |none=>none
 | .global _::_=>none
 |_::r=>M0j rs ch r
def p0r(rs:RS)(ch:List (Nat×Bool)):List Operand->St->Hp->(List (Nat×Value)->St->Hp->Prop)->Prop
 | [],st,h,K=>K [] st h
 | .tmp t::r,st,h,K=>rfy (rdA st (rdG rs ch (.tmp t))) st h λv st h=>p0r rs ch r st h λvs st h=>K ((t,v)::vs) st h
 | .global _::_,_,_,_=>False
 |_::r,st,h,K=>p0r rs ch r st h K
def z0i(P:Program)(o:Oper)(ch:List (Nat×Bool))(c:Bool)(rs:RS)(K:AV->Prop):Prop :=
 match C0d o.op,M0j rs ch o.op.operands.toList with
 |false,some vs=>match Z09 (rho vs) o with
  |some (f,l)=>match okF P f with
   |true=>∃ v,imp ch c (Tr P f l.toArray rs.h λb a=>b=v/\a=rs.h)/\K (.val v)
   |false=>False
  |none=>match evP P (J0j (rho vs) o)with
   |some (.value v)=>K (.val v)
   |_=>False
 |false,none=>∃ r,imp ch c (p0r rs ch o.op.operands.toList rs.st rs.h λvs _ hf=>match Z09 (rho vs) o with
  |some (f,l)=>match okF P f with
   |true=>Tr P f l.toArray hf λv a=>v=r/\a=hf
   |false=>False
  |none=>False)/\K (.val r)
 |_,_=>False
def evG(P:Program)(o:Oper)(ch:List (Nat×Bool))(c:Bool)(rs:RS)(K:AV->Prop):Prop :=
 match o.op with
 | .move x | .assign x=>match rdG rs ch x with
  | .dead=>False
  |a=>K a
 | .pick (.tmp d) a b=>match rdG rs ch (.tmp d),c0b rs.bs d with
  | .val (.bool e),some q=>match L0j q.ch ch with
   |true=>match rdG rs ((q.j,true)::q.ch) a,rdG rs ((q.j,false)::q.ch) b with
    | .val (.bool x),.val (.bool y)=>K (.val (.bool (cond e x y)))
    |_,_=>False
   |false=>False
  |_,_=>False
 | .fieldAddr t x k=>match rdG rs ch x,w0i P t k with
  | .box i off,some g=>K (.box i (off+g))
  | .hel d i sz k,some g=>K (.hel d i sz (k+g))
  | .oel i d j sz k,some g=>K (.oel i d j sz (k+g))
  |_,_=>False
 | .indexAddr t x i=>match rdG rs ch i with
  | .val (.int _ j)=>match U01 P t with
   |some e=>match Q6 P e with
    |some sz=>match rdG rs ch x with
     | .val (.slice a n f)=>imp ch c (InB (.slice a n f) j)/\K (.hel (.slice a n f) j sz 0)
     | .own i k=>match nth rs.st.ow i with
      |some ⟨_,.live _ p _ _ xs⟩=>match Nat.beq p sz with
       |true=>imp ch c (0<=j/\j<(xs.length:Int))/\K (.oel i k j sz 0)
       |false=>False
      |_=>False
     |_=>False
    |none=>False
   |none=>False
  |_=>False
 | .load t x=>match rdG rs ch x with
  | .box i off=>match nth rs.st.bx i with
   |some (.live cs _)=>E05 P t cs off K
   |_=>False
  | .hel d idx sz k=>∃ e,imp ch c (D9 rs.h d sz idx e)/\E05 P t (vals e) k K
  | .oel i _ idx sz k=>match nth rs.st.ow i with
   |some ⟨_,.live _ p _ _ xs⟩=>match Nat.beq p sz with
    |true=>∃ e,imp ch c (xs[idx.toNat]?=some e)/\E05 P t (vals e) k K
    |false=>False
   |_=>False
  |_=>False
 | .build t ps=>match P.underlying t,e02 P t with
  |some (.struct u),some z=>match Y06 P u.toList with
   |true=>x08 P u (rdG rs ch) ps.toList (vals z.cells.toList) λcs=>K (.agg cs)
   |false=>False
  |_,_=>False
 | .index t x i=>match rdG rs ch x,rdG rs ch i,P.underlying t with
  | .val (.string d),.val (.int _ j),some .string=>∃ e,imp ch c (0<=j/\d[j.toNat]?=some e)/\K (.val (.int .u8 e.toNat))
  |_,_,_=>False
 | .slice t x lo hi none=>match rdG rs ch x,P.underlying t with
  | .val (.string d),some .string=>match l06 0 (lo.map (rdG rs ch)),l06 d.size (hi.map (rdG rs ch))with
   |some l,some m=>imp ch c (0<=l/\l<=m/\m<=(d.size:Int))/\K (.val (.string (d.extract l.toNat m.toNat)))
   |_,_=>False
  | .val (.slice w n f),_=>match U01 P t with
   |some e=>match Q6 P e with
    |some sz=>match l06 0 (lo.map (rdG rs ch)),l06 n (hi.map (rdG rs ch))with
     |some l,some m=>∃ v,imp ch c ((0<=l/\l<=m/\m<=(n:Int)/\n<=f)/\N0l sz (.slice w n f) l.toNat m.toNat v)/\K (.val v)
     |_,_=>False
    |none=>False
   |none=>False
  |_,_=>False
 | .binOp .eql t x y yt=>match G05 (rdG rs ch x),G05 (rdG rs ch y)with
  |some (.agg xs),some (.agg s)=>∃ b,imp ch c (b0b P o x y (.agg xs) (.agg s) b)/\K (.val (.bool b))
  |some (.slice a n m),some (.slice none 0 0)=>∃ b,imp ch c (b0b P o x y (.slice a n m) (.slice none 0 0) b)/\K (.val (.bool b))
  |_,_=>z0i P o ch c rs K
 | .binOp .neq t x y yt=>match G05 (rdG rs ch x),G05 (rdG rs ch y)with
  |some (.agg xs),some (.agg s)=>∃ b,imp ch c (b0b P o x y (.agg xs) (.agg s) b)/\K (.val (.bool b))
  |_,_=>z0i P o ch c rs K
 | .binOp .add t x y yt=>match rdG rs ch x,rdG rs ch y with
  | .val (.string a),.val (.string b)=>imp ch c (a.size+b.size<=9223372036854775807)/\K (.val (.string (a++b)))
  |_,_=>z0i P o ch c rs K
 | .binOp .quo t x y yt=>match rdG rs ch x,rdG rs ch y with
  | .val (.int .i64 a),.val (.int .i64 b)=>imp ch c (b≠0)/\K (.val (.int .i64 (IntKind.i64.wrap (a.tdiv b))))
  |_,_=>z0i P o ch c rs K
 | .binOp .rem t x y yt=>match rdG rs ch x,rdG rs ch y with
  | .val (.int .i64 a),.val (.int .i64 b)=>imp ch c (b≠0)/\K (.val (.int .i64 (a.tmod b)))
  |_,_=>z0i P o ch c rs K
 | .call { callee := .builtin .len,args:=as,argTypes:=A }=>match as.toList,A.toList with
  | [x],[t]=>match rdG rs ch x with
   | .own i _=>match nth rs.st.ow i,U01 P t with
    |some ⟨_,.live _ _ _ _ xs⟩,some _=>K (.val (.int .i64 xs.length))
    |_,_=>False
   |_=>z0i P o ch c rs K
  |_,_=>False
 |_=>z0i P o ch c rs K
def y08(rs:RS)(d:Nat):Bool:=match P0e rs.gf d,c0b rs.bs d with
 |none,none=>false
 |_,_=>true
def N0j(i d:Nat)(ch:List (Nat×Bool))(av:AV)(bs:List BE):List BE:=match av with
 | .val (.bool e)=>⟨i,d,e,ch⟩::bs
 |_=>bs
def Q0e(d:Option Tmp)(i:Nat)(ch:List (Nat×Bool))(av:AV)(rs:RS)(K:RS->Prop):Prop :=
 match d with
 |none=>K rs
 |some d=>match Nat.blt d rs.st.n,y08 rs d with
  |true,false=>match ch with
   | []=>K { rs with st := { rs.st with fr:=(d,av)::rs.st.fr },bs:=N0j i d ch av rs.bs }
   |_=>K { rs with st := { rs.st with fr:=(d,.dead)::rs.st.fr },gf:=(d,ch,av)::rs.gf,bs:=N0j i d ch av rs.bs }
  |_,_=>False
def P0l:Op->Bool
 | .pick ..=>true
 |_=>false
def D0d(P:Program):List Oper->Nat->RS->(RS->Prop)->Prop
 | [],_,rs,K=>K rs
 |o::r,i,rs,K=>match o.guard,P0l o.op with
  |none,false=>O9 P o rs.st rs.h λav st h=>Q0e o.dst i [] av { rs with st:=st,h:=h } λrs=>D0d P r (i+1) rs K
  |_,_=>match X00 rs.bs o.guard with
   |some ch=>match cB rs.bs ch with
    |some c=>evG P o ch c rs λav=>Q0e o.dst i ch av rs λrs=>D0d P r (i+1) rs K
    |none=>False
   |none=>False
def evQ(P:Program):List Oper->Nat->RS->(RS->Prop)->Prop
 | [],_,rs,K=>K rs
 |o::r,i,rs,K=>match X00 rs.bs o.guard with
  |some ch=>match cB rs.bs ch with
   |some c=>evG P o ch c rs λav=>Q0e o.dst i ch av rs λrs=>evQ P r (i+1) rs K
   |none=>False
  |none=>False
def Sub(h a:Hp):Prop:=∀ b o,h b=some o->a b=some o
def C0p(v:Value)(K:Value->Prop):Prop:=match v with
 | .bool b=>K (.bool b)
 | .int k n=>K (.int k n)
 | .string s=>K (.string s)
 | .pointer a=>K (.pointer a)
 | .slice a n c=>K (.slice a n c)
 | .func f x y=>K (.func f x y)
 | .agg cs=>K (.agg cs)
 | .tuple vs=>K (.tuple vs)
 |v=>K v
theorem h0o(v:Value)(K:Value->Prop):C0p v K=K v:=by cases v<;>rfl
def y00{a:Type}:List a->(List a->Prop)->Prop
 | [],K=>K []
 |x::r,K=>y00 r λr=>K (x::r)
theorem b03{a:Type}:∀(l:List a) (K:List a->Prop),y00 l K=K l
 | [],K=>rfl
 |x::r,K=>by simp only[y00,b03 r]
def H05:Nat->(Nat->Prop)->Prop
 |0,K=>K 0
 |n+1,K=>H05 n λm=>K (m+1)
theorem z08:∀(n:Nat) (K:Nat->Prop),H05 n K=K n
 |0,K=>rfl
 |n+1,K=>by simp only[H05,z08 n]
def F02(av:AV)(K:AV->Prop):Prop:=match av with
 | .val v=>C0p v λv=>K (.val v)
 | .own i k=>K (.own i k)
 | .box i k=>K (.box i k)
 | .hel s i z k=>H05 z λz=>H05 k λk=>K (.hel s i z k)
 | .oel j s i z k=>H05 z λz=>H05 k λk=>K (.oel j s i z k)
 | .agg cs=>y00 cs λcs=>K (.agg cs)
 | .dead=>K .dead
theorem Q03(av:AV)(K:AV->Prop):F02 av K=K av:=by
 cases av with
 |val v=>exact h0o v (λv=>K (.val v))
 |hel s i z k=>simp only[F02,z08]
 |oel j s i z k=>simp only[F02,z08]
 |agg cs=>simp only[F02,b03]
 |_=>rfl
inductive l7 where
 |pu (av:AV)
 |ef (F:Value->Hp->Prop)
def E3:List (Nat×l7)->Nat->Option l7
 | [],_=>none
 |(k,x)::r,s=>match Nat.beq k s with
  |true=>some x
  |false=>E3 r s
def rdS(L:List (Nat×l7))(st:St):Operand->AV
 | .tmp t=>match E3 L t with
  |some (.pu av)=>rdA st av
  |some (.ef _) => .dead
  |none=>rdA st (j3 st.fr t)
 |x=>rdO st x
def R0e(P:Program)(t:TypeId)(cs:List B6)(off:Nat):Option AV :=
 match v0i P t with
 |some true=>match Q6 P t with
  |some n=>match q08 ((cs.drop off).take n) n with
   |true=>some (.agg ((cs.drop off).take n))
   |false=>none
  |none=>none
 |some false=>match nth cs off with
  |some c=>some (ofCell c)
  |none=>none
 |none=>none
def Q0l(P:Program)(L:List (Nat×l7))(o:Oper)(st:St):Option AV:=match o.op with
 | .move x | .assign x=>match rdS L st x with
  | .dead=>none
  |a=>some a
 | .load t x=>match rdS L st x with
  | .box i off=>match nth st.bx i with
   |some (.live cs _)=>R0e P t cs off
   |_=>none
  |_=>none
 |_=>none
def S0e(L:List (Nat×l7))(st:St)(h:Hp):List Operand->List (Nat×AV)->(List (Nat×AV)->Prop)->Prop
 | [],acc,K=>K acc
 | .tmp t::r,acc,K=>match E3 L t with
  |some (.pu av)=>S0e L st h r ((t,av)::acc) K
  |some (.ef F)=>∀ v,F v h->S0e L st h r ((t,.val v)::acc) K
  |none=>S0e L st h r ((t,j3 st.fr t)::acc) K
 |_::r,acc,K=>S0e L st h r acc K
def A08(d:Option Tmp)(f:l7)(L:List (Nat×l7)):List (Nat×l7):=match d with
 |some d=>(d,f)::L
 |none=>L
def h0t(st:St)(h:Hp)(F:Value->Hp->Prop):AV->St->Hp->Prop
 | .val v,st',a=>st'=st/\Sub h a/\F v a
 |_,_,_=>False
def Q00(i:Nat)(o:Oper):Bool:=o.after.toList.any λe=>Region.binds .any e&&Nat.beq e.on i
def c03(o:Oper)(t:Nat):List Oper->Nat->Bool
 | [],_=>true
 |x::r,i=>match x.dst with
  |some d=>match Nat.beq d t with
   |true=>Q00 i o&&c03 o t r (i+1)
   |false=>c03 o t r (i+1)
  |none=>c03 o t r (i+1)
def d0b(o:Oper)(ops:List Oper):List Operand->Bool
 | []=>true
 | .tmp t::r=>c03 o t ops 0&&d0b o ops r
 |_::r=>d0b o ops r
def B08(d:Nat):List Oper->Bool
 | []=>true
 |o::r=>match o.dst with
  |some a => !Nat.beq d a&&B08 d r
  |none=>B08 d r
def O0j(n:Nat):List Oper->Bool
 | []=>true
 |o::r=>match o.dst with
  |some d=>Nat.blt d n&&B08 d r&&O0j n r
  |none=>O0j n r
def E0d:List Oper->Nat->Bool
 | [],_=>true
 |o::r,j=>(o.after.toList.all λe => !Region.binds .any e || Nat.blt e.on j)&&E0d r (j+1)
def V0m(ops:List Oper):List Oper->Bool
 | []=>true
 |o::r=>d0b o ops o.op.operands.toList&&V0m ops r
def z03(n:Nat)(ops:List Oper):Bool:=O0j n ops&&E0d ops 0&&V0m ops ops
def W0m:List B6->Bool
 | []=>true
 | .val _::r=>W0m r
 | .own _ _::_=>false
def A0i:AV->Bool
 | .val _=>true
 | .box _ _=>true
 | .own _ _=>true
 | .agg cs=>W0m cs
 |_=>false
def K06(L:List (Nat×l7))(st:St):Operand->AV
 | .tmp t=>match E3 L t with
  |some (.pu av)=>av
  |some (.ef _) => .dead
  |none=>j3 st.fr t
 | .const v => .val v
 |_ => .dead
def F0d(L:List (Nat×l7))(st:St):List Operand->Option (List (Nat×Value))
 | []=>some []
 | .tmp t::r=>match K06 L st (.tmp t)with
  | .val v=>match F0d L st r with
   |some vs=>some ((t,v)::vs)
   |none=>none
  |_=>none
 | .global _::_=>none
 |_::r=>F0d L st r
def R0l(P:Program)(L:List (Nat×l7))(o:Oper)(st:St):Option AV:=match C0d o.op,F0d L st o.op.operands.toList with
 |false,some vs=>match Z09 (rho vs) o with
  |some _=>none
  |none=>match evP P (J0j (rho vs) o)with
   |some (.value v)=>some (.val v)
   |_=>none
 |_,_=>none
def i0t:AV->Bool
 | .val (.int _ _)=>true
 |_=>false
def w0t:BinOp->Bool
 | .lss=>true
 | .leq=>true
 | .gtr=>true
 | .geq=>true
 |_=>false
def a0a(P:Program)(L:List (Nat×l7))(o:Oper)(st:St):Option AV:=match o.op with
 | .move x=>match A0i (K06 L st x)with
  |true=>some (K06 L st x)
  |false=>none
 | .assign x=>match A0i (K06 L st x)with
  |true=>some (K06 L st x)
  |false=>none
 | .load t x=>match K06 L st x with
  | .box i off=>match nth st.bx i with
   |some (.live cs _)=>match R0e P t cs off with
    |some av=>match A0i av with
     |true=>some av
     |false=>none
    |none=>none
   |_=>none
  |_=>none
 | .fieldAddr t x k=>match K06 L st x,w0i P t k with
  | .box i off,some a=>some (.box i (off+a))
  |_,_=>none
 | .binOp op _ x y _=>match w0t op,i0t (K06 L st x),i0t (K06 L st y)with
  |true,true,true=>R0l P L o st
  |_,_,_=>none
 | .call { callee := .builtin .len,args:=as,argTypes:=_ }=>match as.toList with
  | [x]=>match K06 L st x with
   | .val (.slice _ _ _)=>R0l P L o st
   |_=>none
  |_=>none
 |_=>none
def z01(L:List (Nat×l7))(st:St):List Oper->List Nat
 | []=>[]
 |o::r=>match o.op with
  | .load _ x=>match K06 L st x with
   | .box i _=>i::z01 L st r
   |_=>z01 L st r
  |_=>z01 L st r
def b0a(bx:List BSt):List Nat->List (Option BSt)
 | []=>[]
 |i::r=>nth bx i::b0a bx r
def m06(L:List (Nat×l7))(a:List (Nat×AV)):List Operand->List (Nat×AV)->(List (Nat×AV)->Prop)->Prop
 | [],acc,K=>K acc
 | .tmp t::r,acc,K=>match E3 L t with
  |some (.pu av)=>m06 L a r ((t,av)::acc) K
  |some (.ef _)=>m06 L a r ((t,.dead)::acc) K
  |none=>m06 L a r ((t,j3 a t)::acc) K
 |_::r,acc,K=>m06 L a r acc K
def S0l:List (Nat×l7)->List (Nat×AV)->List (Nat×AV)
 | [],fr=>fr
 |(d,.pu av)::r,fr=>(d,av)::S0l r fr
 |(d,.ef _)::r,fr=>(d,.dead)::S0l r fr
def X0m(av:AV)(st:St)(h:Hp):AV->St->Hp->Prop:=λa st' b=>a=av/\st'=st/\b=h
def P0j(P:Program)(st:St)(h:Hp)(L:List (Nat×l7))(o:Oper)(av:AV):Prop :=
 match st with
 |⟨n,fr,bx,ow⟩=>∀ a,Sub h a->m06 L fr o.op.operands.toList [] λfr=>O9 P o ⟨n,fr,bx,ow⟩ a (X0m av ⟨n,fr,bx,ow⟩ a)
def z04(P:Program)(st:St)(h:Hp):List Oper->Nat->List (Nat×l7)->List (Nat×Oper)->List (Nat×Oper)->(List (Nat×l7)->List (Nat×Oper)->List (Nat×Oper)->Prop)->Prop
 | [],_,L,X,E,K=>K L X E
 |o::r,i,L,X,E,K=>match o.guard with
  |some _=>False
  |none=>match a0a P L o st with
   |some av=>F02 av λav=>z04 P st h r (i+1) (A08 o.dst (.pu av) L) X E K
   |none=>(∃ av,P0j P st h L o av/\F02 av λav=>z04 P st h r (i+1) (A08 o.dst (.pu av) L) (X ++ [(i,o)]) E K) ∨
     z04 P st h r (i+1) (A08 o.dst (.ef λ_ _=>True) L) X (E ++ [(i,o)]) K
def B0i(X:List (Nat×Oper)):Nat->Nat->Oper->Bool
 |0,i,q=>Q00 i q
 |n+1,i,q=>Q00 i q || X.any λy=>Q00 y.1 q&&B0i X n i y.2
def T0e(X Y:List (Nat×Oper)):List (Nat×Oper)->Bool
 | []=>true
 |(_,q)::_=>X.all λx=>B0i Y 8 x.1 q
def I05:List (Nat×Oper)->Bool
 |(i,o)::(j,a)::r=>Q00 i a&&I05 ((j,a)::r)
 |_=>true
def J05:Nat->Nat->Oper->Bool
 |0,_,_=>true
 |k+1,i,o=>(Nat.beq k i || Q00 k o)&&J05 k i o
def C08(d:Nat):List Operand->Bool
 | []=>false
 | .tmp t::r=>Nat.beq t d || C08 d r
 |_::r=>C08 d r
def U0e(d:Nat):List Oper->Bool
 | []=>false
 |o::r=>C08 d o.op.operands.toList || U0e d r
def V01:List Oper->List Oper
 | []=>[]
 |o::r=>match r with
  | []=>[]
  |_::_=>o::V01 r
def V0e:List Oper->Option Oper
 | []=>none
 |o::r=>match r with
  | []=>some o
  |_::_=>V0e r
def D0p(ops:List Oper):Option Oper:=match V0e ops with
 |some o=>match o.guard,o.dst with
  |none,some d=>match U0e d (V01 ops)&&J05 (V01 ops).length (V01 ops).length o with
   |true=>some o
   |false=>none
  |_,_=>none
 |none=>none
def U04(P:Program)(o:Oper)(st:St)(h:Hp)(K:St->Hp->Prop):Prop :=
 O9 P o st h λav st h=>Q0e o.dst 0 [] av ⟨st,h,[],[]⟩ λrs=>K rs.st rs.h
def W0e(N i:Nat)(o:Oper):List (Nat×Oper)->Bool
 | []=>J05 N i o
 |_::_=>false
def Y0m(c:Nat)(b:Bool)(rd:List Nat)(bx a:List BSt):Prop:=match b with
 |true=>True
 |false=>match c with
  |0=>b0a a rd=b0a bx rd
  |_+1=>a=bx
def C0i:Nat->List Own->List Own->Hp->Hp->Prop
 |0,_,_,_,_=>True
 |_+1,ow,b,h,a=>b=ow/\Sub h a
def evC(rd:List Nat)(N:Nat)(P:Program):Nat->List (Nat×Oper)->List (Nat×l7)->St->Hp->(St->Hp->Prop)->Prop
 |_,[],L,⟨n,fr,bx,ow⟩,h,K=>y00 (S0l L fr) λfr=>K ⟨n,fr,bx,ow⟩ h
 |c,(i,o)::r,L,⟨n,fr,bx,ow⟩,h,K=>m06 L fr o.op.operands.toList [] λe=>O9 P o ⟨n,e,bx,ow⟩ h λav st' d=>match st' with
  |⟨_,_,a,b⟩=>C0i c ow b h d/\Y0m c (W0e N i o r) rd bx a/\F02 av λav=>y00 a λa=>y00 b λb=>evC rd N P (c-1) r (A08 o.dst (.pu av) L) ⟨n,fr,a,b⟩ d K
def q0r(f:Nat×Oper)(rd:List Nat)(N:Nat)(P:Program):Nat->List (Nat×Oper)->List (Nat×l7)->St->Hp->(St->Hp->Prop)->Prop
 |0,E,L,st,h,K=>evC rd N P 0 (f::E) L st h K
 |p+1,E,L,st,h,K=>evC rd N P 0 (f::E) L st h K/\match E with
  | []=>False
  |(i,o)::r=>match st with
   |⟨n,fr,bx,ow⟩=>m06 L fr o.op.operands.toList [] λd=>O9 P o ⟨n,d,bx,ow⟩ h λav st' c=>match st' with
    |⟨_,_,a,b⟩=>C0i 0 ow b h c/\Y0m 0 (W0e N i o r) rd bx a/\F02 av λav=>y00 a λa=>y00 b λb=>q0r f rd N P p r (A08 o.dst (.pu av) L) ⟨n,fr,a,b⟩ c K
def i0o(f:Nat×Oper):Nat->List (Nat×Oper)->Bool
 |_,[]=>false
 |0,(_,q)::_=>Q00 f.1 q
 |p+1,_::r=>i0o f p r
def i0h:Nat->List (Nat×Oper)->Option ((Nat×Oper)×List (Nat×Oper))
 |_,[]=>none
 |0,x::r=>some (x,r)
 |k+1,x::r=>match i0h k r with
  |some (f,a)=>some (f,x::a)
  |none=>none
def noX:List (Nat×Oper)->Bool
 | []=>true
 |_::_=>false
def evD(rd:List Nat)(N:Nat)(P:Program)(X E:List (Nat×Oper))(L:List (Nat×l7))(st:St)(h:Hp)(K:St->Hp->Prop):Prop :=
 (∃ c,(I05 E=true/\T0e X (X++E) (E.drop c)=true)/\evC rd N P c E L st h K) ∨
 (∃ k p,match i0h k E with
  |some (f,E')=>(noX X=true/\I05 E'=true/\i0o f p E'=true)/\q0r f rd N P p E' L st h K
  |none=>False)
abbrev FL:=List (Nat×List (Nat×Bool)×l7)
def u04:FL->Nat->Option (List (Nat×Bool)×l7)
 | [],_=>none
 |(k,x)::r,s=>match Nat.beq k s with
  |true=>some x
  |false=>u04 r s
def rdU(L:FL)(st:St)(ch:List (Nat×Bool)):Operand->AV
 | .tmp t=>match u04 L t with
  |some (a,.pu av)=>match L0j a ch with
   |true=>rdA st av
   |false => .dead
  |some (_,.ef _) => .dead
  |none=>rdA st (j3 st.fr t)
 |x=>rdO st x
def c0a(P:Program)(L:FL)(bs:List BE)(ch:List (Nat×Bool))(o:Oper)(st:St):Option AV:=match o.op with
 | .move x | .assign x=>match rdU L st ch x with
  | .dead=>none
  |a=>some a
 | .load t x=>match rdU L st ch x with
  | .box i off=>match nth st.bx i with
   |some (.live cs _)=>R0e P t cs off
   |_=>none
  |_=>none
 | .fieldAddr t x k=>match rdU L st ch x,w0i P t k with
  | .box i off,some d=>some (.box i (off+d))
  | .hel c i sz k,some d=>some (.hel c i sz (k+d))
  |_,_=>none
 | .pick (.tmp c) a b=>match rdU L st ch (.tmp c),c0b bs c with
  | .val (.bool e),some q=>match L0j q.ch ch with
   |true=>match rdU L st ((q.j,true)::q.ch) a,rdU L st ((q.j,false)::q.ch) b with
    | .val (.bool x),.val (.bool y)=>some (.val (.bool (cond e x y)))
    |_,_=>none
   |false=>none
  |_,_=>none
 |_=>none
def h08(L:FL)(st:St)(h:Hp)(ch:List (Nat×Bool)):List Operand->List (Nat×AV)->(List (Nat×AV)->Prop)->Prop
 | [],acc,K=>K acc
 | .tmp t::r,acc,K=>match u04 L t with
  |some (a,f)=>match L0j a ch with
   |true=>match f with
    | .pu av=>h08 L st h ch r ((t,av)::acc) K
    | .ef F=>∀ v,F v h->h08 L st h ch r ((t,.val v)::acc) K
   |false=>False
  |none=>h08 L st h ch r ((t,j3 st.fr t)::acc) K
 |_::r,acc,K=>h08 L st h ch r acc K
def O0g(h:Hp):FL->List (Nat×AV)->(List (Nat×AV)->Prop)->Prop
 | [],fr,K=>K fr
 |(d,[],.pu av)::r,fr,K=>O0g h r ((d,av)::fr) K
 |(d,[],.ef F)::r,fr,K=>∀ v,F v h->O0g h r ((d,.val v)::fr) K
 |(d,_::_,_)::r,fr,K=>O0g h r ((d,.dead)::fr) K
def D0i(d:Option Tmp)(ch:List (Nat×Bool))(f:l7)(L:FL):FL:=match d with
 |some d=>(d,ch,f)::L
 |none=>L
def E0i(i:Nat)(d:Option Tmp)(ch:List (Nat×Bool))(av:AV)(bs:List BE):List BE:=match d with
 |some d=>match av with
  | .val (.bool e)=>⟨i,d,e,ch⟩::bs
  |_=>bs
 |none=>bs
def T0l(st st':St):Prop:=st'.n=st.n/\st'.fr=st.fr/\st'.bx=st.bx/\∃ t,st'.ow=st.ow++t
def E0p(st:St)(h:Hp)(F:Value->Hp->Prop):AV->St->Hp->Prop:=λav st' b=>rfy av st' b λv c a=>T0l st c/\Sub h a/\F v a
def F0p(P:Program)(t n:Nat)(st:St)(h:Hp)(K:AV->St->Hp->Prop):Prop :=
 match U01 P t with
 |some e=>match Q6 P e,Nat.beq n 0 with
  |some (_+1),true=>∀ g,h g=none->K (.val (.slice (some ⟨g,0,none⟩) 0 0)) st (h.set g (.cells #[] e (0,0)))
  |_,_=>False
 |none=>False
def G0p(P:Program)(t:TypeId)(a b:Operand)(st:St)(h:Hp)(K:AV->St->Hp->Prop):Prop :=
 match U01 P t with
 |some e=>match Q6 P e,w0a P e,e02 P e with
  |some (sz+1),some (by_+1),some z=>match q08 z.cells.toList (sz+1)with
   |true=>match rdO st a with
    | .val (.slice (some ⟨g,o,none⟩) 0 0)=>h0h st h (sz+1) (rdO st b) λc=>a0b c.length (by_+1) /\
      ((c = []->K (.val (.slice (some ⟨g,o,none⟩) 0 0)) st h)/\∀ v d,D1 h d v e (sz+1) true c->K (.val v) st d)
    |_=>False
   |false=>False
  |_,_,_=>False
 |none=>False
def Q0j(P:Program)(o:Oper)(st:St)(h:Hp)(K:AV->St->Hp->Prop):Prop :=
 match o.op with
 | .buildSlice t n ps=>match ps.toList with
  | []=>F0p P t n st h K
  |_::_=>O9 P o st h K
 | .call { callee := .builtin .append,args:=as,argTypes:=d }=>match as.toList,d.toList with
  | [a,b],[t,c]=>match Nat.beq t c with
   |true=>G0p P t a b st h K
   |false=>False
  |_,_=>False
 |_=>O9 P o st h K
def evU(P:Program)(l:List Oper):Nat->FL->List BE->St->Hp->(St->Hp->Prop)->Prop :=
  List.rec (motive:=λ_=>Nat->FL->List BE->St->Hp->(St->Hp->Prop)->Prop)
    (λ_ L _ st h K=>match st with
      |⟨n,fr,bx,ow⟩=>∀ a,Sub h a->O0g a L fr λfr=>K ⟨n,fr,bx,ow⟩ a)
    (λo _ b i L bs st h K=>match st with
      |⟨n,fr,bx,ow⟩=>match X00 bs o.guard with
        |some ch=>match cB bs ch with
          |some c=>match c0a P L bs ch o ⟨n,fr,bx,ow⟩with
            |some av=>F02 av λav=>b (i+1) (D0i o.dst ch (.pu av) L) (E0i i o.dst ch av bs) ⟨n,fr,bx,ow⟩ h K
            |none=>(∃ av,(∀ a,Sub h a->imp ch c (h08 L ⟨n,fr,bx,ow⟩ a ch o.op.operands.toList [] λfr=>O9 P o ⟨n,fr,bx,ow⟩ a (X0m av ⟨n,fr,bx,ow⟩ a))) /\
                  F02 av λav=>b (i+1) (D0i o.dst ch (.pu av) L) (E0i i o.dst ch av bs) ⟨n,fr,bx,ow⟩ h K) ∨
                (∃ F:Value->Hp->Prop,(∀ v d e,Sub d e->F v d->F v e) /\
                  (∀ a,Sub h a->imp ch c (h08 L ⟨n,fr,bx,ow⟩ a ch o.op.operands.toList [] λfr=>Q0j P o ⟨n,fr,bx,ow⟩ a (E0p ⟨n,fr,bx,ow⟩ a F))) /\
                  b (i+1) (D0i o.dst ch (.ef F) L) bs ⟨n,fr,bx,ow⟩ h K)
          |none=>False
        |none=>False) l
def B0e:List Oper->Bool
 | []=>true
 |o::r=>(match o.guard with
  |some (j,_)=>Q00 j o
  |none=>true)&&B0e r
def L04(n:Nat)(ops:List Oper):Bool:=z03 n ops&&B0e ops
def r0r(P:Program):List Oper->Bool
 | []=>false
 |o::r=>(match o.guard,o.op with
  |some _,.call { callee := .value _,args:=_,argTypes:=_ }=>match P.underlying o.type with
   |some (.slice _)=>true
   |some (.struct _)=>true
   |some (.tuple _)=>true
   |_=>false
  |_,_=>false) || r0r P r
def K05(o:Oper):Bool:=match o.op with
 | .alloc _=>true
 |_=>false
def l01(o:Oper):Oper:=match o.op with
 | .alloc _ => { o with op := .move (.const undef) }
 |_=>o
def t6:List Oper->List Oper
 | []=>[]
 |o::r=>l01 o::t6 r
def okA(P:Program)(all:List Oper):List Oper->Bool
 | []=>true
 |o::r=>(match o.op with
  | .alloc t=>(match o.guard,o.dst,e02 P t with
   |none,some d,some _ => !U0e d all
   |_,_,_=>false)
  |_=>true)&&okA P all r
def U0l(x:Nat):List Nat->Bool
 | []=>false
 |y::r=>Nat.beq x y || U0l x r
def s0r(ops:List Oper)(i:Nat):List Nat->Bool
 | []=>false
 |j::r=>(match nth ops j with
  |some o=>Q00 i o
  |none=>false) || s0r ops i r
def j0h(ops:List Oper):Nat->List Nat->List Nat
 |0,acc=>acc
 |i+1,acc=>match s0r ops i acc with
  |true=>j0h ops i (i::acc)
  |false=>j0h ops i acc
def e0b(o:Oper):Option Nat:=match o.guard with
 |some _=>none
 |none=>match o.op with
  | .extract (.tmp t) _=>some t
  | .move (.tmp t)=>some t
  | .assign (.tmp t)=>some t
  |_=>none
def f0b(d:Nat):List Oper->Bool
 | []=>false
 |o::r=>(match o.dst with
  |some e=>Nat.beq e d
  |none=>false) || f0b d r
def b07(a:List Nat)(t:Nat):List Oper->Nat->Bool
 | [],_=>true
 |o::r,i=>(match o.dst with
  |some e => !Nat.beq e t || U0l i a
  |none=>true)&&b07 a t r (i+1)
def c07(i d:Nat):List Oper->Bool
 | []=>true
 |o::r=>(!C08 d o.op.operands.toList || Q00 i o)&&c07 i d r
def Z0m(c a:List Oper)(b:List Nat)(i:Nat)(o:Oper):Bool:=match e0b o,o.dst with
 |some t,some d => !f0b d a && !f0b t a&&b07 b t c 0&&c07 i d a
 |_,_=>false
def C0e(b c:List Oper)(a:List Nat):List Oper->Nat->Bool
 | [],_=>true
 |o::r,i=>(U0l i a || Z0m b c a i o)&&C0e b c a r (i+1)
def R0j:List Oper->Bool
 | []=>true
 |o::r => !C0d o.op&&R0j r
def H0p:Nat->List Oper->Bool
 |_,[]=>true
 |k,o::r=>(match o.guard with
  |none=>true
  |some _=>false)&&(match r with
  | []=>true
  |o'::_=>Q00 k o')&&H0p (k+1) r
def j0t:List Oper->Bool
 | []=>true
 |_::_=>false
def okZ(P:Program)(n m:Nat)(ops:List Oper):Bool :=
 L04 n (t6 (ops.take m))&&okA P (ops.take m) (ops.take m)&&E0d ops 0&&H0p m (ops.drop m)&&(j0t (ops.drop m) || (C0e (ops.take m) (ops.drop m) (j0h ops m [m]) (ops.take m) 0&&R0j (ops.drop m)))
abbrev z0s:=Oper->St->Hp->(St->Hp->Prop)->Prop
def doA(R:z0s)(l:List Oper):St->Hp->(St->Hp->Prop)->Prop :=
 List.rec (motive:=λ_=>St->Hp->(St->Hp->Prop)->Prop) (λst h K=>K st h) (λo _ a st h K=>match K05 o with
  |true=>R o st h λst h=>a st h K
  |false=>a st h K) l
def doT(R:z0s)(l:List Oper):St->Hp->(St->Hp->Prop)->Prop :=
 List.rec (motive:=λ_=>St->Hp->(St->Hp->Prop)->Prop) (λst h K=>K st h) (λo _ a st h K=>R o st h λst h=>a st h K) l
def evT(P:Program)(R:z0s)(m:Nat)(ops:List Oper)(st:St)(h:Hp)(K:St->Hp->Prop):Prop :=
 evU P (t6 (ops.take m)) 0 [] [] st h λst h=>doA R (ops.take m) st h λst h=>doT R (ops.drop m) st h K
inductive Ex where
 |normal|ret
 |exit (i:Nat)
structure Ann where
 vars:List Nat
 boxes:List Nat
 owns:List Nat
 nils:List (Nat×Nat×Nat×Nat):=[]
 nilsB:List (Nat×Nat×Nat×Nat×Nat):=[]
 kept:List Nat:=[]
 fuel:Bool:=false
 pubs:List Nat:=[]
def S0j:List (Nat×Nat×Nat×Nat)->St->(St->Prop)->Prop
 | [],st,K=>K st
 |(s,e,sz,by_)::r,⟨n,fr,bx,ow⟩,K=>match rdA ⟨n,fr,bx,ow⟩ (j3 fr s),Nat.blt s n with
  | .val (.slice none 0 0),true=>L0l ow λk=>S0j r ⟨n,(s,.own k 0)::fr,bx,ow ++ [⟨0,.live e sz by_ false []⟩]⟩ K
  |_,_=>False
def X0e:List (Nat×Nat×Nat×Nat×Nat)->St->(St->Prop)->Prop
 | [],st,K=>K st
 |(i,k,e,sz,by_)::r,⟨n,fr,bx,ow⟩,K=>match nth bx i with
  |some (.live cs ty)=>match nth cs k with
   |some (.val (.slice none 0 0))=>L0l ow λj=>X0e r ⟨n,fr,y01 bx i (.live (y01 cs k (.own j 0)) ty),ow ++ [⟨0,.live e sz by_ false []⟩]⟩ K
   |_=>False
  |_=>False
def T0j:List Nat->St->Hp->(St->Hp->Prop)->Prop
 | [],st,h,K=>K st h
 |s::r,st,h,K=>rfy (rdA st (j3 st.fr s)) st h λv st h=>match st with
  |⟨n,fr,bx,ow⟩=>match Nat.blt s n with
   |true=>T0j r ⟨n,(s,.val v)::fr,bx,ow⟩ h K
   |false=>False
def x0a(x:Nat):List Nat->Bool
 | []=>false
 |y::r=>match Nat.beq x y with
  |true=>true
  |false=>x0a x r
def A0s:List Oper->List Nat->List Nat
 | [],acc=>acc
 |o::r,acc=>match o.dst with
  |some d=>A0s r (d::acc)
  |none=>A0s r acc
def P0g:Code->List Nat->List Nat
 | .region _ ops _,acc=>A0s ops.toList acc
 | .seq a b,acc=>P0g a (P0g b acc)
 | .cond _ a b,acc=>P0g a (P0g b acc)
 | .block _ a,acc=>P0g a acc
 | .loop a,acc=>P0g a acc
 | .scope a,acc=>P0g a acc
 |_,acc=>acc
def x0c:List Nat->(List Nat->Prop)->Prop
 | [],K=>K []
 |x::r,K=>x0c r λr=>K (x::r)
def t0r:List Nat->St->(List Value->Prop)->Prop
 | [],_,K=>K []
 |s::r,st,K=>match rdA st (j3 st.fr s)with
  | .val v=>t0r r st λvs=>K (v::vs)
  |_=>False
def U0j:List B6->St->(List Value->Prop)->Prop
 | [],_,K=>K []
 | .val v::r,st,K=>U0j r st λvs=>K (v::vs)
 | .own _ _::r,st,K=>U0j r st K
def Y0e:List Nat->St->(List Value->Prop)->Prop
 | [],_,K=>K []
 |i::r,st,K=>match nth st.bx i with
  |some (.live cs _)=>U0j cs st λvs=>Y0e r st λws=>K (vs++ws)
  |_=>False
def k0h:List Nat->St->(List (List (List Value))->Prop)->Prop
 | [],_,K=>K []
 |i::r,st,K=>match nth st.ow i with
  |some ⟨_,.live _ _ _ _ xs⟩=>k0h r st λos=>K (xs::os)
  |_=>False
def V0l(A:Ann)(st:St)(K:List Value->List (List (List Value))->Prop):Prop :=
 t0r A.vars st λvs=>Y0e A.boxes st λws=>k0h A.owns st λos=>K (vs++ws) os
def M04:List B6->List Value->(List B6->List Value->Prop)->Prop
 | [],vs,K=>K [] vs
 | .val _::r,v::vs,K=>M04 r vs λcs a=>K (.val v::cs) a
 | .val _::_,[],_=>False
 | .own i k::r,vs,K=>M04 r vs λcs a=>K (.own i k::cs) a
def d07:List Nat->List Value->List BSt->(List BSt->Prop)->Prop
 | [],_,bx,K=>K bx
 |i::r,vs,bx,K=>match nth bx i with
  |some (.live cs ty)=>M04 cs vs λcs a=>d07 r a (y01 bx i (.live cs ty)) K
  |_=>False
def e07:List Nat->List (List (List Value))->List Own->(List Own->Prop)->Prop
 | [],_,ow,K=>K ow
 |i::r,xs::os,ow,K=>match nth ow i with
  |some ⟨s,.live e sz by_ nn _⟩=>e07 r os (y01 ow i ⟨s,.live e sz by_ nn xs⟩) K
  |_=>False
 |_::_,[],_,_=>False
def D08{c:Type}:Nat->List c->(List c->List c->Prop)->Prop
 |0,l,K=>K [] l
 |n+1,x::l,K=>D08 n l λa b=>K (x::a) b
 |_+1,[],_=>False
def d0a(A:Ann)(st:St):List Nat->List (Nat×AV)->(List (Nat×AV)->Prop)->Prop
 | [],acc,K=>K acc
 |s::r,acc,K=>match x0a s A.vars with
  |true=>d0a A st r acc K
  |false=>match rdA st (j3 st.fr s)with
   | .own i k=>d0a A st r ((s,.own i k)::acc) K
   | .box i o=>d0a A st r ((s,.box i o)::acc) K
   |_=>d0a A st r ((s,.dead)::acc) K
def a0n:List B6->Bool
 | []=>true
 | .val _::r=>a0n r
 | .own _ _::_=>false
def f07(A:Ann)(ds:List Nat)(st:St):List (Nat×AV)->(List (Nat×AV)->Prop)->Prop
 | [],K=>K []
 |(s,av)::r,K=>match x0a s ds with
  |true=>f07 A ds st r K
  |false=>match rdA st av with
   | .own i k=>match x0a i A.owns,x0a i A.kept with
    |true,false=>f07 A ds st r λl=>K ((s,.dead)::l)
    |_,_=>f07 A ds st r λl=>K ((s,.own i k)::l)
   | .oel _ _ _ _ _=>f07 A ds st r λl=>K ((s,.dead)::l)
   | .agg cs=>match a0n cs with
    |true=>f07 A ds st r λl=>K ((s,.agg cs)::l)
    |false=>f07 A ds st r λl=>K ((s,.dead)::l)
   |a=>f07 A ds st r λl=>K ((s,a)::l)
def y0c:List Nat->List Value->List (Nat×AV)->List (Nat×AV)
 |s::r,v::vs,acc=>y0c r vs ((s,.val v)::acc)
 |_,_,acc=>acc
def G0d(b a:St):List (Nat×AV)->Bool
 | []=>true
 |(c,av)::r=>match av with
  | .own i _=>match rdA a (j3 a.fr c)with
   | .own j _=>match Nat.beq i j with
    |true=>G0d b a r
    |false=>false
   |_=>false
  | .box i o=>match rdA a (j3 a.fr c)with
   | .box j p=>match Nat.beq i j,Nat.beq o p with
    |true,true=>G0d b a r
    |_,_=>false
   |_=>false
  |_=>G0d b a r
def W0l:AV->Bool
 | .dead=>true
 |_=>false
def j0o:List (Nat×AV)->List AV
 | []=>[]
 |(_,av)::r=>match W0l av with
  |true=>j0o r
  |false=>av::j0o r
def l0h(fr:List (Nat×AV)):List (Nat×AV)->List AV
 | []=>[]
 |(s,av)::r=>match W0l av with
  |true=>l0h fr r
  |false=>j3 fr s::l0h fr r
def g07(c a:St):List B6->List B6->Bool
 | [],[]=>true
 | .val _::r,.val _::b=>g07 c a r b
 | .own i _::r,.own j d::b=>match Nat.beq i j,rdA a (.own j d)with
  |true,.own _ _=>g07 c a r b
  |_,_=>false
 |_,_=>false
def g0b(os:List Nat):List B6->Bool
 | []=>true
 | .val _::r=>g0b os r
 | .own i _::r=>match x0a i os with
  |true=>false
  |false=>g0b os r
def X0l(os:List Nat):BSt->Bool
 | .live cs _=>g0b os cs
 | .publ _=>true
def z0c(A:Ann)(c a:St):Nat->List BSt->List BSt->Prop
 |_,[],_=>True
 |i,b::r,d::e=>match x0a i A.boxes with
  |true=>match b,d with
   | .live cs ty,.live cs' f=>match Nat.beq ty f,g07 c a cs cs' with
    |true,true=>z0c A c a (i+1) r e
    |_,_=>False
   |_,_=>False
  |false=>match X0l A.owns b with
   |true=>d=b/\z0c A c a (i+1) r e
   |false=>False
 |_,_::_,[]=>False
def leB(a b:Bool):Bool:=match a with
 |true=>b
 |false=>true
def A0c(A:Ann):Nat->List Own->List Own->Prop
 |_,[],_=>True
 |i,b::r,a::c=>match x0a i A.owns with
  |true=>match b,a with
   |⟨h,.live e sz by_ nn _⟩,⟨j,.live f k d g _⟩=>match Nat.beq e f,Nat.beq sz k,Nat.beq by_ d,leB nn g,leB (x0a i A.kept) (Nat.beq h j)with
    |true,true,true,true,true=>A0c A (i+1) r c
    |_,_,_,_,_=>False
   |_,_=>False
  |false=>a=b/\A0c A (i+1) r c
 |_,_::_,[]=>False
def h0b:Nat->(List Value->Prop)->Prop
 |0,K=>K []
 |n+1,K=>∀ v,h0b n λvs=>K (v::vs)
def i0b:Nat->(List (List (List Value))->Prop)->Prop
 |0,K=>K []
 |n+1,K=>∀ xs,i0b n λos=>K (xs::os)
abbrev B0c:=List Value->List (List (List Value))->Hp->Prop
abbrev i08:=List Value->List (List (List Value))->Nat
def u0r:List Value->List Value->Bool
 | [],[]=>true
 |_::r,_::a=>u0r r a
 |_,_=>false
def V0j(A:Ann)(I:B0c)(vs:List Value)(os:List (List (List Value)))(h:Hp):Prop:=match A.fuel with
 |false=>I vs os h
 |true=>∃ m:Nat,I (.int .i64 m::vs) os h
def W0j(A:Ann)(b:B0c)(μ:i08)(vs:List Value)(os:List (List (List Value)))(X:Nat->Hp->Prop):Prop:=match A.fuel with
 |false=>∀ a,b vs os a->X (μ vs os) a
 |true=>∀(m:Nat) (a:Hp),b (.int .i64 m::vs) os a->X m a
def v0r(A:Ann)(a:B0c)(μ:i08)(m:Nat)(vs:List Value)(os:List (List (List Value)))(h:Hp):Prop:=match A.fuel with
 |false=>a vs os h/\μ vs os<m
 |true=>∃ b:Nat,a (.int .i64 b::vs) os h/\b<m
def atI(A:Ann)(I:B0c)(μ:i08)(m:Nat)(vs:List Value)(os:List (List (List Value)))(h:Hp):Prop:=match A.fuel with
 |false=>I vs os h/\m=μ vs os
 |true=>I (.int .i64 m::vs) os h
theorem I0p{A:Ann}{b:B0c}{μ:i08}{vs:List Value}{os:List (List (List Value))}{h:Hp}(a:V0j A b vs os h):∃ m,atI A b μ m vs os h:=by
 unfold V0j at a
 unfold atI
 cases hf:A.fuel with
 |false=>rw[hf]at a;exact⟨_,a,rfl⟩
 |true=>rw[hf]at a;exact a
theorem J0p{A:Ann}{c:B0c}{μ:i08}{vs:List Value}{os:List (List (List Value))}{X:Nat->Hp->Prop}(b:W0j A c μ vs os X){m:Nat}{h:Hp}(a:atI A c μ m vs os h):X m h:=by
 unfold W0j at b
 unfold atI at a
 cases hf:A.fuel with
 |false=>rw[hf]at b a;rw[a.2];exact b _ a.1
 |true=>rw[hf]at b a;exact b _ _ a
theorem w0r{A:Ann}{b:B0c}{μ:i08}{m:Nat}{vs:List Value}{os:List (List (List Value))}{h:Hp}(a:v0r A b μ m vs os h):∃ c,atI A b μ c vs os h/\c<m:=by
 unfold v0r at a
 unfold atI
 cases hf:A.fuel with
 |false=>rw[hf]at a;exact⟨_,⟨a.1,rfl⟩,a.2⟩
 |true=>rw[hf]at a;exact a
def K0p(A:Ann)(d b:List (Nat×AV))(a:St)(c:B0c)(μ:i08)(f:List Value)(m:Nat)(st:St)(h:Hp):Prop :=
 match Nat.beq st.n a.n,G0d a st d with
 |true,true=>l0h st.fr b=j0o b/\z0c A a st 0 a.bx st.bx/\A0c A 0 a.ow st.ow /\
   V0l A st λvs os=>match u0r vs f with
    |true=>D08 A.vars.length vs λ_ e=>d07 A.boxes e a.bx λ_=>e07 A.owns os a.ow λ_=>v0r A c μ m vs os h
    |false=>False
 |_,_=>False
def b0n(i:(Ex->St->Hp->Prop)->St->Hp->Prop)(j:List Nat)(Q:Ex->St->Hp->Prop)(st:St)(h:Hp):Prop :=
 ∃(A:Ann) (b:B0c) (μ:i08),S0j A.nils st λst=>X0e A.nilsB st λst=>T0j A.pubs st h λst h=>V0l A st λg d=>V0j A b g d h /\
  x0c j λds=>d0a A st ds [] λc=>f07 A ds st st.fr λf =>
   h0b g.length λvs=>i0b d.length λos=>W0j A b μ vs os λm k =>
    D08 A.vars.length vs λl o=>d07 A.boxes o st.bx λbx=>e07 A.owns os st.ow λow =>
     i (λe st' a=>match e with
      | .normal=>T0j A.pubs st' a λst' a=>K0p A c f st b μ vs m st' a
      |e=>Q e st' a) ⟨st.n,y0c A.vars l (c++f),bx,ow⟩ k
def L0p(b:Bool)(X Y:Prop):Prop:=(b=true->X)/\(b=false->Y)
def ev(P:Program):Code->(Ex->St->Hp->Prop)->St->Hp->Prop
 | .skip,Q,st,h=>Q .normal st h
 | .region _ ops false,Q,st,h=>match r0r P ops.toList with
  |true=>L04 st.n ops.toList=true/\evU P ops.toList 0 [] [] st h λst h=>Q .normal st h
  |false=>D0d P ops.toList 0 ⟨st,h,[],[]⟩ λrs=>Q .normal rs.st rs.h
 | .region _ ops true,Q,st,h=>((P.follows .mixedOrders=true/\Region.lexB .any ops=true) /\
   evQ P ops.toList 0 ⟨st,h,[],[]⟩ λrs=>Q .normal rs.st rs.h) ∨
   False ∨
   (match D0p ops.toList with
    |none=>(P.follows .mixedOrders=true/\z03 st.n ops.toList=true)/\z04 P st h ops.toList 0 [] [] [] λL X E=>evD (z01 L st ops.toList) ops.size P X E L st h λst h=>Q .normal st h
    |some o=>(P.follows .mixedOrders=true/\(z03 st.n (V01 ops.toList)&&E0d ops.toList 0)=true)/\z04 P st h (V01 ops.toList) 0 [] [] [] λL X E=>evD (z01 L st (V01 ops.toList)) (V01 ops.toList).length P X E L st h λst h=>U04 P o st h λst h=>Q .normal st h) ∨
   ((P.follows .mixedOrders=true/\L04 st.n ops.toList=true)/\evU P ops.toList 0 [] [] st h λst h=>Q .normal st h) ∨
   (∃ m,(P.follows .mixedOrders=true/\okZ P st.n m ops.toList=true)/\evT P (U04 P) m ops.toList st h λst h=>Q .normal st h)
 | .seq a b,Q,st,h=>ev P a (λe st h=>match e with
  | .normal=>ev P b Q st h
  |e=>Q e st h) st h
 | .cond c t e,Q,st,h=>match rdO st c with
  | .val (.bool b)=>L0p b (ev P t Q st h) (ev P e Q st h)
  |_=>False
 | .block id c,Q,st,h=>ev P c (λe st h=>match e with
  | .exit i=>match Nat.beq i id with
   |true=>Q .normal st h
   |false=>Q (.exit i) st h
  |e=>Q e st h) st h
 | .loop d,Q,st,h=>b0n (λQ=>ev P d Q) (P0g d []) Q st h
 | .exit id,Q,st,h=>Q (.exit id) st h
 | .ret,Q,st,h=>Q .ret st h
 |_,_,_,_=>False
def Y0l(P:Program):List ResultVar->St->Hp->(List Value->St->Hp->Prop)->Prop
 | [],st,h,K=>K [] st h
 | .tmp t::r,st,h,K=>rfy (rdA st (j3 st.fr t)) st h λv st h=>Y0l P r st h λvs st h=>K (v::vs) st h
 | .cell t ty::r,st,h,K=>match rdA st (j3 st.fr t)with
  | .box i off=>match nth st.bx i with
   |some (.live cs _)=>E05 P ty cs off λav=>rfy av st h λv st h=>Y0l P r st h λvs st h=>K (v::vs) st h
   |_=>False
  |_=>False
def X0j:List Value->Value
 | [v]=>v
 |vs => .tuple vs.toArray
def j0b:Nat->List Value->List (Nat×AV)
 |_,[]=>[]
 |i,v::r=>(i,.val v)::j0b (i+1) r
def B0s(P:Program)(fn:Func)(args:List Value)(h:Hp)(T:Value->Hp->Prop):Prop :=
 match fn.body with
 |some c=>match Nat.ble args.length fn.ntmps with
  |true=>ev P c (λe st h=>match e with
   | .exit _=>False
   |_=>Y0l P fn.results.toList st h λvs _ h=>T (X0j vs) h) ⟨fn.ntmps,j0b 0 args,[],[]⟩ h
  |false=>False
 |none=>False
end Go.H
