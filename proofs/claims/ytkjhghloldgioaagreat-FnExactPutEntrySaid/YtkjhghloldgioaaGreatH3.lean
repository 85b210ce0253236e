/- Plain laws over the model: what a function's code asks: regions with guards, regions that draw their order, branches and loops. -/
import Derived.Test.YtkjhghloldgioaaGreatH2
namespace Go.H
set_option linter.unusedVariables false
structure BE where
 j:Nat
 d:Nat
 e:Bool
 ch:List (Nat×Bool)
structure RS where
 st:St
 h:Hp
 gf:List (Nat×List (Nat×Bool)×AV)
 bs:List BE
def M06:List (Nat×List (Nat×Bool)×AV)->Nat->Option (List (Nat×Bool)×AV)
 | [],_=>none
 |(k,x)::r,s=>match Nat.beq k s with
  |true=>some x
  |false=>M06 r s
def eqB(a b:Bool):Bool:=match a,b with
 |true,true=>true
 |false,false=>true
 |_,_=>false
def V0e:List (Nat×Bool)->List (Nat×Bool)->Bool
 | [],[]=>true
 |(j,w)::r,(a,c)::b=>match Nat.beq j a,eqB w c with
  |true,true=>V0e r b
  |_,_=>false
 |_,_=>false
def k0a(a:List (Nat×Bool)):List (Nat×Bool)->Bool
 | []=>V0e a []
 |x::r=>match V0e a (x::r)with
  |true=>true
  |false=>k0a a r
def rdG(rs:RS)(ch:List (Nat×Bool)):Operand->AV
 | .tmp t=>match M06 rs.gf t with
  |some (a,av)=>match k0a a ch with
   |true=>rdA rs.st av
   |false => .dead
  |none=>rdA rs.st (A2 rs.st.fr t)
 |x=>rdO rs.st x
def N8:List BE->Nat->Option BE
 | [],_=>none
 |b::r,j=>match Nat.beq b.j j with
  |true=>some b
  |false=>N8 r j
def k04:List BE->Nat->Option BE
 | [],_=>none
 |b::r,s=>match Nat.beq b.d s with
  |true=>some b
  |false=>k04 r s
def lit(w e:Bool):Bool:=match w with
 |true=>e
 |false => !e
def cB(bs:List BE):List (Nat×Bool)->Option Bool
 | []=>some true
 |(j,w)::r=>match N8 bs j with
  |some b=>match r with
   | []=>some (lit w b.e)
   |_=>match cB bs r with
    |some c=>some (lit w b.e&&c)
    |none=>none
  |none=>none
def K6(bs:List BE):Option (Nat×Bool)->Option (List (Nat×Bool))
 |none=>some []
 |some (j,w)=>match N8 bs j with
  |some b=>some ((j,w)::b.ch)
  |none=>none
def imp(ch:List (Nat×Bool))(c:Bool)(X:Prop):Prop:=match ch with
 | []=>X
 |_=>c=true->X
def l0a(rs:RS)(ch:List (Nat×Bool)):List Operand->Option (List (Nat×Value))
 | []=>some []
 | .tmp t::r=>match l00 (rdG rs ch (.tmp t))with
  |some v=>match l0a rs ch r with
   |some vs=>some ((t,v)::vs)
   |none=>none
  |none=>none
 | .global _::_=>none
 |_::r=>l0a rs ch r
def x0g(rs:RS)(ch:List (Nat×Bool)):List Operand->St->Hp->(List (Nat×Value)->St->Hp->Prop)->Prop
 | [],st,h,K=>K [] st h
 | .tmp t::r,st,h,K=>rfy (rdA st (rdG rs ch (.tmp t))) st h λv st h=>x0g rs ch r st h λvs st h=>K ((t,v)::vs) st h
 | .global _::_,_,_,_=>False
 |_::r,st,h,K=>x0g rs ch r st h K
def n09(P:Program)(o:Oper)(ch:List (Nat×Bool))(c:Bool)(rs:RS)(K:AV->Prop):Prop :=
 match X05 o.op,l0a rs ch o.op.operands.toList with
 |false,some vs=>match s03 (rho vs) o with
  |some (f,l)=>match okF P f with
   |true=>∃ v,imp ch c (Tr P f l.toArray rs.h λb a=>b=v/\a=rs.h)/\K (.val v)
   |false=>False
  |none=>match evP P (i0a (rho vs) o)with
   |some (.value v)=>K (.val v)
   |_=>False
 |false,none=>∃ r,imp ch c (x0g rs ch o.op.operands.toList rs.st rs.h λvs _ hf=>match s03 (rho vs) o with
  |some (f,l)=>match okF P f with
   |true=>Tr P f l.toArray hf λv a=>v=r/\a=hf
   |false=>False
  |none=>False)/\K (.val r)
 |_,_=>False
def evG(P:Program)(o:Oper)(ch:List (Nat×Bool))(c:Bool)(rs:RS)(K:AV->Prop):Prop :=
 match o.op with
 | .move x | .assign x=>match rdG rs ch x with
  | .dead=>False
  |a=>K a
 | .pick (.tmp d) a b=>match rdG rs ch (.tmp d),k04 rs.bs d with
  | .val (.bool e),some q=>match k0a q.ch ch with
   |true=>match rdG rs ((q.j,true)::q.ch) a,rdG rs ((q.j,false)::q.ch) b with
    | .val (.bool x),.val (.bool f)=>K (.val (.bool (cond e x f)))
    |_,_=>False
   |false=>False
  |_,_=>False
 | .fieldAddr t x k=>match rdG rs ch x,k09 P t k with
  | .box i off,some p=>K (.box i (off+p))
  | .hel d i sz k,some p=>K (.hel d i sz (k+p))
  | .oel i d j sz k,some p=>K (.oel i d j sz (k+p))
  |_,_=>False
 | .indexAddr t x i=>match rdG rs ch i with
  | .val (.int _ j)=>match B7 P t with
   |some e=>match E4 P e with
    |some sz=>match rdG rs ch x with
     | .val (.slice a n g)=>imp ch c (InB (.slice a n g) j)/\K (.hel (.slice a n g) j sz 0)
     | .own i k=>match nth rs.st.ow i with
      |some ⟨_,.live _ s _ _ xs⟩=>match Nat.beq s sz with
       |true=>imp ch c (0<=j/\j<(xs.length:Int))/\K (.oel i k j sz 0)
       |false=>False
      |_=>False
     |_=>False
    |none=>False
   |none=>False
  |_=>False
 | .load t x=>match rdG rs ch x with
  | .box i off=>match nth rs.st.bx i with
   |some (.live cs _)=>H00 P t cs off K
   |_=>False
  | .hel d idx sz k=>∃ e,imp ch c (V4 rs.h d sz idx e)/\H00 P t (vals e) k K
  | .oel i _ idx sz k=>match nth rs.st.ow i with
   |some ⟨_,.live _ s _ _ xs⟩=>match Nat.beq s sz with
    |true=>∃ e,imp ch c (xs[idx.toNat]?=some e)/\H00 P t (vals e) k K
    |false=>False
   |_=>False
  |_=>False
 | .build t ps=>match P.underlying t,J7 P t with
  |some (.struct w),some z=>match m01 P w.toList with
   |true=>v02 P w (rdG rs ch) ps.toList (vals z.cells.toList) λcs=>K (.agg cs)
   |false=>False
  |_,_=>False
 | .index t x i=>match rdG rs ch x,rdG rs ch i,P.underlying t with
  | .val (.string d),.val (.int _ j),some .string=>∃ e,imp ch c (0<=j/\d[j.toNat]?=some e)/\K (.val (.int .u8 e.toNat))
  |_,_,_=>False
 | .slice t x lo hi none=>match rdG rs ch x,P.underlying t with
  | .val (.string d),some .string=>match K00 0 (lo.map (rdG rs ch)),K00 d.size (hi.map (rdG rs ch))with
   |some l,some m=>imp ch c (0<=l/\l<=m/\m<=(d.size:Int))/\K (.val (.string (d.extract l.toNat m.toNat)))
   |_,_=>False
  | .val (.slice y n g),_=>match B7 P t with
   |some e=>match E4 P e with
    |some sz=>match K00 0 (lo.map (rdG rs ch)),K00 n (hi.map (rdG rs ch))with
     |some l,some m=>∃ v,imp ch c ((0<=l/\l<=m/\m<=(n:Int)/\n<=g)/\K0b sz (.slice y n g) l.toNat m.toNat v)/\K (.val v)
     |_,_=>False
    |none=>False
   |none=>False
  |_,_=>False
 | .binOp .eql t x f yt=>match l00 (rdG rs ch x),l00 (rdG rs ch f)with
  |some (.agg xs),some (.agg u)=>∃ b,imp ch c (j04 P o x f (.agg xs) (.agg u) b)/\K (.val (.bool b))
  |some (.slice a n m),some (.slice none 0 0)=>∃ b,imp ch c (j04 P o x f (.slice a n m) (.slice none 0 0) b)/\K (.val (.bool b))
  |_,_=>n09 P o ch c rs K
 | .binOp .neq t x f yt=>match l00 (rdG rs ch x),l00 (rdG rs ch f)with
  |some (.agg xs),some (.agg u)=>∃ b,imp ch c (j04 P o x f (.agg xs) (.agg u) b)/\K (.val (.bool b))
  |_,_=>n09 P o ch c rs K
 | .binOp .add t x f yt=>match rdG rs ch x,rdG rs ch f with
  | .val (.string a),.val (.string b)=>imp ch c (a.size+b.size<=9223372036854775807)/\K (.val (.string (a++b)))
  |_,_=>n09 P o ch c rs K
 | .binOp .quo t x f yt=>match rdG rs ch x,rdG rs ch f with
  | .val (.int .i64 a),.val (.int .i64 b)=>imp ch c (b≠0)/\K (.val (.int .i64 (IntKind.i64.wrap (a.tdiv b))))
  |_,_=>n09 P o ch c rs K
 | .binOp .rem t x f yt=>match rdG rs ch x,rdG rs ch f with
  | .val (.int .i64 a),.val (.int .i64 b)=>imp ch c (b≠0)/\K (.val (.int .i64 (a.tmod b)))
  |_,_=>n09 P o ch c rs K
 | .call { callee := .builtin .len,args:=as,argTypes:=A }=>match as.toList,A.toList with
  | [x],[t]=>match rdG rs ch x with
   | .own i _=>match nth rs.st.ow i,B7 P t with
    |some ⟨_,.live _ _ _ _ xs⟩,some _=>K (.val (.int .i64 xs.length))
    |_,_=>False
   |_=>n09 P o ch c rs K
  |_,_=>False
 |_=>n09 P o ch c rs K
def w02(rs:RS)(d:Nat):Bool:=match M06 rs.gf d,k04 rs.bs d with
 |none,none=>false
 |_,_=>true
def m0a(i d:Nat)(ch:List (Nat×Bool))(av:AV)(bs:List BE):List BE:=match av with
 | .val (.bool e)=>⟨i,d,e,ch⟩::bs
 |_=>bs
def N06(d:Option Tmp)(i:Nat)(ch:List (Nat×Bool))(av:AV)(rs:RS)(K:RS->Prop):Prop :=
 match d with
 |none=>K rs
 |some d=>match Nat.blt d rs.st.n,w02 rs d with
  |true,false=>match ch with
   | []=>K { rs with st := { rs.st with fr:=(d,av)::rs.st.fr },bs:=m0a i d ch av rs.bs }
   |_=>K { rs with st := { rs.st with fr:=(d,.dead)::rs.st.fr },gf:=(d,ch,av)::rs.gf,bs:=m0a i d ch av rs.bs }
  |_,_=>False
def M0b:Op->Bool
 | .pick ..=>true
 |_=>false
def Y05(P:Program):List Oper->Nat->RS->(RS->Prop)->Prop
 | [],_,rs,K=>K rs
 |o::r,i,rs,K=>match o.guard,M0b o.op with
  |none,false=>v6 P o rs.st rs.h λav st h=>N06 o.dst i [] av { rs with st:=st,h:=h } λrs=>Y05 P r (i+1) rs K
  |_,_=>match K6 rs.bs o.guard with
   |some ch=>match cB rs.bs ch with
    |some c=>evG P o ch c rs λav=>N06 o.dst i ch av rs λrs=>Y05 P r (i+1) rs K
    |none=>False
   |none=>False
def evQ(P:Program):List Oper->Nat->RS->(RS->Prop)->Prop
 | [],_,rs,K=>K rs
 |o::r,i,rs,K=>match K6 rs.bs o.guard with
  |some ch=>match cB rs.bs ch with
   |some c=>evG P o ch c rs λav=>N06 o.dst i ch av rs λrs=>evQ P r (i+1) rs K
   |none=>False
  |none=>False
def Sub(h a:Hp):Prop:=∀ b o,h b=some o->a b=some o
def W0e(v:Value)(K:Value->Prop):Prop:=match v with
 | .bool b=>K (.bool b)
 | .int k n=>K (.int k n)
 | .string s=>K (.string s)
 | .pointer a=>K (.pointer a)
 | .slice a n c=>K (.slice a n c)
 | .func f x y=>K (.func f x y)
 | .agg cs=>K (.agg cs)
 | .tuple vs=>K (.tuple vs)
 |v=>K v
theorem T0d(v:Value)(K:Value->Prop):W0e v K=K v:=by cases v<;>rfl
def w6{a:Type}:List a->(List a->Prop)->Prop
 | [],K=>K []
 |x::r,K=>w6 r λr=>K (x::r)
theorem j8{a:Type}:∀(l:List a) (K:List a->Prop),w6 l K=K l
 | [],K=>rfl
 |x::r,K=>by simp only[w6,j8 r]
def m00:Nat->(Nat->Prop)->Prop
 |0,K=>K 0
 |n+1,K=>m00 n λm=>K (m+1)
theorem x02:∀(n:Nat) (K:Nat->Prop),m00 n K=K n
 |0,K=>rfl
 |n+1,K=>by simp only[m00,x02 n]
def U7(av:AV)(K:AV->Prop):Prop:=match av with
 | .val v=>W0e v λv=>K (.val v)
 | .own i k=>K (.own i k)
 | .box i k=>K (.box i k)
 | .hel s i z k=>m00 z λz=>m00 k λk=>K (.hel s i z k)
 | .oel j s i z k=>m00 z λz=>m00 k λk=>K (.oel j s i z k)
 | .agg cs=>w6 cs λcs=>K (.agg cs)
 | .dead=>K .dead
theorem O8(av:AV)(K:AV->Prop):U7 av K=K av:=by
 cases av with
 |val v=>exact T0d v (λv=>K (.val v))
 |hel s i z k=>simp only[U7,x02]
 |oel j s i z k=>simp only[U7,x02]
 |agg cs=>simp only[U7,j8]
 |_=>rfl
inductive w5 where
 |pu (av:AV)
 |ef (F:Value->Hp->Prop)
def Y2:List (Nat×w5)->Nat->Option w5
 | [],_=>none
 |(k,x)::r,s=>match Nat.beq k s with
  |true=>some x
  |false=>Y2 r s
def n0a(P:Program)(t:TypeId)(cs:List i4)(off:Nat):Option AV :=
 match h0a P t with
 |some true=>match E4 P t with
  |some n=>match n02 ((cs.drop off).take n) n with
   |true=>some (.agg ((cs.drop off).take n))
   |false=>none
  |none=>none
 |some false=>match nth cs off with
  |some c=>some (ofCell c)
  |none=>none
 |none=>none
def y02(d:Option Tmp)(f:w5)(L:List (Nat×w5)):List (Nat×w5):=match d with
 |some d=>(d,f)::L
 |none=>L
def E6(i:Nat)(o:Oper):Bool:=o.after.toList.any λe=>Region.binds .any e&&Nat.beq e.on i
def l8(o:Oper)(t:Nat):List Oper->Nat->Bool
 | [],_=>true
 |x::r,i=>match x.dst with
  |some d=>match Nat.beq d t with
   |true=>E6 i o&&l8 o t r (i+1)
   |false=>l8 o t r (i+1)
  |none=>l8 o t r (i+1)
def l04(o:Oper)(ops:List Oper):List Operand->Bool
 | []=>true
 | .tmp t::r=>l8 o t ops 0&&l04 o ops r
 |_::r=>l04 o ops r
def z02(d:Nat):List Oper->Bool
 | []=>true
 |o::r=>match o.dst with
  |some a => !Nat.beq d a&&z02 d r
  |none=>z02 d r
def o0a(n:Nat):List Oper->Bool
 | []=>true
 |o::r=>match o.dst with
  |some d=>Nat.blt d n&&z02 d r&&o0a n r
  |none=>o0a n r
def Z05:List Oper->Nat->Bool
 | [],_=>true
 |o::r,j=>(o.after.toList.all λe => !Region.binds .any e || Nat.blt e.on j)&&Z05 r (j+1)
def E0c(ops:List Oper):List Oper->Bool
 | []=>true
 |o::r=>l04 o ops o.op.operands.toList&&E0c ops r
def E8(n:Nat)(ops:List Oper):Bool:=o0a n ops&&Z05 ops 0&&E0c ops ops
def F0c:List i4->Bool
 | []=>true
 | .val _::r=>F0c r
 | .own _ _::_=>false
def o09:AV->Bool
 | .val _=>true
 | .box _ _=>true
 | .own _ _=>true
 | .agg cs=>F0c cs
 |_=>false
def e01(L:List (Nat×w5))(st:St):Operand->AV
 | .tmp t=>match Y2 L t with
  |some (.pu av)=>av
  |some (.ef _) => .dead
  |none=>A2 st.fr t
 | .const v => .val v
 |_ => .dead
def a06(L:List (Nat×w5))(st:St):List Operand->Option (List (Nat×Value))
 | []=>some []
 | .tmp t::r=>match e01 L st (.tmp t)with
  | .val v=>match a06 L st r with
   |some vs=>some ((t,v)::vs)
   |none=>none
  |_=>none
 | .global _::_=>none
 |_::r=>a06 L st r
def N0b(P:Program)(L:List (Nat×w5))(o:Oper)(st:St):Option AV:=match X05 o.op,a06 L st o.op.operands.toList with
 |false,some vs=>match s03 (rho vs) o with
  |some _=>none
  |none=>match evP P (i0a (rho vs) o)with
   |some (.value v)=>some (.val v)
   |_=>none
 |_,_=>none
def n0i:AV->Bool
 | .val (.int _ _)=>true
 |_=>false
def D0i:BinOp->Bool
 | .lss=>true
 | .leq=>true
 | .gtr=>true
 | .geq=>true
 | .eql=>true
 | .neq=>true
 | .add=>true
 | .sub=>true
 | .mul=>true
 |_=>false
def t03(P:Program)(L:List (Nat×w5))(o:Oper)(st:St):Option AV:=match o.op with
 | .move x=>match o09 (e01 L st x)with
  |true=>some (e01 L st x)
  |false=>none
 | .assign x=>match o09 (e01 L st x)with
  |true=>some (e01 L st x)
  |false=>none
 | .load t x=>match e01 L st x with
  | .box i off=>match nth st.bx i with
   |some (.live cs _)=>match n0a P t cs off with
    |some av=>match o09 av with
     |true=>some av
     |false=>none
    |none=>none
   |_=>none
  |_=>none
 | .fieldAddr t x k=>match e01 L st x,k09 P t k with
  | .box i off,some a=>some (.box i (off+a))
  |_,_=>none
 | .binOp op _ x y _=>match D0i op,n0i (e01 L st x),n0i (e01 L st y)with
  |true,true,true=>N0b P L o st
  |_,_,_=>none
 | .call { callee := .builtin .len,args:=as,argTypes:=_ }=>match as.toList with
  | [x]=>match e01 L st x with
   | .val (.slice _ _ _)=>N0b P L o st
   |_=>none
  |_=>none
 |_=>none
def X6(L:List (Nat×w5))(st:St):List Oper->List Nat
 | []=>[]
 |o::r=>match o.op with
  | .load _ x=>match e01 L st x with
   | .box i _=>i::X6 L st r
   |_=>X6 L st r
  |_=>X6 L st r
def u03(bx:List BSt):List Nat->List (Option BSt)
 | []=>[]
 |i::r=>nth bx i::u03 bx r
def L00(L:List (Nat×w5))(a:List (Nat×AV)):List Operand->List (Nat×AV)->(List (Nat×AV)->Prop)->Prop
 | [],acc,K=>K acc
 | .tmp t::r,acc,K=>match Y2 L t with
  |some (.pu av)=>L00 L a r ((t,av)::acc) K
  |some (.ef _)=>L00 L a r ((t,.dead)::acc) K
  |none=>L00 L a r ((t,A2 a t)::acc) K
 |_::r,acc,K=>L00 L a r acc K
def O0b:List (Nat×w5)->List (Nat×AV)->List (Nat×AV)
 | [],fr=>fr
 |(d,.pu av)::r,fr=>(d,av)::O0b r fr
 |(d,.ef _)::r,fr=>(d,.dead)::O0b r fr
def G0c(av:AV)(st:St)(h:Hp):AV->St->Hp->Prop:=λa st' b=>a=av/\st'=st/\b=h
def p0a(P:Program)(st:St)(h:Hp)(L:List (Nat×w5))(o:Oper)(av:AV):Prop :=
 match st with
 |⟨n,fr,bx,ow⟩=>∀ a,Sub h a->L00 L fr o.op.operands.toList [] λfr=>v6 P o ⟨n,fr,bx,ow⟩ a (G0c av ⟨n,fr,bx,ow⟩ a)
def t9(P:Program)(st:St)(h:Hp):List Oper->Nat->List (Nat×w5)->List (Nat×Oper)->List (Nat×Oper)->(List (Nat×w5)->List (Nat×Oper)->List (Nat×Oper)->Prop)->Prop
 | [],_,L,X,E,K=>K L X E
 |o::r,i,L,X,E,K=>match o.guard with
  |some _=>False
  |none=>match t03 P L o st with
   |some av=>U7 av λav=>t9 P st h r (i+1) (y02 o.dst (.pu av) L) X E K
   |none=>(∃ av,p0a P st h L o av/\U7 av λav=>t9 P st h r (i+1) (y02 o.dst (.pu av) L) (X ++ [(i,o)]) E K) ∨
     t9 P st h r (i+1) (y02 o.dst (.ef λ_ _=>True) L) X (E ++ [(i,o)]) K
def p09(X:List (Nat×Oper)):Nat->Nat->Oper->Bool
 |0,i,q=>E6 i q
 |n+1,i,q=>E6 i q || X.any λy=>E6 y.1 q&&p09 X n i y.2
def O06(X Y:List (Nat×Oper)):List (Nat×Oper)->Bool
 | []=>true
 |(_,q)::_=>X.all λx=>p09 Y 8 x.1 q
def n00:List (Nat×Oper)->Bool
 |(i,o)::(j,a)::r=>E6 i a&&n00 ((j,a)::r)
 |_=>true
def o00:Nat->Nat->Oper->Bool
 |0,_,_=>true
 |k+1,i,o=>(Nat.beq k i || E6 k o)&&o00 k i o
def A02(d:Nat):List Operand->Bool
 | []=>false
 | .tmp t::r=>Nat.beq t d || A02 d r
 |_::r=>A02 d r
def P06(d:Nat):List Oper->Bool
 | []=>false
 |o::r=>A02 d o.op.operands.toList || P06 d r
def C7:List Oper->List Oper
 | []=>[]
 |o::r=>match r with
  | []=>[]
  |_::_=>o::C7 r
def Q06:List Oper->Option Oper
 | []=>none
 |o::r=>match r with
  | []=>some o
  |_::_=>Q06 r
def X0e(ops:List Oper):Option Oper:=match Q06 ops with
 |some o=>match o.guard,o.dst with
  |none,some d=>match P06 d (C7 ops)&&o00 (C7 ops).length (C7 ops).length o with
   |true=>some o
   |false=>none
  |_,_=>none
 |none=>none
def L9(P:Program)(o:Oper)(st:St)(h:Hp)(K:St->Hp->Prop):Prop :=
 v6 P o st h λav st h=>N06 o.dst 0 [] av ⟨st,h,[],[]⟩ λrs=>K rs.st rs.h
def R06(N i:Nat)(o:Oper):List (Nat×Oper)->Bool
 | []=>o00 N i o
 |_::_=>false
def H0c(c:Nat)(b:Bool)(d:List Nat)(bx a:List BSt):Prop:=match b with
 |true=>True
 |false=>match c with
  |0=>u03 a d=u03 bx d
  |_+1=>a=bx
def q09:Nat->List Own->List Own->Hp->Hp->Prop
 |0,_,_,_,_=>True
 |_+1,ow,b,h,a=>b=ow/\Sub h a
def evC(f:List Nat)(d:Nat)(P:Program):Nat->List (Nat×Oper)->List (Nat×w5)->St->Hp->(St->Hp->Prop)->Prop
 |_,[],L,⟨n,fr,bx,ow⟩,h,K=>w6 (O0b L fr) λfr=>K ⟨n,fr,bx,ow⟩ h
 |c,(i,o)::r,L,⟨n,fr,bx,ow⟩,h,K=>L00 L fr o.op.operands.toList [] λg=>v6 P o ⟨n,g,bx,ow⟩ h λav st' e=>match st' with
  |⟨_,_,a,b⟩=>q09 c ow b h e/\H0c c (R06 d i o r) f bx a/\U7 av λav=>w6 a λa=>w6 b λb=>evC f d P (c-1) r (y02 o.dst (.pu av) L) ⟨n,fr,a,b⟩ e K
def y0g(f:Nat×Oper)(d:List Nat)(a:Nat)(P:Program):Nat->List (Nat×Oper)->List (Nat×w5)->St->Hp->(St->Hp->Prop)->Prop
 |0,E,L,st,h,K=>evC d a P 0 (f::E) L st h K
 |p+1,E,L,st,h,K=>evC d a P 0 (f::E) L st h K/\match E with
  | []=>False
  |(i,o)::r=>match st with
   |⟨n,fr,bx,ow⟩=>L00 L fr o.op.operands.toList [] λg=>v6 P o ⟨n,g,bx,ow⟩ h λav st' e=>match st' with
    |⟨_,_,b,c⟩=>q09 0 ow c h e/\H0c 0 (R06 a i o r) d bx b/\U7 av λav=>w6 b λb=>w6 c λc=>y0g f d a P p r (y02 o.dst (.pu av) L) ⟨n,fr,b,c⟩ e K
def U0d(f:Nat×Oper):Nat->List (Nat×Oper)->Bool
 |_,[]=>false
 |0,(_,q)::_=>E6 f.1 q
 |p+1,_::r=>U0d f p r
def s08:Nat->List (Nat×Oper)->Option ((Nat×Oper)×List (Nat×Oper))
 |_,[]=>none
 |0,x::r=>some (x,r)
 |k+1,x::r=>match s08 k r with
  |some (f,a)=>some (f,x::a)
  |none=>none
def noX:List (Nat×Oper)->Bool
 | []=>true
 |_::_=>false
def evD(b:List Nat)(a:Nat)(P:Program)(X E:List (Nat×Oper))(L:List (Nat×w5))(st:St)(h:Hp)(K:St->Hp->Prop):Prop :=
 (∃ c,(n00 E=true/\O06 X (X++E) (E.drop c)=true)/\evC b a P c E L st h K) ∨
 (∃ k p,match s08 k E with
  |some (f,E')=>(noX X=true/\n00 E'=true/\U0d f p E'=true)/\y0g f b a P p E' L st h K
  |none=>False)
abbrev FL:=List (Nat×List (Nat×Bool)×w5)
def o9:FL->Nat->Option (List (Nat×Bool)×w5)
 | [],_=>none
 |(k,x)::r,s=>match Nat.beq k s with
  |true=>some x
  |false=>o9 r s
def rdU(L:FL)(st:St)(ch:List (Nat×Bool)):Operand->AV
 | .tmp t=>match o9 L t with
  |some (a,.pu av)=>match k0a a ch with
   |true=>rdA st av
   |false => .dead
  |some (_,.ef _) => .dead
  |none=>rdA st (A2 st.fr t)
 |x=>rdO st x
def v03(P:Program)(L:FL)(bs:List BE)(ch:List (Nat×Bool))(o:Oper)(st:St):Option AV:=match o.op with
 | .move x | .assign x=>match rdU L st ch x with
  | .dead=>none
  |a=>some a
 | .load t x=>match rdU L st ch x with
  | .box i off=>match nth st.bx i with
   |some (.live cs _)=>n0a P t cs off
   |_=>none
  |_=>none
 | .fieldAddr t x k=>match rdU L st ch x,k09 P t k with
  | .box i off,some d=>some (.box i (off+d))
  | .hel c i sz k,some d=>some (.hel c i sz (k+d))
  |_,_=>none
 | .pick (.tmp c) a b=>match rdU L st ch (.tmp c),k04 bs c with
  | .val (.bool e),some q=>match k0a q.ch ch with
   |true=>match rdU L st ((q.j,true)::q.ch) a,rdU L st ((q.j,false)::q.ch) b with
    | .val (.bool x),.val (.bool f)=>some (.val (.bool (cond e x f)))
    |_,_=>none
   |false=>none
  |_,_=>none
 |_=>none
def j02(L:FL)(st:St)(h:Hp)(ch:List (Nat×Bool)):List Operand->List (Nat×AV)->(List (Nat×AV)->Prop)->Prop
 | [],acc,K=>K acc
 | .tmp t::r,acc,K=>match o9 L t with
  |some (a,f)=>match k0a a ch with
   |true=>match f with
    | .pu av=>j02 L st h ch r ((t,av)::acc) K
    | .ef F=>∀ v,F v h->j02 L st h ch r ((t,.val v)::acc) K
   |false=>False
  |none=>j02 L st h ch r ((t,A2 st.fr t)::acc) K
 |_::r,acc,K=>j02 L st h ch r acc K
def S06(h:Hp):FL->List (Nat×AV)->(List (Nat×AV)->Prop)->Prop
 | [],fr,K=>K fr
 |(d,[],.pu av)::r,fr,K=>S06 h r ((d,av)::fr) K
 |(d,[],.ef F)::r,fr,K=>∀ v,F v h->S06 h r ((d,.val v)::fr) K
 |(d,_::_,_)::r,fr,K=>S06 h r ((d,.dead)::fr) K
def h08(d:Option Tmp)(ch:List (Nat×Bool))(f:w5)(L:FL):FL:=match d with
 |some d=>(d,ch,f)::L
 |none=>L
def r09(i:Nat)(d:Option Tmp)(ch:List (Nat×Bool))(av:AV)(bs:List BE):List BE:=match d with
 |some d=>match av with
  | .val (.bool e)=>⟨i,d,e,ch⟩::bs
  |_=>bs
 |none=>bs
def P0b(st st':St):Prop:=st'.n=st.n/\st'.fr=st.fr/\st'.bx=st.bx/\∃ t,st'.ow=st.ow++t
def Y0e(st:St)(h:Hp)(F:Value->Hp->Prop):AV->St->Hp->Prop:=λav st' b=>rfy av st' b λv c a=>P0b st c/\Sub h a/\F v a
def Z0e(P:Program)(t n:Nat)(st:St)(h:Hp)(K:AV->St->Hp->Prop):Prop :=
 match B7 P t with
 |some e=>match E4 P e,Nat.beq n 0 with
  |some (_+1),true=>∀ g,h g=none->K (.val (.slice (some ⟨g,0,none⟩) 0 0)) st (h.set g (.cells #[] e (0,0)))
  |_,_=>False
 |none=>False
def a0f(P:Program)(t:TypeId)(a b:Operand)(st:St)(h:Hp)(K:AV->St->Hp->Prop):Prop :=
 match B7 P t with
 |some e=>match E4 P e,O03 P e,J7 P e with
  |some (sz+1),some (by_+1),some z=>match n02 z.cells.toList (sz+1)with
   |true=>match rdO st a with
    | .val (.slice (some ⟨g,o,none⟩) 0 0)=>K06 st h (sz+1) (rdO st b) λc=>n01 c.length (by_+1) /\
      ((c = []->K (.val (.slice (some ⟨g,o,none⟩) 0 0)) st h)/\∀ v d,U0 h d v e (sz+1) true c->K (.val v) st d)
    |_=>False
   |false=>False
  |_,_,_=>False
 |none=>False
def q0a(P:Program)(o:Oper)(st:St)(h:Hp)(K:AV->St->Hp->Prop):Prop :=
 match o.op with
 | .buildSlice t n ps=>match ps.toList with
  | []=>Z0e P t n st h K
  |_::_=>v6 P o st h K
 | .call { callee := .builtin .append,args:=as,argTypes:=d }=>match as.toList,d.toList with
  | [a,b],[t,c]=>match Nat.beq t c with
   |true=>a0f P t a b st h K
   |false=>False
  |_,_=>False
 |_=>v6 P o st h K
def evU(P:Program)(l:List Oper):Nat->FL->List BE->St->Hp->(St->Hp->Prop)->Prop :=
  List.rec (motive:=λ_=>Nat->FL->List BE->St->Hp->(St->Hp->Prop)->Prop)
    (λ_ L _ st h K=>match st with
      |⟨n,fr,bx,ow⟩=>∀ a,Sub h a->S06 a L fr λfr=>K ⟨n,fr,bx,ow⟩ a)
    (λo _ b i L bs st h K=>match st with
      |⟨n,fr,bx,ow⟩=>match K6 bs o.guard with
        |some ch=>match cB bs ch with
          |some c=>match v03 P L bs ch o ⟨n,fr,bx,ow⟩with
            |some av=>U7 av λav=>b (i+1) (h08 o.dst ch (.pu av) L) (r09 i o.dst ch av bs) ⟨n,fr,bx,ow⟩ h K
            |none=>(∃ av,(∀ a,Sub h a->imp ch c (j02 L ⟨n,fr,bx,ow⟩ a ch o.op.operands.toList [] λfr=>v6 P o ⟨n,fr,bx,ow⟩ a (G0c av ⟨n,fr,bx,ow⟩ a))) /\
                  U7 av λav=>b (i+1) (h08 o.dst ch (.pu av) L) (r09 i o.dst ch av bs) ⟨n,fr,bx,ow⟩ h K) ∨
                (∃ F:Value->Hp->Prop,(∀ v d e,Sub d e->F v d->F v e) /\
                  (∀ a,Sub h a->imp ch c (j02 L ⟨n,fr,bx,ow⟩ a ch o.op.operands.toList [] λfr=>q0a P o ⟨n,fr,bx,ow⟩ a (Y0e ⟨n,fr,bx,ow⟩ a F))) /\
                  b (i+1) (h08 o.dst ch (.ef F) L) bs ⟨n,fr,bx,ow⟩ h K)
          |none=>False
        |none=>False) l
def z06:List Oper->Bool
 | []=>true
 |o::r=>(match o.guard with
  |some (j,_)=>E6 j o
  |none=>true)&&z06 r
def D9(n:Nat)(ops:List Oper):Bool:=E8 n ops&&z06 ops
def z0g(P:Program):List Oper->Bool
 | []=>false
 |o::r=>(match o.guard,o.op with
  |some _,.call { callee := .value _,args:=_,argTypes:=_ }=>match P.underlying o.type with
   |some (.slice _)=>true
   |some (.struct _)=>true
   |some (.tuple _)=>true
   |_=>false
  |_,_=>false) || z0g P r
def c00(o:Oper):Bool:=match o.op with
 | .alloc _=>true
 |_=>false
def R6(o:Oper):Oper:=match o.op with
 | .alloc _ => { o with op := .move (.const undef) }
 |_=>o
def Y3:List Oper->List Oper
 | []=>[]
 |o::r=>R6 o::Y3 r
def okA(P:Program)(all:List Oper):List Oper->Bool
 | []=>true
 |o::r=>(match o.op with
  | .alloc t=>(match o.guard,o.dst,J7 P t with
   |none,some d,some _ => !P06 d all
   |_,_,_=>false)
  |_=>true)&&okA P all r
def Q0b(x:Nat):List Nat->Bool
 | []=>false
 |y::r=>Nat.beq x y || Q0b x r
def A0g(ops:List Oper)(i:Nat):List Nat->Bool
 | []=>false
 |j::r=>(match nth ops j with
  |some o=>E6 i o
  |none=>false) || A0g ops i r
def t08(ops:List Oper):Nat->List Nat->List Nat
 |0,acc=>acc
 |i+1,acc=>match A0g ops i acc with
  |true=>t08 ops i (i::acc)
  |false=>t08 ops i acc
def j05:Operand->List Nat
 | .tmp t=>[t]
 |_=>[]
def w03(o:Oper):Option (List Nat):=match o.guard with
 |some _=>none
 |none=>match o.op with
  | .extract x _=>some (j05 x)
  | .move x=>some (j05 x)
  | .assign x=>some (j05 x)
  | .pick c x y=>some (j05 c++(j05 x++j05 y))
  |_=>none
def x03(d:Nat):List Oper->Bool
 | []=>false
 |o::r=>(match o.dst with
  |some e=>Nat.beq e d
  |none=>false) || x03 d r
def p00(a:List Nat)(t:Nat):List Oper->Nat->Bool
 | [],_=>true
 |o::r,i=>(match o.dst with
  |some e => !Nat.beq e t || Q0b i a
  |none=>true)&&p00 a t r (i+1)
def o01(i d:Nat):List Oper->Bool
 | []=>true
 |o::r=>(!A02 d o.op.operands.toList || E6 i o)&&o01 i d r
def I0c(b c:List Oper)(a:List Nat):List Nat->Bool
 | []=>true
 |t::r=>(!x03 t c&&p00 a t b 0)&&I0c b c a r
def J0c(c a:List Oper)(b:List Nat)(i:Nat)(o:Oper):Bool:=match w03 o,o.dst with
 |some e,some d => !x03 d a&&I0c c a b e&&o01 i d a
 |_,_=>false
def A06(b c:List Oper)(a:List Nat):List Oper->Nat->Bool
 | [],_=>true
 |o::r,i=>(Q0b i a || J0c b c a i o)&&A06 b c a r (i+1)
def r0a:List Oper->Bool
 | []=>true
 |o::r => !X05 o.op&&r0a r
def b0f:Nat->List Oper->Bool
 |_,[]=>true
 |k,o::r=>(match o.guard with
  |none=>true
  |some _=>false)&&(match r with
  | []=>true
  |o'::_=>E6 k o')&&b0f (k+1) r
def o0i:List Oper->Bool
 | []=>true
 |_::_=>false
def okZ(P:Program)(n m:Nat)(ops:List Oper):Bool :=
 D9 n (Y3 (ops.take m))&&okA P (ops.take m) (ops.take m)&&Z05 ops 0&&b0f m (ops.drop m)&&(o0i (ops.drop m) || (A06 (ops.take m) (ops.drop m) (t08 ops m [m]) (ops.take m) 0&&r0a (ops.drop m)))
abbrev H0h:=Oper->St->Hp->(St->Hp->Prop)->Prop
def doA(R:H0h)(l:List Oper):St->Hp->(St->Hp->Prop)->Prop :=
 List.rec (motive:=λ_=>St->Hp->(St->Hp->Prop)->Prop) (λst h K=>K st h) (λo _ a st h K=>match c00 o with
  |true=>R o st h λst h=>a st h K
  |false=>a st h K) l
def doT(R:H0h)(l:List Oper):St->Hp->(St->Hp->Prop)->Prop :=
 List.rec (motive:=λ_=>St->Hp->(St->Hp->Prop)->Prop) (λst h K=>K st h) (λo _ a st h K=>R o st h λst h=>a st h K) l
def evT(P:Program)(R:H0h)(m:Nat)(ops:List Oper)(st:St)(h:Hp)(K:St->Hp->Prop):Prop :=
 evU P (Y3 (ops.take m)) 0 [] [] st h λst h=>doA R (ops.take m) st h λst h=>doT R (ops.drop m) st h K
inductive Ex where
 |normal|ret
 |exit (i:Nat)
structure Ann where
 vars:List Nat
 boxes:List Nat
 owns:List Nat
 nils:List (Nat×Nat×Nat×Nat):=[]
 nilsB:List (Nat×Nat×Nat×Nat×Nat):=[]
 kept:List Nat:=[]
 fuel:Bool:=false
 pubs:List Nat:=[]
def s0a:List (Nat×Nat×Nat×Nat)->St->(St->Prop)->Prop
 | [],st,K=>K st
 |(s,e,sz,by_)::r,⟨n,fr,bx,ow⟩,K=>match rdA ⟨n,fr,bx,ow⟩ (A2 fr s),Nat.blt s n with
  | .val (.slice none 0 0),true=>I0b ow λk=>s0a r ⟨n,(s,.own k 0)::fr,bx,ow ++ [⟨0,.live e sz by_ false []⟩]⟩ K
  |_,_=>False
def T06:List (Nat×Nat×Nat×Nat×Nat)->St->(St->Prop)->Prop
 | [],st,K=>K st
 |(i,k,e,sz,by_)::r,⟨n,fr,bx,ow⟩,K=>match nth bx i with
  |some (.live cs ty)=>match nth cs k with
   |some (.val (.slice none 0 0))=>I0b ow λj=>T06 r ⟨n,fr,W6 bx i (.live (W6 cs k (.own j 0)) ty),ow ++ [⟨0,.live e sz by_ false []⟩]⟩ K
   |_=>False
  |_=>False
def t0a:List Nat->St->Hp->(St->Hp->Prop)->Prop
 | [],st,h,K=>K st h
 |s::r,st,h,K=>rfy (rdA st (A2 st.fr s)) st h λv st h=>match st with
  |⟨n,fr,bx,ow⟩=>match Nat.blt s n with
   |true=>t0a r ⟨n,(s,.val v)::fr,bx,ow⟩ h K
   |false=>False
def o03(x:Nat):List Nat->Bool
 | []=>false
 |y::r=>match Nat.beq x y with
  |true=>true
  |false=>o03 x r
def I0h:List Oper->List Nat->List Nat
 | [],acc=>acc
 |o::r,acc=>match o.dst with
  |some d=>I0h r (d::acc)
  |none=>I0h r acc
def i08:Code->List Nat->List Nat
 | .region _ ops _,acc=>I0h ops.toList acc
 | .seq a b,acc=>i08 a (i08 b acc)
 | .cond _ a b,acc=>i08 a (i08 b acc)
 | .block _ a,acc=>i08 a acc
 | .loop a,acc=>i08 a acc
 | .scope a,acc=>i08 a acc
 |_,acc=>acc
def k05:List Nat->(List Nat->Prop)->Prop
 | [],K=>K []
 |x::r,K=>k05 r λr=>K (x::r)
def B0g:List Nat->St->(List Value->Prop)->Prop
 | [],_,K=>K []
 |s::r,st,K=>match rdA st (A2 st.fr s)with
  | .val v=>B0g r st λvs=>K (v::vs)
  |_=>False
def u0a:List i4->St->(List Value->Prop)->Prop
 | [],_,K=>K []
 | .val v::r,st,K=>u0a r st λvs=>K (v::vs)
 | .own _ _::r,st,K=>u0a r st K
def U06:List Nat->St->(List Value->Prop)->Prop
 | [],_,K=>K []
 |i::r,st,K=>match nth st.bx i with
  |some (.live cs _)=>u0a cs st λvs=>U06 r st λa=>K (vs++a)
  |_=>False
def u08:List Nat->St->(List (List (List Value))->Prop)->Prop
 | [],_,K=>K []
 |i::r,st,K=>match nth st.ow i with
  |some ⟨_,.live _ _ _ _ xs⟩=>u08 r st λos=>K (xs::os)
  |_=>False
def R0b(A:Ann)(st:St)(K:List Value->List (List (List Value))->Prop):Prop :=
 B0g A.vars st λvs=>U06 A.boxes st λa=>u08 A.owns st λos=>K (vs++a) os
def E9:List i4->List Value->(List i4->List Value->Prop)->Prop
 | [],vs,K=>K [] vs
 | .val _::r,v::vs,K=>E9 r vs λcs a=>K (.val v::cs) a
 | .val _::_,[],_=>False
 | .own i k::r,vs,K=>E9 r vs λcs a=>K (.own i k::cs) a
def p01:List Nat->List Value->List BSt->(List BSt->Prop)->Prop
 | [],_,bx,K=>K bx
 |i::r,vs,bx,K=>match nth bx i with
  |some (.live cs ty)=>E9 cs vs λcs a=>p01 r a (W6 bx i (.live cs ty)) K
  |_=>False
def q01:List Nat->List (List (List Value))->List Own->(List Own->Prop)->Prop
 | [],_,ow,K=>K ow
 |i::r,xs::os,ow,K=>match nth ow i with
  |some ⟨s,.live e sz by_ nn _⟩=>q01 r os (W6 ow i ⟨s,.live e sz by_ nn xs⟩) K
  |_=>False
 |_::_,[],_,_=>False
def B02{c:Type}:Nat->List c->(List c->List c->Prop)->Prop
 |0,l,K=>K [] l
 |n+1,x::l,K=>B02 n l λa b=>K (x::a) b
 |_+1,[],_=>False
def y03(A:Ann)(st:St):List Nat->List (Nat×AV)->(List (Nat×AV)->Prop)->Prop
 | [],acc,K=>K acc
 |s::r,acc,K=>match o03 s A.vars with
  |true=>y03 A st r acc K
  |false=>match rdA st (A2 st.fr s)with
   | .own i k=>y03 A st r ((s,.own i k)::acc) K
   | .box i o=>y03 A st r ((s,.box i o)::acc) K
   |_=>y03 A st r ((s,.dead)::acc) K
def K0c:List i4->Bool
 | []=>true
 | .val _::r=>K0c r
 | .own _ _::_=>false
def r01(A:Ann)(ds:List Nat)(st:St):List (Nat×AV)->(List (Nat×AV)->Prop)->Prop
 | [],K=>K []
 |(s,av)::r,K=>match o03 s ds with
  |true=>r01 A ds st r K
  |false=>match rdA st av with
   | .own i k=>match o03 i A.owns,o03 i A.kept with
    |true,false=>r01 A ds st r λl=>K ((s,.dead)::l)
    |_,_=>r01 A ds st r λl=>K ((s,.own i k)::l)
   | .oel _ _ _ _ _=>r01 A ds st r λl=>K ((s,.dead)::l)
   | .agg cs=>match K0c cs with
    |true=>r01 A ds st r λl=>K ((s,.agg cs)::l)
    |false=>r01 A ds st r λl=>K ((s,.dead)::l)
   |a=>r01 A ds st r λl=>K ((s,a)::l)
def l05:List Nat->List Value->List (Nat×AV)->List (Nat×AV)
 |s::r,v::vs,acc=>l05 r vs ((s,.val v)::acc)
 |_,_,acc=>acc
def b06(b a:St):List (Nat×AV)->Bool
 | []=>true
 |(c,av)::r=>match av with
  | .own i _=>match rdA a (A2 a.fr c)with
   | .own j _=>match Nat.beq i j with
    |true=>b06 b a r
    |false=>false
   |_=>false
  | .box i o=>match rdA a (A2 a.fr c)with
   | .box j p=>match Nat.beq i j,Nat.beq o p with
    |true,true=>b06 b a r
    |_,_=>false
   |_=>false
  |_=>b06 b a r
def S0b:AV->Bool
 | .dead=>true
 |_=>false
def V0d:List (Nat×AV)->List AV
 | []=>[]
 |(_,av)::r=>match S0b av with
  |true=>V0d r
  |false=>av::V0d r
def v08(fr:List (Nat×AV)):List (Nat×AV)->List AV
 | []=>[]
 |(s,av)::r=>match S0b av with
  |true=>v08 fr r
  |false=>A2 fr s::v08 fr r
def t01(c a:St):List i4->List i4->Bool
 | [],[]=>true
 | .val _::r,.val _::b=>t01 c a r b
 | .own i _::r,.own j d::b=>match Nat.beq i j,rdA a (.own j d)with
  |true,.own _ _=>t01 c a r b
  |_,_=>false
 |_,_=>false
def m04(os:List Nat):List i4->Bool
 | []=>true
 | .val _::r=>m04 os r
 | .own i _::r=>match o03 i os with
  |true=>false
  |false=>m04 os r
def T0b(os:List Nat):BSt->Bool
 | .live cs _=>m04 os cs
 | .publ _=>true
def m05(A:Ann)(c a:St):Nat->List BSt->List BSt->Prop
 |_,[],_=>True
 |i,b::r,d::e=>match o03 i A.boxes with
  |true=>match b,d with
   | .live cs ty,.live cs' f=>match Nat.beq ty f,t01 c a cs cs' with
    |true,true=>m05 A c a (i+1) r e
    |_,_=>False
   |_,_=>False
  |false=>match T0b A.owns b with
   |true=>d=b/\m05 A c a (i+1) r e
   |false=>False
 |_,_::_,[]=>False
def leB(a b:Bool):Bool:=match a with
 |true=>b
 |false=>true
def n05(A:Ann):Nat->List Own->List Own->Prop
 |_,[],_=>True
 |i,b::r,a::c=>match o03 i A.owns with
  |true=>match b,a with
   |⟨h,.live e sz by_ nn _⟩,⟨j,.live f k d g _⟩=>match Nat.beq e f,Nat.beq sz k,Nat.beq by_ d,leB nn g,leB (o03 i A.kept) (Nat.beq h j)with
    |true,true,true,true,true=>n05 A (i+1) r c
    |_,_,_,_,_=>False
   |_,_=>False
  |false=>a=b/\n05 A (i+1) r c
 |_,_::_,[]=>False
def n04:Nat->(List Value->Prop)->Prop
 |0,K=>K []
 |n+1,K=>∀ v,n04 n λvs=>K (v::vs)
def o04:Nat->(List (List (List Value))->Prop)->Prop
 |0,K=>K []
 |n+1,K=>∀ xs,o04 n λos=>K (xs::os)
abbrev o05:=List Value->List (List (List Value))->Hp->Prop
abbrev k02:=List Value->List (List (List Value))->Nat
def C0g:List Value->List Value->Bool
 | [],[]=>true
 |_::r,_::a=>C0g r a
 |_,_=>false
def v0a(A:Ann)(I:o05)(vs:List Value)(os:List (List (List Value)))(h:Hp):Prop:=match A.fuel with
 |false=>I vs os h
 |true=>∃ m:Nat,I (.int .i64 m::vs) os h
def w0a(A:Ann)(b:o05)(μ:k02)(vs:List Value)(os:List (List (List Value)))(X:Nat->Hp->Prop):Prop:=match A.fuel with
 |false=>∀ a,b vs os a->X (μ vs os) a
 |true=>∀(m:Nat) (a:Hp),b (.int .i64 m::vs) os a->X m a
def D0g(A:Ann)(a:o05)(μ:k02)(m:Nat)(vs:List Value)(os:List (List (List Value)))(h:Hp):Prop:=match A.fuel with
 |false=>a vs os h/\μ vs os<m
 |true=>∃ b:Nat,a (.int .i64 b::vs) os h/\b<m
def atI(A:Ann)(I:o05)(μ:k02)(m:Nat)(vs:List Value)(os:List (List (List Value)))(h:Hp):Prop:=match A.fuel with
 |false=>I vs os h/\m=μ vs os
 |true=>I (.int .i64 m::vs) os h
theorem c0f{A:Ann}{b:o05}{μ:k02}{vs:List Value}{os:List (List (List Value))}{h:Hp}(a:v0a A b vs os h):∃ m,atI A b μ m vs os h:=by
 unfold v0a at a
 unfold atI
 cases hf:A.fuel with
 |false=>rw[hf]at a;exact⟨_,a,rfl⟩
 |true=>rw[hf]at a;exact a
theorem d0f{A:Ann}{c:o05}{μ:k02}{vs:List Value}{os:List (List (List Value))}{X:Nat->Hp->Prop}(b:w0a A c μ vs os X){m:Nat}{h:Hp}(a:atI A c μ m vs os h):X m h:=by
 unfold w0a at b
 unfold atI at a
 cases hf:A.fuel with
 |false=>rw[hf]at b a;rw[a.2];exact b _ a.1
 |true=>rw[hf]at b a;exact b _ _ a
theorem E0g{A:Ann}{b:o05}{μ:k02}{m:Nat}{vs:List Value}{os:List (List (List Value))}{h:Hp}(a:D0g A b μ m vs os h):∃ c,atI A b μ c vs os h/\c<m:=by
 unfold D0g at a
 unfold atI
 cases hf:A.fuel with
 |false=>rw[hf]at a;exact⟨_,⟨a.1,rfl⟩,a.2⟩
 |true=>rw[hf]at a;exact a
def e0f(A:Ann)(d b:List (Nat×AV))(a:St)(c:o05)(μ:k02)(f:List Value)(m:Nat)(st:St)(h:Hp):Prop :=
 match Nat.beq st.n a.n,b06 a st d with
 |true,true=>v08 st.fr b=V0d b/\m05 A a st 0 a.bx st.bx/\n05 A 0 a.ow st.ow /\
   R0b A st λvs os=>match C0g vs f with
    |true=>B02 A.vars.length vs λ_ e=>p01 A.boxes e a.bx λ_=>q01 A.owns os a.ow λ_=>D0g A c μ m vs os h
    |false=>False
 |_,_=>False
def L0c(i:(Ex->St->Hp->Prop)->St->Hp->Prop)(j:List Nat)(Q:Ex->St->Hp->Prop)(st:St)(h:Hp):Prop :=
 ∃(A:Ann) (b:o05) (μ:k02),s0a A.nils st λst=>T06 A.nilsB st λst=>t0a A.pubs st h λst h=>R0b A st λg d=>v0a A b g d h /\
  k05 j λds=>y03 A st ds [] λc=>r01 A ds st st.fr λf =>
   n04 g.length λvs=>o04 d.length λos=>w0a A b μ vs os λm k =>
    B02 A.vars.length vs λl o=>p01 A.boxes o st.bx λbx=>q01 A.owns os st.ow λow =>
     i (λe st' a=>match e with
      | .normal=>t0a A.pubs st' a λst' a=>e0f A c f st b μ vs m st' a
      |e=>Q e st' a) ⟨st.n,l05 A.vars l (c++f),bx,ow⟩ k
def f0f(b:Bool)(X Y:Prop):Prop:=(b=true->X)/\(b=false->Y)
def ev(P:Program):Code->(Ex->St->Hp->Prop)->St->Hp->Prop
 | .skip,Q,st,h=>Q .normal st h
 | .region _ ops false,Q,st,h=>match z0g P ops.toList with
  |true=>D9 st.n ops.toList=true/\evU P ops.toList 0 [] [] st h λst h=>Q .normal st h
  |false=>Y05 P ops.toList 0 ⟨st,h,[],[]⟩ λrs=>Q .normal rs.st rs.h
 | .region _ ops true,Q,st,h=>((P.follows .mixedOrders=true/\Region.lexB .any ops=true) /\
   evQ P ops.toList 0 ⟨st,h,[],[]⟩ λrs=>Q .normal rs.st rs.h) ∨
   False ∨
   (match X0e ops.toList with
    |none=>(P.follows .mixedOrders=true/\E8 st.n ops.toList=true)/\t9 P st h ops.toList 0 [] [] [] λL X E=>evD (X6 L st ops.toList) ops.size P X E L st h λst h=>Q .normal st h
    |some o=>(P.follows .mixedOrders=true/\(E8 st.n (C7 ops.toList)&&Z05 ops.toList 0)=true)/\t9 P st h (C7 ops.toList) 0 [] [] [] λL X E=>evD (X6 L st (C7 ops.toList)) (C7 ops.toList).length P X E L st h λst h=>L9 P o st h λst h=>Q .normal st h) ∨
   ((P.follows .mixedOrders=true/\D9 st.n ops.toList=true)/\evU P ops.toList 0 [] [] st h λst h=>Q .normal st h) ∨
   (∃ m,(P.follows .mixedOrders=true/\okZ P st.n m ops.toList=true)/\evT P (L9 P) m ops.toList st h λst h=>Q .normal st h)
 | .seq a b,Q,st,h=>ev P a (λe st h=>match e with
  | .normal=>ev P b Q st h
  |e=>Q e st h) st h
 | .cond c t e,Q,st,h=>match rdO st c with
  | .val (.bool b)=>f0f b (ev P t Q st h) (ev P e Q st h)
  |_=>False
 | .block id c,Q,st,h=>ev P c (λe st h=>match e with
  | .exit i=>match Nat.beq i id with
   |true=>Q .normal st h
   |false=>Q (.exit i) st h
  |e=>Q e st h) st h
 | .loop d,Q,st,h=>L0c (λQ=>ev P d Q) (i08 d []) Q st h
 | .exit id,Q,st,h=>Q (.exit id) st h
 | .ret,Q,st,h=>Q .ret st h
 |_,_,_,_=>False
def U0b(P:Program):List ResultVar->St->Hp->(List Value->St->Hp->Prop)->Prop
 | [],st,h,K=>K [] st h
 | .tmp t::r,st,h,K=>rfy (rdA st (A2 st.fr t)) st h λv st h=>U0b P r st h λvs st h=>K (v::vs) st h
 | .cell t ty::r,st,h,K=>match rdA st (A2 st.fr t)with
  | .box i off=>match nth st.bx i with
   |some (.live cs _)=>H00 P ty cs off λav=>rfy av st h λv st h=>U0b P r st h λvs st h=>K (v::vs) st h
   |_=>False
  |_=>False
def x0a:List Value->Value
 | [v]=>v
 |vs => .tuple vs.toArray
def p04:Nat->List Value->List (Nat×AV)
 |_,[]=>[]
 |i,v::r=>(i,.val v)::p04 (i+1) r
def J0h(P:Program)(fn:Func)(args:List Value)(h:Hp)(T:Value->Hp->Prop):Prop :=
 match fn.body with
 |some c=>match Nat.ble args.length fn.ntmps with
  |true=>ev P c (λe st h=>match e with
   | .exit _=>False
   |_=>U0b P fn.results.toList st h λvs _ h=>T (x0a vs) h) ⟨fn.ntmps,p04 0 args,[],[]⟩ h
  |false=>False
 |none=>False
end Go.H
