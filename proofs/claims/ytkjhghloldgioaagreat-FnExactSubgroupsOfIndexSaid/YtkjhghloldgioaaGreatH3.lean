/- Plain laws over the model: what a function's code asks: regions with guards, regions that draw their order, branches and loops. -/
import Derived.Test.YtkjhghloldgioaaGreatH2
namespace Go.H
set_option linter.unusedVariables false
structure BE where
 j:Nat
 d:Nat
 e:Bool
 ch:List (Nat×Bool)
structure RS where
 st:St
 h:Hp
 gf:List (Nat×List (Nat×Bool)×AV)
 bs:List BE
def B05:List (Nat×List (Nat×Bool)×AV)->Nat->Option (List (Nat×Bool)×AV)
 | [],_=>none
 |(k,x)::r,s=>match Nat.beq k s with
  |true=>some x
  |false=>B05 r s
def eqB(a b:Bool):Bool:=match a,b with
 |true,true=>true
 |false,false=>true
 |_,_=>false
def Q0a:List (Nat×Bool)->List (Nat×Bool)->Bool
 | [],[]=>true
 |(j,w)::r,(j',w')::r'=>match Nat.beq j j',eqB w w' with
  |true,true=>Q0a r r'
  |_,_=>false
 |_,_=>false
def R07(a:List (Nat×Bool)):List (Nat×Bool)->Bool
 | []=>Q0a a []
 |x::r=>match Q0a a (x::r)with
  |true=>true
  |false=>R07 a r
def rdG(rs:RS)(ch:List (Nat×Bool)):Operand->AV
 | .tmp t=>match B05 rs.gf t with
  |some (ch2,av)=>match R07 ch2 ch with
   |true=>rdA rs.st av
   |false => .dead
  |none=>rdA rs.st (K1 rs.st.fr t)
 |x=>rdO rs.st x
def F7:List BE->Nat->Option BE
 | [],_=>none
 |b::r,j=>match Nat.beq b.j j with
  |true=>some b
  |false=>F7 r j
def B03:List BE->Nat->Option BE
 | [],_=>none
 |b::r,s=>match Nat.beq b.d s with
  |true=>some b
  |false=>B03 r s
def lit(w e:Bool):Bool:=match w with
 |true=>e
 |false => !e
def cB(bs:List BE):List (Nat×Bool)->Option Bool
 | []=>some true
 |(j,w)::r=>match F7 bs j with
  |some b=>match r with
   | []=>some (lit w b.e)
   |_=>match cB bs r with
    |some c=>some (lit w b.e&&c)
    |none=>none
  |none=>none
def K5(bs:List BE):Option (Nat×Bool)->Option (List (Nat×Bool))
 |none=>some []
 |some (j,w)=>match F7 bs j with
  |some b=>some ((j,w)::b.ch)
  |none=>none
def imp(ch:List (Nat×Bool))(c:Bool)(X:Prop):Prop:=match ch with
 | []=>X
 |_=>c=true->X
def S07(rs:RS)(ch:List (Nat×Bool)):List Operand->Option (List (Nat×Value))
 | []=>some []
 | .tmp t::r=>match L9 (rdG rs ch (.tmp t))with
  |some v=>match S07 rs ch r with
   |some vs=>some ((t,v)::vs)
   |none=>none
  |none=>none
 | .global _::_=>none
 |_::r=>S07 rs ch r
def J0b(rs:RS)(ch:List (Nat×Bool)):List Operand->St->Hp->(List (Nat×Value)->St->Hp->Prop)->Prop
 | [],st,h,K=>K [] st h
 | .tmp t::r,st,h,K=>rfy (rdA st (rdG rs ch (.tmp t))) st h λv st h=>J0b rs ch r st h λvs st h=>K ((t,v)::vs) st h
 | .global _::_,_,_,_=>False
 |_::r,st,h,K=>J0b rs ch r st h K
def h07(P:Program)(o:Oper)(ch:List (Nat×Bool))(c:Bool)(rs:RS)(K:AV->Prop):Prop :=
 match x03 o.op,S07 rs ch o.op.operands.toList with
 |false,some vs=>match J01 (rho vs) o with
  |some (f,l)=>match okF P f with
   |true=>∃ v,imp ch c (Tr P f l.toArray rs.h λv' h'=>v'=v/\h'=rs.h)/\K (.val v)
   |false=>False
  |none=>match evP P (B06 (rho vs) o)with
   |some (.value v)=>K (.val v)
   |_=>False
 |false,none=>∃ r,imp ch c (J0b rs ch o.op.operands.toList rs.st rs.h λvs _ hf=>match J01 (rho vs) o with
  |some (f,l)=>match okF P f with
   |true=>Tr P f l.toArray hf λv h'=>v=r/\h'=hf
   |false=>False
  |none=>False)/\K (.val r)
 |_,_=>False
def evG(P:Program)(o:Oper)(ch:List (Nat×Bool))(c:Bool)(rs:RS)(K:AV->Prop):Prop :=
 match o.op with
 | .move x | .assign x=>match rdG rs ch x with
  | .dead=>False
  |a=>K a
 | .pick (.tmp s) a b=>match rdG rs ch (.tmp s),B03 rs.bs s with
  | .val (.bool e),some q=>match R07 q.ch ch with
   |true=>match rdG rs ((q.j,true)::q.ch) a,rdG rs ((q.j,false)::q.ch) b with
    | .val (.bool x),.val (.bool y)=>K (.val (.bool (cond e x y)))
    |_,_=>False
   |false=>False
  |_,_=>False
 | .fieldAddr t x k=>match rdG rs ch x,e07 P t k with
  | .box i off,some fo=>K (.box i (off+fo))
  | .hel s i sz k,some fo=>K (.hel s i sz (k+fo))
  | .oel i s j sz k,some fo=>K (.oel i s j sz (k+fo))
  |_,_=>False
 | .indexAddr t x i=>match rdG rs ch i with
  | .val (.int _ j)=>match C6 P t with
   |some e=>match I2 P e with
    |some sz=>match rdG rs ch x with
     | .val (.slice a n cp)=>imp ch c (InB (.slice a n cp) j)/\K (.hel (.slice a n cp) j sz 0)
     | .own i k=>match nth rs.st.ow i with
      |some ⟨_,.live _ sz' _ _ xs⟩=>match Nat.beq sz' sz with
       |true=>imp ch c (0<=j/\j<(xs.length:Int))/\K (.oel i k j sz 0)
       |false=>False
      |_=>False
     |_=>False
    |none=>False
   |none=>False
  |_=>False
 | .load t x=>match rdG rs ch x with
  | .box i off=>match nth rs.st.bx i with
   |some (.live cs _)=>i00 P t cs off K
   |_=>False
  | .hel s idx sz k=>∃ e,imp ch c (N6 rs.h s sz idx e)/\i00 P t (vals e) k K
  | .oel i _ idx sz k=>match nth rs.st.ow i with
   |some ⟨_,.live _ sz' _ _ xs⟩=>match Nat.beq sz' sz with
    |true=>∃ e,imp ch c (xs[idx.toNat]?=some e)/\i00 P t (vals e) k K
    |false=>False
   |_=>False
  |_=>False
 | .build t ps=>match P.underlying t,l6 P t with
  |some (.struct fs),some z=>match J00 P fs.toList with
   |true=>M01 P fs (rdG rs ch) ps.toList (vals z.cells.toList) λcs=>K (.agg cs)
   |false=>False
  |_,_=>False
 | .index t x i=>match rdG rs ch x,rdG rs ch i,P.underlying t with
  | .val (.string s),.val (.int _ j),some .string=>∃ e,imp ch c (0<=j/\s[j.toNat]?=some e)/\K (.val (.int .u8 e.toNat))
  |_,_,_=>False
 | .slice t x lo hi none=>match rdG rs ch x,P.underlying t with
  | .val (.string s),some .string=>match l00 0 (lo.map (rdG rs ch)),l00 s.size (hi.map (rdG rs ch))with
   |some l,some m=>imp ch c (0<=l/\l<=m/\m<=(s.size:Int))/\K (.val (.string (s.extract l.toNat m.toNat)))
   |_,_=>False
  | .val (.slice ad n cp),_=>match C6 P t with
   |some e=>match I2 P e with
    |some sz=>match l00 0 (lo.map (rdG rs ch)),l00 n (hi.map (rdG rs ch))with
     |some l,some m=>∃ v,imp ch c ((0<=l/\l<=m/\m<=(n:Int)/\n<=cp)/\Z08 sz (.slice ad n cp) l.toNat m.toNat v)/\K (.val v)
     |_,_=>False
    |none=>False
   |none=>False
  |_,_=>False
 | .binOp .eql t x y yt=>match L9 (rdG rs ch x),L9 (rdG rs ch y)with
  |some (.agg xs),some (.agg ys)=>∃ b,imp ch c (A03 P o x y (.agg xs) (.agg ys) b)/\K (.val (.bool b))
  |some (.slice a n m),some (.slice none 0 0)=>∃ b,imp ch c (A03 P o x y (.slice a n m) (.slice none 0 0) b)/\K (.val (.bool b))
  |_,_=>h07 P o ch c rs K
 | .binOp .neq t x y yt=>match L9 (rdG rs ch x),L9 (rdG rs ch y)with
  |some (.agg xs),some (.agg ys)=>∃ b,imp ch c (A03 P o x y (.agg xs) (.agg ys) b)/\K (.val (.bool b))
  |_,_=>h07 P o ch c rs K
 | .binOp .add t x y yt=>match rdG rs ch x,rdG rs ch y with
  | .val (.string a),.val (.string b)=>imp ch c (a.size+b.size<=9223372036854775807)/\K (.val (.string (a++b)))
  |_,_=>h07 P o ch c rs K
 | .binOp .quo t x y yt=>match rdG rs ch x,rdG rs ch y with
  | .val (.int .i64 a),.val (.int .i64 b)=>imp ch c (b≠0)/\K (.val (.int .i64 (IntKind.i64.wrap (a.tdiv b))))
  |_,_=>h07 P o ch c rs K
 | .binOp .rem t x y yt=>match rdG rs ch x,rdG rs ch y with
  | .val (.int .i64 a),.val (.int .i64 b)=>imp ch c (b≠0)/\K (.val (.int .i64 (a.tmod b)))
  |_,_=>h07 P o ch c rs K
 | .call { callee := .builtin .len,args:=as,argTypes:=ts }=>match as.toList,ts.toList with
  | [x],[t]=>match rdG rs ch x with
   | .own i _=>match nth rs.st.ow i,C6 P t with
    |some ⟨_,.live _ _ _ _ xs⟩,some _=>K (.val (.int .i64 xs.length))
    |_,_=>False
   |_=>h07 P o ch c rs K
  |_,_=>False
 |_=>h07 P o ch c rs K
def O01(rs:RS)(d:Nat):Bool:=match B05 rs.gf d,B03 rs.bs d with
 |none,none=>false
 |_,_=>true
def T07(i d:Nat)(ch:List (Nat×Bool))(av:AV)(bs:List BE):List BE:=match av with
 | .val (.bool e)=>⟨i,d,e,ch⟩::bs
 |_=>bs
def C05(d:Option Tmp)(i:Nat)(ch:List (Nat×Bool))(av:AV)(rs:RS)(K:RS->Prop):Prop :=
 match d with
 |none=>K rs
 |some d=>match Nat.blt d rs.st.n,O01 rs d with
  |true,false=>match ch with
   | []=>K { rs with st := { rs.st with fr:=(d,av)::rs.st.fr },bs:=T07 i d ch av rs.bs }
   |_=>K { rs with st := { rs.st with fr:=(d,.dead)::rs.st.fr },gf:=(d,ch,av)::rs.gf,bs:=T07 i d ch av rs.bs }
  |_,_=>False
def b09:Op->Bool
 | .pick ..=>true
 |_=>false
def U04(P:Program):List Oper->Nat->RS->(RS->Prop)->Prop
 | [],_,rs,K=>K rs
 |o::r,i,rs,K=>match o.guard,b09 o.op with
  |none,false=>R4 P o rs.st rs.h λav st h=>C05 o.dst i [] av { rs with st:=st,h:=h } λrs=>U04 P r (i+1) rs K
  |_,_=>match K5 rs.bs o.guard with
   |some ch=>match cB rs.bs ch with
    |some c=>evG P o ch c rs λav=>C05 o.dst i ch av rs λrs=>U04 P r (i+1) rs K
    |none=>False
   |none=>False
def evQ(P:Program):List Oper->Nat->RS->(RS->Prop)->Prop
 | [],_,rs,K=>K rs
 |o::r,i,rs,K=>match K5 rs.bs o.guard with
  |some ch=>match cB rs.bs ch with
   |some c=>evG P o ch c rs λav=>C05 o.dst i ch av rs λrs=>evQ P r (i+1) rs K
   |none=>False
  |none=>False
def Sub(h h':Hp):Prop:=∀ b o,h b=some o->h' b=some o
def R0a(v:Value)(K:Value->Prop):Prop:=match v with
 | .bool b=>K (.bool b)
 | .int k n=>K (.int k n)
 | .string s=>K (.string s)
 | .pointer a=>K (.pointer a)
 | .slice a n c=>K (.slice a n c)
 | .func f x y=>K (.func f x y)
 | .agg cs=>K (.agg cs)
 | .tuple vs=>K (.tuple vs)
 |v=>K v
theorem i0a(v:Value)(K:Value->Prop):R0a v K=K v:=by cases v<;>rfl
def c4{α:Type}:List α->(List α->Prop)->Prop
 | [],K=>K []
 |x::r,K=>c4 r λr=>K (x::r)
theorem t7{α:Type}:∀(l:List α) (K:List α->Prop),c4 l K=K l
 | [],K=>rfl
 |x::r,K=>by simp only[c4,t7 r]
def M9:Nat->(Nat->Prop)->Prop
 |0,K=>K 0
 |n+1,K=>M9 n λm=>K (m+1)
theorem P01:∀(n:Nat) (K:Nat->Prop),M9 n K=K n
 |0,K=>rfl
 |n+1,K=>by simp only[M9,P01 n]
def E6(av:AV)(K:AV->Prop):Prop:=match av with
 | .val v=>R0a v λv=>K (.val v)
 | .own i k=>K (.own i k)
 | .box i k=>K (.box i k)
 | .hel s i z k=>M9 z λz=>M9 k λk=>K (.hel s i z k)
 | .oel j s i z k=>M9 z λz=>M9 k λk=>K (.oel j s i z k)
 | .agg cs=>c4 cs λcs=>K (.agg cs)
 | .dead=>K .dead
theorem Y7(av:AV)(K:AV->Prop):E6 av K=K av:=by
 cases av with
 |val v=>exact i0a v (λv=>K (.val v))
 |hel s i z k=>simp only[E6,P01]
 |oel j s i z k=>simp only[E6,P01]
 |agg cs=>simp only[E6,t7]
 |_=>rfl
inductive L3 where
 |pu (av:AV)
 |ef (F:Value->Hp->Prop)
def N1:List (Nat×L3)->Nat->Option L3
 | [],_=>none
 |(k,x)::r,s=>match Nat.beq k s with
  |true=>some x
  |false=>N1 r s
def U07(P:Program)(t:TypeId)(cs:List Z1)(off:Nat):Option AV :=
 match P07 P t with
 |some true=>match I2 P t with
  |some n=>match d01 ((cs.drop off).take n) n with
   |true=>some (.agg ((cs.drop off).take n))
   |false=>none
  |none=>none
 |some false=>match nth cs off with
  |some c=>some (ofCell c)
  |none=>none
 |none=>none
def e01(d:Option Tmp)(f:L3)(L:List (Nat×L3)):List (Nat×L3):=match d with
 |some d=>(d,f)::L
 |none=>L
def d4(i:Nat)(o:Oper):Bool:=o.after.toList.any λe=>Region.binds .any e&&Nat.beq e.on i
def w7(o:Oper)(t:Nat):List Oper->Nat->Bool
 | [],_=>true
 |x::r,i=>match x.dst with
  |some d=>match Nat.beq d t with
   |true=>d4 i o&&w7 o t r (i+1)
   |false=>w7 o t r (i+1)
  |none=>w7 o t r (i+1)
def C03(o:Oper)(ops:List Oper):List Operand->Bool
 | []=>true
 | .tmp t::r=>w7 o t ops 0&&C03 o ops r
 |_::r=>C03 o ops r
def Q01(d:Nat):List Oper->Bool
 | []=>true
 |o::r=>match o.dst with
  |some d' => !Nat.beq d d'&&Q01 d r
  |none=>Q01 d r
def V07(n:Nat):List Oper->Bool
 | []=>true
 |o::r=>match o.dst with
  |some d=>Nat.blt d n&&Q01 d r&&V07 n r
  |none=>V07 n r
def V04:List Oper->Nat->Bool
 | [],_=>true
 |o::r,j=>(o.after.toList.all λe => !Region.binds .any e || Nat.blt e.on j)&&V04 r (j+1)
def B09(ops:List Oper):List Oper->Bool
 | []=>true
 |o::r=>C03 o ops o.op.operands.toList&&B09 ops r
def P7(n:Nat)(ops:List Oper):Bool:=V07 n ops&&V04 ops 0&&B09 ops ops
def C09:List Z1->Bool
 | []=>true
 | .val _::r=>C09 r
 | .own _ _::_=>false
def i07:AV->Bool
 | .val _=>true
 | .box _ _=>true
 | .own _ _=>true
 | .agg cs=>C09 cs
 |_=>false
def z00(L:List (Nat×L3))(st:St):Operand->AV
 | .tmp t=>match N1 L t with
  |some (.pu av)=>av
  |some (.ef _) => .dead
  |none=>K1 st.fr t
 | .const v => .val v
 |_ => .dead
def W04(L:List (Nat×L3))(st:St):List Operand->Option (List (Nat×Value))
 | []=>some []
 | .tmp t::r=>match z00 L st (.tmp t)with
  | .val v=>match W04 L st r with
   |some vs=>some ((t,v)::vs)
   |none=>none
  |_=>none
 | .global _::_=>none
 |_::r=>W04 L st r
def c09(P:Program)(L:List (Nat×L3))(o:Oper)(st:St):Option AV:=match x03 o.op,W04 L st o.op.operands.toList with
 |false,some vs=>match J01 (rho vs) o with
  |some _=>none
  |none=>match evP P (B06 (rho vs) o)with
   |some (.value v)=>some (.val v)
   |_=>none
 |_,_=>none
def g0d:AV->Bool
 | .val (.int _ _)=>true
 |_=>false
def t0d:BinOp->Bool
 | .lss=>true
 | .leq=>true
 | .gtr=>true
 | .geq=>true
 | .eql=>true
 | .neq=>true
 | .add=>true
 | .sub=>true
 | .mul=>true
 |_=>false
def O02(P:Program)(L:List (Nat×L3))(o:Oper)(st:St):Option AV:=match o.op with
 | .move x=>match i07 (z00 L st x)with
  |true=>some (z00 L st x)
  |false=>none
 | .assign x=>match i07 (z00 L st x)with
  |true=>some (z00 L st x)
  |false=>none
 | .load t x=>match z00 L st x with
  | .box i off=>match nth st.bx i with
   |some (.live cs _)=>match U07 P t cs off with
    |some av=>match i07 av with
     |true=>some av
     |false=>none
    |none=>none
   |_=>none
  |_=>none
 | .fieldAddr t x k=>match z00 L st x,e07 P t k with
  | .box i off,some fo=>some (.box i (off+fo))
  |_,_=>none
 | .binOp op _ x y _=>match t0d op,g0d (z00 L st x),g0d (z00 L st y)with
  |true,true,true=>c09 P L o st
  |_,_,_=>none
 | .call { callee := .builtin .len,args:=as,argTypes:=_ }=>match as.toList with
  | [x]=>match z00 L st x with
   | .val (.slice _ _ _)=>c09 P L o st
   |_=>none
  |_=>none
 |_=>none
def o5(L:List (Nat×L3))(st:St):List Oper->List Nat
 | []=>[]
 |o::r=>match o.op with
  | .load _ x=>match z00 L st x with
   | .box i _=>i::o5 L st r
   |_=>o5 L st r
  |_=>o5 L st r
def P02(bx:List BSt):List Nat->List (Option BSt)
 | []=>[]
 |i::r=>nth bx i::P02 bx r
def z9(L:List (Nat×L3))(fr0:List (Nat×AV)):List Operand->List (Nat×AV)->(List (Nat×AV)->Prop)->Prop
 | [],acc,K=>K acc
 | .tmp t::r,acc,K=>match N1 L t with
  |some (.pu av)=>z9 L fr0 r ((t,av)::acc) K
  |some (.ef _)=>z9 L fr0 r ((t,.dead)::acc) K
  |none=>z9 L fr0 r ((t,K1 fr0 t)::acc) K
 |_::r,acc,K=>z9 L fr0 r acc K
def W07:List (Nat×L3)->List (Nat×AV)->List (Nat×AV)
 | [],fr=>fr
 |(d,.pu av)::r,fr=>(d,av)::W07 r fr
 |(d,.ef _)::r,fr=>(d,.dead)::W07 r fr
def D09(av:AV)(st:St)(h:Hp):AV->St->Hp->Prop:=λav' st' h'=>av'=av/\st'=st/\h'=h
def X07(P:Program)(st:St)(h:Hp)(L:List (Nat×L3))(o:Oper)(av:AV):Prop :=
 match st with
 |⟨n,fr,bx,ow⟩=>∀ h',Sub h h'->z9 L fr o.op.operands.toList [] λfr=>R4 P o ⟨n,fr,bx,ow⟩ h' (D09 av ⟨n,fr,bx,ow⟩ h')
def F8(P:Program)(st:St)(h:Hp):List Oper->Nat->List (Nat×L3)->List (Nat×Oper)->List (Nat×Oper)->(List (Nat×L3)->List (Nat×Oper)->List (Nat×Oper)->Prop)->Prop
 | [],_,L,X,E,K=>K L X E
 |o::r,i,L,X,E,K=>match o.guard with
  |some _=>False
  |none=>match O02 P L o st with
   |some av=>E6 av λav=>F8 P st h r (i+1) (e01 o.dst (.pu av) L) X E K
   |none=>(∃ av,X07 P st h L o av/\E6 av λav=>F8 P st h r (i+1) (e01 o.dst (.pu av) L) (X ++ [(i,o)]) E K) ∨
     F8 P st h r (i+1) (e01 o.dst (.ef λ_ _=>True) L) X (E ++ [(i,o)]) K
def j07(X:List (Nat×Oper)):Nat->Nat->Oper->Bool
 |0,i,q=>d4 i q
 |n+1,i,q=>d4 i q || X.any λy=>d4 y.1 q&&j07 X n i y.2
def D05(X Y:List (Nat×Oper)):List (Nat×Oper)->Bool
 | []=>true
 |(_,q)::_=>X.all λx=>j07 Y 8 x.1 q
def N9:List (Nat×Oper)->Bool
 |(i,o)::(j,o')::r=>d4 i o'&&N9 ((j,o')::r)
 |_=>true
def O9:Nat->Nat->Oper->Bool
 |0,_,_=>true
 |k+1,i,o=>(Nat.beq k i || d4 k o)&&O9 k i o
def R01(d:Nat):List Operand->Bool
 | []=>false
 | .tmp t::r=>Nat.beq t d || R01 d r
 |_::r=>R01 d r
def E05(d:Nat):List Oper->Bool
 | []=>false
 |o::r=>R01 d o.op.operands.toList || E05 d r
def D6:List Oper->List Oper
 | []=>[]
 |o::r=>match r with
  | []=>[]
  |_::_=>o::D6 r
def F05:List Oper->Option Oper
 | []=>none
 |o::r=>match r with
  | []=>some o
  |_::_=>F05 r
def S0a(ops:List Oper):Option Oper:=match F05 ops with
 |some o=>match o.guard,o.dst with
  |none,some d=>match E05 d (D6 ops)&&O9 (D6 ops).length (D6 ops).length o with
   |true=>some o
   |false=>none
  |_,_=>none
 |none=>none
def a9(P:Program)(o:Oper)(st:St)(h:Hp)(K:St->Hp->Prop):Prop :=
 R4 P o st h λav st h=>C05 o.dst 0 [] av ⟨st,h,[],[]⟩ λrs=>K rs.st rs.h
def D03(N i:Nat)(o:Oper):List (Nat×Oper)->Bool
 | []=>O9 N i o
 |_::_=>false
def C06(c:Nat)(b:Bool)(rd:List Nat)(bx bx':List BSt):Prop:=match b with
 |true=>True
 |false=>match c with
  |0=>P02 bx' rd=P02 bx rd
  |_+1=>bx'=bx
def l04:Nat->List Own->List Own->Hp->Hp->Prop
 |0,_,_,_,_=>True
 |_+1,ow,ow',h,h'=>ow'=ow/\Sub h h'
def evC(rd:List Nat)(N:Nat)(P:Program):Nat->List (Nat×Oper)->List (Nat×L3)->St->Hp->(St->Hp->Prop)->Prop
 |_,[],L,⟨n,fr,bx,ow⟩,h,K=>c4 (W07 L fr) λfr=>K ⟨n,fr,bx,ow⟩ h
 |c,(i,o)::r,L,⟨n,fr,bx,ow⟩,h,K=>z9 L fr o.op.operands.toList [] λfr1=>R4 P o ⟨n,fr1,bx,ow⟩ h λav st' h'=>match st' with
  |⟨_,_,bx',ow'⟩=>l04 c ow ow' h h'/\C06 c (D03 N i o r) rd bx bx'/\E6 av λav=>c4 bx' λbx'=>c4 ow' λow'=>evC rd N P (c-1) r (e01 o.dst (.pu av) L) ⟨n,fr,bx',ow'⟩ h' K
def K0b(f:Nat×Oper)(rd:List Nat)(N:Nat)(P:Program):Nat->List (Nat×Oper)->List (Nat×L3)->St->Hp->(St->Hp->Prop)->Prop
 |0,E,L,st,h,K=>evC rd N P 0 (f::E) L st h K
 |p+1,E,L,st,h,K=>evC rd N P 0 (f::E) L st h K/\match E with
  | []=>False
  |(i,o)::r=>match st with
   |⟨n,fr,bx,ow⟩=>z9 L fr o.op.operands.toList [] λfr1=>R4 P o ⟨n,fr1,bx,ow⟩ h λav st' h'=>match st' with
    |⟨_,_,bx',ow'⟩=>l04 0 ow ow' h h'/\C06 0 (D03 N i o r) rd bx bx'/\E6 av λav=>c4 bx' λbx'=>c4 ow' λow'=>K0b f rd N P p r (e01 o.dst (.pu av) L) ⟨n,fr,bx',ow'⟩ h' K
def j0a(f:Nat×Oper):Nat->List (Nat×Oper)->Bool
 |_,[]=>false
 |0,(_,q)::_=>d4 f.1 q
 |p+1,_::r=>j0a f p r
def D06:Nat->List (Nat×Oper)->Option ((Nat×Oper)×List (Nat×Oper))
 |_,[]=>none
 |0,x::r=>some (x,r)
 |k+1,x::r=>match D06 k r with
  |some (f,r')=>some (f,x::r')
  |none=>none
def noX:List (Nat×Oper)->Bool
 | []=>true
 |_::_=>false
def m04:List (Nat×Oper)->List (Nat×Oper)->List ((Nat×Oper)×List (Nat×Oper))
 |_,[]=>[]
 |A,x::B=>(x,A++B)::m04 (A ++ [x]) B
def k07(x:Nat×Oper):List (Nat×Oper)->Bool
 | []=>true
 |y::r => !d4 y.1 x.2&&k07 x r
def d09(f:(Nat×Oper)->List (Nat×Oper)->Prop):List ((Nat×Oper)×List (Nat×Oper))->Prop
 | []=>True
 |p::l=>match k07 p.1 p.2 with
  |true=>f p.1 p.2/\d09 f l
  |false=>d09 f l
def Y07(rd:List Nat)(N:Nat)(P:Program):Nat->List (Nat×Oper)->List (Nat×L3)->St->Hp->(St->Hp->Prop)->Prop
 |0,_,L,⟨n,fr,bx,ow⟩,h,K=>c4 (W07 L fr) λfr=>K ⟨n,fr,bx,ow⟩ h
 |m+1,E,L,⟨n,fr,bx,ow⟩,h,K=>d09 (λx r=>z9 L fr x.2.op.operands.toList [] λfr1=>R4 P x.2 ⟨n,fr1,bx,ow⟩ h λav st' h'=>match st' with
  |⟨_,_,bx',ow'⟩=>l04 0 ow ow' h h'/\C06 0 (D03 N x.1 x.2 r) rd bx bx'/\E6 av λav=>c4 bx' λbx'=>c4 ow' λow'=>Y07 rd N P m r (e01 x.2.dst (.pu av) L) ⟨n,fr,bx',ow'⟩ h' K) (m04 [] E)
def t06:List (Nat×Oper)->Nat
 | []=>0
 |_::r=>t06 r+1
def evD(rd:List Nat)(N:Nat)(P:Program)(X E:List (Nat×Oper))(L:List (Nat×L3))(st:St)(h:Hp)(K:St->Hp->Prop):Prop :=
 (∃ c,(N9 E=true/\D05 X (X++E) (E.drop c)=true)/\evC rd N P c E L st h K) ∨
 (∃ k p,match D06 k E with
  |some (f,E')=>(noX X=true/\N9 E'=true/\j0a f p E'=true)/\K0b f rd N P p E' L st h K
  |none=>noX X=true/\Y07 rd N P (t06 E) E L st h K)
abbrev FL:=List (Nat×List (Nat×Bool)×L3)
def D8:FL->Nat->Option (List (Nat×Bool)×L3)
 | [],_=>none
 |(k,x)::r,s=>match Nat.beq k s with
  |true=>some x
  |false=>D8 r s
def rdU(L:FL)(st:St)(ch:List (Nat×Bool)):Operand->AV
 | .tmp t=>match D8 L t with
  |some (ch2,.pu av)=>match R07 ch2 ch with
   |true=>rdA st av
   |false => .dead
  |some (_,.ef _) => .dead
  |none=>rdA st (K1 st.fr t)
 |x=>rdO st x
def Q02(P:Program)(L:FL)(bs:List BE)(ch:List (Nat×Bool))(o:Oper)(st:St):Option AV:=match o.op with
 | .move x | .assign x=>match rdU L st ch x with
  | .dead=>none
  |a=>some a
 | .load t x=>match rdU L st ch x with
  | .box i off=>match nth st.bx i with
   |some (.live cs _)=>U07 P t cs off
   |_=>none
  |_=>none
 | .fieldAddr t x k=>match rdU L st ch x,e07 P t k with
  | .box i off,some fo=>some (.box i (off+fo))
  | .hel s i sz k,some fo=>some (.hel s i sz (k+fo))
  |_,_=>none
 | .pick (.tmp s) a b=>match rdU L st ch (.tmp s),B03 bs s with
  | .val (.bool e),some q=>match R07 q.ch ch with
   |true=>match rdU L st ((q.j,true)::q.ch) a,rdU L st ((q.j,false)::q.ch) b with
    | .val (.bool x),.val (.bool y)=>some (.val (.bool (cond e x y)))
    |_,_=>none
   |false=>none
  |_,_=>none
 |_=>none
def z01(L:FL)(st:St)(h:Hp)(ch:List (Nat×Bool)):List Operand->List (Nat×AV)->(List (Nat×AV)->Prop)->Prop
 | [],acc,K=>K acc
 | .tmp t::r,acc,K=>match D8 L t with
  |some (ch2,f)=>match R07 ch2 ch with
   |true=>match f with
    | .pu av=>z01 L st h ch r ((t,av)::acc) K
    | .ef F=>∀ v,F v h->z01 L st h ch r ((t,.val v)::acc) K
   |false=>False
  |none=>z01 L st h ch r ((t,K1 st.fr t)::acc) K
 |_::r,acc,K=>z01 L st h ch r acc K
def u06(h:Hp):FL->List (Nat×AV)->(List (Nat×AV)->Prop)->Prop
 | [],fr,K=>K fr
 |(d,[],.pu av)::r,fr,K=>u06 h r ((d,av)::fr) K
 |(d,[],.ef F)::r,fr,K=>∀ v,F v h->u06 h r ((d,.val v)::fr) K
 |(d,_::_,_)::r,fr,K=>u06 h r ((d,.dead)::fr) K
def l07(d:Option Tmp)(ch:List (Nat×Bool))(f:L3)(L:FL):FL:=match d with
 |some d=>(d,ch,f)::L
 |none=>L
def m07(i:Nat)(d:Option Tmp)(ch:List (Nat×Bool))(av:AV)(bs:List BE):List BE:=match d with
 |some d=>match av with
  | .val (.bool e)=>⟨i,d,e,ch⟩::bs
  |_=>bs
 |none=>bs
def T0a(st st':St):Prop:=st'.n=st.n/\st'.fr=st.fr/\st'.bx=st.bx/\∃ t,st'.ow=st.ow++t
def U0a(st:St)(h:Hp)(F:Value->Hp->Prop):AV->St->Hp->Prop:=λav st' h'=>rfy av st' h' λv st'' h''=>T0a st st''/\Sub h h''/\F v h''
def V0a(P:Program)(t n:Nat)(st:St)(h:Hp)(K:AV->St->Hp->Prop):Prop :=
 match C6 P t with
 |some e=>match I2 P e,Nat.beq n 0 with
  |some (_+1),true=>∀ g,h g=none->K (.val (.slice (some ⟨g,0,none⟩) 0 0)) st (h.set g (.cells #[] e (0,0)))
  |_,_=>False
 |none=>False
def W0a(P:Program)(t:TypeId)(a b:Operand)(st:St)(h:Hp)(K:AV->St->Hp->Prop):Prop :=
 match C6 P t with
 |some e=>match I2 P e,c03 P e,l6 P e with
  |some (sz+1),some (by_+1),some z=>match d01 z.cells.toList (sz+1)with
   |true=>match rdO st a with
    | .val (.slice (some ⟨g,o,none⟩) 0 0)=>y05 st h (sz+1) (rdO st b) λys=>N01 ys.length (by_+1) /\
      ((ys = []->K (.val (.slice (some ⟨g,o,none⟩) 0 0)) st h)/\∀ v h',K0 h h' v e (sz+1) true ys->K (.val v) st h')
    |_=>False
   |false=>False
  |_,_,_=>False
 |none=>False
def Z07(P:Program)(o:Oper)(st:St)(h:Hp)(K:AV->St->Hp->Prop):Prop :=
 match o.op with
 | .buildSlice t n ps=>match ps.toList with
  | []=>V0a P t n st h K
  |_::_=>R4 P o st h K
 | .call { callee := .builtin .append,args:=as,argTypes:=ts }=>match as.toList,ts.toList with
  | [a,b],[t,t']=>match Nat.beq t t' with
   |true=>W0a P t a b st h K
   |false=>False
  |_,_=>False
 |_=>R4 P o st h K
def evU(P:Program)(l:List Oper):Nat->FL->List BE->St->Hp->(St->Hp->Prop)->Prop :=
  List.rec (motive:=λ_=>Nat->FL->List BE->St->Hp->(St->Hp->Prop)->Prop)
    (λ_ L _ st h K=>match st with
      |⟨n,fr,bx,ow⟩=>∀ h',Sub h h'->u06 h' L fr λfr=>K ⟨n,fr,bx,ow⟩ h')
    (λo _ ih i L bs st h K=>match st with
      |⟨n,fr,bx,ow⟩=>match K5 bs o.guard with
        |some ch=>match cB bs ch with
          |some c=>match Q02 P L bs ch o ⟨n,fr,bx,ow⟩with
            |some av=>E6 av λav=>ih (i+1) (l07 o.dst ch (.pu av) L) (m07 i o.dst ch av bs) ⟨n,fr,bx,ow⟩ h K
            |none=>(∃ av,(∀ h',Sub h h'->imp ch c (z01 L ⟨n,fr,bx,ow⟩ h' ch o.op.operands.toList [] λfr=>R4 P o ⟨n,fr,bx,ow⟩ h' (D09 av ⟨n,fr,bx,ow⟩ h'))) /\
                  E6 av λav=>ih (i+1) (l07 o.dst ch (.pu av) L) (m07 i o.dst ch av bs) ⟨n,fr,bx,ow⟩ h K) ∨
                (∃ F:Value->Hp->Prop,(∀ v h1 h2,Sub h1 h2->F v h1->F v h2) /\
                  (∀ h',Sub h h'->imp ch c (z01 L ⟨n,fr,bx,ow⟩ h' ch o.op.operands.toList [] λfr=>Z07 P o ⟨n,fr,bx,ow⟩ h' (U0a ⟨n,fr,bx,ow⟩ h' F))) /\
                  ih (i+1) (l07 o.dst ch (.ef F) L) bs ⟨n,fr,bx,ow⟩ h K)
          |none=>False
        |none=>False) l
def t05:List Oper->Bool
 | []=>true
 |o::r=>(match o.guard with
  |some (j,_)=>d4 j o
  |none=>true)&&t05 r
def V8(n:Nat)(ops:List Oper):Bool:=P7 n ops&&t05 ops
def L0b(P:Program):List Oper->Bool
 | []=>false
 |o::r=>(match o.guard,o.op with
  |some _,.call { callee := .value _,args:=_,argTypes:=_ }=>match P.underlying o.type with
   |some (.slice _)=>true
   |some (.struct _)=>true
   |some (.tuple _)=>true
   |_=>false
  |_,_=>false) || L0b P r
def C9(o:Oper):Bool:=match o.op with
 | .alloc _=>true
 |_=>false
def N5(o:Oper):Oper:=match o.op with
 | .alloc _ => { o with op := .move (.const undef) }
 |_=>o
def J2:List Oper->List Oper
 | []=>[]
 |o::r=>N5 o::J2 r
def okA(P:Program)(all:List Oper):List Oper->Bool
 | []=>true
 |o::r=>(match o.op with
  | .alloc t=>(match o.guard,o.dst,l6 P t with
   |none,some d,some _ => !E05 d all
   |_,_,_=>false)
  |_=>true)&&okA P all r
def e09(x:Nat):List Nat->Bool
 | []=>false
 |y::r=>Nat.beq x y || e09 x r
def M0b(ops:List Oper)(i:Nat):List Nat->Bool
 | []=>false
 |j::r=>(match nth ops j with
  |some o=>d4 i o
  |none=>false) || M0b ops i r
def E06(ops:List Oper):Nat->List Nat->List Nat
 |0,acc=>acc
 |i+1,acc=>match M0b ops i acc with
  |true=>E06 ops i (i::acc)
  |false=>E06 ops i acc
def n04:Operand->List Nat
 | .tmp t=>[t]
 |_=>[]
def R02(o:Oper):Option (List Nat):=match o.guard with
 |some _=>none
 |none=>match o.op with
  | .extract x _=>some (n04 x)
  | .move x=>some (n04 x)
  | .assign x=>some (n04 x)
  | .pick c x y=>some (n04 c++(n04 x++n04 y))
  |_=>none
def S02(d:Nat):List Oper->Bool
 | []=>false
 |o::r=>(match o.dst with
  |some e=>Nat.beq e d
  |none=>false) || S02 d r
def P9(ml:List Nat)(t:Nat):List Oper->Nat->Bool
 | [],_=>true
 |o::r,i=>(match o.dst with
  |some e => !Nat.beq e t || e09 i ml
  |none=>true)&&P9 ml t r (i+1)
def L00(i d:Nat):List Oper->Bool
 | []=>true
 |o::r=>(!R01 d o.op.operands.toList || d4 i o)&&L00 i d r
def E09(pre tl:List Oper)(ml:List Nat):List Nat->Bool
 | []=>true
 |t::r=>(!S02 t tl&&P9 ml t pre 0)&&E09 pre tl ml r
def F09(pre tl:List Oper)(ml:List Nat)(i:Nat)(o:Oper):Bool:=match R02 o,o.dst with
 |some ts,some d => !S02 d tl&&E09 pre tl ml ts&&L00 i d tl
 |_,_=>false
def u05(pre tl:List Oper)(ml:List Nat):List Oper->Nat->Bool
 | [],_=>true
 |o::r,i=>(e09 i ml || F09 pre tl ml i o)&&u05 pre tl ml r (i+1)
def a08:List Oper->Bool
 | []=>true
 |o::r => !x03 o.op&&a08 r
def X0a:Nat->List Oper->Bool
 |_,[]=>true
 |k,o::r=>(match o.guard with
  |none=>true
  |some _=>false)&&(match r with
  | []=>true
  |o'::_=>d4 k o')&&X0a (k+1) r
def h0d:List Oper->Bool
 | []=>true
 |_::_=>false
def okZ(P:Program)(n m:Nat)(ops:List Oper):Bool :=
 V8 n (J2 (ops.take m))&&okA P (ops.take m) (ops.take m)&&V04 ops 0&&X0a m (ops.drop m)&&(h0d (ops.drop m) || (u05 (ops.take m) (ops.drop m) (E06 ops m [m]) (ops.take m) 0&&a08 (ops.drop m)))
abbrev y0c:=Oper->St->Hp->(St->Hp->Prop)->Prop
def doA(R:y0c)(l:List Oper):St->Hp->(St->Hp->Prop)->Prop :=
 List.rec (motive:=λ_=>St->Hp->(St->Hp->Prop)->Prop) (λst h K=>K st h) (λo _ ih st h K=>match C9 o with
  |true=>R o st h λst h=>ih st h K
  |false=>ih st h K) l
def doT(R:y0c)(l:List Oper):St->Hp->(St->Hp->Prop)->Prop :=
 List.rec (motive:=λ_=>St->Hp->(St->Hp->Prop)->Prop) (λst h K=>K st h) (λo _ ih st h K=>R o st h λst h=>ih st h K) l
def evT(P:Program)(R:y0c)(m:Nat)(ops:List Oper)(st:St)(h:Hp)(K:St->Hp->Prop):Prop :=
 evU P (J2 (ops.take m)) 0 [] [] st h λst h=>doA R (ops.take m) st h λst h=>doT R (ops.drop m) st h K
inductive Ex where
 |normal|ret
 |exit (i:Nat)
structure Ann where
 vars:List Nat
 boxes:List Nat
 owns:List Nat
 nils:List (Nat×Nat×Nat×Nat):=[]
 nilsB:List (Nat×Nat×Nat×Nat×Nat):=[]
 kept:List Nat:=[]
 fuel:Bool:=false
 pubs:List Nat:=[]
def b08:List (Nat×Nat×Nat×Nat)->St->(St->Prop)->Prop
 | [],st,K=>K st
 |(s,e,sz,by_)::r,⟨n,fr,bx,ow⟩,K=>match rdA ⟨n,fr,bx,ow⟩ (K1 fr s),Nat.blt s n with
  | .val (.slice none 0 0),true=>X08 ow λk=>b08 r ⟨n,(s,.own k 0)::fr,bx,ow ++ [⟨0,.live e sz by_ false []⟩]⟩ K
  |_,_=>False
def G05:List (Nat×Nat×Nat×Nat×Nat)->St->(St->Prop)->Prop
 | [],st,K=>K st
 |(i,k,e,sz,by_)::r,⟨n,fr,bx,ow⟩,K=>match nth bx i with
  |some (.live cs ty)=>match nth cs k with
   |some (.val (.slice none 0 0))=>X08 ow λj=>G05 r ⟨n,fr,d6 bx i (.live (d6 cs k (.own j 0)) ty),ow ++ [⟨0,.live e sz by_ false []⟩]⟩ K
   |_=>False
  |_=>False
def c08:List Nat->St->Hp->(St->Hp->Prop)->Prop
 | [],st,h,K=>K st h
 |s::r,st,h,K=>rfy (rdA st (K1 st.fr s)) st h λv st h=>match st with
  |⟨n,fr,bx,ow⟩=>match Nat.blt s n with
   |true=>c08 r ⟨n,(s,.val v)::fr,bx,ow⟩ h K
   |false=>False
def K02(x:Nat):List Nat->Bool
 | []=>false
 |y::r=>match Nat.beq x y with
  |true=>true
  |false=>K02 x r
def z0c:List Oper->List Nat->List Nat
 | [],acc=>acc
 |o::r,acc=>match o.dst with
  |some d=>z0c r (d::acc)
  |none=>z0c r acc
def v06:Code->List Nat->List Nat
 | .region _ ops _,acc=>z0c ops.toList acc
 | .seq a b,acc=>v06 a (v06 b acc)
 | .cond _ a b,acc=>v06 a (v06 b acc)
 | .block _ a,acc=>v06 a acc
 | .loop a,acc=>v06 a acc
 | .scope a,acc=>v06 a acc
 |_,acc=>acc
def o04:List Nat->(List Nat->Prop)->Prop
 | [],K=>K []
 |x::r,K=>o04 r λr=>K (x::r)
def N0b:List Nat->St->(List Value->Prop)->Prop
 | [],_,K=>K []
 |s::r,st,K=>match rdA st (K1 st.fr s)with
  | .val v=>N0b r st λvs=>K (v::vs)
  |_=>False
def d08:List Z1->St->(List Value->Prop)->Prop
 | [],_,K=>K []
 | .val v::r,st,K=>d08 r st λvs=>K (v::vs)
 | .own _ _::r,st,K=>d08 r st K
def H05:List Nat->St->(List Value->Prop)->Prop
 | [],_,K=>K []
 |i::r,st,K=>match nth st.bx i with
  |some (.live cs _)=>d08 cs st λvs=>H05 r st λws=>K (vs++ws)
  |_=>False
def F06:List Nat->St->(List (List (List Value))->Prop)->Prop
 | [],_,K=>K []
 |i::r,st,K=>match nth st.ow i with
  |some ⟨_,.live _ _ _ _ xs⟩=>F06 r st λos=>K (xs::os)
  |_=>False
def f09(A:Ann)(st:St)(K:List Value->List (List (List Value))->Prop):Prop :=
 N0b A.vars st λvs=>H05 A.boxes st λws=>F06 A.owns st λos=>K (vs++ws) os
def W8:List Z1->List Value->(List Z1->List Value->Prop)->Prop
 | [],vs,K=>K [] vs
 | .val _::r,v::vs,K=>W8 r vs λcs rest=>K (.val v::cs) rest
 | .val _::_,[],_=>False
 | .own i k::r,vs,K=>W8 r vs λcs rest=>K (.own i k::cs) rest
def M00:List Nat->List Value->List BSt->(List BSt->Prop)->Prop
 | [],_,bx,K=>K bx
 |i::r,vs,bx,K=>match nth bx i with
  |some (.live cs ty)=>W8 cs vs λcs rest=>M00 r rest (d6 bx i (.live cs ty)) K
  |_=>False
def N00:List Nat->List (List (List Value))->List Own->(List Own->Prop)->Prop
 | [],_,ow,K=>K ow
 |i::r,xs::os,ow,K=>match nth ow i with
  |some ⟨s,.live e sz by_ nn _⟩=>N00 r os (d6 ow i ⟨s,.live e sz by_ nn xs⟩) K
  |_=>False
 |_::_,[],_,_=>False
def S01{α:Type}:Nat->List α->(List α->List α->Prop)->Prop
 |0,l,K=>K [] l
 |n+1,x::l,K=>S01 n l λa b=>K (x::a) b
 |_+1,[],_=>False
def T02(A:Ann)(st:St):List Nat->List (Nat×AV)->(List (Nat×AV)->Prop)->Prop
 | [],acc,K=>K acc
 |s::r,acc,K=>match K02 s A.vars with
  |true=>T02 A st r acc K
  |false=>match rdA st (K1 st.fr s)with
   | .own i k=>T02 A st r ((s,.own i k)::acc) K
   | .box i o=>T02 A st r ((s,.box i o)::acc) K
   |_=>T02 A st r ((s,.dead)::acc) K
def G09:List Z1->Bool
 | []=>true
 | .val _::r=>G09 r
 | .own _ _::_=>false
def O00(A:Ann)(ds:List Nat)(st:St):List (Nat×AV)->(List (Nat×AV)->Prop)->Prop
 | [],K=>K []
 |(s,av)::r,K=>match K02 s ds with
  |true=>O00 A ds st r K
  |false=>match rdA st av with
   | .own i k=>match K02 i A.owns,K02 i A.kept with
    |true,false=>O00 A ds st r λl=>K ((s,.dead)::l)
    |_,_=>O00 A ds st r λl=>K ((s,.own i k)::l)
   | .oel _ _ _ _ _=>O00 A ds st r λl=>K ((s,.dead)::l)
   | .agg cs=>match G09 cs with
    |true=>O00 A ds st r λl=>K ((s,.agg cs)::l)
    |false=>O00 A ds st r λl=>K ((s,.dead)::l)
   |a=>O00 A ds st r λl=>K ((s,a)::l)
def p04:List Nat->List Value->List (Nat×AV)->List (Nat×AV)
 |s::r,v::vs,acc=>p04 r vs ((s,.val v)::acc)
 |_,_,acc=>acc
def X04(head end_:St):List (Nat×AV)->Bool
 | []=>true
 |(s,av)::r=>match av with
  | .own i _=>match rdA end_ (K1 end_.fr s)with
   | .own j _=>match Nat.beq i j with
    |true=>X04 head end_ r
    |false=>false
   |_=>false
  | .box i o=>match rdA end_ (K1 end_.fr s)with
   | .box j p=>match Nat.beq i j,Nat.beq o p with
    |true,true=>X04 head end_ r
    |_,_=>false
   |_=>false
  |_=>X04 head end_ r
def g09:AV->Bool
 | .dead=>true
 |_=>false
def k0a:List (Nat×AV)->List AV
 | []=>[]
 |(_,av)::r=>match g09 av with
  |true=>k0a r
  |false=>av::k0a r
def G06(fr:List (Nat×AV)):List (Nat×AV)->List AV
 | []=>[]
 |(s,av)::r=>match g09 av with
  |true=>G06 fr r
  |false=>K1 fr s::G06 fr r
def P00(head end_:St):List Z1->List Z1->Bool
 | [],[]=>true
 | .val _::r,.val _::r'=>P00 head end_ r r'
 | .own i _::r,.own j k'::r'=>match Nat.beq i j,rdA end_ (.own j k')with
  |true,.own _ _=>P00 head end_ r r'
  |_,_=>false
 |_,_=>false
def E03(os:List Nat):List Z1->Bool
 | []=>true
 | .val _::r=>E03 os r
 | .own i _::r=>match K02 i os with
  |true=>false
  |false=>E03 os r
def h09(os:List Nat):BSt->Bool
 | .live cs _=>E03 os cs
 | .publ _=>true
def q04(A:Ann)(head end_:St):Nat->List BSt->List BSt->Prop
 |_,[],_=>True
 |i,b::r,b'::r'=>match K02 i A.boxes with
  |true=>match b,b' with
   | .live cs ty,.live cs' ty'=>match Nat.beq ty ty',P00 head end_ cs cs' with
    |true,true=>q04 A head end_ (i+1) r r'
    |_,_=>False
   |_,_=>False
  |false=>match h09 A.owns b with
   |true=>b'=b/\q04 A head end_ (i+1) r r'
   |false=>False
 |_,_::_,[]=>False
def leB(a b:Bool):Bool:=match a with
 |true=>b
 |false=>true
def r04(A:Ann):Nat->List Own->List Own->Prop
 |_,[],_=>True
 |i,b::r,b'::r'=>match K02 i A.owns with
  |true=>match b,b' with
   |⟨s,.live e sz by_ nn _⟩,⟨s',.live e' sz' by' nn' _⟩=>match Nat.beq e e',Nat.beq sz sz',Nat.beq by_ by',leB nn nn',leB (K02 i A.kept) (Nat.beq s s')with
    |true,true,true,true,true=>r04 A (i+1) r r'
    |_,_,_,_,_=>False
   |_,_=>False
  |false=>b'=b/\r04 A (i+1) r r'
 |_,_::_,[]=>False
def F03:Nat->(List Value->Prop)->Prop
 |0,K=>K []
 |n+1,K=>∀ v,F03 n λvs=>K (v::vs)
def G03:Nat->(List (List (List Value))->Prop)->Prop
 |0,K=>K []
 |n+1,K=>∀ xs,G03 n λos=>K (xs::os)
abbrev s04:=List Value->List (List (List Value))->Hp->Prop
abbrev A01:=List Value->List (List (List Value))->Nat
def O0b:List Value->List Value->Bool
 | [],[]=>true
 |_::r,_::r'=>O0b r r'
 |_,_=>false
def e08(A:Ann)(I:s04)(vs:List Value)(os:List (List (List Value)))(h:Hp):Prop:=match A.fuel with
 |false=>I vs os h
 |true=>∃ m:Nat,I (.int .i64 m::vs) os h
def f08(A:Ann)(I:s04)(μ:A01)(vs:List Value)(os:List (List (List Value)))(X:Nat->Hp->Prop):Prop:=match A.fuel with
 |false=>∀ h',I vs os h'->X (μ vs os) h'
 |true=>∀(m:Nat) (h':Hp),I (.int .i64 m::vs) os h'->X m h'
def P0b(A:Ann)(I:s04)(μ:A01)(m:Nat)(vs:List Value)(os:List (List (List Value)))(h:Hp):Prop:=match A.fuel with
 |false=>I vs os h/\μ vs os<m
 |true=>∃ m':Nat,I (.int .i64 m'::vs) os h/\m'<m
def atI(A:Ann)(I:s04)(μ:A01)(m:Nat)(vs:List Value)(os:List (List (List Value)))(h:Hp):Prop:=match A.fuel with
 |false=>I vs os h/\m=μ vs os
 |true=>I (.int .i64 m::vs) os h
theorem Y0a{A:Ann}{I:s04}{μ:A01}{vs:List Value}{os:List (List (List Value))}{h:Hp}(hh:e08 A I vs os h):∃ m,atI A I μ m vs os h:=by
 unfold e08 at hh
 unfold atI
 cases hf:A.fuel with
 |false=>rw[hf]at hh;exact⟨_,hh,rfl⟩
 |true=>rw[hf]at hh;exact hh
theorem Z0a{A:Ann}{I:s04}{μ:A01}{vs:List Value}{os:List (List (List Value))}{X:Nat->Hp->Prop}(hh:f08 A I μ vs os X){m:Nat}{h:Hp}(ha:atI A I μ m vs os h):X m h:=by
 unfold f08 at hh
 unfold atI at ha
 cases hf:A.fuel with
 |false=>rw[hf]at hh ha;rw[ha.2];exact hh _ ha.1
 |true=>rw[hf]at hh ha;exact hh _ _ ha
theorem Q0b{A:Ann}{I:s04}{μ:A01}{m:Nat}{vs:List Value}{os:List (List (List Value))}{h:Hp}(hh:P0b A I μ m vs os h):∃ m',atI A I μ m' vs os h/\m'<m:=by
 unfold P0b at hh
 unfold atI
 cases hf:A.fuel with
 |false=>rw[hf]at hh;exact⟨_,⟨hh.1,rfl⟩,hh.2⟩
 |true=>rw[hf]at hh;exact hh
def a0b(A:Ann)(dyn sta:List (Nat×AV))(st0:St)(I:s04)(μ:A01)(vs0:List Value)(m:Nat)(st:St)(h:Hp):Prop :=
 match Nat.beq st.n st0.n,X04 st0 st dyn with
 |true,true=>G06 st.fr sta=k0a sta/\q04 A st0 st 0 st0.bx st.bx/\r04 A 0 st0.ow st.ow /\
   f09 A st λvs os=>match O0b vs vs0 with
    |true=>S01 A.vars.length vs λ_ v2=>M00 A.boxes v2 st0.bx λ_=>N00 A.owns os st0.ow λ_=>P0b A I μ m vs os h
    |false=>False
 |_,_=>False
def H09(body:(Ex->St->Hp->Prop)->St->Hp->Prop)(ds0:List Nat)(Q:Ex->St->Hp->Prop)(st:St)(h:Hp):Prop :=
 ∃(A:Ann) (I:s04) (μ:A01),b08 A.nils st λst=>G05 A.nilsB st λst=>c08 A.pubs st h λst h=>f09 A st λvs0 os0=>e08 A I vs0 os0 h /\
  o04 ds0 λds=>T02 A st ds [] λdyn=>O00 A ds st st.fr λsta =>
   F03 vs0.length λvs=>G03 os0.length λos=>f08 A I μ vs os λm h' =>
    S01 A.vars.length vs λv1 v2=>M00 A.boxes v2 st.bx λbx=>N00 A.owns os st.ow λow =>
     body (λe st' h''=>match e with
      | .normal=>c08 A.pubs st' h'' λst' h''=>a0b A dyn sta st I μ vs m st' h''
      |e=>Q e st' h'') ⟨st.n,p04 A.vars v1 (dyn++sta),bx,ow⟩ h'
def b0b(b:Bool)(X Y:Prop):Prop:=(b=true->X)/\(b=false->Y)
def ev(P:Program):Code->(Ex->St->Hp->Prop)->St->Hp->Prop
 | .skip,Q,st,h=>Q .normal st h
 | .region _ ops false,Q,st,h=>match L0b P ops.toList with
  |true=>V8 st.n ops.toList=true/\evU P ops.toList 0 [] [] st h λst h=>Q .normal st h
  |false=>U04 P ops.toList 0 ⟨st,h,[],[]⟩ λrs=>Q .normal rs.st rs.h
 | .region _ ops true,Q,st,h=>((P.follows .mixedOrders=true/\Region.lexB .any ops=true) /\
   evQ P ops.toList 0 ⟨st,h,[],[]⟩ λrs=>Q .normal rs.st rs.h) ∨
   False ∨
   (match S0a ops.toList with
    |none=>(P.follows .mixedOrders=true/\P7 st.n ops.toList=true)/\F8 P st h ops.toList 0 [] [] [] λL X E=>evD (o5 L st ops.toList) ops.size P X E L st h λst h=>Q .normal st h
    |some o=>(P.follows .mixedOrders=true/\(P7 st.n (D6 ops.toList)&&V04 ops.toList 0)=true)/\F8 P st h (D6 ops.toList) 0 [] [] [] λL X E=>evD (o5 L st (D6 ops.toList)) (D6 ops.toList).length P X E L st h λst h=>a9 P o st h λst h=>Q .normal st h) ∨
   ((P.follows .mixedOrders=true/\V8 st.n ops.toList=true)/\evU P ops.toList 0 [] [] st h λst h=>Q .normal st h) ∨
   (∃ m,(P.follows .mixedOrders=true/\okZ P st.n m ops.toList=true)/\evT P (a9 P) m ops.toList st h λst h=>Q .normal st h)
 | .seq a b,Q,st,h=>ev P a (λe st h=>match e with
  | .normal=>ev P b Q st h
  |e=>Q e st h) st h
 | .cond c t e,Q,st,h=>match rdO st c with
  | .val (.bool b)=>b0b b (ev P t Q st h) (ev P e Q st h)
  |_=>False
 | .block id c,Q,st,h=>ev P c (λe st h=>match e with
  | .exit i=>match Nat.beq i id with
   |true=>Q .normal st h
   |false=>Q (.exit i) st h
  |e=>Q e st h) st h
 | .loop body,Q,st,h=>H09 (λQ=>ev P body Q) (v06 body []) Q st h
 | .exit id,Q,st,h=>Q (.exit id) st h
 | .ret,Q,st,h=>Q .ret st h
 |_,_,_,_=>False
def i09(P:Program):List ResultVar->St->Hp->(List Value->St->Hp->Prop)->Prop
 | [],st,h,K=>K [] st h
 | .tmp t::r,st,h,K=>rfy (rdA st (K1 st.fr t)) st h λv st h=>i09 P r st h λvs st h=>K (v::vs) st h
 | .cell t ty::r,st,h,K=>match rdA st (K1 st.fr t)with
  | .box i off=>match nth st.bx i with
   |some (.live cs _)=>i00 P ty cs off λav=>rfy av st h λv st h=>i09 P r st h λvs st h=>K (v::vs) st h
   |_=>False
  |_=>False
def g08:List Value->Value
 | [v]=>v
 |vs => .tuple vs.toArray
def H03:Nat->List Value->List (Nat×AV)
 |_,[]=>[]
 |i,v::r=>(i,.val v)::H03 (i+1) r
def A0c(P:Program)(fn:Func)(args:List Value)(h:Hp)(T:Value->Hp->Prop):Prop :=
 match fn.body with
 |some c=>match Nat.ble args.length fn.ntmps with
  |true=>ev P c (λe st h=>match e with
   | .exit _=>False
   |_=>i09 P fn.results.toList st h λvs _ h=>T (g08 vs) h) ⟨fn.ntmps,H03 0 args,[],[]⟩ h
  |false=>False
 |none=>False
end Go.H
