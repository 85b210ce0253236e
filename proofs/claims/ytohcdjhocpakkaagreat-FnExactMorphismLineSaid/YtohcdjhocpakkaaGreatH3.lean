/- Plain laws over the model: what a function's code asks: regions with guards, regions that draw their order, branches and loops. -/
import Derived.Test.YtohcdjhocpakkaaGreatH2
namespace Go.H
set_option linter.unusedVariables false
structure BE where
 j:Nat
 d:Nat
 e:Bool
 ch:List (Nat×Bool)
structure RS where
 st:St
 h:Hp
 gf:List (Nat×List (Nat×Bool)×AV)
 bs:List BE
def y0d:List (Nat×List (Nat×Bool)×AV)->Nat->Option (List (Nat×Bool)×AV)
 | [],_=>none
 |(k,x)::r,s=>match Nat.beq k s with
  |true=>some x
  |false=>y0d r s
def eqB(a b:Bool):Bool:=match a,b with
 |true,true=>true
 |false,false=>true
 |_,_=>false
def z0o:List (Nat×Bool)->List (Nat×Bool)->Bool
 | [],[]=>true
 |(j,w)::r,(a,c)::b=>match Nat.beq j a,eqB w c with
  |true,true=>z0o r b
  |_,_=>false
 |_,_=>false
def y0i(a:List (Nat×Bool)):List (Nat×Bool)->Bool
 | []=>z0o a []
 |x::r=>match z0o a (x::r)with
  |true=>true
  |false=>y0i a r
def rdG(rs:RS)(ch:List (Nat×Bool)):Operand->AV
 | .tmp t=>match y0d rs.gf t with
  |some (a,av)=>match y0i a ch with
   |true=>rdA rs.st av
   |false => .dead
  |none=>rdA rs.st (j3 rs.st.fr t)
 |x=>rdO rs.st x
def H02:List BE->Nat->Option BE
 | [],_=>none
 |b::r,j=>match Nat.beq b.j j with
  |true=>some b
  |false=>H02 r j
def W09:List BE->Nat->Option BE
 | [],_=>none
 |b::r,s=>match Nat.beq b.d s with
  |true=>some b
  |false=>W09 r s
def lit(w e:Bool):Bool:=match w with
 |true=>e
 |false => !e
def cB(bs:List BE):List (Nat×Bool)->Option Bool
 | []=>some true
 |(j,w)::r=>match H02 bs j with
  |some b=>match r with
   | []=>some (lit w b.e)
   |_=>match cB bs r with
    |some c=>some (lit w b.e&&c)
    |none=>none
  |none=>none
def W9(bs:List BE):Option (Nat×Bool)->Option (List (Nat×Bool))
 |none=>some []
 |some (j,w)=>match H02 bs j with
  |some b=>some ((j,w)::b.ch)
  |none=>none
def imp(ch:List (Nat×Bool))(c:Bool)(X:Prop):Prop:=match ch with
 | []=>X
 |_=>c=true->X
def z0i(rs:RS)(ch:List (Nat×Bool)):List Operand->Option (List (Nat×Value))
 | []=>some []
 | .tmp t::r=>match B04 (rdG rs ch (.tmp t))with
  |some v=>match z0i rs ch r with
   |some vs=>some ((t,v)::vs)
   |none=>none
  |none=>none
 | .global _::_=>none
 |_::r=>z0i rs ch r
def H0q(rs:RS)(ch:List (Nat×Bool)):List Operand->St->Hp->(List (Nat×Value)->St->Hp->Prop)->Prop
 | [],st,h,K=>K [] st h
 | .tmp t::r,st,h,K=>rfy (rdA st (rdG rs ch (.tmp t))) st h λv st h=>H0q rs ch r st h λvs st h=>K ((t,v)::vs) st h
 | .global _::_,_,_,_=>False
 |_::r,st,h,K=>H0q rs ch r st h K
def m0h(P:Program)(o:Oper)(ch:List (Nat×Bool))(c:Bool)(rs:RS)(K:AV->Prop):Prop :=
 match T09 o.op,z0i rs ch o.op.operands.toList with
 |false,some vs=>match q07 (rho vs) o with
  |some (f,l)=>match okF P f with
   |true=>∃ v,imp ch c (Tr P f l.toArray rs.h λb a=>b=v/\a=rs.h)/\K (.val v)
   |false=>False
  |none=>match evP P (N0f (rho vs) o)with
   |some (.value v)=>K (.val v)
   |_=>False
 |false,none=>∃ r,imp ch c (H0q rs ch o.op.operands.toList rs.st rs.h λvs _ hf=>match q07 (rho vs) o with
  |some (f,l)=>match okF P f with
   |true=>Tr P f l.toArray hf λv a=>v=r/\a=hf
   |false=>False
  |none=>False)/\K (.val r)
 |_,_=>False
def evG(P:Program)(o:Oper)(ch:List (Nat×Bool))(c:Bool)(rs:RS)(K:AV->Prop):Prop :=
 match o.op with
 | .move x | .assign x=>match rdG rs ch x with
  | .dead=>False
  |a=>K a
 | .pick (.tmp s) a b=>match rdG rs ch (.tmp s),W09 rs.bs s with
  | .val (.bool e),some q=>match y0i q.ch ch with
   |true=>match rdG rs ((q.j,true)::q.ch) a,rdG rs ((q.j,false)::q.ch) b with
    | .val (.bool x),.val (.bool d)=>K (.val (.bool (cond e x d)))
    |_,_=>False
   |false=>False
  |_,_=>False
 | .fieldAddr t x k=>match rdG rs ch x,j0h P t k with
  | .box i off,some g=>K (.box i (off+g))
  | .hel s i sz k,some g=>K (.hel s i sz (k+g))
  | .oel i s j sz k,some g=>K (.oel i s j sz (k+g))
  |_,_=>False
 | .indexAddr t x i=>match rdG rs ch i with
  | .val (.int _ j)=>match V00 P t with
   |some e=>match I5 P e with
    |some sz=>match rdG rs ch x with
     | .val (.slice a n f)=>imp ch c (InB (.slice a n f) j)/\K (.hel (.slice a n f) j sz 0)
     | .own i k=>match nth rs.st.ow i with
      |some ⟨_,.live _ p _ _ xs⟩=>match Nat.beq p sz with
       |true=>imp ch c (0<=j/\j<(xs.length:Int))/\K (.oel i k j sz 0)
       |false=>False
      |_=>False
     |_=>False
    |none=>False
   |none=>False
  |_=>False
 | .load t x=>match rdG rs ch x with
  | .box i off=>match nth rs.st.bx i with
   |some (.live cs _)=>z04 P t cs off K
   |_=>False
  | .hel s idx sz k=>∃ e,imp ch c (N4 rs.h s sz idx e)/\z04 P t (vals e) k K
  | .oel i _ idx sz k=>match nth rs.st.ow i with
   |some ⟨_,.live _ p _ _ xs⟩=>match Nat.beq p sz with
    |true=>∃ e,imp ch c (xs[idx.toNat]?=some e)/\z04 P t (vals e) k K
    |false=>False
   |_=>False
  |_=>False
 | .build t ps=>match P.underlying t,F00 P t with
  |some (.struct w),some z=>match R05 P w.toList with
   |true=>t07 P w (rdG rs ch) ps.toList (vals z.cells.toList) λcs=>K (.agg cs)
   |false=>False
  |_,_=>False
 | .index t x i=>match rdG rs ch x,rdG rs ch i,P.underlying t with
  | .val (.string s),.val (.int _ j),some .string=>∃ e,imp ch c (0<=j/\s[j.toNat]?=some e)/\K (.val (.int .u8 e.toNat))
  |_,_,_=>False
 | .slice t x lo hi none=>match rdG rs ch x,P.underlying t with
  | .val (.string s),some .string=>match g05 0 (lo.map (rdG rs ch)),g05 s.size (hi.map (rdG rs ch))with
   |some l,some m=>imp ch c (0<=l/\l<=m/\m<=(s.size:Int))/\K (.val (.string (s.extract l.toNat m.toNat)))
   |_,_=>False
  | .val (.slice y n f),_=>match V00 P t with
   |some e=>match I5 P e with
    |some sz=>match g05 0 (lo.map (rdG rs ch)),g05 n (hi.map (rdG rs ch))with
     |some l,some m=>∃ v,imp ch c ((0<=l/\l<=m/\m<=(n:Int)/\n<=f)/\H0k sz (.slice y n f) l.toNat m.toNat v)/\K (.val v)
     |_,_=>False
    |none=>False
   |none=>False
  |_,_=>False
 | .binOp .eql t x d yt=>match B04 (rdG rs ch x),B04 (rdG rs ch d)with
  |some (.agg xs),some (.agg u)=>∃ b,imp ch c (Z06 P o x d (.agg xs) (.agg u) b)/\K (.val (.bool b))
  |some (.slice a n m),some (.slice none 0 0)=>∃ b,imp ch c (Z06 P o x d (.slice a n m) (.slice none 0 0) b)/\K (.val (.bool b))
  |_,_=>m0h P o ch c rs K
 | .binOp .neq t x d yt=>match B04 (rdG rs ch x),B04 (rdG rs ch d)with
  |some (.agg xs),some (.agg u)=>∃ b,imp ch c (Z06 P o x d (.agg xs) (.agg u) b)/\K (.val (.bool b))
  |some (.slice a n m),some (.slice none 0 0)=>∃ b,imp ch c (Z06 P o x d (.slice a n m) (.slice none 0 0) b)/\K (.val (.bool b))
  |_,_=>m0h P o ch c rs K
 | .binOp .add t x d yt=>match rdG rs ch x,rdG rs ch d with
  | .val (.string a),.val (.string b)=>imp ch c (a.size+b.size<=9223372036854775807)/\K (.val (.string (a++b)))
  |_,_=>m0h P o ch c rs K
 | .binOp .quo t x d yt=>match rdG rs ch x,rdG rs ch d with
  | .val (.int .i64 a),.val (.int .i64 b)=>imp ch c (b≠0)/\K (.val (.int .i64 (IntKind.i64.wrap (a.tdiv b))))
  |_,_=>m0h P o ch c rs K
 | .binOp .rem t x d yt=>match rdG rs ch x,rdG rs ch d with
  | .val (.int .i64 a),.val (.int .i64 b)=>imp ch c (b≠0)/\K (.val (.int .i64 (a.tmod b)))
  |_,_=>m0h P o ch c rs K
 | .call { callee := .builtin .len,args:=as,argTypes:=A }=>match as.toList,A.toList with
  | [x],[t]=>match rdG rs ch x with
   | .own i _=>match nth rs.st.ow i,V00 P t with
    |some ⟨_,.live _ _ _ _ xs⟩,some _=>K (.val (.int .i64 xs.length))
    |_,_=>False
   |_=>m0h P o ch c rs K
  |_,_=>False
 |_=>m0h P o ch c rs K
def v07(rs:RS)(d:Nat):Bool:=match y0d rs.gf d,W09 rs.bs d with
 |none,none=>false
 |_,_=>true
def A0i(i d:Nat)(ch:List (Nat×Bool))(av:AV)(bs:List BE):List BE:=match av with
 | .val (.bool e)=>⟨i,d,e,ch⟩::bs
 |_=>bs
def z0d(d:Option Tmp)(i:Nat)(ch:List (Nat×Bool))(av:AV)(rs:RS)(K:RS->Prop):Prop :=
 match d with
 |none=>K rs
 |some d=>match Nat.blt d rs.st.n,v07 rs d with
  |true,false=>match ch with
   | []=>K { rs with st := { rs.st with fr:=(d,av)::rs.st.fr },bs:=A0i i d ch av rs.bs }
   |_=>K { rs with st := { rs.st with fr:=(d,.dead)::rs.st.fr },gf:=(d,ch,av)::rs.gf,bs:=A0i i d ch av rs.bs }
  |_,_=>False
def J0k:Op->Bool
 | .pick ..=>true
 |_=>false
def o0c(P:Program):List Oper->Nat->RS->(RS->Prop)->Prop
 | [],_,rs,K=>K rs
 |o::r,i,rs,K=>match o.guard,J0k o.op with
  |none,false=>R7 P o rs.st rs.h λav st h=>z0d o.dst i [] av { rs with st:=st,h:=h } λrs=>o0c P r (i+1) rs K
  |_,_=>match W9 rs.bs o.guard with
   |some ch=>match cB rs.bs ch with
    |some c=>evG P o ch c rs λav=>z0d o.dst i ch av rs λrs=>o0c P r (i+1) rs K
    |none=>False
   |none=>False
def evQ(P:Program):List Oper->Nat->RS->(RS->Prop)->Prop
 | [],_,rs,K=>K rs
 |o::r,i,rs,K=>match W9 rs.bs o.guard with
  |some ch=>match cB rs.bs ch with
   |some c=>evG P o ch c rs λav=>z0d o.dst i ch av rs λrs=>evQ P r (i+1) rs K
   |none=>False
  |none=>False
def Sub(h a:Hp):Prop:=∀ b o,h b=some o->a b=some o
def A0o(v:Value)(K:Value->Prop):Prop:=match v with
 | .bool b=>K (.bool b)
 | .int k n=>K (.int k n)
 | .string s=>K (.string s)
 | .pointer a=>K (.pointer a)
 | .slice a n c=>K (.slice a n c)
 | .func f x y=>K (.func f x y)
 | .agg cs=>K (.agg cs)
 | .tuple vs=>K (.tuple vs)
 |v=>K v
theorem j0n(v:Value)(K:Value->Prop):A0o v K=K v:=by cases v<;>rfl
def S7{a:Type}:List a->(List a->Prop)->Prop
 | [],K=>K []
 |x::r,K=>S7 r λr=>K (x::r)
theorem d02{a:Type}:∀(l:List a) (K:List a->Prop),S7 l K=K l
 | [],K=>rfl
 |x::r,K=>by simp only[S7,d02 r]
def C04:Nat->(Nat->Prop)->Prop
 |0,K=>K 0
 |n+1,K=>C04 n λm=>K (m+1)
theorem w07:∀(n:Nat) (K:Nat->Prop),C04 n K=K n
 |0,K=>rfl
 |n+1,K=>by simp only[C04,w07 n]
def X00(av:AV)(K:AV->Prop):Prop:=match av with
 | .val v=>A0o v λv=>K (.val v)
 | .own i k=>K (.own i k)
 | .box i k=>K (.box i k)
 | .hel s i z k=>C04 z λz=>C04 k λk=>K (.hel s i z k)
 | .oel j s i z k=>C04 z λz=>C04 k λk=>K (.oel j s i z k)
 | .agg cs=>S7 cs λcs=>K (.agg cs)
 | .dead=>K .dead
theorem I02(av:AV)(K:AV->Prop):X00 av K=K av:=by
 cases av with
 |val v=>exact j0n v (λv=>K (.val v))
 |hel s i z k=>simp only[X00,w07]
 |oel j s i z k=>simp only[X00,w07]
 |agg cs=>simp only[X00,d02]
 |_=>rfl
inductive V5 where
 |pu (av:AV)
 |ef (F:Value->Hp->Prop)
def L3:List (Nat×V5)->Nat->Option V5
 | [],_=>none
 |(k,x)::r,s=>match Nat.beq k s with
  |true=>some x
  |false=>L3 r s
def rdS(L:List (Nat×V5))(st:St):Operand->AV
 | .tmp t=>match L3 L t with
  |some (.pu av)=>rdA st av
  |some (.ef _) => .dead
  |none=>rdA st (j3 st.fr t)
 |x=>rdO st x
def A0d(P:Program)(t:TypeId)(cs:List A5)(off:Nat):Option AV :=
 match i0h P t with
 |some true=>match I5 P t with
  |some n=>match w06 ((cs.drop off).take n) n with
   |true=>some (.agg ((cs.drop off).take n))
   |false=>none
  |none=>none
 |some false=>match nth cs off with
  |some c=>some (ofCell c)
  |none=>none
 |none=>none
def K0k(P:Program)(L:List (Nat×V5))(o:Oper)(st:St):Option AV:=match o.op with
 | .move x | .assign x=>match rdS L st x with
  | .dead=>none
  |a=>some a
 | .load t x=>match rdS L st x with
  | .box i off=>match nth st.bx i with
   |some (.live cs _)=>A0d P t cs off
   |_=>none
  |_=>none
 |_=>none
def B0d(L:List (Nat×V5))(st:St)(h:Hp):List Operand->List (Nat×AV)->(List (Nat×AV)->Prop)->Prop
 | [],acc,K=>K acc
 | .tmp t::r,acc,K=>match L3 L t with
  |some (.pu av)=>B0d L st h r ((t,av)::acc) K
  |some (.ef F)=>∀ v,F v h->B0d L st h r ((t,.val v)::acc) K
  |none=>B0d L st h r ((t,j3 st.fr t)::acc) K
 |_::r,acc,K=>B0d L st h r acc K
def x06(d:Option Tmp)(f:V5)(L:List (Nat×V5)):List (Nat×V5):=match d with
 |some d=>(d,f)::L
 |none=>L
def a0t(st:St)(h:Hp)(F:Value->Hp->Prop):AV->St->Hp->Prop
 | .val v,st',a=>st'=st/\Sub h a/\F v a
 |_,_,_=>False
def O7(i:Nat)(o:Oper):Bool:=o.after.toList.any λe=>Region.binds .any e&&Nat.beq e.on i
def e02(o:Oper)(t:Nat):List Oper->Nat->Bool
 | [],_=>true
 |x::r,i=>match x.dst with
  |some d=>match Nat.beq d t with
   |true=>O7 i o&&e02 o t r (i+1)
   |false=>e02 o t r (i+1)
  |none=>e02 o t r (i+1)
def X09(o:Oper)(ops:List Oper):List Operand->Bool
 | []=>true
 | .tmp t::r=>e02 o t ops 0&&X09 o ops r
 |_::r=>X09 o ops r
def x07(d:Nat):List Oper->Bool
 | []=>true
 |o::r=>match o.dst with
  |some a => !Nat.beq d a&&x07 d r
  |none=>x07 d r
def B0i(n:Nat):List Oper->Bool
 | []=>true
 |o::r=>match o.dst with
  |some d=>Nat.blt d n&&x07 d r&&B0i n r
  |none=>B0i n r
def p0c:List Oper->Nat->Bool
 | [],_=>true
 |o::r,j=>(o.after.toList.all λe => !Region.binds .any e || Nat.blt e.on j)&&p0c r (j+1)
def O0l(ops:List Oper):List Oper->Bool
 | []=>true
 |o::r=>X09 o ops o.op.operands.toList&&O0l ops r
def A02(n:Nat)(ops:List Oper):Bool:=B0i n ops&&p0c ops 0&&O0l ops ops
def P0l:List A5->Bool
 | []=>true
 | .val _::r=>P0l r
 | .own _ _::_=>false
def n0h:AV->Bool
 | .val _=>true
 | .box _ _=>true
 | .own _ _=>true
 | .agg cs=>P0l cs
 |_=>false
def F05(L:List (Nat×V5))(st:St):Operand->AV
 | .tmp t=>match L3 L t with
  |some (.pu av)=>av
  |some (.ef _) => .dead
  |none=>j3 st.fr t
 | .const v => .val v
 |_ => .dead
def q0c(L:List (Nat×V5))(st:St):List Operand->Option (List (Nat×Value))
 | []=>some []
 | .tmp t::r=>match F05 L st (.tmp t)with
  | .val v=>match q0c L st r with
   |some vs=>some ((t,v)::vs)
   |none=>none
  |_=>none
 | .global _::_=>none
 |_::r=>q0c L st r
def L0k(P:Program)(L:List (Nat×V5))(o:Oper)(st:St):Option AV:=match T09 o.op,q0c L st o.op.operands.toList with
 |false,some vs=>match q07 (rho vs) o with
  |some _=>none
  |none=>match evP P (N0f (rho vs) o)with
   |some (.value v)=>some (.val v)
   |_=>none
 |_,_=>none
def b0t:AV->Bool
 | .val (.int _ _)=>true
 |_=>false
def x0t:BinOp->Bool
 | .lss=>true
 | .leq=>true
 | .gtr=>true
 | .geq=>true
 | .eql=>true
 | .neq=>true
 | .add=>true
 | .sub=>true
 | .mul=>true
 |_=>false
def O08(P:Program)(L:List (Nat×V5))(o:Oper)(st:St):Option AV:=match o.op with
 | .move x=>match n0h (F05 L st x)with
  |true=>some (F05 L st x)
  |false=>none
 | .assign x=>match n0h (F05 L st x)with
  |true=>some (F05 L st x)
  |false=>none
 | .load t x=>match F05 L st x with
  | .box i off=>match nth st.bx i with
   |some (.live cs _)=>match A0d P t cs off with
    |some av=>match n0h av with
     |true=>some av
     |false=>none
    |none=>none
   |_=>none
  |_=>none
 | .fieldAddr t x k=>match F05 L st x,j0h P t k with
  | .box i off,some a=>some (.box i (off+a))
  |_,_=>none
 | .binOp op _ x y _=>match x0t op,b0t (F05 L st x),b0t (F05 L st y)with
  |true,true,true=>L0k P L o st
  |_,_,_=>none
 | .call { callee := .builtin .len,args:=as,argTypes:=_ }=>match as.toList with
  | [x]=>match F05 L st x with
   | .val (.slice _ _ _)=>L0k P L o st
   |_=>none
  |_=>none
 |_=>none
def o9(L:List (Nat×V5))(st:St):List Oper->List Nat
 | []=>[]
 |o::r=>match o.op with
  | .load _ x=>match F05 L st x with
   | .box i _=>i::o9 L st r
   |_=>o9 L st r
  |_=>o9 L st r
def P08(bx:List BSt):List Nat->List (Option BSt)
 | []=>[]
 |i::r=>nth bx i::P08 bx r
def b04(L:List (Nat×V5))(a:List (Nat×AV)):List Operand->List (Nat×AV)->(List (Nat×AV)->Prop)->Prop
 | [],acc,K=>K acc
 | .tmp t::r,acc,K=>match L3 L t with
  |some (.pu av)=>b04 L a r ((t,av)::acc) K
  |some (.ef _)=>b04 L a r ((t,.dead)::acc) K
  |none=>b04 L a r ((t,j3 a t)::acc) K
 |_::r,acc,K=>b04 L a r acc K
def C0i:List (Nat×V5)->List (Nat×AV)->List (Nat×AV)
 | [],fr=>fr
 |(d,.pu av)::r,fr=>(d,av)::C0i r fr
 |(d,.ef _)::r,fr=>(d,.dead)::C0i r fr
def Q0l(av:AV)(st:St)(h:Hp):AV->St->Hp->Prop:=λa st' b=>a=av/\st'=st/\b=h
def D0i(P:Program)(st:St)(h:Hp)(L:List (Nat×V5))(o:Oper)(av:AV):Prop :=
 match st with
 |⟨n,fr,bx,ow⟩=>∀ a,Sub h a->b04 L fr o.op.operands.toList [] λfr=>R7 P o ⟨n,fr,bx,ow⟩ a (Q0l av ⟨n,fr,bx,ow⟩ a)
def q03(P:Program)(st:St)(h:Hp):List Oper->Nat->List (Nat×V5)->List (Nat×Oper)->List (Nat×Oper)->(List (Nat×V5)->List (Nat×Oper)->List (Nat×Oper)->Prop)->Prop
 | [],_,L,X,E,K=>K L X E
 |o::r,i,L,X,E,K=>match o.guard with
  |some _=>False
  |none=>match O08 P L o st with
   |some av=>X00 av λav=>q03 P st h r (i+1) (x06 o.dst (.pu av) L) X E K
   |none=>(∃ av,D0i P st h L o av/\X00 av λav=>q03 P st h r (i+1) (x06 o.dst (.pu av) L) (X ++ [(i,o)]) E K) ∨
     q03 P st h r (i+1) (x06 o.dst (.ef λ_ _=>True) L) X (E ++ [(i,o)]) K
def o0h(X:List (Nat×Oper)):Nat->Nat->Oper->Bool
 |0,i,q=>O7 i q
 |n+1,i,q=>O7 i q || X.any λy=>O7 y.1 q&&o0h X n i y.2
def C0d(X Y:List (Nat×Oper)):List (Nat×Oper)->Bool
 | []=>true
 |(_,q)::_=>X.all λx=>o0h Y 8 x.1 q
def D04:List (Nat×Oper)->Bool
 |(i,o)::(j,a)::r=>O7 i a&&D04 ((j,a)::r)
 |_=>true
def y07:Nat->Nat->Oper->Bool
 |0,_,_=>true
 |k+1,i,o=>(Nat.beq k i || O7 k o)&&y07 k i o
def z07(d:Nat):List Operand->Bool
 | []=>false
 | .tmp t::r=>Nat.beq t d || z07 d r
 |_::r=>z07 d r
def D0d(d:Nat):List Oper->Bool
 | []=>false
 |o::r=>z07 d o.op.operands.toList || D0d d r
def W00:List Oper->List Oper
 | []=>[]
 |o::r=>match r with
  | []=>[]
  |_::_=>o::W00 r
def E0d:List Oper->Option Oper
 | []=>none
 |o::r=>match r with
  | []=>some o
  |_::_=>E0d r
def B0o(ops:List Oper):Option Oper:=match E0d ops with
 |some o=>match o.guard,o.dst with
  |none,some d=>match D0d d (W00 ops)&&y07 (W00 ops).length (W00 ops).length o with
   |true=>some o
   |false=>none
  |_,_=>none
 |none=>none
def H03(P:Program)(o:Oper)(st:St)(h:Hp)(K:St->Hp->Prop):Prop :=
 R7 P o st h λav st h=>z0d o.dst 0 [] av ⟨st,h,[],[]⟩ λrs=>K rs.st rs.h
def inK(k:Nat):List Nat->Bool
 | []=>false
 |x::r=>Nat.beq k x || inK k r
def A07(es:List Nat):Nat->Nat->Oper->Bool
 |0,_,_=>true
 |k+1,i,o=>((Nat.beq k i || O7 k o) || inK k es)&&A07 es k i o
def E08:List (Nat×Oper)->List Nat
 | []=>[]
 |x::r=>x.1::E08 r
def Y09(N:Nat×List Nat)(i:Nat)(o:Oper):Bool:=A07 N.2 N.1 i o
def O0f(c:Nat)(b:Bool)(rd:List Nat)(bx a:List BSt):Prop:=match b with
 |true=>True
 |false=>match c with
  |0=>P08 a rd=P08 bx rd
  |_+1=>a=bx
def m0b:Nat->List Own->List Own->Hp->Hp->Prop
 |0,_,_,_,_=>True
 |_+1,ow,b,h,a=>b=ow/\Sub h a
def evC(rd:List Nat)(d:Nat×List Nat)(P:Program):Nat->List (Nat×Oper)->List (Nat×V5)->St->Hp->(St->Hp->Prop)->Prop
 |_,[],L,⟨n,fr,bx,ow⟩,h,K=>S7 (C0i L fr) λfr=>K ⟨n,fr,bx,ow⟩ h
 |c,(i,o)::r,L,⟨n,fr,bx,ow⟩,h,K=>b04 L fr o.op.operands.toList [] λg=>R7 P o ⟨n,g,bx,ow⟩ h λav st' f=>match st' with
  |⟨_,_,a,b⟩=>m0b c ow b h f/\O0f c (Y09 d i o) rd bx a/\X00 av λav=>S7 a λa=>S7 b λb=>evC rd d P (c-1) r (x06 o.dst (.pu av) L) ⟨n,fr,a,b⟩ f K
def I0q(f:Nat×Oper)(rd:List Nat)(a:Nat×List Nat)(P:Program):Nat->List (Nat×Oper)->List (Nat×V5)->St->Hp->(St->Hp->Prop)->Prop
 |0,E,L,st,h,K=>evC rd a P 0 (f::E) L st h K
 |p+1,E,L,st,h,K=>evC rd a P 0 (f::E) L st h K/\match E with
  | []=>False
  |(i,o)::r=>match st with
   |⟨n,fr,bx,ow⟩=>b04 L fr o.op.operands.toList [] λg=>R7 P o ⟨n,g,bx,ow⟩ h λav st' d=>match st' with
    |⟨_,_,b,c⟩=>m0b 0 ow c h d/\O0f 0 (Y09 a i o) rd bx b/\X00 av λav=>S7 b λb=>S7 c λc=>I0q f rd a P p r (x06 o.dst (.pu av) L) ⟨n,fr,b,c⟩ d K
def k0n(f:Nat×Oper):Nat->List (Nat×Oper)->Bool
 |_,[]=>false
 |0,(_,q)::_=>O7 f.1 q
 |p+1,_::r=>k0n f p r
def P0f:Nat->List (Nat×Oper)->Option ((Nat×Oper)×List (Nat×Oper))
 |_,[]=>none
 |0,x::r=>some (x,r)
 |k+1,x::r=>match P0f k r with
  |some (f,a)=>some (f,x::a)
  |none=>none
def noX:List (Nat×Oper)->Bool
 | []=>true
 |_::_=>false
def n0b:List (Nat×Oper)->List (Nat×Oper)->List ((Nat×Oper)×List (Nat×Oper))
 |_,[]=>[]
 |A,x::B=>(x,A++B)::n0b (A ++ [x]) B
def p0h(x:Nat×Oper):List (Nat×Oper)->Bool
 | []=>true
 |y::r => !O7 y.1 x.2&&p0h x r
def M0k(f:(Nat×Oper)->List (Nat×Oper)->Prop):List ((Nat×Oper)×List (Nat×Oper))->Prop
 | []=>True
 |p::l=>match p0h p.1 p.2 with
  |true=>f p.1 p.2/\M0k f l
  |false=>M0k f l
def E0i(rd:List Nat)(c:Nat×List Nat)(P:Program):Nat->List (Nat×Oper)->List (Nat×V5)->St->Hp->(St->Hp->Prop)->Prop
 |0,_,L,⟨n,fr,bx,ow⟩,h,K=>S7 (C0i L fr) λfr=>K ⟨n,fr,bx,ow⟩ h
 |m+1,E,L,⟨n,fr,bx,ow⟩,h,K=>M0k (λx r=>b04 L fr x.2.op.operands.toList [] λf=>R7 P x.2 ⟨n,f,bx,ow⟩ h λav st' d=>match st' with
  |⟨_,_,a,b⟩=>m0b 0 ow b h d/\O0f 0 (Y09 c x.1 x.2) rd bx a/\X00 av λav=>S7 a λa=>S7 b λb=>E0i rd c P m r (x06 x.2.dst (.pu av) L) ⟨n,fr,a,b⟩ d K) (n0b [] E)
def x0f:List (Nat×Oper)->Nat
 | []=>0
 |_::r=>x0f r+1
def evD(rd:List Nat)(N:Nat)(P:Program)(X E:List (Nat×Oper))(L:List (Nat×V5))(st:St)(h:Hp)(K:St->Hp->Prop):Prop :=
 (∃ c,(D04 E=true/\C0d X (X++E) (E.drop c)=true)/\evC rd (N,E08 E) P c E L st h K) ∨
 (∃ k p,match P0f k E with
  |some (f,E')=>(noX X=true/\D04 E'=true/\k0n f p E'=true)/\I0q f rd (N,E08 E) P p E' L st h K
  |none=>noX X=true/\E0i rd (N,E08 E) P (x0f E) E L st h K)
abbrev FL:=List (Nat×List (Nat×Bool)×V5)
def j03:FL->Nat->Option (List (Nat×Bool)×V5)
 | [],_=>none
 |(k,x)::r,s=>match Nat.beq k s with
  |true=>some x
  |false=>j03 r s
def rdU(L:FL)(st:St)(ch:List (Nat×Bool)):Operand->AV
 | .tmp t=>match j03 L t with
  |some (a,.pu av)=>match y0i a ch with
   |true=>rdA st av
   |false => .dead
  |some (_,.ef _) => .dead
  |none=>rdA st (j3 st.fr t)
 |x=>rdO st x
def Q08(P:Program)(L:FL)(bs:List BE)(ch:List (Nat×Bool))(o:Oper)(st:St):Option AV:=match o.op with
 | .move x | .assign x=>match rdU L st ch x with
  | .dead=>none
  |a=>some a
 | .load t x=>match rdU L st ch x with
  | .box i off=>match nth st.bx i with
   |some (.live cs _)=>A0d P t cs off
   |_=>none
  |_=>none
 | .fieldAddr t x k=>match rdU L st ch x,j0h P t k with
  | .box i off,some c=>some (.box i (off+c))
  | .hel s i sz k,some c=>some (.hel s i sz (k+c))
  |_,_=>none
 | .pick (.tmp s) a b=>match rdU L st ch (.tmp s),W09 bs s with
  | .val (.bool e),some q=>match y0i q.ch ch with
   |true=>match rdU L st ((q.j,true)::q.ch) a,rdU L st ((q.j,false)::q.ch) b with
    | .val (.bool x),.val (.bool d)=>some (.val (.bool (cond e x d)))
    |_,_=>none
   |false=>none
  |_,_=>none
 |_=>none
def a07(L:FL)(st:St)(h:Hp)(ch:List (Nat×Bool)):List Operand->List (Nat×AV)->(List (Nat×AV)->Prop)->Prop
 | [],acc,K=>K acc
 | .tmp t::r,acc,K=>match j03 L t with
  |some (a,f)=>match y0i a ch with
   |true=>match f with
    | .pu av=>a07 L st h ch r ((t,av)::acc) K
    | .ef F=>∀ v,F v h->a07 L st h ch r ((t,.val v)::acc) K
   |false=>False
  |none=>a07 L st h ch r ((t,j3 st.fr t)::acc) K
 |_::r,acc,K=>a07 L st h ch r acc K
def y0f(h:Hp):FL->List (Nat×AV)->(List (Nat×AV)->Prop)->Prop
 | [],fr,K=>K fr
 |(d,[],.pu av)::r,fr,K=>y0f h r ((d,av)::fr) K
 |(d,[],.ef F)::r,fr,K=>∀ v,F v h->y0f h r ((d,.val v)::fr) K
 |(d,_::_,_)::r,fr,K=>y0f h r ((d,.dead)::fr) K
def q0h(d:Option Tmp)(ch:List (Nat×Bool))(f:V5)(L:FL):FL:=match d with
 |some d=>(d,ch,f)::L
 |none=>L
def r0h(i:Nat)(d:Option Tmp)(ch:List (Nat×Bool))(av:AV)(bs:List BE):List BE:=match d with
 |some d=>match av with
  | .val (.bool e)=>⟨i,d,e,ch⟩::bs
  |_=>bs
 |none=>bs
def N0k(st st':St):Prop:=st'.n=st.n/\st'.fr=st.fr/\st'.bx=st.bx/\∃ t,st'.ow=st.ow++t
def C0o(st:St)(h:Hp)(F:Value->Hp->Prop):AV->St->Hp->Prop:=λav st' b=>rfy av st' b λv c a=>N0k st c/\Sub h a/\F v a
def D0o(P:Program)(t n:Nat)(st:St)(h:Hp)(K:AV->St->Hp->Prop):Prop :=
 match V00 P t with
 |some e=>match I5 P e,Nat.beq n 0 with
  |some (_+1),true=>∀ g,h g=none->K (.val (.slice (some ⟨g,0,none⟩) 0 0)) st (h.set g (.cells #[] e (0,0)))
  |_,_=>False
 |none=>False
def E0o(P:Program)(t:TypeId)(a b:Operand)(st:St)(h:Hp)(K:AV->St->Hp->Prop):Prop :=
 match V00 P t with
 |some e=>match I5 P e,j09 P e,F00 P e with
  |some (sz+1),some (by_+1),some z=>match w06 z.cells.toList (sz+1)with
   |true=>match rdO st a with
    | .val (.slice (some ⟨g,o,none⟩) 0 0)=>w0d st h (sz+1) (rdO st b) λc=>u07 c.length (by_+1) /\
      ((c = []->K (.val (.slice (some ⟨g,o,none⟩) 0 0)) st h)/\∀ v d,V0 h d v e (sz+1) true c->K (.val v) st d)
    |_=>False
   |false=>False
  |_,_,_=>False
 |none=>False
def F0i(P:Program)(o:Oper)(st:St)(h:Hp)(K:AV->St->Hp->Prop):Prop :=
 match o.op with
 | .buildSlice t n ps=>match ps.toList with
  | []=>D0o P t n st h K
  |_::_=>R7 P o st h K
 | .call { callee := .builtin .append,args:=as,argTypes:=d }=>match as.toList,d.toList with
  | [a,b],[t,c]=>match Nat.beq t c with
   |true=>E0o P t a b st h K
   |false=>False
  |_,_=>False
 |_=>R7 P o st h K
def evU(P:Program)(l:List Oper):Nat->FL->List BE->St->Hp->(St->Hp->Prop)->Prop :=
  List.rec (motive:=λ_=>Nat->FL->List BE->St->Hp->(St->Hp->Prop)->Prop)
    (λ_ L _ st h K=>match st with
      |⟨n,fr,bx,ow⟩=>∀ a,Sub h a->y0f a L fr λfr=>K ⟨n,fr,bx,ow⟩ a)
    (λo _ b i L bs st h K=>match st with
      |⟨n,fr,bx,ow⟩=>match W9 bs o.guard with
        |some ch=>match cB bs ch with
          |some c=>match Q08 P L bs ch o ⟨n,fr,bx,ow⟩with
            |some av=>X00 av λav=>b (i+1) (q0h o.dst ch (.pu av) L) (r0h i o.dst ch av bs) ⟨n,fr,bx,ow⟩ h K
            |none=>(∃ av,(∀ a,Sub h a->imp ch c (a07 L ⟨n,fr,bx,ow⟩ a ch o.op.operands.toList [] λfr=>R7 P o ⟨n,fr,bx,ow⟩ a (Q0l av ⟨n,fr,bx,ow⟩ a))) /\
                  X00 av λav=>b (i+1) (q0h o.dst ch (.pu av) L) (r0h i o.dst ch av bs) ⟨n,fr,bx,ow⟩ h K) ∨
                (∃ F:Value->Hp->Prop,(∀ v d f,Sub d f->F v d->F v f) /\
                  (∀ a,Sub h a->imp ch c (a07 L ⟨n,fr,bx,ow⟩ a ch o.op.operands.toList [] λfr=>F0i P o ⟨n,fr,bx,ow⟩ a (C0o ⟨n,fr,bx,ow⟩ a F))) /\
                  b (i+1) (q0h o.dst ch (.ef F) L) bs ⟨n,fr,bx,ow⟩ h K)
          |none=>False
        |none=>False) l
def l0d:List Oper->Bool
 | []=>true
 |o::r=>(match o.guard with
  |some (j,_)=>O7 j o
  |none=>true)&&l0d r
def C03(n:Nat)(ops:List Oper):Bool:=A02 n ops&&l0d ops
def J0q(P:Program):List Oper->Bool
 | []=>false
 |o::r=>(match o.guard,o.op with
  |some _,.call { callee := .value _,args:=_,argTypes:=_ }=>match P.underlying o.type with
   |some (.slice _)=>true
   |some (.struct _)=>true
   |some (.tuple _)=>true
   |_=>false
  |_,_=>false) || J0q P r
def E04(o:Oper):Bool:=match o.op with
 | .alloc _=>true
 |_=>false
def m00(o:Oper):Oper:=match o.op with
 | .alloc _ => { o with op := .move (.const undef) }
 |_=>o
def J5:List Oper->List Oper
 | []=>[]
 |o::r=>m00 o::J5 r
def okA(P:Program)(all:List Oper):List Oper->Bool
 | []=>true
 |o::r=>(match o.op with
  | .alloc t=>(match o.guard,o.dst,F00 P t with
   |none,some d,some _ => !D0d d all
   |_,_,_=>false)
  |_=>true)&&okA P all r
def O0k(x:Nat):List Nat->Bool
 | []=>false
 |y::r=>Nat.beq x y || O0k x r
def K0q(ops:List Oper)(i:Nat):List Nat->Bool
 | []=>false
 |j::r=>(match nth ops j with
  |some o=>O7 i o
  |none=>false) || K0q ops i r
def Q0f(ops:List Oper):Nat->List Nat->List Nat
 |0,acc=>acc
 |i+1,acc=>match K0q ops i acc with
  |true=>Q0f ops i (i::acc)
  |false=>Q0f ops i acc
def o0b:Operand->List Nat
 | .tmp t=>[t]
 |_=>[]
def R08(o:Oper):Option (List Nat):=match o.guard with
 |some _=>none
 |none=>match o.op with
  | .extract x _=>some (o0b x)
  | .move x=>some (o0b x)
  | .assign x=>some (o0b x)
  | .pick c x y=>some (o0b c++(o0b x++o0b y))
  |_=>none
def S08(d:Nat):List Oper->Bool
 | []=>false
 |o::r=>(match o.dst with
  |some e=>Nat.beq e d
  |none=>false) || S08 d r
def F04(a:List Nat)(t:Nat):List Oper->Nat->Bool
 | [],_=>true
 |o::r,i=>(match o.dst with
  |some e => !Nat.beq e t || O0k i a
  |none=>true)&&F04 a t r (i+1)
def S05(i d:Nat):List Oper->Bool
 | []=>true
 |o::r=>(!z07 d o.op.operands.toList || O7 i o)&&S05 i d r
def R0l(b c:List Oper)(a:List Nat):List Nat->Bool
 | []=>true
 |t::r=>(!S08 t c&&F04 a t b 0)&&R0l b c a r
def S0l(c a:List Oper)(b:List Nat)(i:Nat)(o:Oper):Bool:=match R08 o,o.dst with
 |some f,some d => !S08 d a&&R0l c a b f&&S05 i d a
 |_,_=>false
def m0d(b c:List Oper)(a:List Nat):List Oper->Nat->Bool
 | [],_=>true
 |o::r,i=>(O0k i a || S0l b c a i o)&&m0d b c a r (i+1)
def G0i:List Oper->Bool
 | []=>true
 |o::r => !T09 o.op&&G0i r
def F0o:Nat->List Oper->Bool
 |_,[]=>true
 |k,o::r=>(match o.guard with
  |none=>true
  |some _=>false)&&(match r with
  | []=>true
  |o'::_=>O7 k o')&&F0o (k+1) r
def c0t:List Oper->Bool
 | []=>true
 |_::_=>false
def okZ(P:Program)(n m:Nat)(ops:List Oper):Bool :=
 C03 n (J5 (ops.take m))&&okA P (ops.take m) (ops.take m)&&p0c ops 0&&F0o m (ops.drop m)&&(c0t (ops.drop m) || (m0d (ops.take m) (ops.drop m) (Q0f ops m [m]) (ops.take m) 0&&G0i (ops.drop m)))
abbrev f0s:=Oper->St->Hp->(St->Hp->Prop)->Prop
def doA(R:f0s)(l:List Oper):St->Hp->(St->Hp->Prop)->Prop :=
 List.rec (motive:=λ_=>St->Hp->(St->Hp->Prop)->Prop) (λst h K=>K st h) (λo _ a st h K=>match E04 o with
  |true=>R o st h λst h=>a st h K
  |false=>a st h K) l
def doT(R:f0s)(l:List Oper):St->Hp->(St->Hp->Prop)->Prop :=
 List.rec (motive:=λ_=>St->Hp->(St->Hp->Prop)->Prop) (λst h K=>K st h) (λo _ a st h K=>R o st h λst h=>a st h K) l
def evT(P:Program)(R:f0s)(m:Nat)(ops:List Oper)(st:St)(h:Hp)(K:St->Hp->Prop):Prop :=
 evU P (J5 (ops.take m)) 0 [] [] st h λst h=>doA R (ops.take m) st h λst h=>doT R (ops.drop m) st h K
inductive Ex where
 |normal|ret
 |exit (i:Nat)
structure Ann where
 vars:List Nat
 boxes:List Nat
 owns:List Nat
 nils:List (Nat×Nat×Nat×Nat):=[]
 nilsB:List (Nat×Nat×Nat×Nat×Nat):=[]
 kept:List Nat:=[]
 fuel:Bool:=false
 pubs:List Nat:=[]
def H0i:List (Nat×Nat×Nat×Nat)->St->(St->Prop)->Prop
 | [],st,K=>K st
 |(s,e,sz,by_)::r,⟨n,fr,bx,ow⟩,K=>match rdA ⟨n,fr,bx,ow⟩ (j3 fr s),Nat.blt s n with
  | .val (.slice none 0 0),true=>F0k ow λk=>H0i r ⟨n,(s,.own k 0)::fr,bx,ow ++ [⟨0,.live e sz by_ false []⟩]⟩ K
  |_,_=>False
def F0d:List (Nat×Nat×Nat×Nat×Nat)->St->(St->Prop)->Prop
 | [],st,K=>K st
 |(i,k,e,sz,by_)::r,⟨n,fr,bx,ow⟩,K=>match nth bx i with
  |some (.live cs ty)=>match nth cs k with
   |some (.val (.slice none 0 0))=>F0k ow λj=>F0d r ⟨n,fr,w00 bx i (.live (w00 cs k (.own j 0)) ty),ow ++ [⟨0,.live e sz by_ false []⟩]⟩ K
   |_=>False
  |_=>False
def I0i:List Nat->St->Hp->(St->Hp->Prop)->Prop
 | [],st,h,K=>K st h
 |s::r,st,h,K=>rfy (rdA st (j3 st.fr s)) st h λv st h=>match st with
  |⟨n,fr,bx,ow⟩=>match Nat.blt s n with
   |true=>I0i r ⟨n,(s,.val v)::fr,bx,ow⟩ h K
   |false=>False
def F08(x:Nat):List Nat->Bool
 | []=>false
 |y::r=>match Nat.beq x y with
  |true=>true
  |false=>F08 x r
def g0s:List Oper->List Nat->List Nat
 | [],acc=>acc
 |o::r,acc=>match o.dst with
  |some d=>g0s r (d::acc)
  |none=>g0s r acc
def z0f:Code->List Nat->List Nat
 | .region _ ops _,acc=>g0s ops.toList acc
 | .seq a b,acc=>z0f a (z0f b acc)
 | .cond _ a b,acc=>z0f a (z0f b acc)
 | .block _ a,acc=>z0f a acc
 | .loop a,acc=>z0f a acc
 | .scope a,acc=>z0f a acc
 |_,acc=>acc
def p0b:List Nat->(List Nat->Prop)->Prop
 | [],K=>K []
 |x::r,K=>p0b r λr=>K (x::r)
def L0q:List Nat->St->(List Value->Prop)->Prop
 | [],_,K=>K []
 |s::r,st,K=>match rdA st (j3 st.fr s)with
  | .val v=>L0q r st λvs=>K (v::vs)
  |_=>False
def J0i:List A5->St->(List Value->Prop)->Prop
 | [],_,K=>K []
 | .val v::r,st,K=>J0i r st λvs=>K (v::vs)
 | .own _ _::r,st,K=>J0i r st K
def G0d:List Nat->St->(List Value->Prop)->Prop
 | [],_,K=>K []
 |i::r,st,K=>match nth st.bx i with
  |some (.live cs _)=>J0i cs st λvs=>G0d r st λa=>K (vs++a)
  |_=>False
def R0f:List Nat->St->(List (List (List Value))->Prop)->Prop
 | [],_,K=>K []
 |i::r,st,K=>match nth st.ow i with
  |some ⟨_,.live _ _ _ _ xs⟩=>R0f r st λos=>K (xs::os)
  |_=>False
def P0k(A:Ann)(st:St)(K:List Value->List (List (List Value))->Prop):Prop :=
 L0q A.vars st λvs=>G0d A.boxes st λa=>R0f A.owns st λos=>K (vs++a) os
def D03:List A5->List Value->(List A5->List Value->Prop)->Prop
 | [],vs,K=>K [] vs
 | .val _::r,v::vs,K=>D03 r vs λcs a=>K (.val v::cs) a
 | .val _::_,[],_=>False
 | .own i k::r,vs,K=>D03 r vs λcs a=>K (.own i k::cs) a
def T05:List Nat->List Value->List BSt->(List BSt->Prop)->Prop
 | [],_,bx,K=>K bx
 |i::r,vs,bx,K=>match nth bx i with
  |some (.live cs ty)=>D03 cs vs λcs a=>T05 r a (w00 bx i (.live cs ty)) K
  |_=>False
def U05:List Nat->List (List (List Value))->List Own->(List Own->Prop)->Prop
 | [],_,ow,K=>K ow
 |i::r,xs::os,ow,K=>match nth ow i with
  |some ⟨s,.live e sz by_ nn _⟩=>U05 r os (w00 ow i ⟨s,.live e sz by_ nn xs⟩) K
  |_=>False
 |_::_,[],_,_=>False
def B07{c:Type}:Nat->List c->(List c->List c->Prop)->Prop
 |0,l,K=>K [] l
 |n+1,x::l,K=>B07 n l λa b=>K (x::a) b
 |_+1,[],_=>False
def headD(A:Ann)(st:St):List Nat->List (Nat×AV)->(List (Nat×AV)->Prop)->Prop
 | [],acc,K=>K acc
 |s::r,acc,K=>match F08 s A.vars with
  |true=>headD A st r acc K
  |false=>match rdA st (j3 st.fr s)with
   | .own i k=>headD A st r ((s,.own i k)::acc) K
   | .box i o=>headD A st r ((s,.box i o)::acc) K
   |_=>headD A st r ((s,.dead)::acc) K
def T0l:List A5->Bool
 | []=>true
 | .val _::r=>T0l r
 | .own _ _::_=>false
def V05(A:Ann)(ds:List Nat)(st:St):List (Nat×AV)->(List (Nat×AV)->Prop)->Prop
 | [],K=>K []
 |(s,av)::r,K=>match F08 s ds with
  |true=>V05 A ds st r K
  |false=>match rdA st av with
   | .own i k=>match F08 i A.owns,F08 i A.kept with
    |true,false=>V05 A (s::ds) st r λl=>K ((s,.dead)::l)
    |_,_=>V05 A (s::ds) st r λl=>K ((s,.own i k)::l)
   | .oel _ _ _ _ _=>V05 A (s::ds) st r λl=>K ((s,.dead)::l)
   | .agg cs=>match T0l cs with
    |true=>V05 A (s::ds) st r λl=>K ((s,.agg cs)::l)
    |false=>V05 A (s::ds) st r λl=>K ((s,.dead)::l)
   |a=>V05 A (s::ds) st r λl=>K ((s,a)::l)
def q0b:List Nat->List Value->List (Nat×AV)->List (Nat×AV)
 |s::r,v::vs,acc=>q0b r vs ((s,.val v)::acc)
 |_,_,acc=>acc
def r0c(b a:St):List (Nat×AV)->Bool
 | []=>true
 |(s,av)::r=>match av with
  | .own i _=>match rdA a (j3 a.fr s)with
   | .own j _=>match Nat.beq i j with
    |true=>r0c b a r
    |false=>false
   |_=>false
  | .box i o=>match rdA a (j3 a.fr s)with
   | .box j p=>match Nat.beq i j,Nat.beq o p with
    |true,true=>r0c b a r
    |_,_=>false
   |_=>false
  |_=>r0c b a r
def Q0k:AV->Bool
 | .dead=>true
 |_=>false
def l0n:List (Nat×AV)->List AV
 | []=>[]
 |(_,av)::r=>match Q0k av with
  |true=>l0n r
  |false=>av::l0n r
def S0f(fr:List (Nat×AV)):List (Nat×AV)->List AV
 | []=>[]
 |(s,av)::r=>match Q0k av with
  |true=>S0f fr r
  |false=>j3 fr s::S0f fr r
def W05(c a:St):List A5->List A5->Bool
 | [],[]=>true
 | .val _::r,.val _::b=>W05 c a r b
 | .own i _::r,.own j d::b=>match Nat.beq i j,rdA a (.own j d)with
  |true,.own _ _=>W05 c a r b
  |_,_=>false
 |_,_=>false
def Z09(os:List Nat):List A5->Bool
 | []=>true
 | .val _::r=>Z09 os r
 | .own i _::r=>match F08 i os with
  |true=>false
  |false=>Z09 os r
def R0k(os:List Nat):BSt->Bool
 | .live cs _=>Z09 os cs
 | .publ _=>true
def r0b(A:Ann)(c a:St):Nat->List BSt->List BSt->Prop
 |_,[],_=>True
 |i,b::r,d::f=>match F08 i A.boxes with
  |true=>match b,d with
   | .live cs ty,.live cs' g=>match Nat.beq ty g,W05 c a cs cs' with
    |true,true=>r0b A c a (i+1) r f
    |_,_=>False
   |_,_=>False
  |false=>match R0k A.owns b with
   |true=>d=b/\r0b A c a (i+1) r f
   |false=>False
 |_,_::_,[]=>False
def leB(a b:Bool):Bool:=match a with
 |true=>b
 |false=>true
def s0b(A:Ann):Nat->List Own->List Own->Prop
 |_,[],_=>True
 |i,b::r,a::c=>match F08 i A.owns with
  |true=>match b,a with
   |⟨s,.live e sz by_ nn _⟩,⟨h,.live f j d g _⟩=>match Nat.beq e f,Nat.beq sz j,Nat.beq by_ d,leB nn g,leB (F08 i A.kept) (Nat.beq s h)with
    |true,true,true,true,true=>s0b A (i+1) r c
    |_,_,_,_,_=>False
   |_,_=>False
  |false=>a=b/\s0b A (i+1) r c
 |_,_::_,[]=>False
def a0a:Nat->(List Value->Prop)->Prop
 |0,K=>K []
 |n+1,K=>∀ v,a0a n λvs=>K (v::vs)
def b0a:Nat->(List (List (List Value))->Prop)->Prop
 |0,K=>K []
 |n+1,K=>∀ xs,b0a n λos=>K (xs::os)
abbrev t0b:=List Value->List (List (List Value))->Hp->Prop
abbrev b07:=List Value->List (List (List Value))->Nat
def M0q:List Value->List Value->Bool
 | [],[]=>true
 |_::r,_::a=>M0q r a
 |_,_=>false
def K0i(A:Ann)(I:t0b)(vs:List Value)(os:List (List (List Value)))(h:Hp):Prop:=match A.fuel with
 |false=>I vs os h
 |true=>∃ m:Nat,I (.int .i64 m::vs) os h
def L0i(A:Ann)(b:t0b)(μ:b07)(vs:List Value)(os:List (List (List Value)))(X:Nat->Hp->Prop):Prop:=match A.fuel with
 |false=>∀ a,b vs os a->X (μ vs os) a
 |true=>∀(m:Nat) (a:Hp),b (.int .i64 m::vs) os a->X m a
def N0q(A:Ann)(a:t0b)(μ:b07)(m:Nat)(vs:List Value)(os:List (List (List Value)))(h:Hp):Prop:=match A.fuel with
 |false=>a vs os h/\μ vs os<m
 |true=>∃ b:Nat,a (.int .i64 b::vs) os h/\b<m
def atI(A:Ann)(I:t0b)(μ:b07)(m:Nat)(vs:List Value)(os:List (List (List Value)))(h:Hp):Prop:=match A.fuel with
 |false=>I vs os h/\m=μ vs os
 |true=>I (.int .i64 m::vs) os h
theorem G0o{A:Ann}{b:t0b}{μ:b07}{vs:List Value}{os:List (List (List Value))}{h:Hp}(a:K0i A b vs os h):∃ m,atI A b μ m vs os h:=by
 unfold K0i at a
 unfold atI
 cases hf:A.fuel with
 |false=>rw[hf]at a;exact⟨_,a,rfl⟩
 |true=>rw[hf]at a;exact a
theorem H0o{A:Ann}{c:t0b}{μ:b07}{vs:List Value}{os:List (List (List Value))}{X:Nat->Hp->Prop}(b:L0i A c μ vs os X){m:Nat}{h:Hp}(a:atI A c μ m vs os h):X m h:=by
 unfold L0i at b
 unfold atI at a
 cases hf:A.fuel with
 |false=>rw[hf]at b a;rw[a.2];exact b _ a.1
 |true=>rw[hf]at b a;exact b _ _ a
theorem O0q{A:Ann}{b:t0b}{μ:b07}{m:Nat}{vs:List Value}{os:List (List (List Value))}{h:Hp}(a:N0q A b μ m vs os h):∃ c,atI A b μ c vs os h/\c<m:=by
 unfold N0q at a
 unfold atI
 cases hf:A.fuel with
 |false=>rw[hf]at a;exact⟨_,⟨a.1,rfl⟩,a.2⟩
 |true=>rw[hf]at a;exact a
def I0o(A:Ann)(d b:List (Nat×AV))(a:St)(c:t0b)(μ:b07)(g:List Value)(m:Nat)(st:St)(h:Hp):Prop :=
 match Nat.beq st.n a.n,r0c a st d with
 |true,true=>S0f st.fr b=l0n b/\r0b A a st 0 a.bx st.bx/\s0b A 0 a.ow st.ow /\
   P0k A st λvs os=>match M0q vs g with
    |true=>B07 A.vars.length vs λ_ f=>T05 A.boxes f a.bx λ_=>U05 A.owns os a.ow λ_=>N0q A c μ m vs os h
    |false=>False
 |_,_=>False
def U0l(i:(Ex->St->Hp->Prop)->St->Hp->Prop)(j:List Nat)(Q:Ex->St->Hp->Prop)(st:St)(h:Hp):Prop :=
 ∃(A:Ann) (b:t0b) (μ:b07),H0i A.nils st λst=>F0d A.nilsB st λst=>I0i A.pubs st h λst h=>P0k A st λg d=>K0i A b g d h /\
  p0b j λds=>headD A st ds [] λc=>V05 A ds st st.fr λf =>
   a0a g.length λvs=>b0a d.length λos=>L0i A b μ vs os λm k =>
    B07 A.vars.length vs λl o=>T05 A.boxes o st.bx λbx=>U05 A.owns os st.ow λow =>
     i (λe st' a=>match e with
      | .normal=>I0i A.pubs st' a λst' a=>I0o A c f st b μ vs m st' a
      |e=>Q e st' a) ⟨st.n,q0b A.vars l (c++f),bx,ow⟩ k
def J0o(b:Bool)(X Y:Prop):Prop:=(b=true->X)/\(b=false->Y)
def ev(P:Program):Code->(Ex->St->Hp->Prop)->St->Hp->Prop
 | .skip,Q,st,h=>Q .normal st h
 | .region _ ops false,Q,st,h=>match J0q P ops.toList with
  |true=>C03 st.n ops.toList=true/\evU P ops.toList 0 [] [] st h λst h=>Q .normal st h
  |false=>o0c P ops.toList 0 ⟨st,h,[],[]⟩ λrs=>Q .normal rs.st rs.h
 | .region _ ops true,Q,st,h=>((P.follows .mixedOrders=true/\Region.lexB .any ops=true) /\
   evQ P ops.toList 0 ⟨st,h,[],[]⟩ λrs=>Q .normal rs.st rs.h) ∨
   False ∨
   (match B0o ops.toList with
    |none=>(P.follows .mixedOrders=true/\A02 st.n ops.toList=true)/\q03 P st h ops.toList 0 [] [] [] λL X E=>evD (o9 L st ops.toList) ops.size P X E L st h λst h=>Q .normal st h
    |some o=>(P.follows .mixedOrders=true/\(A02 st.n (W00 ops.toList)&&p0c ops.toList 0)=true)/\q03 P st h (W00 ops.toList) 0 [] [] [] λL X E=>evD (o9 L st (W00 ops.toList)) (W00 ops.toList).length P X E L st h λst h=>H03 P o st h λst h=>Q .normal st h) ∨
   ((P.follows .mixedOrders=true/\C03 st.n ops.toList=true)/\evU P ops.toList 0 [] [] st h λst h=>Q .normal st h) ∨
   (∃ m,(P.follows .mixedOrders=true/\okZ P st.n m ops.toList=true)/\evT P (H03 P) m ops.toList st h λst h=>Q .normal st h)
 | .seq a b,Q,st,h=>ev P a (λe st h=>match e with
  | .normal=>ev P b Q st h
  |e=>Q e st h) st h
 | .cond c t e,Q,st,h=>match rdO st c with
  | .val (.bool b)=>J0o b (ev P t Q st h) (ev P e Q st h)
  |_=>False
 | .block id c,Q,st,h=>ev P c (λe st h=>match e with
  | .exit i=>match Nat.beq i id with
   |true=>Q .normal st h
   |false=>Q (.exit i) st h
  |e=>Q e st h) st h
 | .loop d,Q,st,h=>U0l (λQ=>ev P d Q) (z0f d []) Q st h
 | .exit id,Q,st,h=>Q (.exit id) st h
 | .ret,Q,st,h=>Q .ret st h
 |_,_,_,_=>False
def S0k(P:Program):List ResultVar->St->Hp->(List Value->St->Hp->Prop)->Prop
 | [],st,h,K=>K [] st h
 | .tmp t::r,st,h,K=>rfy (rdA st (j3 st.fr t)) st h λv st h=>S0k P r st h λvs st h=>K (v::vs) st h
 | .cell t ty::r,st,h,K=>match rdA st (j3 st.fr t)with
  | .box i off=>match nth st.bx i with
   |some (.live cs _)=>z04 P ty cs off λav=>rfy av st h λv st h=>S0k P r st h λvs st h=>K (v::vs) st h
   |_=>False
  |_=>False
def M0i:List Value->Value
 | [v]=>v
 |vs => .tuple vs.toArray
def c0a:Nat->List Value->List (Nat×AV)
 |_,[]=>[]
 |i,v::r=>(i,.val v)::c0a (i+1) r
def h0s(P:Program)(fn:Func)(args:List Value)(h:Hp)(T:Value->Hp->Prop):Prop :=
 match fn.body with
 |some c=>match Nat.ble args.length fn.ntmps with
  |true=>ev P c (λe st h=>match e with
   | .exit _=>False
   |_=>S0k P fn.results.toList st h λvs _ h=>T (M0i vs) h) ⟨fn.ntmps,c0a 0 args,[],[]⟩ h
  |false=>False
 |none=>False
end Go.H
