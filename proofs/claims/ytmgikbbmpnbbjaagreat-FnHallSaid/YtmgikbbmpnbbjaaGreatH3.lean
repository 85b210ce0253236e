/- Plain laws over the model: what a function's code asks: regions with guards, regions that draw their order, branches and loops. -/
import Derived.Test.YtmgikbbmpnbbjaaGreatH2
namespace Go.H
set_option linter.unusedVariables false
structure BE where
 j:Nat
 d:Nat
 e:Bool
 ch:List (Nat×Bool)
structure RS where
 st:St
 h:Hp
 gf:List (Nat×List (Nat×Bool)×AV)
 bs:List BE
def E0e:List (Nat×List (Nat×Bool)×AV)->Nat->Option (List (Nat×Bool)×AV)
 | [],_=>none
 |(k,x)::r,s=>match Nat.beq k s with
  |true=>some x
  |false=>E0e r s
def eqB(a b:Bool):Bool:=match a,b with
 |true,true=>true
 |false,false=>true
 |_,_=>false
def k0p:List (Nat×Bool)->List (Nat×Bool)->Bool
 | [],[]=>true
 |(j,w)::r,(a,c)::b=>match Nat.beq j a,eqB w c with
  |true,true=>k0p r b
  |_,_=>false
 |_,_=>false
def z0j(a:List (Nat×Bool)):List (Nat×Bool)->Bool
 | []=>k0p a []
 |x::r=>match k0p a (x::r)with
  |true=>true
  |false=>z0j a r
def rdG(rs:RS)(ch:List (Nat×Bool)):Operand->AV
 | .tmp t=>match E0e rs.gf t with
  |some (a,av)=>match z0j a ch with
   |true=>rdA rs.st av
   |false => .dead
  |none=>rdA rs.st (j3 rs.st.fr t)
 |x=>rdO rs.st x
def E03:List BE->Nat->Option BE
 | [],_=>none
 |b::r,j=>match Nat.beq b.j j with
  |true=>some b
  |false=>E03 r j
def b0b:List BE->Nat->Option BE
 | [],_=>none
 |b::r,s=>match Nat.beq b.d s with
  |true=>some b
  |false=>b0b r s
def lit(w e:Bool):Bool:=match w with
 |true=>e
 |false => !e
def cB(bs:List BE):List (Nat×Bool)->Option Bool
 | []=>some true
 |(j,w)::r=>match E03 bs j with
  |some b=>match r with
   | []=>some (lit w b.e)
   |_=>match cB bs r with
    |some c=>some (lit w b.e&&c)
    |none=>none
  |none=>none
def Q00(bs:List BE):Option (Nat×Bool)->Option (List (Nat×Bool))
 |none=>some []
 |some (j,w)=>match E03 bs j with
  |some b=>some ((j,w)::b.ch)
  |none=>none
def imp(ch:List (Nat×Bool))(c:Bool)(X:Prop):Prop:=match ch with
 | []=>X
 |_=>c=true->X
def A0j(rs:RS)(ch:List (Nat×Bool)):List Operand->Option (List (Nat×Value))
 | []=>some []
 | .tmp t::r=>match E05 (rdG rs ch (.tmp t))with
  |some v=>match A0j rs ch r with
   |some vs=>some ((t,v)::vs)
   |none=>none
  |none=>none
 | .global _::_=>none
 |_::r=>A0j rs ch r
def Q0q(rs:RS)(ch:List (Nat×Bool)):List Operand->St->Hp->(List (Nat×Value)->St->Hp->Prop)->Prop
 | [],st,h,K=>K [] st h
 | .tmp t::r,st,h,K=>rfy (rdA st (rdG rs ch (.tmp t))) st h λv st h=>Q0q rs ch r st h λvs st h=>K ((t,v)::vs) st h
 | .global _::_,_,_,_=>False
 |_::r,st,h,K=>Q0q rs ch r st h K
def l0i(P:Program)(o:Oper)(ch:List (Nat×Bool))(c:Bool)(rs:RS)(K:AV->Prop):Prop :=
 match X0a o.op,A0j rs ch o.op.operands.toList with
 |false,some vs=>match s08 (rho vs) o with
  |some (f,l)=>match okF P f with
   |true=>∃ v,imp ch c (Tr P f l.toArray rs.h λa h'=>a=v/\h'=rs.h)/\K (.val v)
   |false=>False
  |none=>match evP P (T0g (rho vs) o)with
   |some (.value v)=>K (.val v)
   |_=>False
 |false,none=>∃ r,imp ch c (Q0q rs ch o.op.operands.toList rs.st rs.h λvs _ hf=>match s08 (rho vs) o with
  |some (f,l)=>match okF P f with
   |true=>Tr P f l.toArray hf λv h'=>v=r/\h'=hf
   |false=>False
  |none=>False)/\K (.val r)
 |_,_=>False
def evG(P:Program)(o:Oper)(ch:List (Nat×Bool))(c:Bool)(rs:RS)(K:AV->Prop):Prop :=
 match o.op with
 | .move x | .assign x=>match rdG rs ch x with
  | .dead=>False
  |a=>K a
 | .pick (.tmp d) a b=>match rdG rs ch (.tmp d),b0b rs.bs d with
  | .val (.bool e),some q=>match z0j q.ch ch with
   |true=>match rdG rs ((q.j,true)::q.ch) a,rdG rs ((q.j,false)::q.ch) b with
    | .val (.bool x),.val (.bool y)=>K (.val (.bool (cond e x y)))
    |_,_=>False
   |false=>False
  |_,_=>False
 | .fieldAddr t x k=>match rdG rs ch x,i0i P t k with
  | .box i off,some g=>K (.box i (off+g))
  | .hel d i sz k,some g=>K (.hel d i sz (k+g))
  | .oel i d j sz k,some g=>K (.oel i d j sz (k+g))
  |_,_=>False
 | .indexAddr t x i=>match rdG rs ch i with
  | .val (.int _ j)=>match U01 P t with
   |some e=>match T5 P e with
    |some sz=>match rdG rs ch x with
     | .val (.slice a n f)=>imp ch c (InB (.slice a n f) j)/\K (.hel (.slice a n f) j sz 0)
     | .own i k=>match nth rs.st.ow i with
      |some ⟨_,.live _ p _ _ xs⟩=>match Nat.beq p sz with
       |true=>imp ch c (0<=j/\j<(xs.length:Int))/\K (.oel i k j sz 0)
       |false=>False
      |_=>False
     |_=>False
    |none=>False
   |none=>False
  |_=>False
 | .load t x=>match rdG rs ch x with
  | .box i off=>match nth rs.st.bx i with
   |some (.live cs _)=>C05 P t cs off K
   |_=>False
  | .hel d idx sz k=>∃ e,imp ch c (i6 rs.h d sz idx e)/\C05 P t (vals e) k K
  | .oel i _ idx sz k=>match nth rs.st.ow i with
   |some ⟨_,.live _ p _ _ xs⟩=>match Nat.beq p sz with
    |true=>∃ e,imp ch c (xs[idx.toNat]?=some e)/\C05 P t (vals e) k K
    |false=>False
   |_=>False
  |_=>False
 | .build t ps=>match P.underlying t,z01 P t with
  |some (.struct u),some z=>match S06 P u.toList with
   |true=>v08 P u (rdG rs ch) ps.toList (vals z.cells.toList) λcs=>K (.agg cs)
   |false=>False
  |_,_=>False
 | .index t x i=>match rdG rs ch x,rdG rs ch i,P.underlying t with
  | .val (.string d),.val (.int _ j),some .string=>∃ e,imp ch c (0<=j/\d[j.toNat]?=some e)/\K (.val (.int .u8 e.toNat))
  |_,_,_=>False
 | .slice t x lo hi none=>match rdG rs ch x,P.underlying t with
  | .val (.string d),some .string=>match p06 0 (lo.map (rdG rs ch)),p06 d.size (hi.map (rdG rs ch))with
   |some l,some m=>imp ch c (0<=l/\l<=m/\m<=(d.size:Int))/\K (.val (.string (d.extract l.toNat m.toNat)))
   |_,_=>False
  | .val (.slice w n f),_=>match U01 P t with
   |some e=>match T5 P e with
    |some sz=>match p06 0 (lo.map (rdG rs ch)),p06 n (hi.map (rdG rs ch))with
     |some l,some m=>∃ v,imp ch c ((0<=l/\l<=m/\m<=(n:Int)/\n<=f)/\y0j sz (.slice w n f) l.toNat m.toNat v)/\K (.val v)
     |_,_=>False
    |none=>False
   |none=>False
  |_,_=>False
 | .binOp .eql t x y yt=>match E05 (rdG rs ch x),E05 (rdG rs ch y)with
  |some (.agg xs),some (.agg s)=>∃ b,imp ch c (a0b P o x y (.agg xs) (.agg s) b)/\K (.val (.bool b))
  |some (.slice a n m),some (.slice none 0 0)=>∃ b,imp ch c (a0b P o x y (.slice a n m) (.slice none 0 0) b)/\K (.val (.bool b))
  |_,_=>l0i P o ch c rs K
 | .binOp .neq t x y yt=>match E05 (rdG rs ch x),E05 (rdG rs ch y)with
  |some (.agg xs),some (.agg s)=>∃ b,imp ch c (a0b P o x y (.agg xs) (.agg s) b)/\K (.val (.bool b))
  |_,_=>l0i P o ch c rs K
 | .binOp .add t x y yt=>match rdG rs ch x,rdG rs ch y with
  | .val (.string a),.val (.string b)=>imp ch c (a.size+b.size<=9223372036854775807)/\K (.val (.string (a++b)))
  |_,_=>l0i P o ch c rs K
 | .binOp .quo t x y yt=>match rdG rs ch x,rdG rs ch y with
  | .val (.int .i64 a),.val (.int .i64 b)=>imp ch c (b≠0)/\K (.val (.int .i64 (IntKind.i64.wrap (a.tdiv b))))
  |_,_=>l0i P o ch c rs K
 | .binOp .rem t x y yt=>match rdG rs ch x,rdG rs ch y with
  | .val (.int .i64 a),.val (.int .i64 b)=>imp ch c (b≠0)/\K (.val (.int .i64 (a.tmod b)))
  |_,_=>l0i P o ch c rs K
 | .call { callee := .builtin .len,args:=as,argTypes:=A }=>match as.toList,A.toList with
  | [x],[t]=>match rdG rs ch x with
   | .own i _=>match nth rs.st.ow i,U01 P t with
    |some ⟨_,.live _ _ _ _ xs⟩,some _=>K (.val (.int .i64 xs.length))
    |_,_=>False
   |_=>l0i P o ch c rs K
  |_,_=>False
 |_=>l0i P o ch c rs K
def z08(rs:RS)(d:Nat):Bool:=match E0e rs.gf d,b0b rs.bs d with
 |none,none=>false
 |_,_=>true
def B0j(i d:Nat)(ch:List (Nat×Bool))(av:AV)(bs:List BE):List BE:=match av with
 | .val (.bool e)=>⟨i,d,e,ch⟩::bs
 |_=>bs
def F0e(d:Option Tmp)(i:Nat)(ch:List (Nat×Bool))(av:AV)(rs:RS)(K:RS->Prop):Prop :=
 match d with
 |none=>K rs
 |some d=>match Nat.blt d rs.st.n,z08 rs d with
  |true,false=>match ch with
   | []=>K { rs with st := { rs.st with fr:=(d,av)::rs.st.fr },bs:=B0j i d ch av rs.bs }
   |_=>K { rs with st := { rs.st with fr:=(d,.dead)::rs.st.fr },gf:=(d,ch,av)::rs.gf,bs:=B0j i d ch av rs.bs }
  |_,_=>False
def K0l:Op->Bool
 | .pick ..=>true
 |_=>false
def y0d(P:Program):List Oper->Nat->RS->(RS->Prop)->Prop
 | [],_,rs,K=>K rs
 |o::r,i,rs,K=>match o.guard,K0l o.op with
  |none,false=>D8 P o rs.st rs.h λav st h=>F0e o.dst i [] av { rs with st:=st,h:=h } λrs=>y0d P r (i+1) rs K
  |_,_=>match Q00 rs.bs o.guard with
   |some ch=>match cB rs.bs ch with
    |some c=>evG P o ch c rs λav=>F0e o.dst i ch av rs λrs=>y0d P r (i+1) rs K
    |none=>False
   |none=>False
def evQ(P:Program):List Oper->Nat->RS->(RS->Prop)->Prop
 | [],_,rs,K=>K rs
 |o::r,i,rs,K=>match Q00 rs.bs o.guard with
  |some ch=>match cB rs.bs ch with
   |some c=>evG P o ch c rs λav=>F0e o.dst i ch av rs λrs=>evQ P r (i+1) rs K
   |none=>False
  |none=>False
def Sub(h h':Hp):Prop:=∀ b o,h b=some o->h' b=some o
def l0p(v:Value)(K:Value->Prop):Prop:=match v with
 | .bool b=>K (.bool b)
 | .int k n=>K (.int k n)
 | .string s=>K (.string s)
 | .pointer a=>K (.pointer a)
 | .slice a n c=>K (.slice a n c)
 | .func f x y=>K (.func f x y)
 | .agg cs=>K (.agg cs)
 | .tuple vs=>K (.tuple vs)
 |v=>K v
theorem e0o(v:Value)(K:Value->Prop):l0p v K=K v:=by cases v<;>rfl
def E8{a:Type}:List a->(List a->Prop)->Prop
 | [],K=>K []
 |x::r,K=>E8 r λr=>K (x::r)
theorem a03{a:Type}:∀(l:List a) (K:List a->Prop),E8 l K=K l
 | [],K=>rfl
 |x::r,K=>by simp only[E8,a03 r]
def F05:Nat->(Nat->Prop)->Prop
 |0,K=>K 0
 |n+1,K=>F05 n λm=>K (m+1)
theorem A08:∀(n:Nat) (K:Nat->Prop),F05 n K=K n
 |0,K=>rfl
 |n+1,K=>by simp only[F05,A08 n]
def Y01(av:AV)(K:AV->Prop):Prop:=match av with
 | .val v=>l0p v λv=>K (.val v)
 | .own i k=>K (.own i k)
 | .box i k=>K (.box i k)
 | .hel s i z k=>F05 z λz=>F05 k λk=>K (.hel s i z k)
 | .oel j s i z k=>F05 z λz=>F05 k λk=>K (.oel j s i z k)
 | .agg cs=>E8 cs λcs=>K (.agg cs)
 | .dead=>K .dead
theorem F03(av:AV)(K:AV->Prop):Y01 av K=K av:=by
 cases av with
 |val v=>exact e0o v (λv=>K (.val v))
 |hel s i z k=>simp only[Y01,A08]
 |oel j s i z k=>simp only[Y01,A08]
 |agg cs=>simp only[Y01,a03]
 |_=>rfl
inductive j6 where
 |pu (av:AV)
 |ef (F:Value->Hp->Prop)
def M3:List (Nat×j6)->Nat->Option j6
 | [],_=>none
 |(k,x)::r,s=>match Nat.beq k s with
  |true=>some x
  |false=>M3 r s
def rdS(L:List (Nat×j6))(st:St):Operand->AV
 | .tmp t=>match M3 L t with
  |some (.pu av)=>rdA st av
  |some (.ef _) => .dead
  |none=>rdA st (j3 st.fr t)
 |x=>rdO st x
def G0e(P:Program)(t:TypeId)(cs:List H5)(off:Nat):Option AV :=
 match h0i P t with
 |some true=>match T5 P t with
  |some n=>match B07 ((cs.drop off).take n) n with
   |true=>some (.agg ((cs.drop off).take n))
   |false=>none
  |none=>none
 |some false=>match nth cs off with
  |some c=>some (ofCell c)
  |none=>none
 |none=>none
def L0l(P:Program)(L:List (Nat×j6))(o:Oper)(st:St):Option AV:=match o.op with
 | .move x | .assign x=>match rdS L st x with
  | .dead=>none
  |a=>some a
 | .load t x=>match rdS L st x with
  | .box i off=>match nth st.bx i with
   |some (.live cs _)=>G0e P t cs off
   |_=>none
  |_=>none
 |_=>none
def H0e(L:List (Nat×j6))(st:St)(h:Hp):List Operand->List (Nat×AV)->(List (Nat×AV)->Prop)->Prop
 | [],acc,K=>K acc
 | .tmp t::r,acc,K=>match M3 L t with
  |some (.pu av)=>H0e L st h r ((t,av)::acc) K
  |some (.ef F)=>∀ v,F v h->H0e L st h r ((t,.val v)::acc) K
  |none=>H0e L st h r ((t,j3 st.fr t)::acc) K
 |_::r,acc,K=>H0e L st h r acc K
def C07(d:Option Tmp)(f:j6)(L:List (Nat×j6)):List (Nat×j6):=match d with
 |some d=>(d,f)::L
 |none=>L
def o0t(st:St)(h:Hp)(F:Value->Hp->Prop):AV->St->Hp->Prop
 | .val v,st',h'=>st'=st/\Sub h h'/\F v h'
 |_,_,_=>False
def r8(i:Nat)(o:Oper):Bool:=o.after.toList.any λe=>Region.binds .any e&&Nat.beq e.on i
def b03(o:Oper)(t:Nat):List Oper->Nat->Bool
 | [],_=>true
 |x::r,i=>match x.dst with
  |some d=>match Nat.beq d t with
   |true=>r8 i o&&b03 o t r (i+1)
   |false=>b03 o t r (i+1)
  |none=>b03 o t r (i+1)
def c0b(o:Oper)(ops:List Oper):List Operand->Bool
 | []=>true
 | .tmp t::r=>b03 o t ops 0&&c0b o ops r
 |_::r=>c0b o ops r
def B08(d:Nat):List Oper->Bool
 | []=>true
 |o::r=>match o.dst with
  |some a => !Nat.beq d a&&B08 d r
  |none=>B08 d r
def C0j(n:Nat):List Oper->Bool
 | []=>true
 |o::r=>match o.dst with
  |some d=>Nat.blt d n&&B08 d r&&C0j n r
  |none=>C0j n r
def z0d:List Oper->Nat->Bool
 | [],_=>true
 |o::r,j=>(o.after.toList.all λe => !Region.binds .any e || Nat.blt e.on j)&&z0d r (j+1)
def N0m(ops:List Oper):List Oper->Bool
 | []=>true
 |o::r=>c0b o ops o.op.operands.toList&&N0m ops r
def w03(n:Nat)(ops:List Oper):Bool:=C0j n ops&&z0d ops 0&&N0m ops ops
def O0m:List H5->Bool
 | []=>true
 | .val _::r=>O0m r
 | .own _ _::_=>false
def m0i:AV->Bool
 | .val _=>true
 | .box _ _=>true
 | .own _ _=>true
 | .agg cs=>O0m cs
 |_=>false
def I06(L:List (Nat×j6))(st:St):Operand->AV
 | .tmp t=>match M3 L t with
  |some (.pu av)=>av
  |some (.ef _) => .dead
  |none=>j3 st.fr t
 | .const v => .val v
 |_ => .dead
def A0d(L:List (Nat×j6))(st:St):List Operand->Option (List (Nat×Value))
 | []=>some []
 | .tmp t::r=>match I06 L st (.tmp t)with
  | .val v=>match A0d L st r with
   |some vs=>some ((t,v)::vs)
   |none=>none
  |_=>none
 | .global _::_=>none
 |_::r=>A0d L st r
def M0l(P:Program)(L:List (Nat×j6))(o:Oper)(st:St):Option AV:=match X0a o.op,A0d L st o.op.operands.toList with
 |false,some vs=>match s08 (rho vs) o with
  |some _=>none
  |none=>match evP P (T0g (rho vs) o)with
   |some (.value v)=>some (.val v)
   |_=>none
 |_,_=>none
def p0t:AV->Bool
 | .val (.int _ _)=>true
 |_=>false
def I0t:BinOp->Bool
 | .lss=>true
 | .leq=>true
 | .gtr=>true
 | .geq=>true
 | .eql=>true
 | .neq=>true
 | .add=>true
 | .sub=>true
 | .mul=>true
 |_=>false
def X09(P:Program)(L:List (Nat×j6))(o:Oper)(st:St):Option AV:=match o.op with
 | .move x=>match m0i (I06 L st x)with
  |true=>some (I06 L st x)
  |false=>none
 | .assign x=>match m0i (I06 L st x)with
  |true=>some (I06 L st x)
  |false=>none
 | .load t x=>match I06 L st x with
  | .box i off=>match nth st.bx i with
   |some (.live cs _)=>match G0e P t cs off with
    |some av=>match m0i av with
     |true=>some av
     |false=>none
    |none=>none
   |_=>none
  |_=>none
 | .fieldAddr t x k=>match I06 L st x,i0i P t k with
  | .box i off,some a=>some (.box i (off+a))
  |_,_=>none
 | .binOp op _ x y _=>match I0t op,p0t (I06 L st x),p0t (I06 L st y)with
  |true,true,true=>M0l P L o st
  |_,_,_=>none
 | .call { callee := .builtin .len,args:=as,argTypes:=_ }=>match as.toList with
  | [x]=>match I06 L st x with
   | .val (.slice _ _ _)=>M0l P L o st
   |_=>none
  |_=>none
 |_=>none
def q00(L:List (Nat×j6))(st:St):List Oper->List Nat
 | []=>[]
 |o::r=>match o.op with
  | .load _ x=>match I06 L st x with
   | .box i _=>i::q00 L st r
   |_=>q00 L st r
  |_=>q00 L st r
def Y09(bx:List BSt):List Nat->List (Option BSt)
 | []=>[]
 |i::r=>nth bx i::Y09 bx r
def d05(L:List (Nat×j6))(a:List (Nat×AV)):List Operand->List (Nat×AV)->(List (Nat×AV)->Prop)->Prop
 | [],acc,K=>K acc
 | .tmp t::r,acc,K=>match M3 L t with
  |some (.pu av)=>d05 L a r ((t,av)::acc) K
  |some (.ef _)=>d05 L a r ((t,.dead)::acc) K
  |none=>d05 L a r ((t,j3 a t)::acc) K
 |_::r,acc,K=>d05 L a r acc K
def D0j:List (Nat×j6)->List (Nat×AV)->List (Nat×AV)
 | [],fr=>fr
 |(d,.pu av)::r,fr=>(d,av)::D0j r fr
 |(d,.ef _)::r,fr=>(d,.dead)::D0j r fr
def P0m(av:AV)(st:St)(h:Hp):AV->St->Hp->Prop:=λa st' h'=>a=av/\st'=st/\h'=h
def E0j(P:Program)(st:St)(h:Hp)(L:List (Nat×j6))(o:Oper)(av:AV):Prop :=
 match st with
 |⟨n,fr,bx,ow⟩=>∀ h',Sub h h'->d05 L fr o.op.operands.toList [] λfr=>D8 P o ⟨n,fr,bx,ow⟩ h' (P0m av ⟨n,fr,bx,ow⟩ h')
def p04(P:Program)(st:St)(h:Hp):List Oper->Nat->List (Nat×j6)->List (Nat×Oper)->List (Nat×Oper)->(List (Nat×j6)->List (Nat×Oper)->List (Nat×Oper)->Prop)->Prop
 | [],_,L,X,E,K=>K L X E
 |o::r,i,L,X,E,K=>match o.guard with
  |some _=>False
  |none=>match X09 P L o st with
   |some av=>Y01 av λav=>p04 P st h r (i+1) (C07 o.dst (.pu av) L) X E K
   |none=>(∃ av,E0j P st h L o av/\Y01 av λav=>p04 P st h r (i+1) (C07 o.dst (.pu av) L) (X ++ [(i,o)]) E K) ∨
     p04 P st h r (i+1) (C07 o.dst (.ef λ_ _=>True) L) X (E ++ [(i,o)]) K
def n0i(X:List (Nat×Oper)):Nat->Nat->Oper->Bool
 |0,i,q=>r8 i q
 |n+1,i,q=>r8 i q || X.any λy=>r8 y.1 q&&n0i X n i y.2
def I0e(X Y:List (Nat×Oper)):List (Nat×Oper)->Bool
 | []=>true
 |(_,q)::_=>X.all λx=>n0i Y 8 x.1 q
def G05:List (Nat×Oper)->Bool
 |(i,o)::(j,a)::r=>r8 i a&&G05 ((j,a)::r)
 |_=>true
def C08:Nat->Nat->Oper->Bool
 |0,_,_=>true
 |k+1,i,o=>(Nat.beq k i || r8 k o)&&C08 k i o
def D08(d:Nat):List Operand->Bool
 | []=>false
 | .tmp t::r=>Nat.beq t d || D08 d r
 |_::r=>D08 d r
def J0e(d:Nat):List Oper->Bool
 | []=>false
 |o::r=>D08 d o.op.operands.toList || J0e d r
def V01:List Oper->List Oper
 | []=>[]
 |o::r=>match r with
  | []=>[]
  |_::_=>o::V01 r
def K0e:List Oper->Option Oper
 | []=>none
 |o::r=>match r with
  | []=>some o
  |_::_=>K0e r
def m0p(ops:List Oper):Option Oper:=match K0e ops with
 |some o=>match o.guard,o.dst with
  |none,some d=>match J0e d (V01 ops)&&C08 (V01 ops).length (V01 ops).length o with
   |true=>some o
   |false=>none
  |_,_=>none
 |none=>none
def F04(P:Program)(o:Oper)(st:St)(h:Hp)(K:St->Hp->Prop):Prop :=
 D8 P o st h λav st h=>F0e o.dst 0 [] av ⟨st,h,[],[]⟩ λrs=>K rs.st rs.h
def inK(k:Nat):List Nat->Bool
 | []=>false
 |x::r=>Nat.beq k x || inK k r
def E08(es:List Nat):Nat->Nat->Oper->Bool
 |0,_,_=>true
 |k+1,i,o=>((Nat.beq k i || r8 k o) || inK k es)&&E08 es k i o
def P09:List (Nat×Oper)->List Nat
 | []=>[]
 |x::r=>x.1::P09 r
def d0b(N:Nat×List Nat)(i:Nat)(o:Oper):Bool:=E08 N.2 N.1 i o
def U0g(c:Nat)(b:Bool)(rd:List Nat)(bx a:List BSt):Prop:=match b with
 |true=>True
 |false=>match c with
  |0=>Y09 a rd=Y09 bx rd
  |_+1=>a=bx
def l0c:Nat->List Own->List Own->Hp->Hp->Prop
 |0,_,_,_,_=>True
 |_+1,ow,a,h,h'=>a=ow/\Sub h h'
def evC(rd:List Nat)(N:Nat×List Nat)(P:Program):Nat->List (Nat×Oper)->List (Nat×j6)->St->Hp->(St->Hp->Prop)->Prop
 |_,[],L,⟨n,fr,bx,ow⟩,h,K=>E8 (D0j L fr) λfr=>K ⟨n,fr,bx,ow⟩ h
 |c,(i,o)::r,L,⟨n,fr,bx,ow⟩,h,K=>d05 L fr o.op.operands.toList [] λd=>D8 P o ⟨n,d,bx,ow⟩ h λav st' h'=>match st' with
  |⟨_,_,a,b⟩=>l0c c ow b h h'/\U0g c (d0b N i o) rd bx a/\Y01 av λav=>E8 a λa=>E8 b λb=>evC rd N P (c-1) r (C07 o.dst (.pu av) L) ⟨n,fr,a,b⟩ h' K
def R0q(f:Nat×Oper)(rd:List Nat)(N:Nat×List Nat)(P:Program):Nat->List (Nat×Oper)->List (Nat×j6)->St->Hp->(St->Hp->Prop)->Prop
 |0,E,L,st,h,K=>evC rd N P 0 (f::E) L st h K
 |p+1,E,L,st,h,K=>evC rd N P 0 (f::E) L st h K/\match E with
  | []=>False
  |(i,o)::r=>match st with
   |⟨n,fr,bx,ow⟩=>d05 L fr o.op.operands.toList [] λc=>D8 P o ⟨n,c,bx,ow⟩ h λav st' h'=>match st' with
    |⟨_,_,a,b⟩=>l0c 0 ow b h h'/\U0g 0 (d0b N i o) rd bx a/\Y01 av λav=>E8 a λa=>E8 b λb=>R0q f rd N P p r (C07 o.dst (.pu av) L) ⟨n,fr,a,b⟩ h' K
def f0o(f:Nat×Oper):Nat->List (Nat×Oper)->Bool
 |_,[]=>false
 |0,(_,q)::_=>r8 f.1 q
 |p+1,_::r=>f0o f p r
def V0g:Nat->List (Nat×Oper)->Option ((Nat×Oper)×List (Nat×Oper))
 |_,[]=>none
 |0,x::r=>some (x,r)
 |k+1,x::r=>match V0g k r with
  |some (f,a)=>some (f,x::a)
  |none=>none
def noX:List (Nat×Oper)->Bool
 | []=>true
 |_::_=>false
def m0c:List (Nat×Oper)->List (Nat×Oper)->List ((Nat×Oper)×List (Nat×Oper))
 |_,[]=>[]
 |A,x::B=>(x,A++B)::m0c (A ++ [x]) B
def o0i(x:Nat×Oper):List (Nat×Oper)->Bool
 | []=>true
 |y::r => !r8 y.1 x.2&&o0i x r
def N0l(f:(Nat×Oper)->List (Nat×Oper)->Prop):List ((Nat×Oper)×List (Nat×Oper))->Prop
 | []=>True
 |p::l=>match o0i p.1 p.2 with
  |true=>f p.1 p.2/\N0l f l
  |false=>N0l f l
def F0j(rd:List Nat)(N:Nat×List Nat)(P:Program):Nat->List (Nat×Oper)->List (Nat×j6)->St->Hp->(St->Hp->Prop)->Prop
 |0,_,L,⟨n,fr,bx,ow⟩,h,K=>E8 (D0j L fr) λfr=>K ⟨n,fr,bx,ow⟩ h
 |m+1,E,L,⟨n,fr,bx,ow⟩,h,K=>N0l (λx r=>d05 L fr x.2.op.operands.toList [] λc=>D8 P x.2 ⟨n,c,bx,ow⟩ h λav st' h'=>match st' with
  |⟨_,_,a,b⟩=>l0c 0 ow b h h'/\U0g 0 (d0b N x.1 x.2) rd bx a/\Y01 av λav=>E8 a λa=>E8 b λb=>F0j rd N P m r (C07 x.2.dst (.pu av) L) ⟨n,fr,a,b⟩ h' K) (m0c [] E)
def A0g:List (Nat×Oper)->Nat
 | []=>0
 |_::r=>A0g r+1
def evD(rd:List Nat)(N:Nat)(P:Program)(X E:List (Nat×Oper))(L:List (Nat×j6))(st:St)(h:Hp)(K:St->Hp->Prop):Prop :=
 (∃ c,(G05 E=true/\I0e X (X++E) (E.drop c)=true)/\evC rd (N,P09 E) P c E L st h K) ∨
 (∃ k p,match V0g k E with
  |some (f,E')=>(noX X=true/\G05 E'=true/\f0o f p E'=true)/\R0q f rd (N,P09 E) P p E' L st h K
  |none=>noX X=true/\F0j rd (N,P09 E) P (A0g E) E L st h K)
abbrev FL:=List (Nat×List (Nat×Bool)×j6)
def j04:FL->Nat->Option (List (Nat×Bool)×j6)
 | [],_=>none
 |(k,x)::r,s=>match Nat.beq k s with
  |true=>some x
  |false=>j04 r s
def rdU(L:FL)(st:St)(ch:List (Nat×Bool)):Operand->AV
 | .tmp t=>match j04 L t with
  |some (a,.pu av)=>match z0j a ch with
   |true=>rdA st av
   |false => .dead
  |some (_,.ef _) => .dead
  |none=>rdA st (j3 st.fr t)
 |x=>rdO st x
def Z09(P:Program)(L:FL)(bs:List BE)(ch:List (Nat×Bool))(o:Oper)(st:St):Option AV:=match o.op with
 | .move x | .assign x=>match rdU L st ch x with
  | .dead=>none
  |a=>some a
 | .load t x=>match rdU L st ch x with
  | .box i off=>match nth st.bx i with
   |some (.live cs _)=>G0e P t cs off
   |_=>none
  |_=>none
 | .fieldAddr t x k=>match rdU L st ch x,i0i P t k with
  | .box i off,some d=>some (.box i (off+d))
  | .hel c i sz k,some d=>some (.hel c i sz (k+d))
  |_,_=>none
 | .pick (.tmp c) a b=>match rdU L st ch (.tmp c),b0b bs c with
  | .val (.bool e),some q=>match z0j q.ch ch with
   |true=>match rdU L st ((q.j,true)::q.ch) a,rdU L st ((q.j,false)::q.ch) b with
    | .val (.bool x),.val (.bool y)=>some (.val (.bool (cond e x y)))
    |_,_=>none
   |false=>none
  |_,_=>none
 |_=>none
def d08(L:FL)(st:St)(h:Hp)(ch:List (Nat×Bool)):List Operand->List (Nat×AV)->(List (Nat×AV)->Prop)->Prop
 | [],acc,K=>K acc
 | .tmp t::r,acc,K=>match j04 L t with
  |some (a,f)=>match z0j a ch with
   |true=>match f with
    | .pu av=>d08 L st h ch r ((t,av)::acc) K
    | .ef F=>∀ v,F v h->d08 L st h ch r ((t,.val v)::acc) K
   |false=>False
  |none=>d08 L st h ch r ((t,j3 st.fr t)::acc) K
 |_::r,acc,K=>d08 L st h ch r acc K
def B0g(h:Hp):FL->List (Nat×AV)->(List (Nat×AV)->Prop)->Prop
 | [],fr,K=>K fr
 |(d,[],.pu av)::r,fr,K=>B0g h r ((d,av)::fr) K
 |(d,[],.ef F)::r,fr,K=>∀ v,F v h->B0g h r ((d,.val v)::fr) K
 |(d,_::_,_)::r,fr,K=>B0g h r ((d,.dead)::fr) K
def p0i(d:Option Tmp)(ch:List (Nat×Bool))(f:j6)(L:FL):FL:=match d with
 |some d=>(d,ch,f)::L
 |none=>L
def q0i(i:Nat)(d:Option Tmp)(ch:List (Nat×Bool))(av:AV)(bs:List BE):List BE:=match d with
 |some d=>match av with
  | .val (.bool e)=>⟨i,d,e,ch⟩::bs
  |_=>bs
 |none=>bs
def O0l(st st':St):Prop:=st'.n=st.n/\st'.fr=st.fr/\st'.bx=st.bx/\∃ t,st'.ow=st.ow++t
def n0p(st:St)(h:Hp)(F:Value->Hp->Prop):AV->St->Hp->Prop:=λav st' h'=>rfy av st' h' λv b a=>O0l st b/\Sub h a/\F v a
def o0p(P:Program)(t n:Nat)(st:St)(h:Hp)(K:AV->St->Hp->Prop):Prop :=
 match U01 P t with
 |some e=>match T5 P e,Nat.beq n 0 with
  |some (_+1),true=>∀ g,h g=none->K (.val (.slice (some ⟨g,0,none⟩) 0 0)) st (h.set g (.cells #[] e (0,0)))
  |_,_=>False
 |none=>False
def p0p(P:Program)(t:TypeId)(a b:Operand)(st:St)(h:Hp)(K:AV->St->Hp->Prop):Prop :=
 match U01 P t with
 |some e=>match T5 P e,v0a P e,z01 P e with
  |some (sz+1),some (by_+1),some z=>match B07 z.cells.toList (sz+1)with
   |true=>match rdO st a with
    | .val (.slice (some ⟨g,o,none⟩) 0 0)=>C0e st h (sz+1) (rdO st b) λc=>w08 c.length (by_+1) /\
      ((c = []->K (.val (.slice (some ⟨g,o,none⟩) 0 0)) st h)/\∀ v h',S0 h h' v e (sz+1) true c->K (.val v) st h')
    |_=>False
   |false=>False
  |_,_,_=>False
 |none=>False
def G0j(P:Program)(o:Oper)(st:St)(h:Hp)(K:AV->St->Hp->Prop):Prop :=
 match o.op with
 | .buildSlice t n ps=>match ps.toList with
  | []=>o0p P t n st h K
  |_::_=>D8 P o st h K
 | .call { callee := .builtin .append,args:=as,argTypes:=d }=>match as.toList,d.toList with
  | [a,b],[t,c]=>match Nat.beq t c with
   |true=>p0p P t a b st h K
   |false=>False
  |_,_=>False
 |_=>D8 P o st h K
def evU(P:Program)(l:List Oper):Nat->FL->List BE->St->Hp->(St->Hp->Prop)->Prop :=
  List.rec (motive:=λ_=>Nat->FL->List BE->St->Hp->(St->Hp->Prop)->Prop)
    (λ_ L _ st h K=>match st with
      |⟨n,fr,bx,ow⟩=>∀ h',Sub h h'->B0g h' L fr λfr=>K ⟨n,fr,bx,ow⟩ h')
    (λo _ a i L bs st h K=>match st with
      |⟨n,fr,bx,ow⟩=>match Q00 bs o.guard with
        |some ch=>match cB bs ch with
          |some c=>match Z09 P L bs ch o ⟨n,fr,bx,ow⟩with
            |some av=>Y01 av λav=>a (i+1) (p0i o.dst ch (.pu av) L) (q0i i o.dst ch av bs) ⟨n,fr,bx,ow⟩ h K
            |none=>(∃ av,(∀ h',Sub h h'->imp ch c (d08 L ⟨n,fr,bx,ow⟩ h' ch o.op.operands.toList [] λfr=>D8 P o ⟨n,fr,bx,ow⟩ h' (P0m av ⟨n,fr,bx,ow⟩ h'))) /\
                  Y01 av λav=>a (i+1) (p0i o.dst ch (.pu av) L) (q0i i o.dst ch av bs) ⟨n,fr,bx,ow⟩ h K) ∨
                (∃ F:Value->Hp->Prop,(∀ v b d,Sub b d->F v b->F v d) /\
                  (∀ h',Sub h h'->imp ch c (d08 L ⟨n,fr,bx,ow⟩ h' ch o.op.operands.toList [] λfr=>G0j P o ⟨n,fr,bx,ow⟩ h' (n0p ⟨n,fr,bx,ow⟩ h' F))) /\
                  a (i+1) (p0i o.dst ch (.ef F) L) bs ⟨n,fr,bx,ow⟩ h K)
          |none=>False
        |none=>False) l
def t0e:List Oper->Bool
 | []=>true
 |o::r=>(match o.guard with
  |some (j,_)=>r8 j o
  |none=>true)&&t0e r
def A04(n:Nat)(ops:List Oper):Bool:=w03 n ops&&t0e ops
def S0q(P:Program):List Oper->Bool
 | []=>false
 |o::r=>(match o.guard,o.op with
  |some _,.call { callee := .value _,args:=_,argTypes:=_ }=>match P.underlying o.type with
   |some (.slice _)=>true
   |some (.struct _)=>true
   |some (.tuple _)=>true
   |_=>false
  |_,_=>false) || S0q P r
def H05(o:Oper):Bool:=match o.op with
 | .alloc _=>true
 |_=>false
def a01(o:Oper):Oper:=match o.op with
 | .alloc _ => { o with op := .move (.const undef) }
 |_=>o
def U5:List Oper->List Oper
 | []=>[]
 |o::r=>a01 o::U5 r
def okA(P:Program)(all:List Oper):List Oper->Bool
 | []=>true
 |o::r=>(match o.op with
  | .alloc t=>(match o.guard,o.dst,z01 P t with
   |none,some d,some _ => !J0e d all
   |_,_,_=>false)
  |_=>true)&&okA P all r
def P0l(x:Nat):List Nat->Bool
 | []=>false
 |y::r=>Nat.beq x y || P0l x r
def T0q(ops:List Oper)(i:Nat):List Nat->Bool
 | []=>false
 |j::r=>(match nth ops j with
  |some o=>r8 i o
  |none=>false) || T0q ops i r
def W0g(ops:List Oper):Nat->List Nat->List Nat
 |0,acc=>acc
 |i+1,acc=>match T0q ops i acc with
  |true=>W0g ops i (i::acc)
  |false=>W0g ops i acc
def n0c:Operand->List Nat
 | .tmp t=>[t]
 |_=>[]
def a0a(o:Oper):Option (List Nat):=match o.guard with
 |some _=>none
 |none=>match o.op with
  | .extract x _=>some (n0c x)
  | .move x=>some (n0c x)
  | .assign x=>some (n0c x)
  | .pick c x y=>some (n0c c++(n0c x++n0c y))
  |_=>none
def b0a(d:Nat):List Oper->Bool
 | []=>false
 |o::r=>(match o.dst with
  |some e=>Nat.beq e d
  |none=>false) || b0a d r
def I05(a:List Nat)(t:Nat):List Oper->Nat->Bool
 | [],_=>true
 |o::r,i=>(match o.dst with
  |some e => !Nat.beq e t || P0l i a
  |none=>true)&&I05 a t r (i+1)
def U06(i d:Nat):List Oper->Bool
 | []=>true
 |o::r=>(!D08 d o.op.operands.toList || r8 i o)&&U06 i d r
def Q0m(b c:List Oper)(a:List Nat):List Nat->Bool
 | []=>true
 |t::r=>(!b0a t c&&I05 a t b 0)&&Q0m b c a r
def R0m(c a:List Oper)(b:List Nat)(i:Nat)(o:Oper):Bool:=match a0a o,o.dst with
 |some e,some d => !b0a d a&&Q0m c a b e&&U06 i d a
 |_,_=>false
def u0e(b c:List Oper)(a:List Nat):List Oper->Nat->Bool
 | [],_=>true
 |o::r,i=>(P0l i a || R0m b c a i o)&&u0e b c a r (i+1)
def H0j:List Oper->Bool
 | []=>true
 |o::r => !X0a o.op&&H0j r
def q0p:Nat->List Oper->Bool
 |_,[]=>true
 |k,o::r=>(match o.guard with
  |none=>true
  |some _=>false)&&(match r with
  | []=>true
  |o'::_=>r8 k o')&&q0p (k+1) r
def q0t:List Oper->Bool
 | []=>true
 |_::_=>false
def okZ(P:Program)(n m:Nat)(ops:List Oper):Bool :=
 A04 n (U5 (ops.take m))&&okA P (ops.take m) (ops.take m)&&z0d ops 0&&q0p m (ops.drop m)&&(q0t (ops.drop m) || (u0e (ops.take m) (ops.drop m) (W0g ops m [m]) (ops.take m) 0&&H0j (ops.drop m)))
abbrev l0s:=Oper->St->Hp->(St->Hp->Prop)->Prop
def doA(R:l0s)(l:List Oper):St->Hp->(St->Hp->Prop)->Prop :=
 List.rec (motive:=λ_=>St->Hp->(St->Hp->Prop)->Prop) (λst h K=>K st h) (λo _ a st h K=>match H05 o with
  |true=>R o st h λst h=>a st h K
  |false=>a st h K) l
def doT(R:l0s)(l:List Oper):St->Hp->(St->Hp->Prop)->Prop :=
 List.rec (motive:=λ_=>St->Hp->(St->Hp->Prop)->Prop) (λst h K=>K st h) (λo _ a st h K=>R o st h λst h=>a st h K) l
def evT(P:Program)(R:l0s)(m:Nat)(ops:List Oper)(st:St)(h:Hp)(K:St->Hp->Prop):Prop :=
 evU P (U5 (ops.take m)) 0 [] [] st h λst h=>doA R (ops.take m) st h λst h=>doT R (ops.drop m) st h K
inductive Ex where
 |normal|ret
 |exit (i:Nat)
structure Ann where
 vars:List Nat
 boxes:List Nat
 owns:List Nat
 nils:List (Nat×Nat×Nat×Nat):=[]
 nilsB:List (Nat×Nat×Nat×Nat×Nat):=[]
 kept:List Nat:=[]
 fuel:Bool:=false
 pubs:List Nat:=[]
def I0j:List (Nat×Nat×Nat×Nat)->St->(St->Prop)->Prop
 | [],st,K=>K st
 |(s,e,sz,by_)::r,⟨n,fr,bx,ow⟩,K=>match rdA ⟨n,fr,bx,ow⟩ (j3 fr s),Nat.blt s n with
  | .val (.slice none 0 0),true=>H0l ow λk=>I0j r ⟨n,(s,.own k 0)::fr,bx,ow ++ [⟨0,.live e sz by_ false []⟩]⟩ K
  |_,_=>False
def L0e:List (Nat×Nat×Nat×Nat×Nat)->St->(St->Prop)->Prop
 | [],st,K=>K st
 |(i,k,e,sz,by_)::r,⟨n,fr,bx,ow⟩,K=>match nth bx i with
  |some (.live cs ty)=>match nth cs k with
   |some (.val (.slice none 0 0))=>H0l ow λj=>L0e r ⟨n,fr,n01 bx i (.live (n01 cs k (.own j 0)) ty),ow ++ [⟨0,.live e sz by_ false []⟩]⟩ K
   |_=>False
  |_=>False
def J0j:List Nat->St->Hp->(St->Hp->Prop)->Prop
 | [],st,h,K=>K st h
 |s::r,st,h,K=>rfy (rdA st (j3 st.fr s)) st h λv st h=>match st with
  |⟨n,fr,bx,ow⟩=>match Nat.blt s n with
   |true=>J0j r ⟨n,(s,.val v)::fr,bx,ow⟩ h K
   |false=>False
def Q09(x:Nat):List Nat->Bool
 | []=>false
 |y::r=>match Nat.beq x y with
  |true=>true
  |false=>Q09 x r
def m0s:List Oper->List Nat->List Nat
 | [],acc=>acc
 |o::r,acc=>match o.dst with
  |some d=>m0s r (d::acc)
  |none=>m0s r acc
def C0g:Code->List Nat->List Nat
 | .region _ ops _,acc=>m0s ops.toList acc
 | .seq a b,acc=>C0g a (C0g b acc)
 | .cond _ a b,acc=>C0g a (C0g b acc)
 | .block _ a,acc=>C0g a acc
 | .loop a,acc=>C0g a acc
 | .scope a,acc=>C0g a acc
 |_,acc=>acc
def o0c:List Nat->(List Nat->Prop)->Prop
 | [],K=>K []
 |x::r,K=>o0c r λr=>K (x::r)
def U0q:List Nat->St->(List Value->Prop)->Prop
 | [],_,K=>K []
 |s::r,st,K=>match rdA st (j3 st.fr s)with
  | .val v=>U0q r st λvs=>K (v::vs)
  |_=>False
def K0j:List H5->St->(List Value->Prop)->Prop
 | [],_,K=>K []
 | .val v::r,st,K=>K0j r st λvs=>K (v::vs)
 | .own _ _::r,st,K=>K0j r st K
def M0e:List Nat->St->(List Value->Prop)->Prop
 | [],_,K=>K []
 |i::r,st,K=>match nth st.bx i with
  |some (.live cs _)=>K0j cs st λvs=>M0e r st λa=>K (vs++a)
  |_=>False
def X0g:List Nat->St->(List (List (List Value))->Prop)->Prop
 | [],_,K=>K []
 |i::r,st,K=>match nth st.ow i with
  |some ⟨_,.live _ _ _ _ xs⟩=>X0g r st λos=>K (xs::os)
  |_=>False
def Q0l(A:Ann)(st:St)(K:List Value->List (List (List Value))->Prop):Prop :=
 U0q A.vars st λvs=>M0e A.boxes st λa=>X0g A.owns st λos=>K (vs++a) os
def B04:List H5->List Value->(List H5->List Value->Prop)->Prop
 | [],vs,K=>K [] vs
 | .val _::r,v::vs,K=>B04 r vs λcs a=>K (.val v::cs) a
 | .val _::_,[],_=>False
 | .own i k::r,vs,K=>B04 r vs λcs a=>K (.own i k::cs) a
def V06:List Nat->List Value->List BSt->(List BSt->Prop)->Prop
 | [],_,bx,K=>K bx
 |i::r,vs,bx,K=>match nth bx i with
  |some (.live cs ty)=>B04 cs vs λcs a=>V06 r a (n01 bx i (.live cs ty)) K
  |_=>False
def W06:List Nat->List (List (List Value))->List Own->(List Own->Prop)->Prop
 | [],_,ow,K=>K ow
 |i::r,xs::os,ow,K=>match nth ow i with
  |some ⟨s,.live e sz by_ nn _⟩=>W06 r os (n01 ow i ⟨s,.live e sz by_ nn xs⟩) K
  |_=>False
 |_::_,[],_,_=>False
def F08{c:Type}:Nat->List c->(List c->List c->Prop)->Prop
 |0,l,K=>K [] l
 |n+1,x::l,K=>F08 n l λa b=>K (x::a) b
 |_+1,[],_=>False
def headD(A:Ann)(st:St):List Nat->List (Nat×AV)->(List (Nat×AV)->Prop)->Prop
 | [],acc,K=>K acc
 |s::r,acc,K=>match Q09 s A.vars with
  |true=>headD A st r acc K
  |false=>match rdA st (j3 st.fr s)with
   | .own i k=>headD A st r ((s,.own i k)::acc) K
   | .box i o=>headD A st r ((s,.box i o)::acc) K
   |_=>headD A st r ((s,.dead)::acc) K
def S0m:List H5->Bool
 | []=>true
 | .val _::r=>S0m r
 | .own _ _::_=>false
def X06(A:Ann)(ds:List Nat)(st:St):List (Nat×AV)->(List (Nat×AV)->Prop)->Prop
 | [],K=>K []
 |(s,av)::r,K=>match Q09 s ds with
  |true=>X06 A ds st r K
  |false=>match rdA st av with
   | .own i k=>match Q09 i A.owns,Q09 i A.kept with
    |true,false=>X06 A (s::ds) st r λl=>K ((s,.dead)::l)
    |_,_=>X06 A (s::ds) st r λl=>K ((s,.own i k)::l)
   | .oel _ _ _ _ _=>X06 A (s::ds) st r λl=>K ((s,.dead)::l)
   | .agg cs=>match S0m cs with
    |true=>X06 A (s::ds) st r λl=>K ((s,.agg cs)::l)
    |false=>X06 A (s::ds) st r λl=>K ((s,.dead)::l)
   |a=>X06 A (s::ds) st r λl=>K ((s,a)::l)
def p0c:List Nat->List Value->List (Nat×AV)->List (Nat×AV)
 |s::r,v::vs,acc=>p0c r vs ((s,.val v)::acc)
 |_,_,acc=>acc
def B0d(b a:St):List (Nat×AV)->Bool
 | []=>true
 |(c,av)::r=>match av with
  | .own i _=>match rdA a (j3 a.fr c)with
   | .own j _=>match Nat.beq i j with
    |true=>B0d b a r
    |false=>false
   |_=>false
  | .box i o=>match rdA a (j3 a.fr c)with
   | .box j p=>match Nat.beq i j,Nat.beq o p with
    |true,true=>B0d b a r
    |_,_=>false
   |_=>false
  |_=>B0d b a r
def R0l:AV->Bool
 | .dead=>true
 |_=>false
def g0o:List (Nat×AV)->List AV
 | []=>[]
 |(_,av)::r=>match R0l av with
  |true=>g0o r
  |false=>av::g0o r
def Y0g(fr:List (Nat×AV)):List (Nat×AV)->List AV
 | []=>[]
 |(s,av)::r=>match R0l av with
  |true=>Y0g fr r
  |false=>j3 fr s::Y0g fr r
def Y06(c a:St):List H5->List H5->Bool
 | [],[]=>true
 | .val _::r,.val _::b=>Y06 c a r b
 | .own i _::r,.own j d::b=>match Nat.beq i j,rdA a (.own j d)with
  |true,.own _ _=>Y06 c a r b
  |_,_=>false
 |_,_=>false
def e0b(os:List Nat):List H5->Bool
 | []=>true
 | .val _::r=>e0b os r
 | .own i _::r=>match Q09 i os with
  |true=>false
  |false=>e0b os r
def S0l(os:List Nat):BSt->Bool
 | .live cs _=>e0b os cs
 | .publ _=>true
def q0c(A:Ann)(c a:St):Nat->List BSt->List BSt->Prop
 |_,[],_=>True
 |i,b::r,d::e=>match Q09 i A.boxes with
  |true=>match b,d with
   | .live cs ty,.live cs' f=>match Nat.beq ty f,Y06 c a cs cs' with
    |true,true=>q0c A c a (i+1) r e
    |_,_=>False
   |_,_=>False
  |false=>match S0l A.owns b with
   |true=>d=b/\q0c A c a (i+1) r e
   |false=>False
 |_,_::_,[]=>False
def leB(a b:Bool):Bool:=match a with
 |true=>b
 |false=>true
def r0c(A:Ann):Nat->List Own->List Own->Prop
 |_,[],_=>True
 |i,b::r,a::c=>match Q09 i A.owns with
  |true=>match b,a with
   |⟨h,.live e sz by_ nn _⟩,⟨j,.live f k d g _⟩=>match Nat.beq e f,Nat.beq sz k,Nat.beq by_ d,leB nn g,leB (Q09 i A.kept) (Nat.beq h j)with
    |true,true,true,true,true=>r0c A (i+1) r c
    |_,_,_,_,_=>False
   |_,_=>False
  |false=>a=b/\r0c A (i+1) r c
 |_,_::_,[]=>False
def f0b:Nat->(List Value->Prop)->Prop
 |0,K=>K []
 |n+1,K=>∀ v,f0b n λvs=>K (v::vs)
def g0b:Nat->(List (List (List Value))->Prop)->Prop
 |0,K=>K []
 |n+1,K=>∀ xs,g0b n λos=>K (xs::os)
abbrev s0c:=List Value->List (List (List Value))->Hp->Prop
abbrev e08:=List Value->List (List (List Value))->Nat
def V0q:List Value->List Value->Bool
 | [],[]=>true
 |_::r,_::a=>V0q r a
 |_,_=>false
def L0j(A:Ann)(I:s0c)(vs:List Value)(os:List (List (List Value)))(h:Hp):Prop:=match A.fuel with
 |false=>I vs os h
 |true=>∃ m:Nat,I (.int .i64 m::vs) os h
def M0j(A:Ann)(I:s0c)(μ:e08)(vs:List Value)(os:List (List (List Value)))(X:Nat->Hp->Prop):Prop:=match A.fuel with
 |false=>∀ h',I vs os h'->X (μ vs os) h'
 |true=>∀(m:Nat) (h':Hp),I (.int .i64 m::vs) os h'->X m h'
def W0q(A:Ann)(a:s0c)(μ:e08)(m:Nat)(vs:List Value)(os:List (List (List Value)))(h:Hp):Prop:=match A.fuel with
 |false=>a vs os h/\μ vs os<m
 |true=>∃ b:Nat,a (.int .i64 b::vs) os h/\b<m
def atI(A:Ann)(I:s0c)(μ:e08)(m:Nat)(vs:List Value)(os:List (List (List Value)))(h:Hp):Prop:=match A.fuel with
 |false=>I vs os h/\m=μ vs os
 |true=>I (.int .i64 m::vs) os h
theorem r0p{A:Ann}{b:s0c}{μ:e08}{vs:List Value}{os:List (List (List Value))}{h:Hp}(a:L0j A b vs os h):∃ m,atI A b μ m vs os h:=by
 unfold L0j at a
 unfold atI
 cases hf:A.fuel with
 |false=>rw[hf]at a;exact⟨_,a,rfl⟩
 |true=>rw[hf]at a;exact a
theorem s0p{A:Ann}{c:s0c}{μ:e08}{vs:List Value}{os:List (List (List Value))}{X:Nat->Hp->Prop}(b:M0j A c μ vs os X){m:Nat}{h:Hp}(a:atI A c μ m vs os h):X m h:=by
 unfold M0j at b
 unfold atI at a
 cases hf:A.fuel with
 |false=>rw[hf]at b a;rw[a.2];exact b _ a.1
 |true=>rw[hf]at b a;exact b _ _ a
theorem X0q{A:Ann}{b:s0c}{μ:e08}{m:Nat}{vs:List Value}{os:List (List (List Value))}{h:Hp}(a:W0q A b μ m vs os h):∃ c,atI A b μ c vs os h/\c<m:=by
 unfold W0q at a
 unfold atI
 cases hf:A.fuel with
 |false=>rw[hf]at a;exact⟨_,⟨a.1,rfl⟩,a.2⟩
 |true=>rw[hf]at a;exact a
def t0p(A:Ann)(d b:List (Nat×AV))(a:St)(c:s0c)(μ:e08)(f:List Value)(m:Nat)(st:St)(h:Hp):Prop :=
 match Nat.beq st.n a.n,B0d a st d with
 |true,true=>Y0g st.fr b=g0o b/\q0c A a st 0 a.bx st.bx/\r0c A 0 a.ow st.ow /\
   Q0l A st λvs os=>match V0q vs f with
    |true=>F08 A.vars.length vs λ_ e=>V06 A.boxes e a.bx λ_=>W06 A.owns os a.ow λ_=>W0q A c μ m vs os h
    |false=>False
 |_,_=>False
def T0m(i:(Ex->St->Hp->Prop)->St->Hp->Prop)(j:List Nat)(Q:Ex->St->Hp->Prop)(st:St)(h:Hp):Prop :=
 ∃(A:Ann) (b:s0c) (μ:e08),I0j A.nils st λst=>L0e A.nilsB st λst=>J0j A.pubs st h λst h=>Q0l A st λg d=>L0j A b g d h /\
  o0c j λds=>headD A st ds [] λc=>X06 A ds st st.fr λf =>
   f0b g.length λvs=>g0b d.length λos=>M0j A b μ vs os λm h' =>
    F08 A.vars.length vs λk l=>V06 A.boxes l st.bx λbx=>W06 A.owns os st.ow λow =>
     i (λe st' a=>match e with
      | .normal=>J0j A.pubs st' a λst' a=>t0p A c f st b μ vs m st' a
      |e=>Q e st' a) ⟨st.n,p0c A.vars k (c++f),bx,ow⟩ h'
def u0p(b:Bool)(X Y:Prop):Prop:=(b=true->X)/\(b=false->Y)
def ev(P:Program):Code->(Ex->St->Hp->Prop)->St->Hp->Prop
 | .skip,Q,st,h=>Q .normal st h
 | .region _ ops false,Q,st,h=>match S0q P ops.toList with
  |true=>A04 st.n ops.toList=true/\evU P ops.toList 0 [] [] st h λst h=>Q .normal st h
  |false=>y0d P ops.toList 0 ⟨st,h,[],[]⟩ λrs=>Q .normal rs.st rs.h
 | .region _ ops true,Q,st,h=>((P.follows .mixedOrders=true/\Region.lexB .any ops=true) /\
   evQ P ops.toList 0 ⟨st,h,[],[]⟩ λrs=>Q .normal rs.st rs.h) ∨
   False ∨
   (match m0p ops.toList with
    |none=>(P.follows .mixedOrders=true/\w03 st.n ops.toList=true)/\p04 P st h ops.toList 0 [] [] [] λL X E=>evD (q00 L st ops.toList) ops.size P X E L st h λst h=>Q .normal st h
    |some o=>(P.follows .mixedOrders=true/\(w03 st.n (V01 ops.toList)&&z0d ops.toList 0)=true)/\p04 P st h (V01 ops.toList) 0 [] [] [] λL X E=>evD (q00 L st (V01 ops.toList)) (V01 ops.toList).length P X E L st h λst h=>F04 P o st h λst h=>Q .normal st h) ∨
   ((P.follows .mixedOrders=true/\A04 st.n ops.toList=true)/\evU P ops.toList 0 [] [] st h λst h=>Q .normal st h) ∨
   (∃ m,(P.follows .mixedOrders=true/\okZ P st.n m ops.toList=true)/\evT P (F04 P) m ops.toList st h λst h=>Q .normal st h)
 | .seq a b,Q,st,h=>ev P a (λe st h=>match e with
  | .normal=>ev P b Q st h
  |e=>Q e st h) st h
 | .cond c t e,Q,st,h=>match rdO st c with
  | .val (.bool b)=>u0p b (ev P t Q st h) (ev P e Q st h)
  |_=>False
 | .block id c,Q,st,h=>ev P c (λe st h=>match e with
  | .exit i=>match Nat.beq i id with
   |true=>Q .normal st h
   |false=>Q (.exit i) st h
  |e=>Q e st h) st h
 | .loop d,Q,st,h=>T0m (λQ=>ev P d Q) (C0g d []) Q st h
 | .exit id,Q,st,h=>Q (.exit id) st h
 | .ret,Q,st,h=>Q .ret st h
 |_,_,_,_=>False
def T0l(P:Program):List ResultVar->St->Hp->(List Value->St->Hp->Prop)->Prop
 | [],st,h,K=>K [] st h
 | .tmp t::r,st,h,K=>rfy (rdA st (j3 st.fr t)) st h λv st h=>T0l P r st h λvs st h=>K (v::vs) st h
 | .cell t ty::r,st,h,K=>match rdA st (j3 st.fr t)with
  | .box i off=>match nth st.bx i with
   |some (.live cs _)=>C05 P ty cs off λav=>rfy av st h λv st h=>T0l P r st h λvs st h=>K (v::vs) st h
   |_=>False
  |_=>False
def N0j:List Value->Value
 | [v]=>v
 |vs => .tuple vs.toArray
def h0b:Nat->List Value->List (Nat×AV)
 |_,[]=>[]
 |i,v::r=>(i,.val v)::h0b (i+1) r
def n0s(P:Program)(fn:Func)(args:List Value)(h:Hp)(T:Value->Hp->Prop):Prop :=
 match fn.body with
 |some c=>match Nat.ble args.length fn.ntmps with
  |true=>ev P c (λe st h=>match e with
   | .exit _=>False
   |_=>T0l P fn.results.toList st h λvs _ h=>T (N0j vs) h) ⟨fn.ntmps,h0b 0 args,[],[]⟩ h
  |false=>False
 |none=>False
end Go.H
