/- The library of the walks, part HC: plain laws over the model. -/
import Derived.Test.YthakcafglempaaaGreatHB
namespace Go.H.R
set_option linter.all false
open Go.H
def wpR(P:Program){b:Type}:Sem b->Hp->(b->Hp->Prop)->Prop
 | .pure a,h,K=>K a h
 | .load _ a k,h,K=>∃ v,(a.spot=none/\Hp.cell h a.block a.off=some v)/\wpR P (k v) h K
 | .program k,h,K=>wpR P (k P) h K
 | .mark _ k,h,K=>wpR P k h K
 |_,_,_=>False
theorem wpR_sound{P:Program}{f:Type}{K:f->Hp->Prop}(e:Sem f):∀(h:Hp) (w:World),Vis h w->wpR P e h K->∃ x,e.run P w = .ok x w/\K x h:=by
 induction e with
 |pure a=>exact λh w c b=>⟨a,rfl,b⟩
 |load m a k d =>rintro h w c ⟨v,⟨i,g⟩,b⟩;grind[Sem.run,E09]
 |program k d=>exact λh w c b=>d _ _ _ c b
 |mark m k d=>exact λh w c b=>d _ _ c b
 |_=>exact λh w c b=>b.elim
theorem H8{P:Program}{e c:Type}(b:Sem e)(f:e->Sem c):∀(h:Hp) (K:c->Hp->Prop),wpR P (b >>= f) h K=wpR P b h (λx h'=>wpR P (f x) h' K):=by
 change ∀(h:Hp) (K:c->Hp->Prop),wpR P (b.bind f) h K=wpR P b h (λx h'=>wpR P (f x) h' K);induction b with
 |pure a=>intro h K;rfl
 |load m a k d=>grind[Sem.bind,wpR]
 |program k d=>grind[Sem.bind,wpR]
 |mark m k d=>grind[Sem.bind,wpR]
 |_=>intro h K;rfl
theorem H9{P:Program}{a:Type}(x:a)(h:Hp)(K:a->Hp->Prop):wpR P (pure x) h K=K x h:=rfl
section
variable {P:Program} {h0:Hp} {w0:World} {be:Nat->Nat} {oe:Nat->Value} {H:Hp} {st:St} {h:Hp} {a:Act} {w:World} {o:Oper}
theorem T02{t:TypeId}{d:TypeDesc}(a:P.underlying t=some d)(h:Hp)(K:TypeDesc->Hp->Prop):wpR P (underlying t) h K=K d h:=by simp_all[underlying,program,H8,wpR,H9]
theorem e0n{t:TypeId}{i:TypeInfo}(a:P.info? t=some i)(h:Hp)(K:TypeInfo->Hp->Prop):wpR P (typeInfo t) h K=K i h:=by grind[typeInfo,program,H8,wpR,H9]
theorem B0a{t:TypeId}{n:Nat}(a:o7 P t=some n)(h:Hp)(K:Nat->Hp->Prop):wpR P (sizeOf t) h K=K n h:=by grind[o7,sizeOf,H8,e0n,H9]
theorem t0l{t:TypeId}{b:Bool}(a:K0m P t=some b)(h:Hp)(K:Bool->Hp->Prop):wpR P (isAgg t) h K=K b h:=by unfold K0m at a;grind[isAgg,H8,T02,H9,absurd]
theorem c09{H:Hp}{b o:Nat}:∀(vs:List Value) (i:Nat) (acc:Array Value) (K:Array Value->Hp->Prop),(∀ j v,vs[j]?=some v->Hp.cell H b (o+i+j)=some v) -> K (acc++vs.toArray) H->wpR P (loadCellsFrom ⟨b,o,none⟩ i vs.length acc) H K
 | [],i,acc,K,_,c=>by grind[loadCellsFrom,H9]
 |v::vs,i,acc,K,a,c=>by
  have h0:=a 0 v oS;simp only[loadCellsFrom,List.length_cons,H8,load,wpR];have d:(⟨b,o,none⟩:Addr).add i=⟨b,o+i,none⟩:=by unfold Addr.add;split<;>simp_all
  rw[d];refine⟨v,⟨rfl,by simpa using h0⟩,c09 vs (i+1) (acc.push v) K ?_ ?_⟩;·intro j u e;have:=a (j+1) u (by simpa using e);grind
  simpa using c
theorem load_row{t:TypeId}{cs:List S6}{vs:List Value}{off:Nat}{K:AV->Prop}{b o:Nat}(a:h08 P t cs off K)(g:C2 st oe cs vs) (p:∀ j v,vs[j]?=some v->Hp.cell H b (o+j)=some v):∃ av v,K av/\J2 st be oe av v/\∀ d:Value->Hp->Prop,d v H->wpR P (loadVar t ⟨b,o+off,none⟩) H d:=by
 unfold h08 at a;split at a
 ·rename_i e;split at a
  ·rename_i n f;split at a
   ·rename_i l;have m:=o05 _ _ l;have h:=(g.drop off).take n;refine⟨_,.agg ((vs.drop off).take n).toArray,a,⟨_,rfl,h⟩,λd k=>?_⟩;have s:((vs.drop off).take n).length=n:=by rw[←h.length,m]
    simp only[loadVar,H8,t0l e,if_true,B0a f,loadCells];have:=c09 (P:=P) (H:=H) (b:=b) (o:=o+off) ((vs.drop off).take n) 0 #[] (λx h'=>wpR P (pure (Value.agg x)) h' d) (λj v q=>by grind) (by grind[H9]);grind
   exact a.elim
  exact a.elim
 ·rename_i e;split at a;·rename_i c f;obtain⟨v,u,i⟩:=g.nth f;refine⟨_,v,a,J2.ofCell i,λd k=>?_⟩;simp only[loadVar,H8,t0l e,Bool.false_eq_true,if_false,load,wpR];grind
  exact a.elim
 exact a.elim
theorem f00{P:Program}(b:Sem Value)(H:Hp)(a:Next->Hp->Prop)(h:wpR P b H (λv H=>a (.value v) H)):wpR P (do pure (Next.value (←b))) H a:=by rw[H8];exact h
theorem exec_fieldAddr{t:TypeId}{x:Operand}{k d b off:Nat}(h:o.op = .fieldAddr t x k)(i:L0m P t k=some d)(l:a.eval x=ptr b off): ∀ c:Next->Hp->Prop,c (.value (ptr b (off+d))) H->wpR P (execOp a.eval o) H c:=by intro c e;obtain⟨m,f,n,j,hf,g,rfl⟩:=r0l i;unfold execOp;rw[h];refine f00 _ _ _ ?_;simp only[Instr.fieldAt,H8,T02 j,hf,l,ptr,Instr.sureAddr,H9,fieldPlace,B0a g,Nat.add_one_ne_zero,if_false,Z03];exact e
theorem exec_indexAddr{t e:TypeId}{x i:Operand}{k:IntKind}{j:Int}{sz b off n c:Nat}(m:o.op = .indexAddr t x i)(q:q03 P t=some e)(p:o7 P e=some sz) (u:a.eval x = .slice (some ⟨b,off,none⟩) n c) (h:a.eval i = .int k j) (f:0<=j) (g:j<(n:Int)) : ∀ d:Next->Hp->Prop,d (.value (ptr b (off+j.toNat*sz))) H->wpR P (execOp a.eval o) H d:=by intro d l;have s:=z01 q;unfold execOp;rw[m];refine f00 _ _ _ ?_;simp only[Instr.indexAt,u,h,asIntOf,H8,H9,T02 s,f,g,and_self,if_true,B0a p,Z03];exact l
theorem L0c{x:Value}{k:IntKind}{i:Int}{y:Nat}{b:BoundsCode}(e:x = .int k i)(c:0<=i)(d:i<=(y:Int))(a:Nat->Hp->Prop):wpR P (Instr.sliceBound x y b) H a=a i.toNat H:=by subst e;simp only[Instr.sliceBound,asIntOf,H8,H9,c,d,and_self,if_true]
theorem W0i{isS:Bool}{n c:Nat}{f b:Option Operand}{l m:Int}(i:s08 a 0 f l)(d:s08 a n b m)(h:0<=l)(s:l<=m)(t:m<=(n:Int))(u:n<=c) (g:Nat×Nat×Nat->Hp->Prop):wpR P (Instr.sliceBounds isS n c (f.map a.eval) (b.map a.eval) none) H g=g (l.toNat,m.toNat,c) H:=by
 have q:l<=(m.toNat:Int):=oM;cases f with
 |none =>
  have p:l=0:=i;subst p;cases b with
  |none =>have j:m=(n:Int):=d;simp_all[Instr.sliceBounds,Option.map_none,H8,H9]
  |some y =>obtain⟨k,e⟩:=d;simp only[Instr.sliceBounds,Option.map_none,Option.map_some,H8,H9,L0c e oM (show m<=(c:Int) by omega)];rfl
 |some x =>
  obtain⟨k,o⟩:=i;cases b with
  |none =>have j:m=(n:Int):=d;subst j;simp only[Instr.sliceBounds,Option.map_none,Option.map_some,H8,H9,L0c o h (show l<=((n:Nat):Int) by omega)];rfl
  |some y =>obtain⟨v,e⟩:=d;simp only[Instr.sliceBounds,Option.map_some,H8,H9,L0c e oM (show m<=(c:Int) by omega),L0c o h q]
theorem exec_cutStr{t:TypeId}{x:Operand}{e d:Option Operand}{b:ByteArray}{l m:Int}(n:o.op = .slice t x e d none)(p:P.underlying t=some .string) (q:a.eval x = .string b) (j:s08 a 0 e l) (k:s08 a b.size d m) (f:0<=l) (g:l<=m) (h:m<=(b.size:Int)) : ∀ c:Next->Hp->Prop,c (.value (.string (b.extract l.toNat m.toNat))) H->wpR P (execOp a.eval o) H c:=by intro c i;unfold execOp;rw[n];refine f00 _ _ _ ?_;simp only[Instr.sliceAt,H8,T02 p,Instr.slice,q,Option.map_none,Option.isSome_none,Bool.false_eq_true,if_false,H9];rw[W0i j k f g h (Nat.le_refl _)];exact i
theorem exec_index{t:TypeId}{x i:Operand}{b:ByteArray}{k:IntKind}{j:Int}{c:UInt8}(l:o.op = .index t x i)(m:P.underlying t=some .string)(n:a.eval x = .string b)(g:a.eval i = .int k j) (e:0<=j) (f:b[j.toNat]?=some c):∀ d:Next->Hp->Prop,d (.value (.int .u8 c.toNat)) H->wpR P (execOp a.eval o) H d:=by intro d h;unfold execOp;rw[l];refine f00 _ _ _ ?_;simp only[Instr.index,n,g,asIntOf,H8,H9,T02 m,e,if_true,f];exact h
theorem exec_cat{t j:TypeId}{x y:Operand}{b c:ByteArray}(g:o.op = .binOp .add t x y j)(h:a.eval x = .string b)(i:a.eval y = .string c)(k:b.size+c.size<=9223372036854775807): ∀ d:Next->Hp->Prop,d (.value (.string (b++c))) H->wpR P (execOp a.eval o) H d:=by
 intro d e;unfold execOp;rw[g];refine f00 _ _ _ ?_;have f : ¬ (((b.size+c.size:Nat):Int)>IntKind.i64.max):=by have:IntKind.i64.max=9223372036854775807:=oD;rw[this];omega
 simp only[h,i,eqGuard,H8,Bool.not_false,if_true,H9,binOp,Go.Op.stringOp,if_neg f];exact e
theorem exec_quo{t j:TypeId}{x y:Operand}{b c:Int}(g:o.op = .binOp .quo t x y j)(h:a.eval x = .int .i64 b)(i:a.eval y = .int .i64 c)(f:c≠0): ∀ d:Next->Hp->Prop,d (.value (.int .i64 (IntKind.i64.wrap (b.tdiv c)))) H->wpR P (execOp a.eval o) H d:=by intro d e;unfold execOp;rw[g];refine f00 _ _ _ ?_;simp only[h,i,eqGuard,H8,Bool.not_false,if_true,H9,binOp,Go.Op.intDiv,if_neg f,ne_eq,not_true_eq_false,if_false];exact e
theorem exec_rem{t j:TypeId}{x y:Operand}{b c:Int}(g:o.op = .binOp .rem t x y j)(h:a.eval x = .int .i64 b)(i:a.eval y = .int .i64 c)(f:c≠0): ∀ d:Next->Hp->Prop,d (.value (.int .i64 (b.tmod c))) H->wpR P (execOp a.eval o) H d:=by intro d e;unfold execOp;rw[g];refine f00 _ _ _ ?_;simp only[h,i,eqGuard,H8,Bool.not_false,if_true,H9,binOp,Go.Op.intDiv,if_neg f,ne_eq,not_true_eq_false,if_false];exact e
theorem exec_slice{t e sz:Nat}{x:Operand}{g f:Option Operand}{d:Option Addr}{n c:Nat}{l m:Int}(s:o.op = .slice t x g f none)(u:q03 P t=some e)(y:o7 P e=some sz) (v:a.eval x = .slice d n c) (k:s08 a 0 g l) (p:s08 a n f m) (h:0<=l) (i:l<=m) (j:m<=(n:Int)) (q:n<=c) : ∀ b:Next->Hp->Prop,b (.value (.slice (if c=l.toNat then d else d.map (·.add (l.toNat*sz))) (m.toNat-l.toNat) (c-l.toNat))) H->wpR P (execOp a.eval o) H b:=by intro b w;unfold execOp;rw[s];refine f00 _ _ _ ?_;simp only[Instr.sliceAt,H8,T02 (z01 u),Instr.slice,v,Option.map_none];rw[W0i k p h i j q];grind[B0a,H9]
theorem exec_load{t:TypeId}{x:Operand}{b off:Nat}{v:Value}(d:o.op = .load t x)(g:a.eval x=ptr b off) (f:∀ c:Value->Hp->Prop,c v H->wpR P (loadVar t ⟨b,off,none⟩) H c):∀ c:Next->Hp->Prop,c (.value v) H->wpR P (execOp a.eval o) H c:=by intro c e;unfold execOp;rw[d];refine f00 _ _ _ ?_;grind[Instr.loadAt,ptr,Instr.sureAddr,H8,H9]
theorem run_of{v:Value}(e:∀ b:Next->Hp->Prop,b (.value v) H->wpR P (execOp a.eval o) H b)(w:World)(d:Vis H w):(execOp a.eval o).run P w = .ok (.value v) w:=by obtain⟨x,c,f⟩:=wpR_sound _ _ w d (e (λn _=>n = .value v) rfl);rw[c,f]
end
end Go.H.R
namespace Go.H
set_option linter.all false
section
variable {P:Program} {h0:Hp} {w0:World} {be:Nat->Nat} {oe:Nat->Value} {H:Hp} {rs:RS} {a:Act} {w:World} {o:Oper} {ops:Array Oper} {i:Nat}
theorem b0z{a b:Bool}(h:eqB a b=true):a=b:=by cases a<;>cases b<;>simp_all [eqB]
theorem f0n:∀(a b:List (Nat×Bool)),V0u a b=true->a=b
 | [],[],_=>rfl
 |(j,w)::r,(f,g)::e,h=>by
  simp only[V0u]at h;split at h;·rename_i c d;rw[Nat.eq_of_beq_eq_true c,b0z d,f0n r e h]
  cases h
 | [],_::_,h=>by cases h
 |_::_,[],h=>by cases h
theorem J06:∀ {bs:List BE} {j:Nat} {b:BE},H05 bs j=some b->b∈bs/\b.j=j
 | [],_,_,h=>by cases h
 |x::r,j,b,h=>by
  simp only[H05]at h;split at h;·simp_all
  obtain⟨a,c⟩:=J06 h;grind
theorem y0g:∀ {bs:List BE} {a:Nat} {b:BE},L0e bs a=some b->b∈bs/\b.d=a
 | [],_,_,h=>by cases h
 |x::r,j,b,h=>by
  simp only[L0e]at h;split at h;·simp_all
  obtain⟨c,e⟩:=y0g h;grind
theorem X0i:∀ {bs:List BE} {c:Nat},L0e bs c=none->∀ b∈bs,b.d≠c
 | [],_,_,b,a=>by cases a
 |x::r,c,h,b,a=>by
  simp only[L0e]at h;split at h;·cases h
  rename_i e;rcases List.mem_cons.1 a with rfl|a;·exact Nat.ne_of_beq_eq_false e
  exact X0i h b a
theorem P07(bs:List BE)(j:Nat)(w:Bool)(r:List (Nat×Bool)):cB bs ((j,w)::r)=match H05 bs j,cB bs r with
  |some b,some c=>some (lit w b.e&&c)
  |_,_=>none:=by
 grind[cB,H05,lit]
theorem h0x{bs:List BE}{x:Nat×Bool}{r:List (Nat×Bool)}(h:cB bs (x::r)=some true):cB bs r=some true:=by rw[P07]at h;grind
theorem M0c{bs:List BE}{p:List (Nat×Bool)}:∀ {q:List (Nat×Bool)},g0o p q=true->cB bs q=some true->cB bs p=some true
 | [],h,a=>by rw[f0n _ _ h];exact a
 |x::r,h,a=>by
  simp only[g0o]at h;split at h;·grind[f0n]
  exact M0c h (h0x a)
theorem W0q{bs:List BE}{x:BE}(f:∀ y∈bs,y.j≠x.j):∀ {ch:List (Nat×Bool)} {c:Bool},cB bs ch=some c->cB (x::bs) ch=some c
 | [],c,h=>h
 |(j,w)::r,c,h=>by
  rw[P07]at h;split at h
  ·rename_i b g d a;have l:Nat.beq x.j j=false:=by obtain⟨i,k⟩:=J06 d;grind[Nat.beq,absurd,Nat.eq_of_beq_eq_true]
   have e:H05 (x::bs) j=some b:=by grind[H05]
   rw[P07,e,W0q f a];exact h
  cases h
structure F0b (ops:Array Oper) (be:Nat->Nat) (oe:Nat->Value) (rs:RS) (a:Act) (i:Nat):Prop where
 lt:∀ x∈rs.bs,x.j<i/\∃ o,ops[x.j]?=some o/\o.dst=some x.d
 val:∀ x∈rs.bs,∃ c,cB rs.bs x.ch=some c/\a.tmps[x.d]?=some (if c=true then .bool x.e else undef)
 gf:∀ d ch av,K0i rs.gf d=some (ch,av)->∃ c,cB rs.bs ch=some c/\(c=true->J2 rs.st be oe av (a.tmps.getD d undef))
theorem F0b.grow(r:F0b ops be oe rs a i){st:St}{h:Hp}{be':Nat->Nat}{oe':Nat->Value}(g:I8 rs.st be oe st be' oe'):F0b ops be' oe' { rs with st:=st,h:=h } a i :=
 ⟨r.lt,r.val,λd ch av e=>let ⟨c,h1,h2⟩:=r.gf d ch av e;⟨c,h1,λb=>(h2 b).grow g⟩⟩
theorem u0l(r:F0b ops be oe rs a i){ch:List (Nat×Bool)}{c:Bool}(d:I01 rs.bs o.guard=some ch)(f:cB rs.bs ch=some c):Region.wanted o (yielded ops a.tmps)=c:=by
 unfold Region.wanted;cases hg:o.guard with
 |none =>rw[hg]at d;cases d;cases f;rfl
 |some p =>
  obtain⟨j,w⟩:=p;rw[hg]at d;simp only[I01]at d;split at d
  ·rename_i b h;cases d;obtain⟨k,rfl⟩:=J06 h;obtain⟨_,t,n,m⟩:=r.lt b k;obtain⟨g,l,q⟩:=r.val b k;rw[P07,h,l]at f;simp only[Option.some.injEq]at f;have s:yielded ops a.tmps b.j=if g=true then some b.e else none:=by unfold yielded;simp only[n,m,oB,q];cases g<;>rfl
   simp only[s,←f];cases g<;>cases w<;>cases b.e<;>rfl
  cases d
theorem c0f(n:Sim P h0 w0 be oe H rs.st rs.h a w)(r:F0b ops be oe rs a i){ch:List (Nat×Bool)}(k:cB rs.bs ch=some true)(x:Operand): (∃ b,J2 rs.st be oe b (a.eval x)/\rdG rs ch x=rdA rs.st b):=by
 cases x with
 |tmp t =>
  simp only[rdG];split
  ·rename_i e av l;split;·rename_i m;obtain⟨c,d,j⟩:=r.gf t e av l;rw[M0c m k]at d;cases d;exact⟨av,j rfl,rfl⟩
   exact⟨.dead,trivial,rfl⟩
  exact⟨_,n.fr t,rfl⟩
 |const v=>exact⟨.val v,rfl,rfl⟩
 |global g=>exact⟨.dead,trivial,rfl⟩
 |func f=>exact⟨.val _,rfl,rfl⟩
theorem K06(z:Sim P h0 w0 be oe H rs.st rs.h a w)(r:F0b ops be oe rs a i)(V:ops[i]?=some o){ch:List (Nat×Bool)}{c:Bool}{av:AV}{v:Value}{K:RS->Prop}
  (F:cB rs.bs ch=some c) (g:c=true->J2 rs.st be oe av v) (M:c=false->v=undef) (m:V0d o.dst i ch av rs K) :
  ∃ D,K D/\D.h=rs.h/\F0b ops be oe D (a.put o.dst v) (i+1)/\Sim P h0 w0 be oe H D.st D.h (a.put o.dst v) w:=by
 cases hd:o.dst with
 |none =>
  rw[hd]at m
  exact⟨rs,m,rfl,⟨λx p=>⟨Nat.lt_succ_of_lt (r.lt x p).1,(r.lt x p).2⟩,r.val,r.gf⟩,z⟩
 |some d =>
  rw[hd]at m
  simp only[V0d]at m
  split at m
  ·rename_i Q Y
   have G:d<rs.st.n:=Nat.le_of_ble_eq_true Q
   have Z:K0i rs.gf d=none/\L0e rs.bs d=none:=by
    grind[s0b]
   have T:∀ t,t≠d->(a.put (some d) v).tmps[t]?=a.tmps[t]?:=λt R=>by
    simp[Act.put,Array.getElem?_setIfInBounds_ne (Ne.symm R)]
   have O:(a.put (some d) v).tmps[d]?=some v:=by simp[Act.put,z.siz,G]
   have p:∀ y∈rs.bs,y.j≠i:=λy S e=>by have:=(r.lt y S).1;omega
   have u:(∀ x∈i0o i d ch av rs.bs,x.j<i+1/\∃ o,ops[x.j]?=some o/\o.dst=some x.d) /\
     (∀ x∈i0o i d ch av rs.bs,∃ c,cB (i0o i d ch av rs.bs) x.ch=some c/\(a.put (some d) v).tmps[x.d]?=some (if c=true then .bool x.e else undef)) /\
     (∀ f b,cB rs.bs f=some b->cB (i0o i d ch av rs.bs) f=some b):=by
    have W:∀ x∈rs.bs,x.j<i+1/\∃ o,ops[x.j]?=some o/\o.dst=some x.d:=λx p=>⟨Nat.lt_succ_of_lt (r.lt x p).1,(r.lt x p).2⟩
    have X:∀ x∈rs.bs,∃ c,cB rs.bs x.ch=some c/\(a.put (some d) v).tmps[x.d]?=some (if c=true then .bool x.e else undef):=λx p=>by
     obtain⟨c,s,A⟩:=r.val x p
     grind[X0i]
    unfold i0o
    split
    ·rename_i e
     have J:∀ f b,cB rs.bs f=some b->cB (⟨i,d,e,ch⟩::rs.bs) f=some b:=λf b h'=>W0q (x:=⟨i,d,e,ch⟩) p h'
     refine⟨λx I=>?_,λx I=>?_,J⟩
     ·grind
     ·rcases List.mem_cons.1 I with rfl|I
      ·refine⟨c,J _ _ F,?_⟩
       rw[O]
       cases c with
       |true=>rw[show v = .bool e from g rfl];rfl
       |false=>rw[M rfl];rfl
      grind
    grind
   have E:∀ k,I8 rs.st be oe { rs.st with fr:=(d,k)::rs.st.fr } be oe:=λk=>⟨Nat.le_refl _,λ_ _=>rfl,λi z h=>⟨z,h,Nat.le_refl _,λ_=>rfl⟩⟩
   have L:∀ l f k,K0i rs.gf l=some (f,k)->∃ b,cB (i0o i d ch av rs.bs) f=some b/\(b=true->J2 rs.st be oe k ((a.put (some d) v).tmps.getD l undef)):=λl f k q=>by
    obtain⟨b,s,A⟩:=r.gf l f k q
    refine⟨b,u.2.2 _ _ s,λC=>?_⟩
    have U:l≠d:=λe=>by grind
    simp_all
   split at m
   ·
    cases F
    refine⟨_,m,rfl,⟨u.1,u.2.1,λl f k q=>?_⟩,z.put G (g rfl)⟩
    obtain⟨b,s,A⟩:=L l f k q
    exact⟨b,s,λC=>(A C).grow (E av)⟩
   ·refine⟨_,m,rfl,⟨u.1,u.2.1,λl f k q=>?_⟩,z.put G (show J2 rs.st be oe .dead v from trivial)⟩
    simp only[K0i]at q
    split at q
    ·rename_i N
     cases q
     have:=Nat.eq_of_beq_eq_true N
     subst this
     refine⟨c,u.2.2 _ _ F,λC=>(J2.grow (E .dead) ?_)⟩
     simp_all
    ·obtain⟨b,s,A⟩:=L l f k q
     exact⟨b,s,λC=>(A C).grow (E .dead)⟩
  ·exact m.elim
end
section
variable {P:Program} {h0:Hp} {w0:World} {be:Nat->Nat} {oe:Nat->Value} {H:Hp} {rs:RS} {a:Act} {w:World} {o:Oper} {ops:Array Oper} {i:Nat}
theorem G0b{bs:List BE}{ch:List (Nat×Bool)}{c:Bool}{a:Prop}(h:imp ch c a)(b:c=true):a:=by grind[imp]
def CW(H:Hp)(w:World):World->Prop:=λa=>T2 H w H a
theorem a0b{v:Value}(c:∀ b,Vis H b->(execOp a.eval o).run P b = .ok (.value v) b):∀ b,CW H w b->o.quietAt P a (CW H w) b v:=λb m=>by unfold Oper.quietAt;rw[c b m.vis];exact⟨rfl,rfl⟩
theorem c06{v:Value}(e:∀ c:Next->Hp->Prop,c (.value v) H->R.wpR P (execOp a.eval o) H c):∀ b,CW H w b->o.quietAt P a (CW H w) b v :=
 a0b λb d=>R.run_of e b d
theorem T2.widen{hf:Hp}{w d:World}(c:Vis H w)(e:∀ b o,hf b=some o->H b=some o)(m:T2 hf w hf d):T2 H w H d:=by
 refine⟨m.os,m.tape,m.output,m.size,?_,?_,λb a => .inl a,m.fz,m.dn⟩
 ·intro b a g;refine m.keep b a ?_;cases hc:hf b with
  |none=>rfl
  |some o=>grind
 intro b o a;cases hc:hf b with
 |some f =>have:=e b f hc;rw[this]at a;cases a;exact m.vis b _ hc
 |none=>rw[m.keep b (c.lt (by rw[a];simp)) hc];exact c b o a
theorem t08{ch:List (Nat×Bool)}(G:∀ x,J2 rs.st be oe (rdG rs ch x) (a.eval x)):∀(l:List Operand) {vs:List (Nat×Value)},h0o rs ch l=some vs -> (∀ p∈vs,p.2=a.eval (.tmp p.1))/\(∀ x∈l,(∃ t v,x = .tmp t/\(t,v)∈vs)∨(∀ ws,rho ws x=a.eval x))
 | [],vs,h=>by cases h;simp
 | .tmp t::r,vs,h=>by
  simp only[h0o]at h;split at h
  ·rename_i v g;split at h;·rename_i i e;cases h;obtain⟨c,d⟩:=t08 G r e;grind[T6,List.mem_cons_self,mC]
   cases h
  cases h
 | .global _::r,vs,h=>by cases h
 | .const v::r,vs,h=>by
  obtain⟨c,d⟩:=t08 G r (vs:=vs) h;exact⟨c,λx b=>by
   rcases List.mem_cons.1 b with rfl|b;·exact .inr λ_=>rfl
   exact d x b⟩
 | .func f::r,vs,h=>by
  obtain⟨c,d⟩:=t08 G r (vs:=vs) h;exact⟨c,λx b=>by
   rcases List.mem_cons.1 b with rfl|b;·exact .inr λ_=>rfl
   exact d x b⟩
abbrev O0z(P:Program)(be:Nat->Nat)(oe:Nat->Value)(H:Hp)(rs:RS)(a:Act)(w:World)(o:Oper)(c:Bool)(K:AV->Prop):Prop :=
 ∃ av,K av/\(c=true->∃ v,J2 rs.st be oe av v/\∀ b,CW H w b->o.quietAt P a (CW H w) b v)
variable {ch:List (Nat×Bool)} {c:Bool} {K:AV->Prop}
theorem C0a(G:∀ x,J2 rs.st be oe (rdG rs ch x) (a.eval x)):∀(l:List Operand) {st:St} {h:Hp} {K:List (Nat×Value)->St->Hp->Prop},Sim P h0 w0 be oe H st h a w->I8 rs.st be oe st be oe->b0x rs ch l st h K -> ∃ vs st' h',K vs st' h'/\Sim P h0 w0 be oe H st' h' a w/\(∀ p∈vs,p.2=a.eval (.tmp p.1))/\(∀ x∈l,(∃ t v,x = .tmp t/\(t,v)∈vs)∨(∀ ws,rho ws x=a.eval x))
 | [],st,h,K,c,d,b=>⟨[],st,h,b,c,oS,oS⟩
 | .tmp t::r,st,h,K,c,d,b=>by obtain⟨s,q,n,s1,o⟩:=I05 c (c.rdA ((G (.tmp t)).grow d)) b;obtain⟨vs,m,i,g,s2,j,k⟩:=C0a G r s1 (d.trans o) n;grind
 | .const v::r,st,h,K,c,d,b=>by
  obtain⟨vs,m,i,g,s2,j,k⟩:=C0a G r c d b;refine⟨vs,m,i,g,s2,j,λx e=>?_⟩;rcases List.mem_cons.1 e with rfl|e;·exact .inr λ_=>rfl
  exact k x e
 | .func f::r,st,h,K,c,d,b=>by
  obtain⟨vs,m,i,g,s2,j,k⟩:=C0a G r c d b;refine⟨vs,m,i,g,s2,j,λx e=>?_⟩;rcases List.mem_cons.1 e with rfl|e;·exact .inr λ_=>rfl
  exact k x e
 | .global _::_,_,_,_,_,_,b=>b.elim
theorem L00(z:Sim P h0 w0 be oe H rs.st rs.h a w)(G:c=true->∀ x,J2 rs.st be oe (rdG rs ch x) (a.eval x))(d:O0m P o ch c rs K):O0z P be oe H rs a w o c K:=by
 unfold O0m at d;split at d
 ·rename_i vs D C;split at d
  ·rename_i f l n;split at d;·rename_i u;obtain⟨v,y,s⟩:=d;refine⟨_,s,λg=>?_⟩;obtain⟨k,p⟩:=t08 (G g) _ C;rw[o08 k p]at n;refine⟨v,rfl,λj m=>?_⟩;unfold Oper.quietAt;rw[E0c n u];refine⟨rfl,((G0b (bs:=rs.bs) y g).run j (λb o q=>m.vis b o (z.sub b o q))).mono ?_⟩;rintro e J ⟨I,h',rfl,⟨rfl,rfl⟩,t⟩;exact⟨rfl,T2.trans m (T2.widen m.vis z.sub t)⟩
   exact d.elim
  split at d;·rename_i v A;refine⟨_,d,λg=>?_⟩;obtain⟨k,p⟩:=t08 (G g) _ C;rw[U0e,F0c D k p]at A;exact⟨v,rfl,a0b λj _=>Z0r _ A j⟩
  exact d.elim
 ·obtain⟨r,y,s⟩:=d;refine⟨_,s,λg=>⟨r,rfl,λj m=>?_⟩⟩;obtain⟨vs,L,k,i,s1,E,F⟩:=C0a (G g) _ z (I8.refl _ _ _) (G0b (bs:=rs.bs) y g);rw[o08 E F]at i;split at i
  ·rename_i f l n;split at i;·rename_i u;unfold Oper.quietAt;rw[E0c n u];refine⟨rfl,(i.run j (λb o q=>m.vis b o (s1.sub b o q))).mono ?_⟩;rintro e J ⟨I,h',rfl,⟨rfl,rfl⟩,t⟩;exact⟨rfl,T2.trans m (T2.widen m.vis s1.sub t)⟩
   exact i.elim
  exact i.elim
 exact d.elim
theorem d09{d l:Int}{x:Option Operand}(G:∀ x,J2 rs.st be oe (rdG rs ch x) (a.eval x))(b:X08 d (x.map (rdG rs ch))=some l):s08 a d x l:=by
 cases x with
 |none=>simp only[Option.map_none,X08,Option.some.injEq]at b;exact b.symm
 |some y =>
  have g:=G y;simp only[Option.map_some]at b;cases hr:rdG rs ch y with
  |val v =>rw[hr]at b g;cases v<;>simp only[X08,Option.some.injEq]at b<;>first|(subst b;exact⟨_,g⟩)|cases b
  |_=>rw[hr]at b;cases b
theorem m0v(o:Sim P h0 w0 be oe H rs.st rs.h a w){d:AV}{x:Value}(p:J2 rs.st be oe d x){cs:List S6}(b:m02 (rdA rs.st d)=some cs):C2 rs.st oe cs x.cells.toList:=by
 have g:=o.rdA p;cases hr:rdA rs.st d with
 |val v =>rw[hr]at b g;have f:x=v:=g;rw[f];cases v<;>simp only[m02,Option.some.injEq]at b<;>first|(subst b;first|exact C2.vals _ _ _|exact⟨rfl,trivial⟩)|cases b
 |own i k =>rw[hr]at b g;obtain⟨e,sz,by_,nn,xs,j⟩:=v0a hr;simp only[m02,Option.some.injEq]at b;subst b;have l:x=oe i:=g.own_cur j;obtain⟨y,n,c,m⟩:=Q0i o j;rw[l,m];rw[l,m]at g;exact⟨g,trivial⟩
 |agg cs' =>rw[hr]at b g;simp only[m02,Option.some.injEq]at b;subst b;obtain⟨vs,f,q⟩:=g;rw[f];exact q
 |_=>rw[hr]at b;cases b
set_option maxHeartbeats 1000000 in
theorem L0t(C:Sim P h0 w0 be oe H rs.st rs.h a w)(r:F0b ops be oe rs a i)(au:cB rs.bs ch=some c)(s:evG P o ch c rs K):O0z P be oe H rs a w o c K:=by
 have ac:c=true->∀ x,∃ M,J2 rs.st be oe M (a.eval x)/\rdG rs ch x=rdA rs.st M:=λh x=>by subst h;exact c0f C r au x
 have G:c=true->∀ x,J2 rs.st be oe (rdG rs ch x) (a.eval x):=λh x=>by obtain⟨M,g,e⟩:=ac h x;rw[e];exact C.rdA g
 have L:∀ {aO:Prop},imp ch c aO->c=true->aO:=λh au=>G0b (bs:=rs.bs) h au;have bJ:∀ F,CW H w F->Vis H F:=λF m=>m.vis;cases ho:o.op with
 |move x =>
  simp only[evG,ho]at s;have D:K (rdG rs ch x):=by revert s;cases rdG rs ch x<;>intro s<;>first|exact s|exact s.elim
  refine⟨_,D,λh=>⟨_,G h x,a0b λF _=>?_⟩⟩;unfold execOp;rw[ho];rfl
 |assign x =>
  simp only[evG,ho]at s;have D:K (rdG rs ch x):=by revert s;cases rdG rs ch x<;>intro s<;>first|exact s|exact s.elim
  refine⟨_,D,λh=>⟨_,G h x,a0b λF _=>?_⟩⟩;unfold execOp;rw[ho];rfl
 |pick ad x y =>
  cases ad with
  |tmp t =>
   simp only[evG,ho]at s;split at s
   ·rename_i e q aM bl;split at s
    ·rename_i bn;split at s
     ·rename_i bx by_ u J;refine⟨_,s,λh=>?_⟩;have aV:=G h (.tmp t);rw[aM]at aV;have bf:a.eval (.tmp t) = .bool e:=aV;subst h;obtain⟨X,bm⟩:=y0g bl;have aL:=M0c bn au;obtain⟨aS,E,aj⟩:=r.val q X;rw[aL]at E;cases E;have bM:q.e=e:=by
       have:a.eval (.tmp t) = .bool q.e:=by simp only[Act.eval,←bm,Array.getD_eq_getD_getElem?,aj];rfl
       grind
      have W:∃ b,H05 rs.bs q.j=some b:=by
       have:∀(l:List BE),q∈l->∃ b,H05 l q.j=some b:=by
        intro l;induction l with
        |nil=>intro h;cases h
        |cons z l br =>grind[H05,absurd,Nat.ne_of_beq_eq_false]
       exact this _ X
      obtain⟨b,V⟩:=W;obtain⟨aX,bh⟩:=J06 V;have aW:b.e=e/\cB rs.bs b.ch=some true:=by
       obtain⟨_,bQ,aP,aQ⟩:=r.lt b aX;obtain⟨_,bR,O,Q⟩:=r.lt q X;rw[bh,O]at aP;cases aP;rw[Q]at aQ;have bK:q.d=b.d:=by simpa using aQ
       obtain⟨aS,am,an⟩:=r.val b aX;grind[undef]
      refine⟨.bool (cond e bx by_),rfl,a0b λF _=>?_⟩;unfold execOp;rw[ho];simp only[bf,Sem.run_bind,asBool,Sem.run_pure,Result.andThen_ok];cases e
      ·have aH:cB rs.bs ((q.j,false)::q.ch)=some true:=by rw[P07,V,aL];simp[lit,aW.1]
       obtain⟨M,ap,aq⟩:=c0f C r aH y;have ai:=C.rdA ap;rw[←aq,J]at ai;have aC:a.eval y = .bool by_:=ai;simp[aC]
      have aH:cB rs.bs ((q.j,true)::q.ch)=some true:=by rw[P07,V,aL];simp[lit,aW.1]
      obtain⟨M,ap,aq⟩:=c0f C r aH x;have ai:=C.rdA ap;rw[←aq,u]at ai;have aC:a.eval x = .bool bx:=ai;simp[aC]
     exact s.elim
    exact s.elim
   exact s.elim
  |_=>simp only[evG,ho]at s;exact L00 C G s
 |fieldAddr t x k =>
  simp only[evG,ho]at s;split at s;·rename_i j off ah I aa;refine⟨_,s,λh=>?_⟩;have g:=G h x;rw[I]at g;exact⟨ptr (be j) (off+ah),⟨g.1,rfl⟩,c06 (R.exec_fieldAddr ho aa g.2)⟩
  ·rename_i sl j sz ao ah I aa;refine⟨_,s,λh=>?_⟩;have g:=G h x;rw[I]at g;obtain⟨b,az,n,S,N,ag⟩:=g;exact⟨ptr b (az+(j.toNat*sz+ao)+ah),⟨b,az,n,S,N,by simp[Nat.add_assoc]⟩,c06 (R.exec_fieldAddr ho aa ag)⟩
  ·rename_i aZ bt j sz ao ah I aa;refine⟨_,s,λh=>?_⟩;have g:=G h x;obtain⟨M,_,U⟩:=ac h x;rw[I]at g;obtain⟨aB,aA,aR,a0,a2,Z⟩:=U0m (U.symm.trans I);obtain⟨ar,n,S,N,ag⟩:=g.oel_cur Z;exact⟨ptr ar (j.toNat*sz+ao+ah),⟨bt,by simp[stamp,Z],Nat.le_refl _,λ_=>⟨ar,n,S,N,by simp[Nat.add_assoc]⟩⟩,c06 (R.exec_fieldAddr ho aa ag)⟩
  exact s.elim
 |indexAddr t x ax =>
  simp only[evG,ho]at s;split at s
  ·rename_i bu j ak;split at s
   ·rename_i e af;split at s
    ·rename_i sz aw;split at s;·rename_i a4 n S u;refine⟨_,s.2,λh=>?_⟩;obtain⟨b,off,aN,aS,N,O,Q⟩:=L s.1 h;cases N;have A:=G h x;rw[u]at A;have gi:=G h ax;rw[ak]at gi;exact⟨ptr b (off+j.toNat*sz),⟨b,off,n,S,rfl,oS⟩,c06 (R.exec_indexAddr ho af aw A gi O Q)⟩
     ·rename_i aZ ao u;split at s
      ·rename_i a1 bc aA by_ nn xs Y;split at s
       ·rename_i V;refine⟨_,s.2,λh=>?_⟩;obtain⟨O,Q⟩:=L s.1 h;have:=Nat.eq_of_beq_eq_true V;subst this;have A:=G h x;obtain⟨M,_,U⟩:=ac h x;rw[u]at A;have gi:=G h ax;rw[ak]at gi;obtain⟨aB,bB,aR,a0,a2,Z⟩:=v0a (U.symm.trans u);have aY:=A.own_cur Z;have ae:=C.own aZ _ _ _ _ _ _ Y;rcases ae.2 with⟨ab,bp,_⟩|⟨g,cap,cur,ab,_⟩;·grind
        rw[ab]at aY;refine⟨ptr g (0+j.toNat*aA),⟨ao,by simp[stamp,Z],Nat.le_refl _,λ_=>⟨g,xs.length,cap,ab,oS⟩⟩,c06 (R.exec_indexAddr ho af aw aY gi O Q)⟩
       exact s.elim
      exact s.elim
     exact s.elim
    exact s.elim
   exact s.elim
  exact s.elim
 |load t x =>
  simp only[evG,ho]at s;split at s
  ·rename_i j off I;split at s;·rename_i cs ty Y;obtain⟨E,vs,aj,aD⟩:=C.box j cs ty Y;obtain⟨av,v,am,an,ay⟩:=R.load_row (H:=H) (b:=be j) (o:=0) (be:=be) s aj (λj v W=>by simp[Hp.cell,aD,W]);refine⟨av,am,λh=>⟨v,an,c06 ?_⟩⟩;have g:=G h x;rw[I]at g;exact R.exec_load ho g.2 (by simpa using ay)
   exact s.elim
  ·rename_i sl idx sz k I;obtain⟨e,aJ,D⟩:=s;cases c;·grind[h08]
   have aG:=L aJ rfl;have g:=G rfl x;rw[I]at g;obtain⟨b,az,n,S,N,ag⟩:=g;obtain⟨_,_,bE,bP,aN,bH,aU,bi⟩:=aG;rw[N]at aU;cases aU;obtain⟨av,v,am,an,ay⟩:=R.load_row (H:=H) (b:=b) (o:=az+idx.toNat*sz) (be:=be) D (C2.vals rs.st oe e) (λj v W=>by
    have:=bi j v W;unfold Hp.cell at this ⊢;split at this;·rename_i bk;rw[C.sub _ _ bk];exact this
    cases this)
   grind[c06,R.exec_load,Nat.add_assoc]
  ·rename_i j a1 idx sz k I;split at s
   ·rename_i bU bc aA by_ nn xs Y;split at s
    ·rename_i V;have aw:=Nat.eq_of_beq_eq_true V;subst aw;obtain⟨e,aJ,D⟩:=s;cases c;·grind[h08]
     have aG:=L aJ rfl;have g:=G rfl x;obtain⟨M,_,U⟩:=ac rfl x;rw[I]at g;obtain⟨aB,bV,aR,a0,a2,Z⟩:=U0m (U.symm.trans I);obtain⟨ar,n,S,N,ag⟩:=g.oel_cur Z;have ae:=C.own j _ _ _ _ _ _ Y;obtain⟨av,v,am,an,ay⟩:=R.load_row (H:=H) (b:=ar) (o:=idx.toNat*aA) (be:=be) D (C2.vals rs.st oe e) (λj v W =>
      ae.cells N _ _ (b07 xs _ e (λx u=>(ae.1 x u).1) aG j v W))
     grind[c06,R.exec_load]
    exact s.elim
   exact s.elim
  exact s.elim
 |build t bS =>
  simp only[evG,ho]at s;split at s
  ·rename_i bd z al bq;split at s
   ·rename_i aF;cases c
    ·have:∀(l:List (Nat×Operand)) (cs:List S6) (K':List S6->Prop),p0b P bd (rdG rs ch) l cs K'->∃ cs,K' cs:=by
      intro l;induction l with
      |nil=>intro cs K' h;exact⟨_,h⟩
      |cons p l br =>grind[p0b]
     grind
    obtain⟨av,v,am,an,ay⟩:=y0o (K':=K) C ho al bq aF (λx cs bL=>by obtain⟨M,ap,aq⟩:=ac rfl x;grind[m0v]) s;grind[a0b]
   exact s.elim
  exact s.elim
 |index t x ax =>
  simp only[evG,ho]at s;split at s;·rename_i b bu j u ak al;obtain⟨e,E,D⟩:=s;refine⟨_,D,λh=>?_⟩;have A:=G h x;rw[u]at A;have gi:=G h ax;rw[ak]at gi;obtain⟨O,Q⟩:=L E h;exact⟨_,rfl,c06 (R.exec_index ho al A gi O Q)⟩
  exact s.elim
 |slice t x bN ak bz =>
  cases bz with
  |some m=>simp only[evG,ho]at s;exact L00 C G s
  |none =>
   simp only[evG,ho]at s;split at s
   ·rename_i b u al;split at s;·rename_i l m aK X;refine⟨_,s.2,λh=>?_⟩;obtain⟨E,aj,aD⟩:=L s.1 h;have A:=G h x;rw[u]at A;exact⟨_,rfl,c06 (R.exec_cutStr ho al A (d09 (G h) aK) (d09 (G h) X) E aj aD)⟩
    exact s.elim
   ·rename_i a4 n S u;split at s
    ·rename_i e af;split at s
     ·rename_i sz aM;split at s;·rename_i l m aK X;obtain⟨v,E,D⟩:=s;refine⟨_,D,λh=>?_⟩;obtain⟨⟨O,Q,a5,a6⟩,ba⟩:=L E h;have A:=G h x;rw[u]at A;refine⟨v,rfl,?_⟩;rw[ba _ _ _ rfl];exact c06 (R.exec_slice ho af aM A (d09 (G h) aK) (d09 (G h) X) O Q a5 a6)
      exact s.elim
     exact s.elim
    exact s.elim
   exact s.elim
 |binOp bA t x y bW =>
  cases bA with
  |add =>
   simp only[evG,ho]at s;split at s;·rename_i b ad u J;refine⟨_,s.2,λh=>?_⟩;have A:=G h x;rw[u]at A;have T:=G h y;rw[J]at T;exact⟨_,rfl,c06 (R.exec_cat ho A T (L s.1 h))⟩
   grind[L00]
  |quo =>
   simp only[evG,ho]at s;split at s;·rename_i b ad u J;refine⟨_,s.2,λh=>?_⟩;have A:=G h x;rw[u]at A;have T:=G h y;rw[J]at T;exact⟨_,rfl,c06 (R.exec_quo ho A T (L s.1 h))⟩
   exact L00 C G s
  |rem =>
   simp only[evG,ho]at s;split at s;·rename_i b ad u J;refine⟨_,s.2,λh=>?_⟩;have A:=G h x;rw[u]at A;have T:=G h y;rw[J]at T;exact⟨_,rfl,c06 (R.exec_rem ho A T (L s.1 h))⟩
   exact L00 C G s
  |eql =>
   simp only[evG,ho]at s;split at s;·rename_i xs bD u J;obtain⟨b,E,D⟩:=s;exact⟨_,D,λh=>⟨.bool b,rfl,a0b λF _=>L E h _ (T6 u (G h x)) (T6 J (G h y)) F⟩⟩
   ·rename_i a3 aN bv u J;obtain⟨b,E,D⟩:=s;exact⟨_,D,λh=>⟨.bool b,rfl,a0b λF _=>L E h _ (T6 u (G h x)) (T6 J (G h y)) F⟩⟩
   exact L00 C G s
  |neq =>
   simp only[evG,ho]at s;split at s;·rename_i xs bD u J;obtain⟨b,E,D⟩:=s;exact⟨_,D,λh=>⟨.bool b,rfl,a0b λF _=>L E h _ (T6 u (G h x)) (T6 J (G h y)) F⟩⟩
   ·rename_i a3 aN bv u J;obtain⟨b,E,D⟩:=s;exact⟨_,D,λh=>⟨.bool b,rfl,a0b λF _=>L E h _ (T6 u (G h x)) (T6 J (G h y)) F⟩⟩
   grind[L00]
  |_=>simp only[evG,ho]at s;exact L00 C G s
 |call ad =>
  obtain⟨bb,as,bC⟩:=ad;cases bb with
  |builtin b =>
   cases b with
   |len =>
    simp only[evG,ho]at s;split at s
    ·rename_i x t aF aa;have bg:as = #[x]:=by apply Array.ext';simpa using aF
     have bo:bC = #[t]:=by apply Array.ext';simpa using aa
     split at s
     ·rename_i j k I;split at s
      ·rename_i a1 e sz by_ nn xs aB Y af;refine⟨_,s,λh=>?_⟩;have g:=G h x;obtain⟨M,_,U⟩:=ac h x;rw[I]at g;obtain⟨N,bB,bG,bO,bX,bj⟩:=v0a (U.symm.trans I);have u:=g.own_cur bj;have ae:=C.own j _ _ _ _ _ _ Y;rcases ae.2 with⟨ab,bp,_⟩|⟨bI,cap,cur,ab,_⟩;·rw[ab]at u;refine⟨.int .i64 xs.length,rfl,a0b λF _=>?_⟩;grind[b0f]
       rw[ab]at u;exact⟨.int .i64 xs.length,rfl,a0b λF _=>b0f ho bg bo af u F⟩
      exact s.elim
     exact L00 C G s
    exact s.elim
   |_=>simp only[evG,ho]at s;exact L00 C G s
  |value f=>simp only[evG,ho]at s;exact L00 C G s
  |invoke r m=>simp only[evG,ho]at s;exact L00 C G s
 |_=>simp only[evG,ho]at s;exact L00 C G s
end
end Go.H
