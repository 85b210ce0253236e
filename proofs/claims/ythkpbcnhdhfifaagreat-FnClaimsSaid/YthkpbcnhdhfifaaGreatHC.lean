/- The library of the walks, part HC: plain laws over the model. -/
import Derived.Test.YthkpbcnhdhfifaaGreatHB
namespace Go.H.R
set_option linter.all false
open Go.H
def wpR(P:Program){b:Type}:Sem b->Hp->(b->Hp->Prop)->Prop
 | .pure a,h,K=>K a h
 | .load _ a k,h,K=>∃ v,(a.spot=none/\Hp.cell h a.block a.off=some v)/\wpR P (k v) h K
 | .program k,h,K=>wpR P (k P) h K
 | .mark _ k,h,K=>wpR P k h K
 |_,_,_=>False
theorem wpR_sound{P:Program}{f:Type}{K:f->Hp->Prop}(e:Sem f):∀(h:Hp) (w:World),Vis h w->wpR P e h K->∃ x,e.run P w = .ok x w/\K x h:=by
 induction e with
 |pure a=>exact λh w c b=>⟨a,rfl,b⟩
 |load m a k d =>rintro h w c ⟨v,⟨i,g⟩,b⟩;grind[Sem.run,p0a]
 |program k d=>exact λh w c b=>d _ _ _ c b
 |mark m k d=>exact λh w c b=>d _ _ c b
 |_=>exact λh w c b=>b.elim
theorem S8{P:Program}{e c:Type}(b:Sem e)(f:e->Sem c):∀(h:Hp) (K:c->Hp->Prop),wpR P (b >>= f) h K=wpR P b h (λx h'=>wpR P (f x) h' K):=by
 change ∀(h:Hp) (K:c->Hp->Prop),wpR P (b.bind f) h K=wpR P b h (λx h'=>wpR P (f x) h' K);induction b with
 |pure a=>intro h K;rfl
 |load m a k d=>grind[Sem.bind,wpR]
 |program k d=>grind[Sem.bind,wpR]
 |mark m k d=>grind[Sem.bind,wpR]
 |_=>intro h K;rfl
theorem S9{P:Program}{a:Type}(x:a)(h:Hp)(K:a->Hp->Prop):wpR P (pure x) h K=K x h:=rfl
section
variable {P:Program} {h0:Hp} {w0:World} {be:Nat->Nat} {oe:Nat->Value} {H:Hp} {st:St} {h:Hp} {a:Act} {w:World} {o:Oper}
theorem E03{t:TypeId}{d:TypeDesc}(a:P.underlying t=some d)(h:Hp)(K:TypeDesc->Hp->Prop):wpR P (underlying t) h K=K d h:=by simp_all[underlying,program,S8,wpR,S9]
theorem w0o{t:TypeId}{i:TypeInfo}(a:P.info? t=some i)(h:Hp)(K:TypeInfo->Hp->Prop):wpR P (typeInfo t) h K=K i h:=by grind[typeInfo,program,S8,wpR,S9]
theorem q0b{t:TypeId}{n:Nat}(a:J7 P t=some n)(h:Hp)(K:Nat->Hp->Prop):wpR P (sizeOf t) h K=K n h:=by grind[J7,sizeOf,S8,w0o,S9]
theorem C0m{t:TypeId}{b:Bool}(a:a0o P t=some b)(h:Hp)(K:Bool->Hp->Prop):wpR P (isAgg t) h K=K b h:=by unfold a0o at a;grind[isAgg,S8,E03,S9,absurd]
theorem E09{H:Hp}{b o:Nat}:∀(vs:List Value) (i:Nat) (acc:Array Value) (K:Array Value->Hp->Prop),(∀ a v,vs[a]?=some v->Hp.cell H b (o+i+a)=some v) -> K (acc++vs.toArray) H->wpR P (loadCellsFrom ⟨b,o,none⟩ i vs.length acc) H K
 | [],i,acc,K,_,d=>by grind[loadCellsFrom,S9]
 |v::vs,i,acc,K,c,d=>by
  have h0:=c 0 v oS;simp only[loadCellsFrom,List.length_cons,S8,load,wpR];have e:(⟨b,o,none⟩:Addr).add i=⟨b,o+i,none⟩:=by unfold Addr.add;split<;>simp_all
  rw[e];refine⟨v,⟨rfl,by simpa using h0⟩,E09 vs (i+1) (acc.push v) K ?_ ?_⟩;·intro a u f;have:=c (a+1) u (by simpa using f);grind
  simpa using d
theorem load_row{t:TypeId}{cs:List j7}{vs:List Value}{off:Nat}{K:AV->Prop}{b o:Nat}(a:N08 P t cs off K)(g:J2 st oe cs vs) (p:∀ h v,vs[h]?=some v->Hp.cell H b (o+h)=some v):∃ av v,K av/\N2 st be oe av v/\∀ d:Value->Hp->Prop,d v H->wpR P (loadVar t ⟨b,o+off,none⟩) H d:=by
 unfold N08 at a;split at a
 ·rename_i e;split at a
  ·rename_i n f;split at a
   ·rename_i l;have m:=d06 _ _ l;have i:=(g.drop off).take n;refine⟨_,.agg ((vs.drop off).take n).toArray,a,⟨_,rfl,i⟩,λd k=>?_⟩;have s:((vs.drop off).take n).length=n:=by rw[←i.length,m]
    simp only[loadVar,S8,C0m e,if_true,q0b f,loadCells];have:=E09 (P:=P) (H:=H) (b:=b) (o:=o+off) ((vs.drop off).take n) 0 #[] (λx h'=>wpR P (pure (Value.agg x)) h' d) (λh v q=>by grind) (by grind[S9]);grind
   exact a.elim
  exact a.elim
 ·rename_i e;split at a;·rename_i c f;obtain⟨v,u,j⟩:=g.nth f;refine⟨_,v,a,N2.ofCell j,λd k=>?_⟩;simp only[loadVar,S8,C0m e,Bool.false_eq_true,if_false,load,wpR];grind
  exact a.elim
 exact a.elim
theorem p00{P:Program}(b:Sem Value)(H:Hp)(a:Next->Hp->Prop)(h:wpR P b H (λv H=>a (.value v) H)):wpR P (do pure (Next.value (←b))) H a:=by rw[S8];exact h
theorem exec_fieldAddr{t:TypeId}{x:Operand}{k d b off:Nat}(h:o.op = .fieldAddr t x k)(i:b0o P t k=some d)(l:a.eval x=ptr b off): ∀ c:Next->Hp->Prop,c (.value (ptr b (off+d))) H->wpR P (execOp a.eval o) H c:=by intro c e;obtain⟨m,f,n,j,hf,g,rfl⟩:=A0m i;unfold execOp;rw[h];refine p00 _ _ _ ?_;simp only[Instr.fieldAt,S8,E03 j,hf,l,ptr,Instr.sureAddr,S9,fieldPlace,q0b g,Nat.add_one_ne_zero,if_false,M04];exact e
theorem exec_indexAddr{t e:TypeId}{x i:Operand}{k:IntKind}{d:Int}{sz b off n c:Nat}(m:o.op = .indexAddr t x i)(q:f04 P t=some e)(p:J7 P e=some sz) (u:a.eval x = .slice (some ⟨b,off,none⟩) n c) (j:a.eval i = .int k d) (g:0<=d) (h:d<(n:Int)) : ∀ f:Next->Hp->Prop,f (.value (ptr b (off+d.toNat*sz))) H->wpR P (execOp a.eval o) H f:=by intro f l;have s:=U01 q;unfold execOp;rw[m];refine p00 _ _ _ ?_;simp only[Instr.indexAt,u,j,asIntOf,S8,S9,E03 s,g,h,and_self,if_true,q0b p,M04];exact l
theorem R0d{x:Value}{k:IntKind}{i:Int}{y:Nat}{b:BoundsCode}(e:x = .int k i)(c:0<=i)(d:i<=(y:Int))(a:Nat->Hp->Prop):wpR P (Instr.sliceBound x y b) H a=a i.toNat H:=by subst e;simp only[Instr.sliceBound,asIntOf,S8,S9,c,d,and_self,if_true]
theorem f0k{isS:Bool}{n c:Nat}{f b:Option Operand}{l m:Int}(i:Y08 a 0 f l)(d:Y08 a n b m)(h:0<=l)(s:l<=m)(t:m<=(n:Int))(u:n<=c) (g:Nat×Nat×Nat->Hp->Prop):wpR P (Instr.sliceBounds isS n c (f.map a.eval) (b.map a.eval) none) H g=g (l.toNat,m.toNat,c) H:=by
 have q:l<=(m.toNat:Int):=oM;cases f with
 |none =>
  have p:l=0:=i;subst p;cases b with
  |none =>have j:m=(n:Int):=d;simp_all[Instr.sliceBounds,Option.map_none,S8,S9]
  |some y =>obtain⟨k,e⟩:=d;simp only[Instr.sliceBounds,Option.map_none,Option.map_some,S8,S9,R0d e oM (show m<=(c:Int) by omega)];rfl
 |some x =>
  obtain⟨k,o⟩:=i;cases b with
  |none =>have j:m=(n:Int):=d;subst j;simp only[Instr.sliceBounds,Option.map_none,Option.map_some,S8,S9,R0d o h (show l<=((n:Nat):Int) by omega)];rfl
  |some y =>obtain⟨v,e⟩:=d;simp only[Instr.sliceBounds,Option.map_some,S8,S9,R0d e oM (show m<=(c:Int) by omega),R0d o h q]
theorem exec_cutStr{t:TypeId}{x:Operand}{e d:Option Operand}{b:ByteArray}{l m:Int}(n:o.op = .slice t x e d none)(p:P.underlying t=some .string) (q:a.eval x = .string b) (j:Y08 a 0 e l) (k:Y08 a b.size d m) (f:0<=l) (g:l<=m) (h:m<=(b.size:Int)) : ∀ c:Next->Hp->Prop,c (.value (.string (b.extract l.toNat m.toNat))) H->wpR P (execOp a.eval o) H c:=by intro c i;unfold execOp;rw[n];refine p00 _ _ _ ?_;simp only[Instr.sliceAt,S8,E03 p,Instr.slice,q,Option.map_none,Option.isSome_none,Bool.false_eq_true,if_false,S9];rw[f0k j k f g h (Nat.le_refl _)];exact i
theorem exec_index{t:TypeId}{x i:Operand}{b:ByteArray}{k:IntKind}{e:Int}{c:UInt8}(l:o.op = .index t x i)(m:P.underlying t=some .string)(n:a.eval x = .string b)(h:a.eval i = .int k e) (f:0<=e) (g:b[e.toNat]?=some c):∀ d:Next->Hp->Prop,d (.value (.int .u8 c.toNat)) H->wpR P (execOp a.eval o) H d:=by intro d j;unfold execOp;rw[l];refine p00 _ _ _ ?_;simp only[Instr.index,n,h,asIntOf,S8,S9,E03 m,f,if_true,g];exact j
theorem exec_cat{t j:TypeId}{x y:Operand}{b c:ByteArray}(g:o.op = .binOp .add t x y j)(h:a.eval x = .string b)(i:a.eval y = .string c)(k:b.size+c.size<=9223372036854775807): ∀ d:Next->Hp->Prop,d (.value (.string (b++c))) H->wpR P (execOp a.eval o) H d:=by
 intro d e;unfold execOp;rw[g];refine p00 _ _ _ ?_;have f : ¬ (((b.size+c.size:Nat):Int)>IntKind.i64.max):=by have:IntKind.i64.max=9223372036854775807:=oD;rw[this];omega
 simp only[h,i,eqGuard,S8,Bool.not_false,if_true,S9,binOp,Go.Op.stringOp,if_neg f];exact e
theorem exec_quo{t j:TypeId}{x y:Operand}{b c:Int}(g:o.op = .binOp .quo t x y j)(h:a.eval x = .int .i64 b)(i:a.eval y = .int .i64 c)(f:c≠0): ∀ d:Next->Hp->Prop,d (.value (.int .i64 (IntKind.i64.wrap (b.tdiv c)))) H->wpR P (execOp a.eval o) H d:=by intro d e;unfold execOp;rw[g];refine p00 _ _ _ ?_;simp only[h,i,eqGuard,S8,Bool.not_false,if_true,S9,binOp,Go.Op.intDiv,if_neg f,ne_eq,not_true_eq_false,if_false];exact e
theorem exec_rem{t j:TypeId}{x y:Operand}{b c:Int}(g:o.op = .binOp .rem t x y j)(h:a.eval x = .int .i64 b)(i:a.eval y = .int .i64 c)(f:c≠0): ∀ d:Next->Hp->Prop,d (.value (.int .i64 (b.tmod c))) H->wpR P (execOp a.eval o) H d:=by intro d e;unfold execOp;rw[g];refine p00 _ _ _ ?_;simp only[h,i,eqGuard,S8,Bool.not_false,if_true,S9,binOp,Go.Op.intDiv,if_neg f,ne_eq,not_true_eq_false,if_false];exact e
theorem exec_slice{t e sz:Nat}{x:Operand}{g f:Option Operand}{d:Option Addr}{n c:Nat}{l m:Int}(s:o.op = .slice t x g f none)(u:f04 P t=some e)(y:J7 P e=some sz) (v:a.eval x = .slice d n c) (k:Y08 a 0 g l) (p:Y08 a n f m) (h:0<=l) (i:l<=m) (j:m<=(n:Int)) (q:n<=c) : ∀ b:Next->Hp->Prop,b (.value (.slice (if c=l.toNat then d else d.map (·.add (l.toNat*sz))) (m.toNat-l.toNat) (c-l.toNat))) H->wpR P (execOp a.eval o) H b:=by intro b w;unfold execOp;rw[s];refine p00 _ _ _ ?_;simp only[Instr.sliceAt,S8,E03 (U01 u),Instr.slice,v,Option.map_none];rw[f0k k p h i j q];grind[q0b,S9]
theorem exec_load{t:TypeId}{x:Operand}{b off:Nat}{v:Value}(d:o.op = .load t x)(g:a.eval x=ptr b off) (f:∀ c:Value->Hp->Prop,c v H->wpR P (loadVar t ⟨b,off,none⟩) H c):∀ c:Next->Hp->Prop,c (.value v) H->wpR P (execOp a.eval o) H c:=by intro c e;unfold execOp;rw[d];refine p00 _ _ _ ?_;grind[Instr.loadAt,ptr,Instr.sureAddr,S8,S9]
theorem run_of{v:Value}(e:∀ b:Next->Hp->Prop,b (.value v) H->wpR P (execOp a.eval o) H b)(w:World)(d:Vis H w):(execOp a.eval o).run P w = .ok (.value v) w:=by obtain⟨x,c,f⟩:=wpR_sound _ _ w d (e (λn _=>n = .value v) rfl);rw[c,f]
end
end Go.H.R
namespace Go.H
set_option linter.all false
section
variable {P:Program} {h0:Hp} {w0:World} {be:Nat->Nat} {oe:Nat->Value} {H:Hp} {rs:RS} {a:Act} {w:World} {o:Oper} {ops:Array Oper} {i:Nat}
theorem r0A{a b:Bool}(h:eqB a b=true):a=b:=by cases a<;>cases b<;>simp_all [eqB]
theorem x0o:∀(a b:List (Nat×Bool)),s0w a b=true->a=b
 | [],[],_=>rfl
 |(f,w)::r,(g,i)::e,h=>by
  simp only[s0w]at h;split at h;·rename_i c d;rw[Nat.eq_of_beq_eq_true c,r0A d,x0o r e h]
  cases h
 | [],_::_,h=>by cases h
 |_::_,[],h=>by cases h
theorem q07:∀ {bs:List BE} {a:Nat} {b:BE},r06 bs a=some b->b∈bs/\b.j=a
 | [],_,_,h=>by cases h
 |x::r,a,b,h=>by
  simp only[r06]at h;split at h;·simp_all
  obtain⟨c,d⟩:=q07 h;grind
theorem D0h:∀ {bs:List BE} {a:Nat} {b:BE},Z0f bs a=some b->b∈bs/\b.d=a
 | [],_,_,h=>by cases h
 |x::r,f,b,h=>by
  simp only[Z0f]at h;split at h;·simp_all
  obtain⟨c,e⟩:=D0h h;grind
theorem g0k:∀ {bs:List BE} {c:Nat},Z0f bs c=none->∀ b∈bs,b.d≠c
 | [],_,_,b,a=>by cases a
 |x::r,c,h,b,a=>by
  simp only[Z0f]at h;split at h;·cases h
  rename_i e;rcases List.mem_cons.1 a with rfl|a;·exact Nat.ne_of_beq_eq_false e
  exact g0k h b a
theorem B08(bs:List BE)(j:Nat)(w:Bool)(r:List (Nat×Bool)):cB bs ((j,w)::r)=match r06 bs j,cB bs r with
  |some b,some c=>some (lit w b.e&&c)
  |_,_=>none:=by
 grind[cB,r06,lit]
theorem J0y{bs:List BE}{x:Nat×Bool}{r:List (Nat×Bool)}(h:cB bs (x::r)=some true):cB bs r=some true:=by rw[B08]at h;grind
theorem S0d{bs:List BE}{p:List (Nat×Bool)}:∀ {q:List (Nat×Bool)},E0p p q=true->cB bs q=some true->cB bs p=some true
 | [],h,a=>by rw[x0o _ _ h];exact a
 |x::r,h,a=>by
  simp only[E0p]at h;split at h;·grind[x0o]
  exact S0d h (J0y a)
theorem n0s{bs:List BE}{x:BE}(g:∀ y∈bs,y.j≠x.j):∀ {ch:List (Nat×Bool)} {c:Bool},cB bs ch=some c->cB (x::bs) ch=some c
 | [],c,h=>h
 |(a,w)::r,c,h=>by
  rw[B08]at h;split at h
  ·rename_i b i e d;have m:Nat.beq x.j a=false:=by obtain⟨k,l⟩:=q07 e;grind[Nat.beq,absurd,Nat.eq_of_beq_eq_true]
   have f:r06 (x::bs) a=some b:=by grind[r06]
   rw[B08,f,n0s g d];exact h
  cases h
structure E0c (ops:Array Oper) (be:Nat->Nat) (oe:Nat->Value) (rs:RS) (a:Act) (i:Nat):Prop where
 lt:∀ x∈rs.bs,x.j<i/\∃ o,ops[x.j]?=some o/\o.dst=some x.d
 val:∀ x∈rs.bs,∃ c,cB rs.bs x.ch=some c/\a.tmps[x.d]?=some (if c=true then .bool x.e else undef)
 gf:∀ d ch av,T0j rs.gf d=some (ch,av)->∃ c,cB rs.bs ch=some c/\(c=true->N2 rs.st be oe av (a.tmps.getD d undef))
theorem E0c.grow(r:E0c ops be oe rs a i){st:St}{h:Hp}{be':Nat->Nat}{oe':Nat->Value}(g:V8 rs.st be oe st be' oe'):E0c ops be' oe' { rs with st:=st,h:=h } a i :=
 ⟨r.lt,r.val,λd ch av e=>let ⟨c,h1,h2⟩:=r.gf d ch av e;⟨c,h1,λb=>(h2 b).grow g⟩⟩
theorem D0m(r:E0c ops be oe rs a i){ch:List (Nat×Bool)}{c:Bool}(d:m02 rs.bs o.guard=some ch)(f:cB rs.bs ch=some c):Region.wanted o (yielded ops a.tmps)=c:=by
 unfold Region.wanted;cases hg:o.guard with
 |none =>rw[hg]at d;cases d;cases f;rfl
 |some p =>
  obtain⟨t,w⟩:=p;rw[hg]at d;simp only[m02]at d;split at d
  ·rename_i b h;cases d;obtain⟨k,rfl⟩:=q07 h;obtain⟨_,u,n,m⟩:=r.lt b k;obtain⟨g,l,q⟩:=r.val b k;rw[B08,h,l]at f;simp only[Option.some.injEq]at f;have s:yielded ops a.tmps b.j=if g=true then some b.e else none:=by unfold yielded;simp only[n,m,oB,q];cases g<;>rfl
   simp only[s,←f];cases g<;>cases w<;>cases b.e<;>rfl
  cases d
theorem s0g(n:Sim P h0 w0 be oe H rs.st rs.h a w)(r:E0c ops be oe rs a i){ch:List (Nat×Bool)}(k:cB rs.bs ch=some true)(x:Operand): (∃ b,N2 rs.st be oe b (a.eval x)/\rdG rs ch x=rdA rs.st b):=by
 cases x with
 |tmp t =>
  simp only[rdG];split
  ·rename_i e av l;split;·rename_i m;obtain⟨c,d,j⟩:=r.gf t e av l;rw[S0d m k]at d;cases d;exact⟨av,j rfl,rfl⟩
   exact⟨.dead,trivial,rfl⟩
  exact⟨_,n.fr t,rfl⟩
 |const v=>exact⟨.val v,rfl,rfl⟩
 |global g=>exact⟨.dead,trivial,rfl⟩
 |func f=>exact⟨.val _,rfl,rfl⟩
theorem r07(z:Sim P h0 w0 be oe H rs.st rs.h a w)(r:E0c ops be oe rs a i)(V:ops[i]?=some o){ch:List (Nat×Bool)}{c:Bool}{av:AV}{v:Value}{K:RS->Prop}
  (F:cB rs.bs ch=some c) (g:c=true->N2 rs.st be oe av v) (M:c=false->v=undef) (m:f0f o.dst i ch av rs K) :
  ∃ D,K D/\D.h=rs.h/\E0c ops be oe D (a.put o.dst v) (i+1)/\Sim P h0 w0 be oe H D.st D.h (a.put o.dst v) w:=by
 cases hd:o.dst with
 |none =>
  rw[hd]at m
  exact⟨rs,m,rfl,⟨λx p=>⟨Nat.lt_succ_of_lt (r.lt x p).1,(r.lt x p).2⟩,r.val,r.gf⟩,z⟩
 |some d =>
  rw[hd]at m
  simp only[f0f]at m
  split at m
  ·rename_i Q Y
   have G:d<rs.st.n:=Nat.le_of_ble_eq_true Q
   have Z:T0j rs.gf d=none/\Z0f rs.bs d=none:=by
    grind[r0c]
   have T:∀ t,t≠d->(a.put (some d) v).tmps[t]?=a.tmps[t]?:=λt R=>by
    simp[Act.put,Array.getElem?_setIfInBounds_ne (Ne.symm R)]
   have O:(a.put (some d) v).tmps[d]?=some v:=by simp[Act.put,z.siz,G]
   have p:∀ y∈rs.bs,y.j≠i:=λy S e=>by have:=(r.lt y S).1;omega
   have u:(∀ x∈G0p i d ch av rs.bs,x.j<i+1/\∃ o,ops[x.j]?=some o/\o.dst=some x.d) /\
     (∀ x∈G0p i d ch av rs.bs,∃ c,cB (G0p i d ch av rs.bs) x.ch=some c/\(a.put (some d) v).tmps[x.d]?=some (if c=true then .bool x.e else undef)) /\
     (∀ f b,cB rs.bs f=some b->cB (G0p i d ch av rs.bs) f=some b):=by
    have W:∀ x∈rs.bs,x.j<i+1/\∃ o,ops[x.j]?=some o/\o.dst=some x.d:=λx p=>⟨Nat.lt_succ_of_lt (r.lt x p).1,(r.lt x p).2⟩
    have X:∀ x∈rs.bs,∃ c,cB rs.bs x.ch=some c/\(a.put (some d) v).tmps[x.d]?=some (if c=true then .bool x.e else undef):=λx p=>by
     obtain⟨c,s,A⟩:=r.val x p
     grind[g0k]
    unfold G0p
    split
    ·rename_i e
     have J:∀ f b,cB rs.bs f=some b->cB (⟨i,d,e,ch⟩::rs.bs) f=some b:=λf b h'=>n0s (x:=⟨i,d,e,ch⟩) p h'
     refine⟨λx I=>?_,λx I=>?_,J⟩
     ·grind
     ·rcases List.mem_cons.1 I with rfl|I
      ·refine⟨c,J _ _ F,?_⟩
       rw[O]
       cases c with
       |true=>rw[show v = .bool e from g rfl];rfl
       |false=>rw[M rfl];rfl
      grind
    grind
   have E:∀ k,V8 rs.st be oe { rs.st with fr:=(d,k)::rs.st.fr } be oe:=λk=>⟨Nat.le_refl _,λ_ _=>rfl,λi z h=>⟨z,h,Nat.le_refl _,λ_=>rfl⟩⟩
   have L:∀ l f k,T0j rs.gf l=some (f,k)->∃ b,cB (G0p i d ch av rs.bs) f=some b/\(b=true->N2 rs.st be oe k ((a.put (some d) v).tmps.getD l undef)):=λl f k q=>by
    obtain⟨b,s,A⟩:=r.gf l f k q
    refine⟨b,u.2.2 _ _ s,λC=>?_⟩
    have U:l≠d:=λe=>by grind
    simp_all
   split at m
   ·
    cases F
    refine⟨_,m,rfl,⟨u.1,u.2.1,λl f k q=>?_⟩,z.put G (g rfl)⟩
    obtain⟨b,s,A⟩:=L l f k q
    exact⟨b,s,λC=>(A C).grow (E av)⟩
   ·refine⟨_,m,rfl,⟨u.1,u.2.1,λl f k q=>?_⟩,z.put G (show N2 rs.st be oe .dead v from trivial)⟩
    simp only[T0j]at q
    split at q
    ·rename_i N
     cases q
     have:=Nat.eq_of_beq_eq_true N
     subst this
     refine⟨c,u.2.2 _ _ F,λC=>(N2.grow (E .dead) ?_)⟩
     simp_all
    ·obtain⟨b,s,A⟩:=L l f k q
     exact⟨b,s,λC=>(A C).grow (E .dead)⟩
  ·exact m.elim
end
section
variable {P:Program} {h0:Hp} {w0:World} {be:Nat->Nat} {oe:Nat->Value} {H:Hp} {rs:RS} {a:Act} {w:World} {o:Oper} {ops:Array Oper} {i:Nat}
theorem F0c{bs:List BE}{ch:List (Nat×Bool)}{c:Bool}{a:Prop}(h:imp ch c a)(b:c=true):a:=by grind[imp]
def CW(H:Hp)(w:World):World->Prop:=λa=>V2 H w H a
theorem W0b{v:Value}(c:∀ b,Vis H b->(execOp a.eval o).run P b = .ok (.value v) b):∀ b,CW H w b->o.quietAt P a (CW H w) b v:=λb m=>by unfold Oper.quietAt;rw[c b m.vis];exact⟨rfl,rfl⟩
theorem I06{v:Value}(e:∀ c:Next->Hp->Prop,c (.value v) H->R.wpR P (execOp a.eval o) H c):∀ b,CW H w b->o.quietAt P a (CW H w) b v :=
 W0b λb d=>R.run_of e b d
theorem V2.widen{hf:Hp}{w d:World}(c:Vis H w)(e:∀ b o,hf b=some o->H b=some o)(m:V2 hf w hf d):V2 H w H d:=by
 refine⟨m.os,m.tape,m.output,m.size,?_,?_,λb a => .inl a,m.fz,m.dn⟩
 ·intro b a g;refine m.keep b a ?_;cases hc:hf b with
  |none=>rfl
  |some o=>grind
 intro b o a;cases hc:hf b with
 |some f =>have:=e b f hc;rw[this]at a;cases a;exact m.vis b _ hc
 |none=>rw[m.keep b (c.lt (by rw[a];simp)) hc];exact c b o a
theorem Z08{ch:List (Nat×Bool)}(G:∀ x,N2 rs.st be oe (rdG rs ch x) (a.eval x)):∀(l:List Operand) {vs:List (Nat×Value)},F0p rs ch l=some vs -> (∀ p∈vs,p.2=a.eval (.tmp p.1))/\(∀ x∈l,(∃ t v,x = .tmp t/\(t,v)∈vs)∨(∀ ws,rho ws x=a.eval x))
 | [],vs,h=>by cases h;simp
 | .tmp t::r,vs,h=>by
  simp only[F0p]at h;split at h
  ·rename_i v g;split at h;·rename_i i e;cases h;obtain⟨c,d⟩:=Z08 G r e;grind[l7,List.mem_cons_self,mC]
   cases h
  cases h
 | .global _::r,vs,h=>by cases h
 | .const v::r,vs,h=>by
  obtain⟨c,d⟩:=Z08 G r (vs:=vs) h;exact⟨c,λx b=>by
   rcases List.mem_cons.1 b with rfl|b;·exact .inr λ_=>rfl
   exact d x b⟩
 | .func f::r,vs,h=>by
  obtain⟨c,d⟩:=Z08 G r (vs:=vs) h;exact⟨c,λx b=>by
   rcases List.mem_cons.1 b with rfl|b;·exact .inr λ_=>rfl
   exact d x b⟩
abbrev g0B(P:Program)(be:Nat->Nat)(oe:Nat->Value)(H:Hp)(rs:RS)(a:Act)(w:World)(o:Oper)(c:Bool)(K:AV->Prop):Prop :=
 ∃ av,K av/\(c=true->∃ v,N2 rs.st be oe av v/\∀ b,CW H w b->o.quietAt P a (CW H w) b v)
variable {ch:List (Nat×Bool)} {c:Bool} {K:AV->Prop}
theorem r0b(G:∀ x,N2 rs.st be oe (rdG rs ch x) (a.eval x)):∀(l:List Operand) {st:St} {h:Hp} {K:List (Nat×Value)->St->Hp->Prop},Sim P h0 w0 be oe H st h a w->V8 rs.st be oe st be oe->D0y rs ch l st h K -> ∃ vs st' h',K vs st' h'/\Sim P h0 w0 be oe H st' h' a w/\(∀ p∈vs,p.2=a.eval (.tmp p.1))/\(∀ x∈l,(∃ t v,x = .tmp t/\(t,v)∈vs)∨(∀ ws,rho ws x=a.eval x))
 | [],st,h,K,c,d,b=>⟨[],st,h,b,c,oS,oS⟩
 | .tmp t::r,st,h,K,c,d,b=>by obtain⟨s,q,n,s1,o⟩:=s06 c (c.rdA ((G (.tmp t)).grow d)) b;obtain⟨vs,m,i,g,s2,j,k⟩:=r0b G r s1 (d.trans o) n;grind
 | .const v::r,st,h,K,c,d,b=>by
  obtain⟨vs,m,i,g,s2,j,k⟩:=r0b G r c d b;refine⟨vs,m,i,g,s2,j,λx e=>?_⟩;rcases List.mem_cons.1 e with rfl|e;·exact .inr λ_=>rfl
  exact k x e
 | .func f::r,st,h,K,c,d,b=>by
  obtain⟨vs,m,i,g,s2,j,k⟩:=r0b G r c d b;refine⟨vs,m,i,g,s2,j,λx e=>?_⟩;rcases List.mem_cons.1 e with rfl|e;·exact .inr λ_=>rfl
  exact k x e
 | .global _::_,_,_,_,_,_,b=>b.elim
theorem X00(z:Sim P h0 w0 be oe H rs.st rs.h a w)(G:c=true->∀ x,N2 rs.st be oe (rdG rs ch x) (a.eval x))(d:f0o P o ch c rs K):g0B P be oe H rs a w o c K:=by
 unfold f0o at d;split at d
 ·rename_i vs D C;split at d
  ·rename_i f l n;split at d;·rename_i u;obtain⟨v,y,s⟩:=d;refine⟨_,s,λg=>?_⟩;obtain⟨k,p⟩:=Z08 (G g) _ C;rw[U08 k p]at n;refine⟨v,rfl,λj m=>?_⟩;unfold Oper.quietAt;rw[K0d n u];refine⟨rfl,((F0c (bs:=rs.bs) y g).run j (λb o q=>m.vis b o (z.sub b o q))).mono ?_⟩;rintro e J ⟨I,h',rfl,⟨rfl,rfl⟩,t⟩;exact⟨rfl,V2.trans m (V2.widen m.vis z.sub t)⟩
   exact d.elim
  split at d;·rename_i v A;refine⟨_,d,λg=>?_⟩;obtain⟨k,p⟩:=Z08 (G g) _ C;rw[k0g,L0d D k p]at A;exact⟨v,rfl,W0b λj _=>G0t _ A j⟩
  exact d.elim
 ·obtain⟨r,y,s⟩:=d;refine⟨_,s,λg=>⟨r,rfl,λj m=>?_⟩⟩;obtain⟨vs,L,k,i,s1,E,F⟩:=r0b (G g) _ z (V8.refl _ _ _) (F0c (bs:=rs.bs) y g);rw[U08 E F]at i;split at i
  ·rename_i f l n;split at i;·rename_i u;unfold Oper.quietAt;rw[K0d n u];refine⟨rfl,(i.run j (λb o q=>m.vis b o (s1.sub b o q))).mono ?_⟩;rintro e J ⟨I,h',rfl,⟨rfl,rfl⟩,t⟩;exact⟨rfl,V2.trans m (V2.widen m.vis s1.sub t)⟩
   exact i.elim
  exact i.elim
 exact d.elim
theorem F09{d l:Int}{x:Option Operand}(G:∀ x,N2 rs.st be oe (rdG rs ch x) (a.eval x))(b:z09 d (x.map (rdG rs ch))=some l):Y08 a d x l:=by
 cases x with
 |none=>simp only[Option.map_none,z09,Option.some.injEq]at b;exact b.symm
 |some y =>
  have g:=G y;simp only[Option.map_some]at b;cases hr:rdG rs ch y with
  |val v =>rw[hr]at b g;cases v<;>simp only[z09,Option.some.injEq]at b<;>first|(subst b;exact⟨_,g⟩)|cases b
  |_=>rw[hr]at b;cases b
theorem J0w(o:Sim P h0 w0 be oe H rs.st rs.h a w){d:AV}{x:Value}(p:N2 rs.st be oe d x){cs:List j7}(b:U02 (rdA rs.st d)=some cs):J2 rs.st oe cs x.cells.toList:=by
 have g:=o.rdA p;cases hr:rdA rs.st d with
 |val v =>rw[hr]at b g;have f:x=v:=g;rw[f];cases v<;>simp only[U02,Option.some.injEq]at b<;>first|(subst b;first|exact J2.vals _ _ _|exact⟨rfl,trivial⟩)|cases b
 |own i k =>rw[hr]at b g;obtain⟨e,sz,by_,nn,xs,j⟩:=k0b hr;simp only[U02,Option.some.injEq]at b;subst b;have l:x=oe i:=g.own_cur j;obtain⟨y,n,c,m⟩:=Z0j o j;rw[l,m];rw[l,m]at g;exact⟨g,trivial⟩
 |agg cs' =>rw[hr]at b g;simp only[U02,Option.some.injEq]at b;subst b;obtain⟨vs,f,q⟩:=g;rw[f];exact q
 |_=>rw[hr]at b;cases b
set_option maxHeartbeats 1000000 in
theorem o0v(C:Sim P h0 w0 be oe H rs.st rs.h a w)(r:E0c ops be oe rs a i)(au:cB rs.bs ch=some c)(s:evG P o ch c rs K):g0B P be oe H rs a w o c K:=by
 have ac:c=true->∀ x,∃ N,N2 rs.st be oe N (a.eval x)/\rdG rs ch x=rdA rs.st N:=λh x=>by subst h;exact s0g C r au x
 have G:c=true->∀ x,N2 rs.st be oe (rdG rs ch x) (a.eval x):=λh x=>by obtain⟨N,g,e⟩:=ac h x;rw[e];exact C.rdA g
 have M:∀ {aO:Prop},imp ch c aO->c=true->aO:=λh au=>F0c (bs:=rs.bs) h au;have bG:∀ I,CW H w I->Vis H I:=λI m=>m.vis;cases ho:o.op with
 |move x =>
  simp only[evG,ho]at s;have E:K (rdG rs ch x):=by revert s;cases rdG rs ch x<;>intro s<;>first|exact s|exact s.elim
  refine⟨_,E,λh=>⟨_,G h x,W0b λI _=>?_⟩⟩;unfold execOp;rw[ho];rfl
 |assign x =>
  simp only[evG,ho]at s;have E:K (rdG rs ch x):=by revert s;cases rdG rs ch x<;>intro s<;>first|exact s|exact s.elim
  refine⟨_,E,λh=>⟨_,G h x,W0b λI _=>?_⟩⟩;unfold execOp;rw[ho];rfl
 |pick ad x y =>
  cases ad with
  |tmp t =>
   simp only[evG,ho]at s;split at s
   ·rename_i e q aM bi;split at s
    ·rename_i bk;split at s
     ·rename_i bx by_ u L;refine⟨_,s,λh=>?_⟩;have aV:=G h (.tmp t);rw[aM]at aV;have bb:a.eval (.tmp t) = .bool e:=aV;subst h;obtain⟨X,bj⟩:=D0h bi;have aL:=S0d bk au;obtain⟨aS,F,aj⟩:=r.val q X;rw[aL]at F;cases F;have bJ:q.e=e:=by
       have:a.eval (.tmp t) = .bool q.e:=by simp only[Act.eval,←bj,Array.getD_eq_getD_getElem?,aj];rfl
       grind
      have W:∃ b,r06 rs.bs q.j=some b:=by
       have:∀(l:List BE),q∈l->∃ b,r06 l q.j=some b:=by
        intro l;induction l with
        |nil=>intro h;cases h
        |cons z l bo =>grind[r06,absurd,Nat.ne_of_beq_eq_false]
       exact this _ X
      obtain⟨b,V⟩:=W;obtain⟨aX,bd⟩:=q07 V;have aW:b.e=e/\cB rs.bs b.ch=some true:=by
       obtain⟨_,bN,aP,aQ⟩:=r.lt b aX;obtain⟨_,bO,Q,S⟩:=r.lt q X;rw[bd,Q]at aP;cases aP;rw[S]at aQ;have bH:q.d=b.d:=by simpa using aQ
       obtain⟨aS,am,an⟩:=r.val b aX;grind[undef]
      refine⟨.bool (cond e bx by_),rfl,W0b λI _=>?_⟩;unfold execOp;rw[ho];simp only[bb,Sem.run_bind,asBool,Sem.run_pure,Result.andThen_ok];cases e
      ·have aH:cB rs.bs ((q.j,false)::q.ch)=some true:=by rw[B08,V,aL];simp[lit,aW.1]
       obtain⟨N,ap,aq⟩:=s0g C r aH y;have ai:=C.rdA ap;rw[←aq,L]at ai;have aC:a.eval y = .bool by_:=ai;simp[aC]
      have aH:cB rs.bs ((q.j,true)::q.ch)=some true:=by rw[B08,V,aL];simp[lit,aW.1]
      obtain⟨N,ap,aq⟩:=s0g C r aH x;have ai:=C.rdA ap;rw[←aq,u]at ai;have aC:a.eval x = .bool bx:=ai;simp[aC]
     exact s.elim
    exact s.elim
   exact s.elim
  |_=>simp only[evG,ho]at s;exact X00 C G s
 |fieldAddr t x k =>
  simp only[evG,ho]at s;split at s;·rename_i D off ah J aa;refine⟨_,s,λh=>?_⟩;have g:=G h x;rw[J]at g;exact⟨ptr (be D) (off+ah),⟨g.1,rfl⟩,I06 (R.exec_fieldAddr ho aa g.2)⟩
  ·rename_i sl D sz ao ah J aa;refine⟨_,s,λh=>?_⟩;have g:=G h x;rw[J]at g;obtain⟨b,az,n,cp,O,ag⟩:=g;exact⟨ptr b (az+(D.toNat*sz+ao)+ah),⟨b,az,n,cp,O,by simp[Nat.add_assoc]⟩,I06 (R.exec_fieldAddr ho aa ag)⟩
  ·rename_i aZ bp D sz ao ah J aa;refine⟨_,s,λh=>?_⟩;have g:=G h x;obtain⟨N,_,U⟩:=ac h x;rw[J]at g;obtain⟨aB,aA,aR,a0,a2,Z⟩:=m0o (U.symm.trans J);obtain⟨ar,n,cp,O,ag⟩:=g.oel_cur Z;exact⟨ptr ar (D.toNat*sz+ao+ah),⟨bp,by simp[stamp,Z],Nat.le_refl _,λ_=>⟨ar,n,cp,O,by simp[Nat.add_assoc]⟩⟩,I06 (R.exec_fieldAddr ho aa ag)⟩
  exact s.elim
 |indexAddr t x ax =>
  simp only[evG,ho]at s;split at s
  ·rename_i bq D ak;split at s
   ·rename_i e af;split at s
    ·rename_i sz aw;split at s;·rename_i a4 n cp u;refine⟨_,s.2,λh=>?_⟩;obtain⟨b,off,aN,aS,O,Q,S⟩:=M s.1 h;cases O;have A:=G h x;rw[u]at A;have gi:=G h ax;rw[ak]at gi;exact⟨ptr b (off+D.toNat*sz),⟨b,off,n,cp,rfl,oS⟩,I06 (R.exec_indexAddr ho af aw A gi Q S)⟩
     ·rename_i aZ ao u;split at s
      ·rename_i a1 a8 aA by_ nn xs Y;split at s
       ·rename_i V;refine⟨_,s.2,λh=>?_⟩;obtain⟨Q,S⟩:=M s.1 h;have:=Nat.eq_of_beq_eq_true V;subst this;have A:=G h x;obtain⟨N,_,U⟩:=ac h x;rw[u]at A;have gi:=G h ax;rw[ak]at gi;obtain⟨aB,bv,aR,a0,a2,Z⟩:=k0b (U.symm.trans u);have aY:=A.own_cur Z;have ae:=C.own aZ _ _ _ _ _ _ Y;rcases ae.2 with⟨ab,bm,_⟩|⟨g,cap,cur,ab,_⟩;·grind
        rw[ab]at aY;refine⟨ptr g (0+D.toNat*aA),⟨ao,by simp[stamp,Z],Nat.le_refl _,λ_=>⟨g,xs.length,cap,ab,oS⟩⟩,I06 (R.exec_indexAddr ho af aw aY gi Q S)⟩
       exact s.elim
      exact s.elim
     exact s.elim
    exact s.elim
   exact s.elim
  exact s.elim
 |load t x =>
  simp only[evG,ho]at s;split at s
  ·rename_i D off J;split at s;·rename_i cs ty Y;obtain⟨F,vs,aj,aD⟩:=C.box D cs ty Y;obtain⟨av,v,am,an,ay⟩:=R.load_row (H:=H) (b:=be D) (o:=0) (be:=be) s aj (λD v W=>by simp[Hp.cell,aD,W]);refine⟨av,am,λh=>⟨v,an,I06 ?_⟩⟩;have g:=G h x;rw[J]at g;exact R.exec_load ho g.2 (by simpa using ay)
   exact s.elim
  ·rename_i sl idx sz k J;obtain⟨e,aJ,E⟩:=s;cases c;·grind[N08]
   have aG:=M aJ rfl;have g:=G rfl x;rw[J]at g;obtain⟨b,az,n,cp,O,ag⟩:=g;obtain⟨_,_,bB,bM,aN,bD,aU,bf⟩:=aG;rw[O]at aU;cases aU;obtain⟨av,v,am,an,ay⟩:=R.load_row (H:=H) (b:=b) (o:=az+idx.toNat*sz) (be:=be) E (J2.vals rs.st oe e) (λD v W=>by
    have:=bf D v W;unfold Hp.cell at this ⊢;split at this;·rename_i bh;rw[C.sub _ _ bh];exact this
    cases this)
   grind[I06,R.exec_load,Nat.add_assoc]
  ·rename_i D a1 idx sz k J;split at s
   ·rename_i bQ a8 aA by_ nn xs Y;split at s
    ·rename_i V;have aw:=Nat.eq_of_beq_eq_true V;subst aw;obtain⟨e,aJ,E⟩:=s;cases c;·grind[N08]
     have aG:=M aJ rfl;have g:=G rfl x;obtain⟨N,_,U⟩:=ac rfl x;rw[J]at g;obtain⟨aB,bR,aR,a0,a2,Z⟩:=m0o (U.symm.trans J);obtain⟨ar,n,cp,O,ag⟩:=g.oel_cur Z;have ae:=C.own D _ _ _ _ _ _ Y;obtain⟨av,v,am,an,ay⟩:=R.load_row (H:=H) (b:=ar) (o:=idx.toNat*aA) (be:=be) E (J2.vals rs.st oe e) (λD v W =>
      ae.cells O _ _ (P07 xs _ e (λx u=>(ae.1 x u).1) aG D v W))
     grind[I06,R.exec_load]
    exact s.elim
   exact s.elim
  exact s.elim
 |build t bP =>
  simp only[evG,ho]at s;split at s
  ·rename_i ba z al bn;split at s
   ·rename_i aF;cases c
    ·have:∀(l:List (Nat×Operand)) (cs:List j7) (K':List j7->Prop),o0c P ba (rdG rs ch) l cs K'->∃ cs,K' cs:=by
      intro l;induction l with
      |nil=>intro cs K' h;exact⟨_,h⟩
      |cons p l bo =>grind[o0c]
     grind
    obtain⟨av,v,am,an,ay⟩:=V0p (K':=K) C ho al bn aF (λx cs bI=>by obtain⟨N,ap,aq⟩:=ac rfl x;grind[J0w]) s;grind[W0b]
   exact s.elim
  exact s.elim
 |index t x ax =>
  simp only[evG,ho]at s;split at s;·rename_i b bq D u ak al;obtain⟨e,F,E⟩:=s;refine⟨_,E,λh=>?_⟩;have A:=G h x;rw[u]at A;have gi:=G h ax;rw[ak]at gi;obtain⟨Q,S⟩:=M F h;exact⟨_,rfl,I06 (R.exec_index ho al A gi Q S)⟩
  exact s.elim
 |slice t x bK ak bt =>
  cases bt with
  |some m=>simp only[evG,ho]at s;exact X00 C G s
  |none =>
   simp only[evG,ho]at s;split at s
   ·rename_i b u al;split at s;·rename_i l m aK X;refine⟨_,s.2,λh=>?_⟩;obtain⟨F,aj,aD⟩:=M s.1 h;have A:=G h x;rw[u]at A;exact⟨_,rfl,I06 (R.exec_cutStr ho al A (F09 (G h) aK) (F09 (G h) X) F aj aD)⟩
    exact s.elim
   ·rename_i a4 n cp u;split at s
    ·rename_i e af;split at s
     ·rename_i sz aM;split at s;·rename_i l m aK X;obtain⟨v,F,E⟩:=s;refine⟨_,E,λh=>?_⟩;obtain⟨⟨Q,S,a5,b4⟩,a6⟩:=M F h;have A:=G h x;rw[u]at A;refine⟨v,rfl,?_⟩;rw[a6 _ _ _ rfl];exact I06 (R.exec_slice ho af aM A (F09 (G h) aK) (F09 (G h) X) Q S a5 b4)
      exact s.elim
     exact s.elim
    exact s.elim
   exact s.elim
 |binOp bu t x y bS =>
  cases bu with
  |add =>
   simp only[evG,ho]at s;split at s;·rename_i b ad u L;refine⟨_,s.2,λh=>?_⟩;have A:=G h x;rw[u]at A;have T:=G h y;rw[L]at T;exact⟨_,rfl,I06 (R.exec_cat ho A T (M s.1 h))⟩
   grind[X00]
  |quo =>
   simp only[evG,ho]at s;split at s;·rename_i b ad u L;refine⟨_,s.2,λh=>?_⟩;have A:=G h x;rw[u]at A;have T:=G h y;rw[L]at T;exact⟨_,rfl,I06 (R.exec_quo ho A T (M s.1 h))⟩
   exact X00 C G s
  |rem =>
   simp only[evG,ho]at s;split at s;·rename_i b ad u L;refine⟨_,s.2,λh=>?_⟩;have A:=G h x;rw[u]at A;have T:=G h y;rw[L]at T;exact⟨_,rfl,I06 (R.exec_rem ho A T (M s.1 h))⟩
   exact X00 C G s
  |eql =>
   simp only[evG,ho]at s;split at s;·rename_i xs bA u L;obtain⟨b,F,E⟩:=s;exact⟨_,E,λh=>⟨.bool b,rfl,W0b λI _=>M F h _ (l7 u (G h x)) (l7 L (G h y)) I⟩⟩
   ·rename_i a3 aN br u L;obtain⟨b,F,E⟩:=s;exact⟨_,E,λh=>⟨.bool b,rfl,W0b λI _=>M F h _ (l7 u (G h x)) (l7 L (G h y)) I⟩⟩
   exact X00 C G s
  |neq =>
   simp only[evG,ho]at s;split at s;·rename_i xs bA u L;obtain⟨b,F,E⟩:=s;exact⟨_,E,λh=>⟨.bool b,rfl,W0b λI _=>M F h _ (l7 u (G h x)) (l7 L (G h y)) I⟩⟩
   ·rename_i a3 aN br u L;obtain⟨b,F,E⟩:=s;exact⟨_,E,λh=>⟨.bool b,rfl,W0b λI _=>M F h _ (l7 u (G h x)) (l7 L (G h y)) I⟩⟩
   grind[X00]
  |_=>simp only[evG,ho]at s;exact X00 C G s
 |call ad =>
  obtain⟨a7,as,bz⟩:=ad;cases a7 with
  |builtin b =>
   cases b with
   |len =>
    simp only[evG,ho]at s;split at s
    ·rename_i x t aF aa;have bc:as = #[x]:=by apply Array.ext';simpa using aF
     have bl:bz = #[t]:=by apply Array.ext';simpa using aa
     split at s
     ·rename_i D k J;split at s
      ·rename_i a1 e sz by_ nn xs aB Y af;refine⟨_,s,λh=>?_⟩;have g:=G h x;obtain⟨N,_,U⟩:=ac h x;rw[J]at g;obtain⟨O,bv,bC,bL,bU,bg⟩:=k0b (U.symm.trans J);have u:=g.own_cur bg;have ae:=C.own D _ _ _ _ _ _ Y;rcases ae.2 with⟨ab,bm,_⟩|⟨bE,cap,cur,ab,_⟩;·rw[ab]at u;refine⟨.int .i64 xs.length,rfl,W0b λI _=>?_⟩;grind[r0g]
       rw[ab]at u;exact⟨.int .i64 xs.length,rfl,W0b λI _=>r0g ho bc bl af u I⟩
      exact s.elim
     exact X00 C G s
    exact s.elim
   |_=>simp only[evG,ho]at s;exact X00 C G s
  |value f=>simp only[evG,ho]at s;exact X00 C G s
  |invoke r m=>simp only[evG,ho]at s;exact X00 C G s
 |_=>simp only[evG,ho]at s;exact X00 C G s
end
end Go.H
