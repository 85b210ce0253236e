/- The library of the walks, part HC: plain laws over the model. -/
import Derived.Test.YtmgikbbmpnbbjaaGreatHB
namespace Go.H.R
open Go.H
set_option linter.unusedVariables false
set_option linter.unusedSimpArgs false
def wpR(P:Program){b:Type}:Sem b->Hp->(b->Hp->Prop)->Prop
 | .pure a,h,K=>K a h
 | .load _ a k,h,K=>∃ v,(a.spot=none/\Hp.cell h a.block a.off=some v)/\wpR P (k v) h K
 | .program k,h,K=>wpR P (k P) h K
 | .mark _ k,h,K=>wpR P k h K
 |_,_,_=>False
theorem wpR_sound{P:Program}{f:Type}{K:f->Hp->Prop}(e:Sem f):∀(h:Hp) (w:World),Vis h w->wpR P e h K->∃ x,e.run P w = .ok x w/\K x h:=by
 induction e with
 |pure a=>exact λh w c b=>⟨a,rfl,b⟩
 |load m a k d =>
  rintro h w c ⟨v,⟨i,g⟩,b⟩
  grind[Sem.run,h07]
 |program k d=>exact λh w c b=>d _ _ _ c b
 |mark m k d=>exact λh w c b=>d _ _ c b
 |_=>exact λh w c b=>b.elim
theorem d7{P:Program}{e c:Type}(b:Sem e)(f:e->Sem c):∀(h:Hp) (K:c->Hp->Prop),wpR P (b >>= f) h K=wpR P b h (λx h'=>wpR P (f x) h' K):=by
 change ∀(h:Hp) (K:c->Hp->Prop),wpR P (b.bind f) h K=wpR P b h (λx h'=>wpR P (f x) h' K)
 induction b with
 |pure a=>intro h K;rfl
 |load m a k d=>grind[Sem.bind,wpR]
 |program k d=>grind[Sem.bind,wpR]
 |mark m k d=>grind[Sem.bind,wpR]
 |_=>intro h K;rfl
theorem V7{P:Program}{a:Type}(x:a)(h:Hp)(K:a->Hp->Prop):wpR P (pure x) h K=K x h:=rfl
section
variable {P:Program} {h0:Hp} {w0:World} {be:Nat->Nat} {oe:Nat->Value} {H:Hp} {st:St} {h:Hp} {a:Act} {w:World} {o:Oper}
theorem v01{t:TypeId}{d:TypeDesc}(a:P.underlying t=some d)(h:Hp)(K:TypeDesc->Hp->Prop):wpR P (underlying t) h K=K d h:=by
 simp_all[underlying,program,d7,wpR,V7]
theorem N0j{t:TypeId}{i:TypeInfo}(a:P.info? t=some i)(h:Hp)(K:TypeInfo->Hp->Prop):wpR P (typeInfo t) h K=K i h:=by
 grind[typeInfo,program,d7,wpR,V7]
theorem Z07{t:TypeId}{n:Nat}(a:i6 P t=some n)(h:Hp)(K:Nat->Hp->Prop):wpR P (sizeOf t) h K=K n h:=by
 grind[i6,sizeOf,d7,N0j,V7]
theorem Z0h{t:TypeId}{b:Bool}(a:s0j P t=some b)(h:Hp)(K:Bool->Hp->Prop):wpR P (isAgg t) h K=K b h:=by
 unfold s0j at a
 grind[isAgg,d7,v01,V7,absurd]
theorem x06{H:Hp}{b o:Nat}:∀(vs:List Value) (i:Nat) (acc:Array Value) (K:Array Value->Hp->Prop),(∀ j v,vs[j]?=some v->Hp.cell H b (o+i+j)=some v) ->
  K (acc++vs.toArray) H->wpR P (loadCellsFrom ⟨b,o,none⟩ i vs.length acc) H K
 | [],i,acc,K,_,c=>by grind[loadCellsFrom,V7]
 |v::vs,i,acc,K,a,c=>by
  have h0:=a 0 v (by simp)
  simp only[loadCellsFrom,List.length_cons,d7,load,wpR]
  have d:(⟨b,o,none⟩:Addr).add i=⟨b,o+i,none⟩:=by unfold Addr.add;split<;>simp_all
  rw[d]
  refine⟨v,⟨rfl,by simpa using h0⟩,x06 vs (i+1) (acc.push v) K ?_ ?_⟩
  ·intro j u e
   have:=a (j+1) u (by simpa using e)
   grind
  ·simpa using c
theorem load_row{t:TypeId}{cs:List P5}{vs:List Value}{off:Nat}{K:AV->Prop}{b o:Nat}(a:E05 P t cs off K)(g:C2 st oe cs vs)
  (p:∀ j v,vs[j]?=some v->Hp.cell H b (o+j)=some v):∃ av v,K av/\I2 st be oe av v/\∀ d:Value->Hp->Prop,d v H->wpR P (loadVar t ⟨b,o+off,none⟩) H d:=by
 unfold E05 at a
 split at a
 ·rename_i e
  split at a
  ·rename_i n f
   split at a
   ·rename_i l
    have m:=g03 _ _ l
    have h:=(g.drop off).take n
    refine⟨_,.agg ((vs.drop off).take n).toArray,a,⟨_,rfl,h⟩,λd k=>?_⟩
    have s:((vs.drop off).take n).length=n:=by rw[←h.length,m]
    simp only[loadVar,d7,Z0h e,if_true,Z07 f,loadCells]
    have:=x06 (P:=P) (H:=H) (b:=b) (o:=o+off) ((vs.drop off).take n) 0 #[] (λx h'=>wpR P (pure (Value.agg x)) h' d) (λj v q=>by
     grind) (by grind[V7])
    grind
   ·exact a.elim
  ·exact a.elim
 ·rename_i e
  split at a
  ·rename_i c f
   obtain⟨v,u,i⟩:=g.nth f
   refine⟨_,v,a,I2.ofCell i,λd k=>?_⟩
   simp only[loadVar,d7,Z0h e,Bool.false_eq_true,if_false,load,wpR]
   grind
  ·exact a.elim
 ·exact a.elim
theorem A8{P:Program}(b:Sem Value)(H:Hp)(a:Next->Hp->Prop)(h:wpR P b H (λv H=>a (.value v) H)):wpR P (do pure (Next.value (←b))) H a:=by
 rw[d7];exact h
theorem exec_fieldAddr{t:TypeId}{x:Operand}{k d b off:Nat}(h:o.op = .fieldAddr t x k)(i:t0j P t k=some d)(l:a.eval x=ptr b off):
  ∀ c:Next->Hp->Prop,c (.value (ptr b (off+d))) H->wpR P (execOp a.eval o) H c:=by
 intro c e
 obtain⟨m,f,n,j,hf,g,rfl⟩:=X0h i
 unfold execOp;rw[h]
 refine A8 _ _ _ ?_
 simp only[Instr.fieldAt,d7,v01 j,hf,l,ptr,Instr.sureAddr,V7,fieldPlace,Z07 g,Nat.add_one_ne_zero,if_false,n02]
 exact e
theorem exec_indexAddr{t e:TypeId}{x i:Operand}{k:IntKind}{j:Int}{sz b off n c:Nat}(m:o.op = .indexAddr t x i)(q:J01 P t=some e)(p:i6 P e=some sz)
  (u:a.eval x = .slice (some ⟨b,off,none⟩) n c) (h:a.eval i = .int k j) (f:0<=j) (g:j<(n:Int)) :
  ∀ d:Next->Hp->Prop,d (.value (ptr b (off+j.toNat*sz))) H->wpR P (execOp a.eval o) H d:=by
 intro d l
 have s:=c00 q
 unfold execOp;rw[m]
 refine A8 _ _ _ ?_
 simp only[Instr.indexAt,u,h,asIntOf,d7,V7,v01 s,f,g,and_self,if_true,Z07 p,n02]
 exact l
theorem d0a{x:Value}{k:IntKind}{i:Int}{y:Nat}{b:BoundsCode}(e:x = .int k i)(c:0<=i)(d:i<=(y:Int))(a:Nat->Hp->Prop):wpR P (Instr.sliceBound x y b) H a=a i.toNat H:=by
 subst e
 simp only[Instr.sliceBound,asIntOf,d7,V7,c,d,and_self,if_true]
theorem T0f{isS:Bool}{n c:Nat}{f b:Option Operand}{l m:Int}(i:Q05 a 0 f l)(d:Q05 a n b m)(h:0<=l)(s:l<=m)(t:m<=(n:Int))(u:n<=c)
  (g:Nat×Nat×Nat->Hp->Prop):wpR P (Instr.sliceBounds isS n c (f.map a.eval) (b.map a.eval) none) H g=g (l.toNat,m.toNat,c) H:=by
 have q:l<=(m.toNat:Int):=by omega
 cases f with
 |none =>
  have p:l=0:=i
  subst p
  cases b with
  |none =>
   have j:m=(n:Int):=d
   simp_all[Instr.sliceBounds,Option.map_none,d7,V7]
  |some y =>
   obtain⟨k,e⟩:=d
   simp only[Instr.sliceBounds,Option.map_none,Option.map_some,d7,V7,d0a e (by omega) (show m<=(c:Int) by omega)];rfl
 |some x =>
  obtain⟨k,o⟩:=i
  cases b with
  |none =>
   have j:m=(n:Int):=d
   subst j
   simp only[Instr.sliceBounds,Option.map_none,Option.map_some,d7,V7,d0a o h (show l<=((n:Nat):Int) by omega)];rfl
  |some y =>
   obtain⟨v,e⟩:=d
   simp only[Instr.sliceBounds,Option.map_some,d7,V7,d0a e (by omega) (show m<=(c:Int) by omega),d0a o h q]
theorem exec_cutStr{t:TypeId}{x:Operand}{e d:Option Operand}{b:ByteArray}{l m:Int}(n:o.op = .slice t x e d none)(p:P.underlying t=some .string)
  (q:a.eval x = .string b) (j:Q05 a 0 e l) (k:Q05 a b.size d m) (f:0<=l) (g:l<=m) (h:m<=(b.size:Int)) :
  ∀ c:Next->Hp->Prop,c (.value (.string (b.extract l.toNat m.toNat))) H->wpR P (execOp a.eval o) H c:=by
 intro c i
 unfold execOp;rw[n]
 refine A8 _ _ _ ?_
 simp only[Instr.sliceAt,d7,v01 p,Instr.slice,q,Option.map_none,Option.isSome_none,Bool.false_eq_true,if_false,V7]
 rw[T0f j k f g h (Nat.le_refl _)]
 exact i
theorem exec_index{t:TypeId}{x i:Operand}{b:ByteArray}{k:IntKind}{j:Int}{c:UInt8}(l:o.op = .index t x i)(m:P.underlying t=some .string)(n:a.eval x = .string b)(g:a.eval i = .int k j)
  (e:0<=j) (f:b[j.toNat]?=some c):∀ d:Next->Hp->Prop,d (.value (.int .u8 c.toNat)) H->wpR P (execOp a.eval o) H d:=by
 intro d h
 unfold execOp;rw[l]
 refine A8 _ _ _ ?_
 simp only[Instr.index,n,g,asIntOf,d7,V7,v01 m,e,if_true,f]
 exact h
theorem exec_cat{t j:TypeId}{x y:Operand}{b c:ByteArray}(g:o.op = .binOp .add t x y j)(h:a.eval x = .string b)(i:a.eval y = .string c)(k:b.size+c.size<=9223372036854775807):
  ∀ d:Next->Hp->Prop,d (.value (.string (b++c))) H->wpR P (execOp a.eval o) H d:=by
 intro d e
 unfold execOp;rw[g]
 refine A8 _ _ _ ?_
 have f : ¬ (((b.size+c.size:Nat):Int)>IntKind.i64.max):=by
  have:IntKind.i64.max=9223372036854775807:=by decide
  rw[this];omega
 simp only[h,i,eqGuard,d7,Bool.not_false,if_true,V7,binOp,Go.Op.stringOp,if_neg f]
 exact e
theorem exec_quo{t j:TypeId}{x y:Operand}{b c:Int}(g:o.op = .binOp .quo t x y j)(h:a.eval x = .int .i64 b)(i:a.eval y = .int .i64 c)(f:c≠0):
  ∀ d:Next->Hp->Prop,d (.value (.int .i64 (IntKind.i64.wrap (b.tdiv c)))) H->wpR P (execOp a.eval o) H d:=by
 intro d e
 unfold execOp;rw[g]
 refine A8 _ _ _ ?_
 simp only[h,i,eqGuard,d7,Bool.not_false,if_true,V7,binOp,Go.Op.intDiv,if_neg f,ne_eq,not_true_eq_false,if_false]
 exact e
theorem exec_rem{t j:TypeId}{x y:Operand}{b c:Int}(g:o.op = .binOp .rem t x y j)(h:a.eval x = .int .i64 b)(i:a.eval y = .int .i64 c)(f:c≠0):
  ∀ d:Next->Hp->Prop,d (.value (.int .i64 (b.tmod c))) H->wpR P (execOp a.eval o) H d:=by
 intro d e
 unfold execOp;rw[g]
 refine A8 _ _ _ ?_
 simp only[h,i,eqGuard,d7,Bool.not_false,if_true,V7,binOp,Go.Op.intDiv,if_neg f,ne_eq,not_true_eq_false,if_false]
 exact e
theorem exec_slice{t e sz:Nat}{x:Operand}{g f:Option Operand}{d:Option Addr}{n c:Nat}{l m:Int}(s:o.op = .slice t x g f none)(u:J01 P t=some e)(y:i6 P e=some sz)
  (v:a.eval x = .slice d n c) (k:Q05 a 0 g l) (p:Q05 a n f m) (h:0<=l) (i:l<=m) (j:m<=(n:Int)) (q:n<=c) :
  ∀ b:Next->Hp->Prop,b (.value (.slice (if c=l.toNat then d else d.map (·.add (l.toNat*sz))) (m.toNat-l.toNat) (c-l.toNat))) H->wpR P (execOp a.eval o) H b:=by
 intro b w
 unfold execOp;rw[s]
 refine A8 _ _ _ ?_
 simp only[Instr.sliceAt,d7,v01 (c00 u),Instr.slice,v,Option.map_none]
 rw[T0f k p h i j q]
 grind[Z07,V7]
theorem exec_load{t:TypeId}{x:Operand}{b off:Nat}{v:Value}(d:o.op = .load t x)(g:a.eval x=ptr b off)
  (f:∀ c:Value->Hp->Prop,c v H->wpR P (loadVar t ⟨b,off,none⟩) H c):∀ c:Next->Hp->Prop,c (.value v) H->wpR P (execOp a.eval o) H c:=by
 intro c e
 unfold execOp;rw[d]
 refine A8 _ _ _ ?_
 grind[Instr.loadAt,ptr,Instr.sureAddr,d7,V7]
theorem run_of{v:Value}(e:∀ b:Next->Hp->Prop,b (.value v) H->wpR P (execOp a.eval o) H b)(w:World)(d:Vis H w):(execOp a.eval o).run P w = .ok (.value v) w:=by
 obtain⟨x,c,f⟩:=wpR_sound _ _ w d (e (λn _=>n = .value v) rfl)
 rw[c,f]
end
end Go.H.R
namespace Go.H
set_option linter.unusedVariables false
set_option linter.unusedSimpArgs false
section
variable {P:Program} {h0:Hp} {w0:World} {be:Nat->Nat} {oe:Nat->Value} {H:Hp} {rs:RS} {a:Act} {w:World} {o:Oper} {ops:Array Oper} {i:Nat}
theorem p0u{a b:Bool}(h:eqB a b=true):a=b:=by cases a<;>cases b<;>simp_all [eqB]
theorem O0j:∀(a b:List (Nat×Bool)),L0q a b=true->a=b
 | [],[],_=>rfl
 |(j,w)::r,(f,g)::e,h=>by
  simp only[L0q]at h
  split at h
  ·rename_i c d
   rw[Nat.eq_of_beq_eq_true c,p0u d,O0j r e h]
  ·cases h
 | [],_::_,h=>by cases h
 |_::_,[],h=>by cases h
theorem n04:∀ {bs:List BE} {j:Nat} {b:BE},t03 bs j=some b->b∈bs/\b.j=j
 | [],_,_,h=>by cases h
 |x::r,j,b,h=>by
  simp only[t03]at h
  split at h
  ·simp_all
  ·obtain⟨a,c⟩:=n04 h
   grind
theorem l0d:∀ {bs:List BE} {a:Nat} {b:BE},J0b bs a=some b->b∈bs/\b.d=a
 | [],_,_,h=>by cases h
 |x::r,j,b,h=>by
  simp only[J0b]at h
  split at h
  ·simp_all
  ·obtain⟨c,e⟩:=l0d h
   grind
theorem U0f:∀ {bs:List BE} {c:Nat},J0b bs c=none->∀ b∈bs,b.d≠c
 | [],_,_,b,a=>by cases a
 |x::r,c,h,b,a=>by
  simp only[J0b]at h
  split at h
  ·cases h
  ·rename_i e
   rcases List.mem_cons.1 a with rfl|a
   ·exact Nat.ne_of_beq_eq_false e
   ·exact U0f h b a
theorem t05(bs:List BE)(j:Nat)(w:Bool)(r:List (Nat×Bool)):cB bs ((j,w)::r)=match t03 bs j,cB bs r with
  |some b,some c=>some (lit w b.e&&c)
  |_,_=>none:=by
 grind[cB,t03,lit]
theorem T0s{bs:List BE}{x:Nat×Bool}{r:List (Nat×Bool)}(h:cB bs (x::r)=some true):cB bs r=some true:=by
 rw[t05]at h
 grind
theorem e0a{bs:List BE}{p:List (Nat×Bool)}:∀ {q:List (Nat×Bool)},I0k p q=true->cB bs q=some true->cB bs p=some true
 | [],h,a=>by rw[O0j _ _ h];exact a
 |x::r,h,a=>by
  simp only[I0k]at h
  split at h
  ·grind[O0j]
  ·exact e0a h (T0s a)
theorem j0n{bs:List BE}{x:BE}(f:∀ y∈bs,y.j≠x.j):∀ {ch:List (Nat×Bool)} {c:Bool},cB bs ch=some c->cB (x::bs) ch=some c
 | [],c,h=>h
 |(j,w)::r,c,h=>by
  rw[t05]at h
  split at h
  ·rename_i b g d a
   have l:Nat.beq x.j j=false:=by
    obtain⟨i,k⟩:=n04 d
    grind[Nat.beq,absurd,Nat.eq_of_beq_eq_true]
   have e:t03 (x::bs) j=some b:=by grind[t03]
   rw[t05,e,j0n f a]
   exact h
  ·cases h
structure n09 (ops:Array Oper) (be:Nat->Nat) (oe:Nat->Value) (rs:RS) (a:Act) (i:Nat):Prop where
 lt:∀ x∈rs.bs,x.j<i/\∃ o,ops[x.j]?=some o/\o.dst=some x.d
 val:∀ x∈rs.bs,∃ c,cB rs.bs x.ch=some c/\a.tmps[x.d]?=some (if c=true then .bool x.e else undef)
 gf:∀ d ch av,D0f rs.gf d=some (ch,av)->∃ c,cB rs.bs ch=some c/\(c=true->I2 rs.st be oe av (a.tmps.getD d undef))
theorem n09.grow(r:n09 ops be oe rs a i){st:St}{h:Hp}{be':Nat->Nat}{oe':Nat->Value}(g:j7 rs.st be oe st be' oe'):n09 ops be' oe' { rs with st:=st,h:=h } a i :=
 ⟨r.lt,r.val,λd ch av e=>let ⟨c,h1,h2⟩:=r.gf d ch av e;⟨c,h1,λb=>(h2 b).grow g⟩⟩
theorem O0p(r:n09 ops be oe rs a i){ch:List (Nat×Bool)}{c:Bool}(d:U00 rs.bs o.guard=some ch)(f:cB rs.bs ch=some c):Region.wanted o (yielded ops a.tmps)=c:=by
 unfold Region.wanted
 cases hg:o.guard with
 |none =>
  rw[hg]at d
  cases d
  cases f
  rfl
 |some p =>
  obtain⟨j,w⟩:=p
  rw[hg]at d
  simp only[U00]at d
  split at d
  ·rename_i b h
   cases d
   obtain⟨k,rfl⟩:=n04 h
   obtain⟨_,t,n,m⟩:=r.lt b k
   obtain⟨g,l,q⟩:=r.val b k
   rw[t05,h,l]at f
   simp only[Option.some.injEq]at f
   have s:yielded ops a.tmps b.j=if g=true then some b.e else none:=by
    unfold yielded
    simp only[n,m,oB,q]
    cases g<;>rfl
   simp only[s,←f]
   cases g<;>cases w<;>cases b.e<;>rfl
  ·cases d
theorem V0f(n:Sim P h0 w0 be oe H rs.st rs.h a w)(r:n09 ops be oe rs a i){ch:List (Nat×Bool)}(k:cB rs.bs ch=some true)(x:Operand):
  (∃ b,I2 rs.st be oe b (a.eval x)/\rdG rs ch x=rdA rs.st b):=by
 cases x with
 |tmp t =>
  simp only[rdG]
  split
  ·rename_i e av l
   split
   ·rename_i m
    obtain⟨c,d,j⟩:=r.gf t e av l
    rw[e0a m k]at d
    cases d
    exact⟨av,j rfl,rfl⟩
   ·exact⟨.dead,trivial,rfl⟩
  ·exact⟨_,n.fr t,rfl⟩
 |const v=>exact⟨.val v,rfl,rfl⟩
 |global g=>exact⟨.dead,trivial,rfl⟩
 |func f=>exact⟨.val _,rfl,rfl⟩
theorem R05(z:Sim P h0 w0 be oe H rs.st rs.h a w)(r:n09 ops be oe rs a i)(V:ops[i]?=some o){ch:List (Nat×Bool)}{c:Bool}{av:AV}{v:Value}{K:RS->Prop}
  (F:cB rs.bs ch=some c) (g:c=true->I2 rs.st be oe av v) (M:c=false->v=undef) (m:E0f o.dst i ch av rs K) :
  ∃ D,K D/\D.h=rs.h/\n09 ops be oe D (a.put o.dst v) (i+1)/\Sim P h0 w0 be oe H D.st D.h (a.put o.dst v) w:=by
 cases hd:o.dst with
 |none =>
  rw[hd]at m
  exact⟨rs,m,rfl,⟨λx p=>⟨Nat.lt_succ_of_lt (r.lt x p).1,(r.lt x p).2⟩,r.val,r.gf⟩,z⟩
 |some d =>
  rw[hd]at m
  simp only[E0f]at m
  split at m
  ·rename_i Q Y
   have G:d<rs.st.n:=Nat.le_of_ble_eq_true Q
   have Z:D0f rs.gf d=none/\J0b rs.bs d=none:=by
    grind[b09]
   have T:∀ t,t≠d->(a.put (some d) v).tmps[t]?=a.tmps[t]?:=λt R=>by
    simp[Act.put,Array.getElem?_setIfInBounds_ne (Ne.symm R)]
   have O:(a.put (some d) v).tmps[d]?=some v:=by simp[Act.put,z.siz,G]
   have p:∀ y∈rs.bs,y.j≠i:=λy S e=>by have:=(r.lt y S).1;omega
   have u:(∀ x∈K0k i d ch av rs.bs,x.j<i+1/\∃ o,ops[x.j]?=some o/\o.dst=some x.d) /\
     (∀ x∈K0k i d ch av rs.bs,∃ c,cB (K0k i d ch av rs.bs) x.ch=some c/\(a.put (some d) v).tmps[x.d]?=some (if c=true then .bool x.e else undef)) /\
     (∀ f b,cB rs.bs f=some b->cB (K0k i d ch av rs.bs) f=some b):=by
    have W:∀ x∈rs.bs,x.j<i+1/\∃ o,ops[x.j]?=some o/\o.dst=some x.d:=λx p=>⟨Nat.lt_succ_of_lt (r.lt x p).1,(r.lt x p).2⟩
    have X:∀ x∈rs.bs,∃ c,cB rs.bs x.ch=some c/\(a.put (some d) v).tmps[x.d]?=some (if c=true then .bool x.e else undef):=λx p=>by
     obtain⟨c,s,A⟩:=r.val x p
     grind[U0f]
    unfold K0k
    split
    ·rename_i e
     have J:∀ f b,cB rs.bs f=some b->cB (⟨i,d,e,ch⟩::rs.bs) f=some b:=λf b h'=>j0n (x:=⟨i,d,e,ch⟩) p h'
     refine⟨λx I=>?_,λx I=>?_,J⟩
     ·grind
     ·rcases List.mem_cons.1 I with rfl|I
      ·refine⟨c,J _ _ F,?_⟩
       rw[O]
       cases c with
       |true=>rw[show v = .bool e from g rfl];rfl
       |false=>rw[M rfl];rfl
      grind
    grind
   have E:∀ k,j7 rs.st be oe { rs.st with fr:=(d,k)::rs.st.fr } be oe:=λk=>⟨Nat.le_refl _,λ_ _=>rfl,λi z h=>⟨z,h,Nat.le_refl _,λ_=>rfl⟩⟩
   have L:∀ l f k,D0f rs.gf l=some (f,k)->∃ b,cB (K0k i d ch av rs.bs) f=some b/\(b=true->I2 rs.st be oe k ((a.put (some d) v).tmps.getD l undef)):=λl f k q=>by
    obtain⟨b,s,A⟩:=r.gf l f k q
    refine⟨b,u.2.2 _ _ s,λC=>?_⟩
    have U:l≠d:=λe=>by grind
    simp_all
   split at m
   ·
    cases F
    refine⟨_,m,rfl,⟨u.1,u.2.1,λl f k q=>?_⟩,z.put G (g rfl)⟩
    obtain⟨b,s,A⟩:=L l f k q
    exact⟨b,s,λC=>(A C).grow (E av)⟩
   ·refine⟨_,m,rfl,⟨u.1,u.2.1,λl f k q=>?_⟩,z.put G (show I2 rs.st be oe .dead v from trivial)⟩
    simp only[D0f]at q
    split at q
    ·rename_i N
     cases q
     have:=Nat.eq_of_beq_eq_true N
     subst this
     refine⟨c,u.2.2 _ _ F,λC=>(I2.grow (E .dead) ?_)⟩
     simp_all
    ·obtain⟨b,s,A⟩:=L l f k q
     exact⟨b,s,λC=>(A C).grow (E .dead)⟩
  ·exact m.elim
end
section
variable {P:Program} {h0:Hp} {w0:World} {be:Nat->Nat} {oe:Nat->Value} {H:Hp} {rs:RS} {a:Act} {w:World} {o:Oper} {ops:Array Oper} {i:Nat}
theorem o09{bs:List BE}{ch:List (Nat×Bool)}{c:Bool}{X:Prop}(h:imp ch c X)(a:c=true):X:=by
 grind[imp]
def CW(H:Hp)(w:World):World->Prop:=λa=>T2 H w H a
theorem p09{v:Value}(c:∀ b,Vis H b->(execOp a.eval o).run P b = .ok (.value v) b):∀ b,CW H w b->o.quietAt P a (CW H w) b v:=λb m=>by
 unfold Oper.quietAt
 rw[c b m.vis]
 exact⟨rfl,rfl⟩
theorem J03{v:Value}(e:∀ c:Next->Hp->Prop,c (.value v) H->R.wpR P (execOp a.eval o) H c):∀ b,CW H w b->o.quietAt P a (CW H w) b v :=
 p09 λb d=>R.run_of e b d
theorem T2.widen{hf:Hp}{w d:World}(c:Vis H w)(e:∀ b o,hf b=some o->H b=some o)(m:T2 hf w hf d):T2 H w H d:=by
 refine⟨m.os,m.tape,m.output,m.size,?_,?_,λb a => .inl a,m.fz,m.dn⟩
 ·intro b a g
  refine m.keep b a ?_
  cases hc:hf b with
  |none=>rfl
  |some o=>grind
 ·intro b o a
  cases hc:hf b with
  |some f =>
   have:=e b f hc
   rw[this]at a;cases a
   exact m.vis b _ hc
  |none=>rw[m.keep b (c.lt (by rw[a];simp)) hc];exact c b o a
theorem S05{ch:List (Nat×Bool)}(G:∀ x,I2 rs.st be oe (rdG rs ch x) (a.eval x)):∀(l:List Operand) {vs:List (Nat×Value)},J0k rs ch l=some vs ->
  (∀ p∈vs,p.2=a.eval (.tmp p.1))/\(∀ x∈l,(∃ t v,x = .tmp t/\(t,v)∈vs)∨(∀ g,rho g x=a.eval x))
 | [],vs,h=>by cases h;simp
 | .tmp t::r,vs,h=>by
  simp only[J0k]at h
  split at h
  ·rename_i v i
   split at h
   ·rename_i j e
    cases h
    obtain⟨c,d⟩:=S05 G r e
    grind[T7,List.mem_cons_self,mC]
   ·cases h
  ·cases h
 | .global _::r,vs,h=>by cases h
 | .const v::r,vs,h=>by
  obtain⟨c,d⟩:=S05 G r (vs:=vs) h
  exact⟨c,λx b=>by
   rcases List.mem_cons.1 b with rfl|b
   ·exact .inr λ_=>rfl
   ·exact d x b⟩
 | .func f::r,vs,h=>by
  obtain⟨c,d⟩:=S05 G r (vs:=vs) h
  exact⟨c,λx b=>by
   rcases List.mem_cons.1 b with rfl|b
   ·exact .inr λ_=>rfl
   ·exact d x b⟩
abbrev X0u(P:Program)(be:Nat->Nat)(oe:Nat->Value)(H:Hp)(rs:RS)(a:Act)(w:World)(o:Oper)(c:Bool)(K:AV->Prop):Prop :=
 ∃ av,K av/\(c=true->∃ v,I2 rs.st be oe av v/\∀ b,CW H w b->o.quietAt P a (CW H w) b v)
variable {ch:List (Nat×Bool)} {c:Bool} {K:AV->Prop}
theorem a08(G:∀ x,I2 rs.st be oe (rdG rs ch x) (a.eval x)):∀(l:List Operand) {st:St} {h:Hp} {K:List (Nat×Value)->St->Hp->Prop},Sim P h0 w0 be oe H st h a w->j7 rs.st be oe st be oe->L0s rs ch l st h K ->
  ∃ vs st' h',K vs st' h'/\Sim P h0 w0 be oe H st' h' a w/\(∀ p∈vs,p.2=a.eval (.tmp p.1))/\(∀ x∈l,(∃ t v,x = .tmp t/\(t,v)∈vs)∨(∀ q,rho q x=a.eval x))
 | [],st,h,K,c,d,b=>⟨[],st,h,b,c,by simp,by simp⟩
 | .tmp t::r,st,h,K,c,d,b=>by
  obtain⟨u,s,n,s1,o⟩:=v03 c (c.rdA ((G (.tmp t)).grow d)) b
  obtain⟨vs,m,i,g,s2,j,k⟩:=a08 G r s1 (d.trans o) n
  grind
 | .const v::r,st,h,K,c,d,b=>by
  obtain⟨vs,m,i,g,s2,j,k⟩:=a08 G r c d b
  refine⟨vs,m,i,g,s2,j,λx e=>?_⟩
  rcases List.mem_cons.1 e with rfl|e
  ·exact .inr λ_=>rfl
  ·exact k x e
 | .func f::r,st,h,K,c,d,b=>by
  obtain⟨vs,m,i,g,s2,j,k⟩:=a08 G r c d b
  refine⟨vs,m,i,g,s2,j,λx e=>?_⟩
  rcases List.mem_cons.1 e with rfl|e
  ·exact .inr λ_=>rfl
  ·exact k x e
 | .global _::_,_,_,_,_,_,b=>b.elim
theorem l9(z:Sim P h0 w0 be oe H rs.st rs.h a w)(G:c=true->∀ x,I2 rs.st be oe (rdG rs ch x) (a.eval x))(d:w0j P o ch c rs K):X0u P be oe H rs a w o c K:=by
 unfold w0j at d
 split at d
 ·rename_i vs D C
  split at d
  ·rename_i f l n
   split at d
   ·rename_i u
    obtain⟨v,y,s⟩:=d
    refine⟨_,s,λg=>?_⟩
    obtain⟨k,p⟩:=S05 (G g) _ C
    rw[M05 k p]at n
    refine⟨v,rfl,λj m=>?_⟩
    unfold Oper.quietAt
    rw[W09 n u]
    refine⟨rfl,((o09 (bs:=rs.bs) y g).run j (λb o q=>m.vis b o (z.sub b o q))).mono ?_⟩
    rintro e J ⟨I,h',rfl,⟨rfl,rfl⟩,t⟩
    exact⟨rfl,T2.trans m (T2.widen m.vis z.sub t)⟩
   ·exact d.elim
  ·split at d
   ·rename_i v A
    refine⟨_,d,λg=>?_⟩
    obtain⟨k,p⟩:=S05 (G g) _ C
    rw[T0b,X09 D k p]at A
    exact⟨v,rfl,p09 λj _=>v0o _ A j⟩
   ·exact d.elim
 ·obtain⟨r,y,s⟩:=d
  refine⟨_,s,λg=>⟨r,rfl,λj m=>?_⟩⟩
  obtain⟨vs,L,k,i,s1,E,F⟩:=a08 (G g) _ z (j7.refl _ _ _) (o09 (bs:=rs.bs) y g)
  rw[M05 E F]at i
  split at i
  ·rename_i f l n
   split at i
   ·rename_i u
    unfold Oper.quietAt
    rw[W09 n u]
    refine⟨rfl,(i.run j (λb o q=>m.vis b o (s1.sub b o q))).mono ?_⟩
    rintro e J ⟨I,h',rfl,⟨rfl,rfl⟩,t⟩
    exact⟨rfl,T2.trans m (T2.widen m.vis s1.sub t)⟩
   ·exact i.elim
  ·exact i.elim
 ·exact d.elim
theorem y06{d l:Int}{x:Option Operand}(G:∀ x,I2 rs.st be oe (rdG rs ch x) (a.eval x))(b:t06 d (x.map (rdG rs ch))=some l):Q05 a d x l:=by
 cases x with
 |none=>simp only[Option.map_none,t06,Option.some.injEq]at b;exact b.symm
 |some y =>
  have g:=G y
  simp only[Option.map_some]at b
  cases hr:rdG rs ch y with
  |val v =>
   rw[hr]at b g
   cases v<;>simp only[t06,Option.some.injEq]at b<;>first|(subst b;exact⟨_,g⟩)|cases b
  |_=>rw[hr]at b;cases b
theorem b0r(o:Sim P h0 w0 be oe H rs.st rs.h a w){d:AV}{x:Value}(p:I2 rs.st be oe d x){cs:List P5}(b:T00 (rdA rs.st d)=some cs):C2 rs.st oe cs x.cells.toList:=by
 have g:=o.rdA p
 cases hr:rdA rs.st d with
 |val v =>
  rw[hr]at b g
  have f:x=v:=g
  rw[f]
  cases v<;>simp only[T00,Option.some.injEq]at b<;>first|(subst b;first|exact C2.vals _ _ _|exact⟨rfl,trivial⟩)|cases b
 |own i k =>
  rw[hr]at b g
  obtain⟨e,sz,by_,nn,xs,j⟩:=T07 hr
  simp only[T00,Option.some.injEq]at b
  subst b
  have l:x=oe i:=g.own_cur j
  obtain⟨y,n,c,m⟩:=N0f o j
  rw[l,m]
  rw[l,m]at g
  exact⟨g,trivial⟩
 |agg cs' =>
  rw[hr]at b g
  simp only[T00,Option.some.injEq]at b
  subst b
  obtain⟨vs,f,q⟩:=g
  rw[f]
  exact q
 |_=>rw[hr]at b;cases b
set_option maxHeartbeats 1000000 in
theorem P0p(C:Sim P h0 w0 be oe H rs.st rs.h a w)(r:n09 ops be oe rs a i)(aw:cB rs.bs ch=some c)(s:evG P o ch c rs K):X0u P be oe H rs a w o c K:=by
 have ad:c=true->∀ x,∃ M,I2 rs.st be oe M (a.eval x)/\rdG rs ch x=rdA rs.st M:=λh x=>by subst h;exact V0f C r aw x
 have G:c=true->∀ x,I2 rs.st be oe (rdG rs ch x) (a.eval x):=λh x=>by
  obtain⟨M,g,e⟩:=ad h x
  rw[e];exact C.rdA g
 have L:∀ {X:Prop},imp ch c X->c=true->X:=λh aw=>o09 (bs:=rs.bs) h aw
 have bD:∀ I,CW H w I->Vis H I:=λI m=>m.vis
 cases ho:o.op with
 |move x =>
  simp only[evG,ho]at s
  have D:K (rdG rs ch x):=by revert s;cases rdG rs ch x<;>intro s<;>first|exact s|exact s.elim
  refine⟨_,D,λh=>⟨_,G h x,p09 λI _=>?_⟩⟩
  unfold execOp;rw[ho];rfl
 |assign x =>
  simp only[evG,ho]at s
  have D:K (rdG rs ch x):=by revert s;cases rdG rs ch x<;>intro s<;>first|exact s|exact s.elim
  refine⟨_,D,λh=>⟨_,G h x,p09 λI _=>?_⟩⟩
  unfold execOp;rw[ho];rfl
 |pick ae x y =>
  cases ae with
  |tmp t =>
   simp only[evG,ho]at s
   split at s
   ·rename_i e q aM bg
    split at s
    ·rename_i bi
     split at s
     ·rename_i bx by_ u J
      refine⟨_,s,λh=>?_⟩
      have aS:=G h (.tmp t)
      rw[aM]at aS
      have a9:a.eval (.tmp t) = .bool e:=aS
      subst h
      obtain⟨Y,bh⟩:=l0d bg
      have aL:=e0a bi aw
      obtain⟨aQ,F,ak⟩:=r.val q Y
      rw[aL]at F
      cases F
      have bG:q.e=e:=by
       have:a.eval (.tmp t) = .bool q.e:=by
        simp only[Act.eval,←bh,Array.getD_eq_getD_getElem?,ak];rfl
       grind
      have W:∃ b,t03 rs.bs q.j=some b:=by
       have:∀(l:List BE),q∈l->∃ b,t03 l q.j=some b:=by
        intro l
        induction l with
        |nil=>intro h;cases h
        |cons z l bm =>
         grind[t03,absurd,Nat.ne_of_beq_eq_false]
       exact this _ Y
      obtain⟨b,V⟩:=W
      obtain⟨aV,bb⟩:=n04 V
      have aU:b.e=e/\cB rs.bs b.ch=some true:=by
       obtain⟨_,bL,aN,aO⟩:=r.lt b aV
       obtain⟨_,bM,O,Q⟩:=r.lt q Y
       rw[bb,O]at aN
       cases aN
       rw[Q]at aO
       have bE:q.d=b.d:=by simpa using aO
       obtain⟨aQ,an,ao⟩:=r.val b aV
       grind[undef]
      refine⟨.bool (cond e bx by_),rfl,p09 λI _=>?_⟩
      unfold execOp;rw[ho]
      simp only[a9,Sem.run_bind,asBool,Sem.run_pure,Result.andThen_ok]
      cases e with
      |true =>
       have aH:cB rs.bs ((q.j,true)::q.ch)=some true:=by
        rw[t05,V,aL];simp[lit,aU.1]
       obtain⟨M,aq,ar⟩:=V0f C r aH x
       have aj:=C.rdA aq
       rw[←ar,u]at aj
       have aD:a.eval x = .bool bx:=aj
       simp[aD]
      |false =>
       have aH:cB rs.bs ((q.j,false)::q.ch)=some true:=by
        rw[t05,V,aL];simp[lit,aU.1]
       obtain⟨M,aq,ar⟩:=V0f C r aH y
       have aj:=C.rdA aq
       rw[←ar,J]at aj
       have aD:a.eval y = .bool by_:=aj
       simp[aD]
     ·exact s.elim
    ·exact s.elim
   ·exact s.elim
  |_=>simp only[evG,ho]at s;exact l9 C G s
 |fieldAddr t x k =>
  simp only[evG,ho]at s
  split at s
  ·rename_i j off ai E ab
   refine⟨_,s,λh=>?_⟩
   have g:=G h x
   rw[E]at g
   exact⟨ptr (be j) (off+ai),⟨g.1,rfl⟩,J03 (R.exec_fieldAddr ho ab g.2)⟩
  ·rename_i sl j sz ap ai E ab
   refine⟨_,s,λh=>?_⟩
   have g:=G h x
   rw[E]at g
   obtain⟨b,aA,n,S,N,ah⟩:=g
   exact⟨ptr b (aA+(j.toNat*sz+ap)+ai),⟨b,aA,n,S,N,by simp[Nat.add_assoc]⟩,J03 (R.exec_fieldAddr ho ab ah)⟩
  ·rename_i aX bn j sz ap ai E ab
   refine⟨_,s,λh=>?_⟩
   have g:=G h x
   obtain⟨M,_,U⟩:=ad h x
   rw[E]at g
   obtain⟨aC,aB,aP,aZ,a1,aa⟩:=D0j (U.symm.trans E)
   obtain⟨au,n,S,N,ah⟩:=g.oel_cur aa
   exact⟨ptr au (j.toNat*sz+ap+ai),⟨bn,by simp[stamp,aa],Nat.le_refl _,λ_=>⟨au,n,S,N,by simp[Nat.add_assoc]⟩⟩,J03 (R.exec_fieldAddr ho ab ah)⟩
  ·exact s.elim
 |indexAddr t x ay =>
  simp only[evG,ho]at s
  split at s
  ·rename_i bo j al
   split at s
   ·rename_i e ag
    split at s
    ·rename_i sz ax
     split at s
     ·rename_i a2 n S u
      refine⟨_,s.2,λh=>?_⟩
      obtain⟨b,off,aY,aQ,N,O,Q⟩:=L s.1 h
      cases N
      have A:=G h x
      rw[u]at A
      have gi:=G h ay
      rw[al]at gi
      exact⟨ptr b (off+j.toNat*sz),⟨b,off,n,S,rfl,by simp⟩,J03 (R.exec_indexAddr ho ag ax A gi O Q)⟩
     ·rename_i aX ap u
      split at s
      ·rename_i a0 a7 aB by_ nn xs Z
       split at s
       ·rename_i V
        refine⟨_,s.2,λh=>?_⟩
        obtain⟨O,Q⟩:=L s.1 h
        have:=Nat.eq_of_beq_eq_true V
        subst this
        have A:=G h x
        obtain⟨M,_,U⟩:=ad h x
        rw[u]at A
        have gi:=G h ay
        rw[al]at gi
        obtain⟨aC,br,aP,aZ,a1,aa⟩:=T07 (U.symm.trans u)
        have aW:=A.own_cur aa
        have af:=C.own aX _ _ _ _ _ _ Z
        rcases af.2 with⟨ac,bk,_⟩|⟨g,cap,cur,ac,_⟩
        ·grind
        ·rw[ac]at aW
         refine⟨ptr g (0+j.toNat*aB),⟨ap,by simp[stamp,aa],Nat.le_refl _,λ_=>⟨g,xs.length,cap,ac,by simp⟩⟩,J03 (R.exec_indexAddr ho ag ax aW gi O Q)⟩
       ·exact s.elim
      ·exact s.elim
     ·exact s.elim
    ·exact s.elim
   ·exact s.elim
  ·exact s.elim
 |load t x =>
  simp only[evG,ho]at s
  split at s
  ·rename_i j off E
   split at s
   ·rename_i cs ty Z
    obtain⟨F,vs,ak,aE⟩:=C.box j cs ty Z
    obtain⟨av,v,an,ao,az⟩:=R.load_row (H:=H) (b:=be j) (o:=0) (be:=be) s ak (λj v W=>by simp[Hp.cell,aE,W])
    refine⟨av,an,λh=>⟨v,ao,J03 ?_⟩⟩
    have g:=G h x
    rw[E]at g
    exact R.exec_load ho g.2 (by simpa using az)
   ·exact s.elim
  ·rename_i sl idx sz k E
   obtain⟨e,aJ,D⟩:=s
   cases c with
   |false =>
    grind[E05]
   |true =>
    have aG:=L aJ rfl
    have g:=G rfl x
    rw[E]at g
    obtain⟨b,aA,n,S,N,ah⟩:=g
    obtain⟨_,_,bz,bK,aY,bB,aR,bc⟩:=aG
    rw[N]at aR;cases aR
    obtain⟨av,v,an,ao,az⟩:=R.load_row (H:=H) (b:=b) (o:=aA+idx.toNat*sz) (be:=be) D (C2.vals rs.st oe e) (λj v W=>by
     have:=bc j v W
     unfold Hp.cell at this ⊢
     split at this
     ·rename_i bf;rw[C.sub _ _ bf];exact this
     ·cases this)
    grind[J03,R.exec_load,Nat.add_assoc]
  ·rename_i j a0 idx sz k E
   split at s
   ·rename_i bO a7 aB by_ nn xs Z
    split at s
    ·rename_i V
     have ax:=Nat.eq_of_beq_eq_true V
     subst ax
     obtain⟨e,aJ,D⟩:=s
     cases c with
     |false =>
      grind[E05]
     |true =>
      have aG:=L aJ rfl
      have g:=G rfl x
      obtain⟨M,_,U⟩:=ad rfl x
      rw[E]at g
      obtain⟨aC,bP,aP,aZ,a1,aa⟩:=D0j (U.symm.trans E)
      obtain⟨au,n,S,N,ah⟩:=g.oel_cur aa
      have af:=C.own j _ _ _ _ _ _ Z
      obtain⟨av,v,an,ao,az⟩:=R.load_row (H:=H) (b:=au) (o:=idx.toNat*aB) (be:=be) D (C2.vals rs.st oe e) (λj v W =>
       af.cells N _ _ (L04 xs _ e (λx u=>(af.1 x u).1) aG j v W))
      grind[J03,R.exec_load]
    ·exact s.elim
   ·exact s.elim
  ·exact s.elim
 |build t bN =>
  simp only[evG,ho]at s
  split at s
  ·rename_i a8 z am bl
   split at s
   ·rename_i aF
    cases c with
    |false =>
     have:∀(l:List (Nat×Operand)) (cs:List P5) (K':List P5->Prop),Z08 P a8 (rdG rs ch) l cs K'->∃ cs,K' cs:=by
      intro l
      induction l with
      |nil=>intro cs K' h;exact⟨_,h⟩
      |cons p l bm =>
       grind[Z08]
     grind
    |true =>
     obtain⟨av,v,an,ao,az⟩:=a0l (K':=K) C ho am bl aF (λx cs bF=>by
      obtain⟨M,aq,ar⟩:=ad rfl x
      grind[b0r]) s
     grind[p09]
   ·exact s.elim
  ·exact s.elim
 |index t x ay =>
  simp only[evG,ho]at s
  split at s
  ·rename_i b bo j u al am
   obtain⟨e,F,D⟩:=s
   refine⟨_,D,λh=>?_⟩
   have A:=G h x
   rw[u]at A
   have gi:=G h ay
   rw[al]at gi
   obtain⟨O,Q⟩:=L F h
   exact⟨_,rfl,J03 (R.exec_index ho am A gi O Q)⟩
  ·exact s.elim
 |slice t x bH al bp =>
  cases bp with
  |some m=>simp only[evG,ho]at s;exact l9 C G s
  |none =>
   simp only[evG,ho]at s
   split at s
   ·rename_i b u am
    split at s
    ·rename_i l m aK Y
     refine⟨_,s.2,λh=>?_⟩
     obtain⟨F,ak,aE⟩:=L s.1 h
     have A:=G h x
     rw[u]at A
     exact⟨_,rfl,J03 (R.exec_cutStr ho am A (y06 (G h) aK) (y06 (G h) Y) F ak aE)⟩
    ·exact s.elim
   ·rename_i a2 n S u
    split at s
    ·rename_i e ag
     split at s
     ·rename_i sz aM
      split at s
      ·rename_i l m aK Y
       obtain⟨v,F,D⟩:=s
       refine⟨_,D,λh=>?_⟩
       obtain⟨⟨O,Q,a3,a4⟩,a5⟩:=L F h
       have A:=G h x
       rw[u]at A
       refine⟨v,rfl,?_⟩
       rw[a5 _ _ _ rfl]
       exact J03 (R.exec_slice ho ag aM A (y06 (G h) aK) (y06 (G h) Y) O Q a3 a4)
      ·exact s.elim
     ·exact s.elim
    ·exact s.elim
   ·exact s.elim
 |binOp bq t x y bQ =>
  cases bq with
  |add =>
   simp only[evG,ho]at s
   split at s
   ·rename_i b ae u J
    refine⟨_,s.2,λh=>?_⟩
    have A:=G h x
    rw[u]at A
    have T:=G h y
    rw[J]at T
    exact⟨_,rfl,J03 (R.exec_cat ho A T (L s.1 h))⟩
   grind[l9]
  |quo =>
   simp only[evG,ho]at s
   split at s
   ·rename_i b ae u J
    refine⟨_,s.2,λh=>?_⟩
    have A:=G h x
    rw[u]at A
    have T:=G h y
    rw[J]at T
    exact⟨_,rfl,J03 (R.exec_quo ho A T (L s.1 h))⟩
   ·exact l9 C G s
  |rem =>
   simp only[evG,ho]at s
   split at s
   ·rename_i b ae u J
    refine⟨_,s.2,λh=>?_⟩
    have A:=G h x
    rw[u]at A
    have T:=G h y
    rw[J]at T
    exact⟨_,rfl,J03 (R.exec_rem ho A T (L s.1 h))⟩
   ·exact l9 C G s
  |eql =>
   simp only[evG,ho]at s
   split at s
   ·rename_i xs bu u J
    obtain⟨b,F,D⟩:=s
    exact⟨_,D,λh=>⟨.bool b,rfl,p09 λI _=>L F h _ (T7 u (G h x)) (T7 J (G h y)) I⟩⟩
   ·rename_i bv aY bI u J
    obtain⟨b,F,D⟩:=s
    exact⟨_,D,λh=>⟨.bool b,rfl,p09 λI _=>L F h _ (T7 u (G h x)) (T7 J (G h y)) I⟩⟩
   ·exact l9 C G s
  |neq =>
   simp only[evG,ho]at s
   split at s
   ·rename_i xs bu u J
    obtain⟨b,F,D⟩:=s
    exact⟨_,D,λh=>⟨.bool b,rfl,p09 λI _=>L F h _ (T7 u (G h x)) (T7 J (G h y)) I⟩⟩
   grind[l9]
  |_=>simp only[evG,ho]at s;exact l9 C G s
 |call ae =>
  obtain⟨a6,as,bt⟩:=ae
  cases a6 with
  |builtin b =>
   cases b with
   |len =>
    simp only[evG,ho]at s
    split at s
    ·rename_i x t aF ab
     have ba:as = #[x]:=by apply Array.ext';simpa using aF
     have bj:bt = #[t]:=by apply Array.ext';simpa using ab
     split at s
     ·rename_i j k E
      split at s
      ·rename_i a0 e sz by_ nn xs aC Z ag
       refine⟨_,s,λh=>?_⟩
       have g:=G h x
       obtain⟨M,_,U⟩:=ad h x
       rw[E]at g
       obtain⟨N,br,bA,bJ,bR,bd⟩:=T07 (U.symm.trans E)
       have u:=g.own_cur bd
       have af:=C.own j _ _ _ _ _ _ Z
       rcases af.2 with⟨ac,bk,_⟩|⟨bC,cap,cur,ac,_⟩
       ·rw[ac]at u
        refine⟨.int .i64 xs.length,rfl,p09 λI _=>?_⟩
        grind[a0c]
       ·rw[ac]at u
        exact⟨.int .i64 xs.length,rfl,p09 λI _=>a0c ho ba bj ag u I⟩
      ·exact s.elim
     ·exact l9 C G s
    ·exact s.elim
   |_=>simp only[evG,ho]at s;exact l9 C G s
  |value f=>simp only[evG,ho]at s;exact l9 C G s
  |invoke r m=>simp only[evG,ho]at s;exact l9 C G s
 |_=>simp only[evG,ho]at s;exact l9 C G s
end
end Go.H
