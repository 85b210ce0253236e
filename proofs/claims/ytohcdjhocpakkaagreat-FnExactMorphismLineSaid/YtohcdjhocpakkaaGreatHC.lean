/- The library of the walks, part HC: plain laws over the model. -/
import Derived.Test.YtohcdjhocpakkaaGreatHB
namespace Go.H.R
open Go.H
set_option linter.unusedVariables false
set_option linter.unusedSimpArgs false
def wpR(P:Program){b:Type}:Sem b->Hp->(b->Hp->Prop)->Prop
 | .pure a,h,K=>K a h
 | .load _ a k,h,K=>∃ v,(a.spot=none/\Hp.cell h a.block a.off=some v)/\wpR P (k v) h K
 | .program k,h,K=>wpR P (k P) h K
 | .mark _ k,h,K=>wpR P k h K
 |_,_,_=>False
theorem wpR_sound{P:Program}{d:Type}{K:d->Hp->Prop}(s:Sem d):∀(h:Hp) (w:World),Vis h w->wpR P s h K->∃ x,s.run P w = .ok x w/\K x h:=by
 induction s with
 |pure a=>exact λh w hv b=>⟨a,rfl,b⟩
 |load m a k c =>
  rintro h w hv ⟨v,⟨g,f⟩,b⟩
  grind[Sem.run,P05]
 |program k c=>exact λh w hv b=>c _ _ _ hv b
 |mark m k c=>exact λh w hv b=>c _ _ hv b
 |_=>exact λh w hv b=>b.elim
theorem G6{P:Program}{g c:Type}(s:Sem g)(f:g->Sem c):∀(h:Hp) (K:c->Hp->Prop),wpR P (s >>= f) h K=wpR P s h (λx b=>wpR P (f x) b K):=by
 change ∀(h:Hp) (K:c->Hp->Prop),wpR P (s.bind f) h K=wpR P s h (λx b=>wpR P (f x) b K)
 induction s with
 |pure a=>intro h K;rfl
 |load m a k d=>grind[Sem.bind,wpR]
 |program k d=>grind[Sem.bind,wpR]
 |mark m k d=>grind[Sem.bind,wpR]
 |_=>intro h K;rfl
theorem C7{P:Program}{a:Type}(x:a)(h:Hp)(K:a->Hp->Prop):wpR P (pure x) h K=K x h:=rfl
section
variable {P:Program} {h0:Hp} {w0:World} {be:Nat->Nat} {oe:Nat->Value} {H:Hp} {st:St} {h:Hp} {a:Act} {w:World} {o:Oper}
theorem G00{t:TypeId}{d:TypeDesc}(a:P.underlying t=some d)(h:Hp)(K:TypeDesc->Hp->Prop):wpR P (underlying t) h K=K d h:=by
 simp_all[underlying,program,G6,wpR,C7]
theorem C0h{t:TypeId}{i:TypeInfo}(a:P.info? t=some i)(h:Hp)(K:TypeInfo->Hp->Prop):wpR P (typeInfo t) h K=K i h:=by
 grind[typeInfo,program,G6,wpR,C7]
theorem E06{t:TypeId}{n:Nat}(a:I5 P t=some n)(h:Hp)(K:Nat->Hp->Prop):wpR P (sizeOf t) h K=K n h:=by
 grind[I5,sizeOf,G6,C0h,C7]
theorem V0f{t:TypeId}{b:Bool}(a:i0h P t=some b)(h:Hp)(K:Bool->Hp->Prop):wpR P (isAgg t) h K=K b h:=by
 unfold i0h at a
 grind[isAgg,G6,G00,C7,absurd]
theorem k05{H:Hp}{b o:Nat}:∀(vs:List Value) (i:Nat) (acc:Array Value) (K:Array Value->Hp->Prop),(∀ j v,vs[j]?=some v->Hp.cell H b (o+i+j)=some v) ->
  K (acc++vs.toArray) H->wpR P (loadCellsFrom ⟨b,o,none⟩ i vs.length acc) H K
 | [],i,acc,K,_,c=>by grind[loadCellsFrom,C7]
 |v::vs,i,acc,K,a,c=>by
  have h0:=a 0 v (by simp)
  simp only[loadCellsFrom,List.length_cons,G6,load,wpR]
  have d:(⟨b,o,none⟩:Addr).add i=⟨b,o+i,none⟩:=by unfold Addr.add;split<;>simp_all
  rw[d]
  refine⟨v,⟨rfl,by simpa using h0⟩,k05 vs (i+1) (acc.push v) K ?_ ?_⟩
  ·intro j u f
   have:=a (j+1) u (by simpa using f)
   grind
  ·simpa using c
theorem load_row{t:TypeId}{cs:List A5}{vs:List Value}{off:Nat}{K:AV->Prop}{b o:Nat}(a:z04 P t cs off K)(g:Z1 st oe cs vs)
  (s:∀ j v,vs[j]?=some v->Hp.cell H b (o+j)=some v):∃ av v,K av/\A2 st be oe av v/\∀ d:Value->Hp->Prop,d v H->wpR P (loadVar t ⟨b,o+off,none⟩) H d:=by
 unfold z04 at a
 split at a
 ·rename_i f
  split at a
  ·rename_i n h
   split at a
   ·rename_i p
    have q:=B02 _ _ p
    have i:=(g.drop off).take n
    refine⟨_,.agg ((vs.drop off).take n).toArray,a,⟨_,rfl,i⟩,λd m=>?_⟩
    have w:((vs.drop off).take n).length=n:=by rw[←i.length,q]
    simp only[loadVar,G6,V0f f,if_true,E06 h,loadCells]
    have:=k05 (P:=P) (H:=H) (b:=b) (o:=o+off) ((vs.drop off).take n) 0 #[] (λx l=>wpR P (pure (Value.agg x)) l d) (λj v u=>by
     grind) (by grind[C7])
    grind
   ·exact a.elim
  ·exact a.elim
 ·rename_i f
  split at a
  ·rename_i c h
   obtain⟨v,hv,k⟩:=g.nth h
   refine⟨_,v,a,A2.ofCell k,λd m=>?_⟩
   simp only[loadVar,G6,V0f f,Bool.false_eq_true,if_false,load,wpR]
   grind
  ·exact a.elim
 ·exact a.elim
theorem P7{P:Program}(s:Sem Value)(H:Hp)(a:Next->Hp->Prop)(h:wpR P s H (λv H=>a (.value v) H)):wpR P (do pure (Next.value (←s))) H a:=by
 rw[G6];exact h
theorem exec_fieldAddr{t:TypeId}{x:Operand}{k d b off:Nat}(i:o.op = .fieldAddr t x k)(j:j0h P t k=some d)(m:a.eval x=ptr b off):
  ∀ c:Next->Hp->Prop,c (.value (ptr b (off+d))) H->wpR P (execOp a.eval o) H c:=by
 intro c g
 obtain⟨p,f,n,l,hf,h,rfl⟩:=T0f j
 unfold execOp;rw[i]
 refine P7 _ _ _ ?_
 simp only[Instr.fieldAt,G6,G00 l,hf,m,ptr,Instr.sureAddr,C7,fieldPlace,E06 h,Nat.add_one_ne_zero,if_false,u01]
 exact g
theorem exec_indexAddr{t e:TypeId}{x i:Operand}{k:IntKind}{j:Int}{sz b off n c:Nat}(m:o.op = .indexAddr t x i)(q:V00 P t=some e)(p:I5 P e=some sz)
  (u:a.eval x = .slice (some ⟨b,off,none⟩) n c) (h:a.eval i = .int k j) (f:0<=j) (g:j<(n:Int)) :
  ∀ d:Next->Hp->Prop,d (.value (ptr b (off+j.toNat*sz))) H->wpR P (execOp a.eval o) H d:=by
 intro d l
 have s:=g9 q
 unfold execOp;rw[m]
 refine P7 _ _ _ ?_
 simp only[Instr.indexAt,u,h,asIntOf,G6,C7,G00 s,f,g,and_self,if_true,E06 p,u01]
 exact l
theorem w08{x:Value}{k:IntKind}{i:Int}{b:Nat}{c:BoundsCode}(g:x = .int k i)(d:0<=i)(f:i<=(b:Int))(a:Nat->Hp->Prop):wpR P (Instr.sliceBound x b c) H a=a i.toNat H:=by
 subst g
 simp only[Instr.sliceBound,asIntOf,G6,C7,d,f,and_self,if_true]
theorem O0d{isS:Bool}{n c:Nat}{g b:Option Operand}{l m:Int}(j:L04 a 0 g l)(d:L04 a n b m)(i:0<=l)(u:l<=m)(v:m<=(n:Int))(w:n<=c)
  (h:Nat×Nat×Nat->Hp->Prop):wpR P (Instr.sliceBounds isS n c (g.map a.eval) (b.map a.eval) none) H h=h (l.toNat,m.toNat,c) H:=by
 have s:l<=(m.toNat:Int):=by omega
 cases g with
 |none =>
  have q:l=0:=j
  subst q
  cases b with
  |none =>
   have o:m=(n:Int):=d
   simp_all[Instr.sliceBounds,Option.map_none,G6,C7]
  |some t =>
   obtain⟨k,f⟩:=d
   simp only[Instr.sliceBounds,Option.map_none,Option.map_some,G6,C7,w08 f (by omega) (show m<=(c:Int) by omega)];rfl
 |some x =>
  obtain⟨k,p⟩:=j
  cases b with
  |none =>
   have o:m=(n:Int):=d
   subst o
   simp only[Instr.sliceBounds,Option.map_none,Option.map_some,G6,C7,w08 p i (show l<=((n:Nat):Int) by omega)];rfl
  |some t =>
   obtain⟨y,f⟩:=d
   simp only[Instr.sliceBounds,Option.map_some,G6,C7,w08 f (by omega) (show m<=(c:Int) by omega),w08 p i s]
theorem exec_cutStr{t:TypeId}{x:Operand}{f d:Option Operand}{b:ByteArray}{l m:Int}(p:o.op = .slice t x f d none)(q:P.underlying t=some .string)
  (s:a.eval x = .string b) (k:L04 a 0 f l) (n:L04 a b.size d m) (g:0<=l) (h:l<=m) (i:m<=(b.size:Int)) :
  ∀ c:Next->Hp->Prop,c (.value (.string (b.extract l.toNat m.toNat))) H->wpR P (execOp a.eval o) H c:=by
 intro c j
 unfold execOp;rw[p]
 refine P7 _ _ _ ?_
 simp only[Instr.sliceAt,G6,G00 q,Instr.slice,s,Option.map_none,Option.isSome_none,Bool.false_eq_true,if_false,C7]
 rw[O0d k n g h i (Nat.le_refl _)]
 exact j
theorem exec_index{t:TypeId}{x i:Operand}{b:ByteArray}{k:IntKind}{j:Int}{c:UInt8}(m:o.op = .index t x i)(n:P.underlying t=some .string)(p:a.eval x = .string b)(h:a.eval i = .int k j)
  (f:0<=j) (g:b[j.toNat]?=some c):∀ d:Next->Hp->Prop,d (.value (.int .u8 c.toNat)) H->wpR P (execOp a.eval o) H d:=by
 intro d l
 unfold execOp;rw[m]
 refine P7 _ _ _ ?_
 simp only[Instr.index,p,h,asIntOf,G6,C7,G00 n,f,if_true,g]
 exact l
theorem exec_cat{t l:TypeId}{x f:Operand}{b c:ByteArray}(i:o.op = .binOp .add t x f l)(j:a.eval x = .string b)(k:a.eval f = .string c)(m:b.size+c.size<=9223372036854775807):
  ∀ d:Next->Hp->Prop,d (.value (.string (b++c))) H->wpR P (execOp a.eval o) H d:=by
 intro d g
 unfold execOp;rw[i]
 refine P7 _ _ _ ?_
 have h : ¬ (((b.size+c.size:Nat):Int)>IntKind.i64.max):=by
  have:IntKind.i64.max=9223372036854775807:=by decide
  rw[this];omega
 simp only[j,k,eqGuard,G6,Bool.not_false,if_true,C7,binOp,Go.Op.stringOp,if_neg h]
 exact g
theorem exec_quo{t l:TypeId}{x f:Operand}{b c:Int}(i:o.op = .binOp .quo t x f l)(j:a.eval x = .int .i64 b)(k:a.eval f = .int .i64 c)(h:c≠0):
  ∀ d:Next->Hp->Prop,d (.value (.int .i64 (IntKind.i64.wrap (b.tdiv c)))) H->wpR P (execOp a.eval o) H d:=by
 intro d g
 unfold execOp;rw[i]
 refine P7 _ _ _ ?_
 simp only[j,k,eqGuard,G6,Bool.not_false,if_true,C7,binOp,Go.Op.intDiv,if_neg h,ne_eq,not_true_eq_false,if_false]
 exact g
theorem exec_rem{t l:TypeId}{x f:Operand}{b c:Int}(i:o.op = .binOp .rem t x f l)(j:a.eval x = .int .i64 b)(k:a.eval f = .int .i64 c)(h:c≠0):
  ∀ d:Next->Hp->Prop,d (.value (.int .i64 (b.tmod c))) H->wpR P (execOp a.eval o) H d:=by
 intro d g
 unfold execOp;rw[i]
 refine P7 _ _ _ ?_
 simp only[j,k,eqGuard,G6,Bool.not_false,if_true,C7,binOp,Go.Op.intDiv,if_neg h,ne_eq,not_true_eq_false,if_false]
 exact g
theorem exec_slice{t e sz:Nat}{x:Operand}{g f:Option Operand}{d:Option Addr}{n c:Nat}{l m:Int}(s:o.op = .slice t x g f none)(u:V00 P t=some e)(y:I5 P e=some sz)
  (v:a.eval x = .slice d n c) (k:L04 a 0 g l) (p:L04 a n f m) (h:0<=l) (i:l<=m) (j:m<=(n:Int)) (q:n<=c) :
  ∀ b:Next->Hp->Prop,b (.value (.slice (if c=l.toNat then d else d.map (·.add (l.toNat*sz))) (m.toNat-l.toNat) (c-l.toNat))) H->wpR P (execOp a.eval o) H b:=by
 intro b w
 unfold execOp;rw[s]
 refine P7 _ _ _ ?_
 simp only[Instr.sliceAt,G6,G00 (g9 u),Instr.slice,v,Option.map_none]
 rw[O0d k p h i j q]
 grind[E06,C7]
theorem exec_load{t:TypeId}{x:Operand}{b off:Nat}{v:Value}(d:o.op = .load t x)(h:a.eval x=ptr b off)
  (g:∀ c:Value->Hp->Prop,c v H->wpR P (loadVar t ⟨b,off,none⟩) H c):∀ c:Next->Hp->Prop,c (.value v) H->wpR P (execOp a.eval o) H c:=by
 intro c f
 unfold execOp;rw[d]
 refine P7 _ _ _ ?_
 grind[Instr.loadAt,ptr,Instr.sureAddr,G6,C7]
theorem run_of{v:Value}(d:∀ b:Next->Hp->Prop,b (.value v) H->wpR P (execOp a.eval o) H b)(w:World)(hv:Vis H w):(execOp a.eval o).run P w = .ok (.value v) w:=by
 obtain⟨x,c,f⟩:=wpR_sound _ _ w hv (d (λn _=>n = .value v) rfl)
 rw[c,f]
end
end Go.H.R
namespace Go.H
set_option linter.unusedVariables false
set_option linter.unusedSimpArgs false
section
variable {P:Program} {h0:Hp} {w0:World} {be:Nat->Nat} {oe:Nat->Value} {H:Hp} {rs:RS} {a:Act} {w:World} {o:Oper} {ops:Array Oper} {i:Nat}
theorem l0s{a b:Bool}(h:eqB a b=true):a=b:=by cases a<;>cases b<;>simp_all [eqB]
theorem D0h:∀(a b:List (Nat×Bool)),z0o a b=true->a=b
 | [],[],_=>rfl
 |(j,w)::r,(g,i)::f,h=>by
  simp only[z0o]at h
  split at h
  ·rename_i c d
   rw[Nat.eq_of_beq_eq_true c,l0s d,D0h r f h]
  ·cases h
 | [],_::_,h=>by cases h
 |_::_,[],h=>by cases h
theorem r03:∀ {bs:List BE} {j:Nat} {b:BE},H02 bs j=some b->b∈bs/\b.j=j
 | [],_,_,h=>by cases h
 |x::r,j,b,h=>by
  simp only[H02]at h
  split at h
  ·simp_all
  ·obtain⟨a,c⟩:=r03 h
   grind
theorem v0b:∀ {bs:List BE} {s:Nat} {b:BE},W09 bs s=some b->b∈bs/\b.d=s
 | [],_,_,h=>by cases h
 |x::r,j,b,h=>by
  simp only[W09]at h
  split at h
  ·simp_all
  ·obtain⟨a,c⟩:=v0b h
   grind
theorem P0d:∀ {bs:List BE} {s:Nat},W09 bs s=none->∀ b∈bs,b.d≠s
 | [],_,_,b,a=>by cases a
 |x::r,s,h,b,a=>by
  simp only[W09]at h
  split at h
  ·cases h
  ·rename_i c
   rcases List.mem_cons.1 a with rfl|a
   ·exact Nat.ne_of_beq_eq_false c
   ·exact P0d h b a
theorem l04(bs:List BE)(j:Nat)(w:Bool)(r:List (Nat×Bool)):cB bs ((j,w)::r)=match H02 bs j,cB bs r with
  |some b,some c=>some (lit w b.e&&c)
  |_,_=>none:=by
 grind[cB,H02,lit]
theorem P0q{bs:List BE}{x:Nat×Bool}{r:List (Nat×Bool)}(h:cB bs (x::r)=some true):cB bs r=some true:=by
 rw[l04]at h
 grind
theorem x08{bs:List BE}{p:List (Nat×Bool)}:∀ {q:List (Nat×Bool)},y0i p q=true->cB bs q=some true->cB bs p=some true
 | [],h,a=>by rw[D0h _ _ h];exact a
 |x::r,h,a=>by
  simp only[y0i]at h
  split at h
  ·grind[D0h]
  ·exact x08 h (P0q a)
theorem U0k{bs:List BE}{x:BE}(g:∀ i∈bs,i.j≠x.j):∀ {ch:List (Nat×Bool)} {c:Bool},cB bs ch=some c->cB (x::bs) ch=some c
 | [],c,h=>h
 |(j,w)::r,c,h=>by
  rw[l04]at h
  split at h
  ·rename_i b k d a
   have n:Nat.beq x.j j=false:=by
    obtain⟨l,m⟩:=r03 d
    grind[Nat.beq,absurd,Nat.eq_of_beq_eq_true]
   have f:H02 (x::bs) j=some b:=by grind[H02]
   rw[l04,f,U0k g a]
   exact h
  ·cases h
structure I07 (ops:Array Oper) (be:Nat->Nat) (oe:Nat->Value) (rs:RS) (a:Act) (i:Nat):Prop where
 lt:∀ x∈rs.bs,x.j<i/\∃ o,ops[x.j]?=some o/\o.dst=some x.d
 val:∀ x∈rs.bs,∃ c,cB rs.bs x.ch=some c/\a.tmps[x.d]?=some (if c=true then .bool x.e else undef)
 gf:∀ d ch av,y0d rs.gf d=some (ch,av)->∃ c,cB rs.bs ch=some c/\(c=true->A2 rs.st be oe av (a.tmps.getD d undef))
theorem I07.grow(r:I07 ops be oe rs a i){st:St}{h:Hp}{be':Nat->Nat}{oe':Nat->Value}(g:J6 rs.st be oe st be' oe'):I07 ops be' oe' { rs with st:=st,h:=h } a i :=
 ⟨r.lt,r.val,λd ch av f=>let ⟨c,h1,h2⟩:=r.gf d ch av f;⟨c,h1,λb=>(h2 b).grow g⟩⟩
theorem r0n(r:I07 ops be oe rs a i){ch:List (Nat×Bool)}{c:Bool}(d:W9 rs.bs o.guard=some ch)(f:cB rs.bs ch=some c):Region.wanted o (yielded ops a.tmps)=c:=by
 unfold Region.wanted
 cases hg:o.guard with
 |none =>
  rw[hg]at d
  cases d
  cases f
  rfl
 |some p =>
  obtain⟨j,w⟩:=p
  rw[hg]at d
  simp only[W9]at d
  split at d
  ·rename_i b h
   cases d
   obtain⟨k,rfl⟩:=r03 h
   obtain⟨_,s,n,m⟩:=r.lt b k
   obtain⟨g,l,hv⟩:=r.val b k
   rw[l04,h,l]at f
   simp only[Option.some.injEq]at f
   have q:yielded ops a.tmps b.j=if g=true then some b.e else none:=by
    unfold yielded
    simp only[n,m,oB,hv]
    cases g<;>rfl
   simp only[q,←f]
   cases g<;>cases w<;>cases b.e<;>rfl
  ·cases d
theorem Q0d(s:Sim P h0 w0 be oe H rs.st rs.h a w)(r:I07 ops be oe rs a i){ch:List (Nat×Bool)}(l:cB rs.bs ch=some true)(x:Operand):
  (∃ b,A2 rs.st be oe b (a.eval x)/\rdG rs ch x=rdA rs.st b):=by
 cases x with
 |tmp t =>
  simp only[rdG]
  split
  ·rename_i j av m
   split
   ·rename_i n
    obtain⟨c,d,k⟩:=r.gf t j av m
    rw[x08 n l]at d
    cases d
    exact⟨av,k rfl,rfl⟩
   ·exact⟨.dead,trivial,rfl⟩
  ·exact⟨_,s.fr t,rfl⟩
 |const v=>exact⟨.val v,rfl,rfl⟩
 |global g=>exact⟨.dead,trivial,rfl⟩
 |func f=>exact⟨.val _,rfl,rfl⟩
theorem M04(s:Sim P h0 w0 be oe H rs.st rs.h a w)(r:I07 ops be oe rs a i)(W:ops[i]?=some o){ch:List (Nat×Bool)}{c:Bool}{av:AV}{v:Value}{K:RS->Prop}
  (E:cB rs.bs ch=some c) (g:c=true->A2 rs.st be oe av v) (M:c=false->v=undef) (m:z0d o.dst i ch av rs K) :
  ∃ C,K C/\C.h=rs.h/\I07 ops be oe C (a.put o.dst v) (i+1)/\Sim P h0 w0 be oe H C.st C.h (a.put o.dst v) w:=by
 cases hd:o.dst with
 |none =>
  rw[hd]at m
  exact⟨rs,m,rfl,⟨λx p=>⟨Nat.lt_succ_of_lt (r.lt x p).1,(r.lt x p).2⟩,r.val,r.gf⟩,s⟩
 |some d =>
  rw[hd]at m
  simp only[z0d]at m
  split at m
  ·rename_i R Z
   have F:d<rs.st.n:=Nat.le_of_ble_eq_true R
   have aa:y0d rs.gf d=none/\W09 rs.bs d=none:=by
    grind[v07]
   have U:∀ t,t≠d->(a.put (some d) v).tmps[t]?=a.tmps[t]?:=λt S=>by
    simp[Act.put,Array.getElem?_setIfInBounds_ne (Ne.symm S)]
   have Q:(a.put (some d) v).tmps[d]?=some v:=by simp[Act.put,s.siz,F]
   have p:∀ I∈rs.bs,I.j≠i:=λI T e=>by have:=(r.lt I T).1;omega
   have y:(∀ x∈A0i i d ch av rs.bs,x.j<i+1/\∃ o,ops[x.j]?=some o/\o.dst=some x.d) /\
     (∀ x∈A0i i d ch av rs.bs,∃ c,cB (A0i i d ch av rs.bs) x.ch=some c/\(a.put (some d) v).tmps[x.d]?=some (if c=true then .bool x.e else undef)) /\
     (∀ f b,cB rs.bs f=some b->cB (A0i i d ch av rs.bs) f=some b):=by
    have X:∀ x∈rs.bs,x.j<i+1/\∃ o,ops[x.j]?=some o/\o.dst=some x.d:=λx p=>⟨Nat.lt_succ_of_lt (r.lt x p).1,(r.lt x p).2⟩
    have Y:∀ x∈rs.bs,∃ c,cB rs.bs x.ch=some c/\(a.put (some d) v).tmps[x.d]?=some (if c=true then .bool x.e else undef):=λx p=>by
     obtain⟨c,u,z⟩:=r.val x p
     grind[P0d]
    unfold A0i
    split
    ·rename_i e
     have J:∀ f b,cB rs.bs f=some b->cB (⟨i,d,e,ch⟩::rs.bs) f=some b:=λf b N=>U0k (x:=⟨i,d,e,ch⟩) p N
     refine⟨λx G=>?_,λx G=>?_,J⟩
     ·grind
     ·rcases List.mem_cons.1 G with rfl|G
      ·refine⟨c,J _ _ E,?_⟩
       rw[Q]
       cases c with
       |true=>rw[show v = .bool e from g rfl];rfl
       |false=>rw[M rfl];rfl
      grind
    grind
   have D:∀ k,J6 rs.st be oe { rs.st with fr:=(d,k)::rs.st.fr } be oe:=λk=>⟨Nat.le_refl _,λ_ _=>rfl,λi s h=>⟨s,h,Nat.le_refl _,λ_=>rfl⟩⟩
   have L:∀ l f k,y0d rs.gf l=some (f,k)->∃ b,cB (A0i i d ch av rs.bs) f=some b/\(b=true->A2 rs.st be oe k ((a.put (some d) v).tmps.getD l undef)):=λl f k q=>by
    obtain⟨b,u,z⟩:=r.gf l f k q
    refine⟨b,y.2.2 _ _ u,λA=>?_⟩
    have V:l≠d:=λe=>by grind
    simp_all
   split at m
   ·
    cases E
    refine⟨_,m,rfl,⟨y.1,y.2.1,λl f k q=>?_⟩,s.put F (g rfl)⟩
    obtain⟨b,u,z⟩:=L l f k q
    exact⟨b,u,λA=>(z A).grow (D av)⟩
   ·refine⟨_,m,rfl,⟨y.1,y.2.1,λl f k q=>?_⟩,s.put F (show A2 rs.st be oe .dead v from trivial)⟩
    simp only[y0d]at q
    split at q
    ·rename_i O
     cases q
     have:=Nat.eq_of_beq_eq_true O
     subst this
     refine⟨c,y.2.2 _ _ E,λA=>(A2.grow (D .dead) ?_)⟩
     simp_all
    ·obtain⟨b,u,z⟩:=L l f k q
     exact⟨b,u,λA=>(z A).grow (D .dead)⟩
  ·exact m.elim
end
section
variable {P:Program} {h0:Hp} {w0:World} {be:Nat->Nat} {oe:Nat->Value} {H:Hp} {rs:RS} {a:Act} {w:World} {o:Oper} {ops:Array Oper} {i:Nat}
theorem J07{bs:List BE}{ch:List (Nat×Bool)}{c:Bool}{X:Prop}(h:imp ch c X)(a:c=true):X:=by
 grind[imp]
def CW(H:Hp)(w:World):World->Prop:=λa=>T2 H w H a
theorem c07{v:Value}(c:∀ b,Vis H b->(execOp a.eval o).run P b = .ok (.value v) b):∀ b,CW H w b->o.quietAt P a (CW H w) b v:=λb m=>by
 unfold Oper.quietAt
 rw[c b m.vis]
 exact⟨rfl,rfl⟩
theorem V02{v:Value}(d:∀ c:Next->Hp->Prop,c (.value v) H->R.wpR P (execOp a.eval o) H c):∀ b,CW H w b->o.quietAt P a (CW H w) b v :=
 c07 λb hv=>R.run_of d b hv
theorem T2.widen{hf:Hp}{w c:World}(hv:Vis H w)(d:∀ b o,hf b=some o->H b=some o)(m:T2 hf w hf c):T2 H w H c:=by
 refine⟨m.os,m.tape,m.output,m.size,?_,?_,λb a => .inl a,m.fz,m.dn⟩
 ·intro b a g
  refine m.keep b a ?_
  cases hc:hf b with
  |none=>rfl
  |some o=>grind
 ·intro b o a
  cases hc:hf b with
  |some f =>
   have:=d b f hc
   rw[this]at a;cases a
   exact m.vis b _ hc
  |none=>rw[m.keep b (hv.lt (by rw[a];simp)) hc];exact hv b o a
theorem N04{ch:List (Nat×Bool)}(G:∀ x,A2 rs.st be oe (rdG rs ch x) (a.eval x)):∀(l:List Operand) {vs:List (Nat×Value)},z0i rs ch l=some vs ->
  (∀ p∈vs,p.2=a.eval (.tmp p.1))/\(∀ x∈l,(∃ t v,x = .tmp t/\(t,v)∈vs)∨(∀ i,rho i x=a.eval x))
 | [],vs,h=>by cases h;simp
 | .tmp t::r,vs,h=>by
  simp only[z0i]at h
  split at h
  ·rename_i v hv
   split at h
   ·rename_i j g
    cases h
    obtain⟨c,d⟩:=N04 G r g
    grind[B5,List.mem_cons_self,mC]
   ·cases h
  ·cases h
 | .global _::r,vs,h=>by cases h
 | .const v::r,vs,h=>by
  obtain⟨c,d⟩:=N04 G r (vs:=vs) h
  exact⟨c,λx b=>by
   rcases List.mem_cons.1 b with rfl|b
   ·exact .inr λ_=>rfl
   ·exact d x b⟩
 | .func f::r,vs,h=>by
  obtain⟨c,d⟩:=N04 G r (vs:=vs) h
  exact⟨c,λx b=>by
   rcases List.mem_cons.1 b with rfl|b
   ·exact .inr λ_=>rfl
   ·exact d x b⟩
abbrev d0t(P:Program)(be:Nat->Nat)(oe:Nat->Value)(H:Hp)(rs:RS)(a:Act)(w:World)(o:Oper)(c:Bool)(K:AV->Prop):Prop :=
 ∃ av,K av/\(c=true->∃ v,A2 rs.st be oe av v/\∀ b,CW H w b->o.quietAt P a (CW H w) b v)
variable {ch:List (Nat×Bool)} {c:Bool} {K:AV->Prop}
theorem F06(G:∀ x,A2 rs.st be oe (rdG rs ch x) (a.eval x)):∀(l:List Operand) {st:St} {h:Hp} {K:List (Nat×Value)->St->Hp->Prop},Sim P h0 w0 be oe H st h a w->J6 rs.st be oe st be oe->H0q rs ch l st h K ->
  ∃ vs st' n,K vs st' n/\Sim P h0 w0 be oe H st' n a w/\(∀ p∈vs,p.2=a.eval (.tmp p.1))/\(∀ x∈l,(∃ t v,x = .tmp t/\(t,v)∈vs)∨(∀ q,rho q x=a.eval x))
 | [],st,h,K,s,c,b=>⟨[],st,h,b,s,by simp,by simp⟩
 | .tmp t::r,st,h,K,s,c,b=>by
  obtain⟨y,u,o,s1,g1⟩:=J02 s (s.rdA ((G (.tmp t)).grow c)) b
  obtain⟨vs,m,i,g,s2,j,k⟩:=F06 G r s1 (c.trans g1) o
  grind
 | .const v::r,st,h,K,s,c,b=>by
  obtain⟨vs,m,i,g,s2,j,k⟩:=F06 G r s c b
  refine⟨vs,m,i,g,s2,j,λx d=>?_⟩
  rcases List.mem_cons.1 d with rfl|d
  ·exact .inr λ_=>rfl
  ·exact k x d
 | .func f::r,st,h,K,s,c,b=>by
  obtain⟨vs,m,i,g,s2,j,k⟩:=F06 G r s c b
  refine⟨vs,m,i,g,s2,j,λx d=>?_⟩
  rcases List.mem_cons.1 d with rfl|d
  ·exact .inr λ_=>rfl
  ·exact k x d
 | .global _::_,_,_,_,_,_,b=>b.elim
theorem A8(s:Sim P h0 w0 be oe H rs.st rs.h a w)(G:c=true->∀ x,A2 rs.st be oe (rdG rs ch x) (a.eval x))(d:m0h P o ch c rs K):d0t P be oe H rs a w o c K:=by
 unfold m0h at d
 split at d
 ·rename_i vs E C
  split at d
  ·rename_i f l n
   split at d
   ·rename_i y
    obtain⟨v,z,t⟩:=d
    refine⟨_,t,λg=>?_⟩
    obtain⟨k,p⟩:=N04 (G g) _ C
    rw[H04 k p]at n
    refine⟨v,rfl,λj m=>?_⟩
    unfold Oper.quietAt
    rw[p08 n y]
    refine⟨rfl,((J07 (bs:=rs.bs) z g).run j (λb o q=>m.vis b o (s.sub b o q))).mono ?_⟩
    rintro e L ⟨J,D,rfl,⟨rfl,rfl⟩,u⟩
    exact⟨rfl,T2.trans m (T2.widen m.vis s.sub u)⟩
   ·exact d.elim
  ·split at d
   ·rename_i v A
    refine⟨_,d,λg=>?_⟩
    obtain⟨k,p⟩:=N04 (G g) _ C
    rw[f0a,q08 E k p]at A
    exact⟨v,rfl,c07 λj _=>V0l _ A j⟩
   ·exact d.elim
 ·obtain⟨r,z,t⟩:=d
  refine⟨_,t,λg=>⟨r,rfl,λj m=>?_⟩⟩
  obtain⟨vs,M,k,i,s1,F,I⟩:=F06 (G g) _ s (J6.refl _ _ _) (J07 (bs:=rs.bs) z g)
  rw[H04 F I]at i
  split at i
  ·rename_i f l n
   split at i
   ·rename_i y
    unfold Oper.quietAt
    rw[p08 n y]
    refine⟨rfl,(i.run j (λb o q=>m.vis b o (s1.sub b o q))).mono ?_⟩
    rintro e L ⟨J,D,rfl,⟨rfl,rfl⟩,u⟩
    exact⟨rfl,T2.trans m (T2.widen m.vis s1.sub u)⟩
   ·exact i.elim
  ·exact i.elim
 ·exact d.elim
theorem l05{d l:Int}{x:Option Operand}(G:∀ x,A2 rs.st be oe (rdG rs ch x) (a.eval x))(b:g05 d (x.map (rdG rs ch))=some l):L04 a d x l:=by
 cases x with
 |none=>simp only[Option.map_none,g05,Option.some.injEq]at b;exact b.symm
 |some c =>
  have g:=G c
  simp only[Option.map_some]at b
  cases hr:rdG rs ch c with
  |val v =>
   rw[hr]at b g
   cases v<;>simp only[g05,Option.some.injEq]at b<;>first|(subst b;exact⟨_,g⟩)|cases b
  |_=>rw[hr]at b;cases b
theorem P0o(s:Sim P h0 w0 be oe H rs.st rs.h a w){d:AV}{x:Value}(m:A2 rs.st be oe d x){cs:List A5}(b:V9 (rdA rs.st d)=some cs):Z1 rs.st oe cs x.cells.toList:=by
 have g:=s.rdA m
 cases hr:rdA rs.st d with
 |val v =>
  rw[hr]at b g
  have hv:x=v:=g
  rw[hv]
  cases v<;>simp only[V9,Option.some.injEq]at b<;>first|(subst b;first|exact Z1.vals _ _ _|exact⟨rfl,trivial⟩)|cases b
 |own i k =>
  rw[hr]at b g
  obtain⟨e,sz,by_,nn,xs,f⟩:=y06 hr
  simp only[V9,Option.some.injEq]at b
  subst b
  have j:x=oe i:=g.own_cur f
  obtain⟨p,n,c,l⟩:=I0d s f
  rw[j,l]
  rw[j,l]at g
  exact⟨g,trivial⟩
 |agg cs' =>
  rw[hr]at b g
  simp only[V9,Option.some.injEq]at b
  subst b
  obtain⟨vs,hv,o⟩:=g
  rw[hv]
  exact o
 |_=>rw[hr]at b;cases b
set_option maxHeartbeats 1000000 in
theorem s0n(s:Sim P h0 w0 be oe H rs.st rs.h a w)(r:I07 ops be oe rs a i)(ap:cB rs.bs ch=some c)(u:evG P o ch c rs K):d0t P be oe H rs a w o c K:=by
 have ac:c=true->∀ x,∃ L,A2 rs.st be oe L (a.eval x)/\rdG rs ch x=rdA rs.st L:=λh x=>by subst h;exact Q0d s r ap x
 have G:c=true->∀ x,A2 rs.st be oe (rdG rs ch x) (a.eval x):=λh x=>by
  obtain⟨L,g,e⟩:=ac h x
  rw[e];exact s.rdA g
 have J:∀ {X:Prop},imp ch c X->c=true->X:=λh ap=>J07 (bs:=rs.bs) h ap
 have bE:∀ E,CW H w E->Vis H E:=λE m=>m.vis
 cases ho:o.op with
 |move x =>
  simp only[evG,ho]at u
  have C:K (rdG rs ch x):=by revert u;cases rdG rs ch x<;>intro u<;>first|exact u|exact u.elim
  refine⟨_,C,λh=>⟨_,G h x,c07 λE _=>?_⟩⟩
  unfold execOp;rw[ho];rfl
 |assign x =>
  simp only[evG,ho]at u
  have C:K (rdG rs ch x):=by revert u;cases rdG rs ch x<;>intro u<;>first|exact u|exact u.elim
  refine⟨_,C,λh=>⟨_,G h x,c07 λE _=>?_⟩⟩
  unfold execOp;rw[ho];rfl
 |pick ad x N =>
  cases ad with
  |tmp t =>
   simp only[evG,ho]at u
   split at u
   ·rename_i e q aG bi
    split at u
    ·rename_i bk
     split at u
     ·rename_i bx by_ y I
      refine⟨_,u,λh=>?_⟩
      have aO:=G h (.tmp t)
      rw[aG]at aO
      have ba:a.eval (.tmp t) = .bool e:=aO
      subst h
      obtain⟨Y,bj⟩:=v0b bi
      have aF:=x08 bk ap
      obtain⟨aM,D,ai⟩:=r.val q Y
      rw[aF]at D
      cases D
      have bH:q.e=e:=by
       have:a.eval (.tmp t) = .bool q.e:=by
        simp only[Act.eval,←bj,Array.getD_eq_getD_getElem?,ai];rfl
       grind
      have W:∃ b,H02 rs.bs q.j=some b:=by
       have:∀(l:List BE),q∈l->∃ b,H02 l q.j=some b:=by
        intro l
        induction l with
        |nil=>intro h;cases h
        |cons z l bo =>
         grind[H02,absurd,Nat.ne_of_beq_eq_false]
       exact this _ Y
      obtain⟨b,V⟩:=W
      obtain⟨aQ,bc⟩:=r03 V
      have aP:b.e=e/\cB rs.bs b.ch=some true:=by
       obtain⟨_,bL,aJ,aK⟩:=r.lt b aQ
       obtain⟨_,bM,O,Q⟩:=r.lt q Y
       rw[bc,O]at aJ
       cases aJ
       rw[Q]at aK
       have bF:q.d=b.d:=by simpa using aK
       obtain⟨aM,al,am⟩:=r.val b aQ
       grind[undef]
      refine⟨.bool (cond e bx by_),rfl,c07 λE _=>?_⟩
      unfold execOp;rw[ho]
      simp only[ba,Sem.run_bind,asBool,Sem.run_pure,Result.andThen_ok]
      cases e with
      |true =>
       have aC:cB rs.bs ((q.j,true)::q.ch)=some true:=by
        rw[l04,V,aF];simp[lit,aP.1]
       obtain⟨L,g1,g2⟩:=Q0d s r aC x
       have g3:=s.rdA g1
       rw[←g2,y]at g3
       have g4:a.eval x = .bool bx:=g3
       simp[g4]
      |false =>
       have aC:cB rs.bs ((q.j,false)::q.ch)=some true:=by
        rw[l04,V,aF];simp[lit,aP.1]
       obtain⟨L,g1,g2⟩:=Q0d s r aC N
       have g3:=s.rdA g1
       rw[←g2,I]at g3
       have g4:a.eval N = .bool by_:=g3
       simp[g4]
     ·exact u.elim
    ·exact u.elim
   ·exact u.elim
  |_=>simp only[evG,ho]at u;exact A8 s G u
 |fieldAddr t x k =>
  simp only[evG,ho]at u
  split at u
  ·rename_i j off ah F ab
   refine⟨_,u,λh=>?_⟩
   have g:=G h x
   rw[F]at g
   exact⟨ptr (be j) (off+ah),⟨g.1,rfl⟩,V02 (R.exec_fieldAddr ho ab g.2)⟩
  ·rename_i sl j sz an ah F ab
   refine⟨_,u,λh=>?_⟩
   have g:=G h x
   rw[F]at g
   obtain⟨b,aw,n,S,M,ag⟩:=g
   exact⟨ptr b (aw+(j.toNat*sz+an)+ah),⟨b,aw,n,S,M,by simp[Nat.add_assoc]⟩,V02 (R.exec_fieldAddr ho ab ag)⟩
  ·rename_i aS bp j sz an ah F ab
   refine⟨_,u,λh=>?_⟩
   have g:=G h x
   obtain⟨L,_,U⟩:=ac h x
   rw[F]at g
   obtain⟨ay,ax,aL,aU,aW,aa⟩:=s0h (U.symm.trans F)
   obtain⟨ao,n,S,M,ag⟩:=g.oel_cur aa
   exact⟨ptr ao (j.toNat*sz+an+ah),⟨bp,by simp[stamp,aa],Nat.le_refl _,λ_=>⟨ao,n,S,M,by simp[Nat.add_assoc]⟩⟩,V02 (R.exec_fieldAddr ho ab ag)⟩
  ·exact u.elim
 |indexAddr t x ar =>
  simp only[evG,ho]at u
  split at u
  ·rename_i kd j aj
   split at u
   ·rename_i e af
    split at u
    ·rename_i sz aq
     split at u
     ·rename_i aY n S y
      refine⟨_,u.2,λh=>?_⟩
      obtain⟨b,off,aH,aM,M,O,Q⟩:=J u.1 h
      cases M
      have A:=G h x
      rw[y]at A
      have gi:=G h ar
      rw[aj]at gi
      exact⟨ptr b (off+j.toNat*sz),⟨b,off,n,S,rfl,by simp⟩,V02 (R.exec_indexAddr ho af aq A gi O Q)⟩
     ·rename_i aS an y
      split at u
      ·rename_i aV a3 ax by_ nn xs Z
       split at u
       ·rename_i V
        refine⟨_,u.2,λh=>?_⟩
        obtain⟨O,Q⟩:=J u.1 h
        have:=Nat.eq_of_beq_eq_true V
        subst this
        have A:=G h x
        obtain⟨L,_,U⟩:=ac h x
        rw[y]at A
        have gi:=G h ar
        rw[aj]at gi
        obtain⟨ay,bu,aL,aU,aW,aa⟩:=y06 (U.symm.trans y)
        have aR:=A.own_cur aa
        have ae:=s.own aS _ _ _ _ _ _ Z
        rcases ae.2 with⟨hv,bm,_⟩|⟨g,cap,cur,hv,_⟩
        ·grind
        ·rw[hv]at aR
         refine⟨ptr g (0+j.toNat*ax),⟨an,by simp[stamp,aa],Nat.le_refl _,λ_=>⟨g,xs.length,cap,hv,by simp⟩⟩,V02 (R.exec_indexAddr ho af aq aR gi O Q)⟩
       ·exact u.elim
      ·exact u.elim
     ·exact u.elim
    ·exact u.elim
   ·exact u.elim
  ·exact u.elim
 |load t x =>
  simp only[evG,ho]at u
  split at u
  ·rename_i j off F
   split at u
   ·rename_i cs ty Z
    obtain⟨D,vs,ai,az⟩:=s.box j cs ty Z
    obtain⟨av,v,al,am,au⟩:=R.load_row (H:=H) (b:=be j) (o:=0) (be:=be) u ai (λj v W=>by simp[Hp.cell,az,W])
    refine⟨av,al,λh=>⟨v,am,V02 ?_⟩⟩
    have g:=G h x
    rw[F]at g
    exact R.exec_load ho g.2 (by simpa using au)
   ·exact u.elim
  ·rename_i sl idx sz k F
   obtain⟨e,aD,C⟩:=u
   cases c with
   |false =>
    grind[z04]
   |true =>
    have aB:=J aD rfl
    have g:=G rfl x
    rw[F]at g
    obtain⟨b,aw,n,S,M,ag⟩:=g
    obtain⟨_,_,bA,bK,aH,bC,aN,bf⟩:=aB
    rw[M]at aN;cases aN
    obtain⟨av,v,al,am,au⟩:=R.load_row (H:=H) (b:=b) (o:=aw+idx.toNat*sz) (be:=be) C (Z1.vals rs.st oe e) (λj v W=>by
     have:=bf j v W
     unfold Hp.cell at this ⊢
     split at this
     ·rename_i bh;rw[s.sub _ _ bh];exact this
     ·cases this)
    grind[V02,R.exec_load,Nat.add_assoc]
  ·rename_i j aV idx sz k F
   split at u
   ·rename_i bN a3 ax by_ nn xs Z
    split at u
    ·rename_i V
     have aq:=Nat.eq_of_beq_eq_true V
     subst aq
     obtain⟨e,aD,C⟩:=u
     cases c with
     |false =>
      grind[z04]
     |true =>
      have aB:=J aD rfl
      have g:=G rfl x
      obtain⟨L,_,U⟩:=ac rfl x
      rw[F]at g
      obtain⟨ay,bO,aL,aU,aW,aa⟩:=s0h (U.symm.trans F)
      obtain⟨ao,n,S,M,ag⟩:=g.oel_cur aa
      have ae:=s.own j _ _ _ _ _ _ Z
      obtain⟨av,v,al,am,au⟩:=R.load_row (H:=H) (b:=ao) (o:=idx.toNat*ax) (be:=be) C (Z1.vals rs.st oe e) (λj v W =>
       ae.cells M _ _ (J03 xs _ e (λx y=>(ae.1 x y).1) aB j v W))
      grind[V02,R.exec_load]
    ·exact u.elim
   ·exact u.elim
  ·exact u.elim
 |build t ps =>
  simp only[evG,ho]at u
  split at u
  ·rename_i a4 z ak bn
   split at u
   ·rename_i aA
    cases c with
    |false =>
     have:∀(l:List (Nat×Operand)) (cs:List A5) (K':List A5->Prop),t07 P a4 (rdG rs ch) l cs K'->∃ cs,K' cs:=by
      intro l
      induction l with
      |nil=>intro cs K' h;exact⟨_,h⟩
      |cons p l bo =>
       grind[t07]
     grind
    |true =>
     obtain⟨av,v,al,am,au⟩:=R0i (K':=K) s ho ak bn aA (λx cs bG=>by
      obtain⟨L,g1,g2⟩:=ac rfl x
      grind[P0o]) u
     grind[c07]
   ·exact u.elim
  ·exact u.elim
 |index t x ar =>
  simp only[evG,ho]at u
  split at u
  ·rename_i b kd j y aj ak
   obtain⟨e,D,C⟩:=u
   refine⟨_,C,λh=>?_⟩
   have A:=G h x
   rw[y]at A
   have gi:=G h ar
   rw[aj]at gi
   obtain⟨O,Q⟩:=J D h
   exact⟨_,rfl,V02 (R.exec_index ho ak A gi O Q)⟩
  ·exact u.elim
 |slice t x bI aj br =>
  cases br with
  |some m=>simp only[evG,ho]at u;exact A8 s G u
  |none =>
   simp only[evG,ho]at u
   split at u
   ·rename_i b y ak
    split at u
    ·rename_i l m aE Y
     refine⟨_,u.2,λh=>?_⟩
     obtain⟨D,ai,az⟩:=J u.1 h
     have A:=G h x
     rw[y]at A
     exact⟨_,rfl,V02 (R.exec_cutStr ho ak A (l05 (G h) aE) (l05 (G h) Y) D ai az)⟩
    ·exact u.elim
   ·rename_i aY n S y
    split at u
    ·rename_i e af
     split at u
     ·rename_i sz aG
      split at u
      ·rename_i l m aE Y
       obtain⟨v,D,C⟩:=u
       refine⟨_,C,λh=>?_⟩
       obtain⟨⟨O,Q,aZ,a0⟩,a1⟩:=J D h
       have A:=G h x
       rw[y]at A
       refine⟨v,rfl,?_⟩
       rw[a1 _ _ _ rfl]
       exact V02 (R.exec_slice ho af aG A (l05 (G h) aE) (l05 (G h) Y) O Q aZ a0)
      ·exact u.elim
     ·exact u.elim
    ·exact u.elim
   ·exact u.elim
 |binOp bt t x N bP =>
  cases bt with
  |add =>
   simp only[evG,ho]at u
   split at u
   ·rename_i b ad y I
    refine⟨_,u.2,λh=>?_⟩
    have A:=G h x
    rw[y]at A
    have T:=G h N
    rw[I]at T
    exact⟨_,rfl,V02 (R.exec_cat ho A T (J u.1 h))⟩
   grind[A8]
  |quo =>
   simp only[evG,ho]at u
   split at u
   ·rename_i b ad y I
    refine⟨_,u.2,λh=>?_⟩
    have A:=G h x
    rw[y]at A
    have T:=G h N
    rw[I]at T
    exact⟨_,rfl,V02 (R.exec_quo ho A T (J u.1 h))⟩
   ·exact A8 s G u
  |rem =>
   simp only[evG,ho]at u
   split at u
   ·rename_i b ad y I
    refine⟨_,u.2,λh=>?_⟩
    have A:=G h x
    rw[y]at A
    have T:=G h N
    rw[I]at T
    exact⟨_,rfl,V02 (R.exec_rem ho A T (J u.1 h))⟩
   ·exact A8 s G u
  |eql =>
   simp only[evG,ho]at u
   split at u
   ·rename_i xs bz y I
    obtain⟨b,D,C⟩:=u
    exact⟨_,C,λh=>⟨.bool b,rfl,c07 λE _=>J D h _ (B5 y (G h x)) (B5 I (G h N)) E⟩⟩
   ·rename_i aX aH bq y I
    obtain⟨b,D,C⟩:=u
    exact⟨_,C,λh=>⟨.bool b,rfl,c07 λE _=>J D h _ (B5 y (G h x)) (B5 I (G h N)) E⟩⟩
   ·exact A8 s G u
  |neq =>
   simp only[evG,ho]at u
   split at u
   ·rename_i xs bz y I
    obtain⟨b,D,C⟩:=u
    exact⟨_,C,λh=>⟨.bool b,rfl,c07 λE _=>J D h _ (B5 y (G h x)) (B5 I (G h N)) E⟩⟩
   ·rename_i aX aH bq y I
    obtain⟨b,D,C⟩:=u
    exact⟨_,C,λh=>⟨.bool b,rfl,c07 λE _=>J D h _ (B5 y (G h x)) (B5 I (G h N)) E⟩⟩
   grind[A8]
  |_=>simp only[evG,ho]at u;exact A8 s G u
 |call ad =>
  obtain⟨a2,as,bv⟩:=ad
  cases a2 with
  |builtin b =>
   cases b with
   |len =>
    simp only[evG,ho]at u
    split at u
    ·rename_i x t aA ab
     have bb:as = #[x]:=by apply Array.ext';simpa using aA
     have bl:bv = #[t]:=by apply Array.ext';simpa using ab
     split at u
     ·rename_i j k F
      split at u
      ·rename_i aV e sz by_ nn xs ay Z af
       refine⟨_,u,λh=>?_⟩
       have g:=G h x
       obtain⟨L,_,U⟩:=ac h x
       rw[F]at g
       obtain⟨M,bu,bB,bJ,bQ,bg⟩:=y06 (U.symm.trans F)
       have y:=g.own_cur bg
       have ae:=s.own j _ _ _ _ _ _ Z
       rcases ae.2 with⟨hv,bm,_⟩|⟨bD,cap,cur,hv,_⟩
       ·rw[hv]at y
        refine⟨.int .i64 xs.length,rfl,c07 λE _=>?_⟩
        grind[m0a]
       ·rw[hv]at y
        exact⟨.int .i64 xs.length,rfl,c07 λE _=>m0a ho bb bl af y E⟩
      ·exact u.elim
     ·exact A8 s G u
    ·exact u.elim
   |_=>simp only[evG,ho]at u;exact A8 s G u
  |value f=>simp only[evG,ho]at u;exact A8 s G u
  |invoke r m=>simp only[evG,ho]at u;exact A8 s G u
 |_=>simp only[evG,ho]at u;exact A8 s G u
end
end Go.H
