/- The library of the walks, part HC: plain laws over the model. -/
import Derived.Test.YtfphndijjmdiiaaGreatHB
namespace Go.H.R
open Go.H
set_option linter.unusedVariables false
set_option linter.unusedSimpArgs false
def wpR(P:Program){b:Type}:Sem b->Hp->(b->Hp->Prop)->Prop
 | .pure a,h,K=>K a h
 | .load _ a k,h,K=>∃ v,(a.spot=none/\Hp.cell h a.block a.off=some v)/\wpR P (k v) h K
 | .program k,h,K=>wpR P (k P) h K
 | .mark _ k,h,K=>wpR P k h K
 |_,_,_=>False
theorem wpR_sound{P:Program}{f:Type}{K:f->Hp->Prop}(e:Sem f):∀(h:Hp) (w:World),Vis h w->wpR P e h K->∃ x,e.run P w = .ok x w/\K x h:=by
 induction e with
 |pure a=>exact λh w c b=>⟨a,rfl,b⟩
 |load m a k d =>
  rintro h w c ⟨v,⟨i,g⟩,b⟩
  grind[Sem.run,S05]
 |program k d=>exact λh w c b=>d _ _ _ c b
 |mark m k d=>exact λh w c b=>d _ _ c b
 |_=>exact λh w c b=>b.elim
theorem P6{P:Program}{e c:Type}(b:Sem e)(f:e->Sem c):∀(h:Hp) (K:c->Hp->Prop),wpR P (b >>= f) h K=wpR P b h (λx h'=>wpR P (f x) h' K):=by
 change ∀(h:Hp) (K:c->Hp->Prop),wpR P (b.bind f) h K=wpR P b h (λx h'=>wpR P (f x) h' K)
 induction b with
 |pure a=>intro h K;rfl
 |load m a k d=>grind[Sem.bind,wpR]
 |program k d=>grind[Sem.bind,wpR]
 |mark m k d=>grind[Sem.bind,wpR]
 |_=>intro h K;rfl
theorem F7{P:Program}{a:Type}(x:a)(h:Hp)(K:a->Hp->Prop):wpR P (pure x) h K=K x h:=rfl
section
variable {P:Program} {h0:Hp} {w0:World} {be:Nat->Nat} {oe:Nat->Value} {H:Hp} {st:St} {h:Hp} {a:Act} {w:World} {o:Oper}
theorem L00{t:TypeId}{d:TypeDesc}(a:P.underlying t=some d)(h:Hp)(K:TypeDesc->Hp->Prop):wpR P (underlying t) h K=K d h:=by
 simp_all[underlying,program,P6,wpR,F7]
theorem S0i{t:TypeId}{i:TypeInfo}(a:P.info? t=some i)(h:Hp)(K:TypeInfo->Hp->Prop):wpR P (typeInfo t) h K=K i h:=by
 grind[typeInfo,program,P6,wpR,F7]
theorem L06{t:TypeId}{n:Nat}(a:W5 P t=some n)(h:Hp)(K:Nat->Hp->Prop):wpR P (sizeOf t) h K=K n h:=by
 grind[W5,sizeOf,P6,S0i,F7]
theorem e0h{t:TypeId}{b:Bool}(a:x0i P t=some b)(h:Hp)(K:Bool->Hp->Prop):wpR P (isAgg t) h K=K b h:=by
 unfold x0i at a
 grind[isAgg,P6,L00,F7,absurd]
theorem o05{H:Hp}{b o:Nat}:∀(vs:List Value) (i:Nat) (acc:Array Value) (K:Array Value->Hp->Prop),(∀ j v,vs[j]?=some v->Hp.cell H b (o+i+j)=some v) ->
  K (acc++vs.toArray) H->wpR P (loadCellsFrom ⟨b,o,none⟩ i vs.length acc) H K
 | [],i,acc,K,_,c=>by grind[loadCellsFrom,F7]
 |v::vs,i,acc,K,a,c=>by
  have h0:=a 0 v (by simp)
  simp only[loadCellsFrom,List.length_cons,P6,load,wpR]
  have d:(⟨b,o,none⟩:Addr).add i=⟨b,o+i,none⟩:=by unfold Addr.add;split<;>simp_all
  rw[d]
  refine⟨v,⟨rfl,by simpa using h0⟩,o05 vs (i+1) (acc.push v) K ?_ ?_⟩
  ·intro j u e
   have:=a (j+1) u (by simpa using e)
   grind
  ·simpa using c
theorem load_row{t:TypeId}{cs:List N5}{vs:List Value}{off:Nat}{K:AV->Prop}{b o:Nat}(a:y04 P t cs off K)(g:G2 st oe cs vs)
  (p:∀ j v,vs[j]?=some v->Hp.cell H b (o+j)=some v):∃ av v,K av/\Good st be oe av v/\∀ d:Value->Hp->Prop,d v H->wpR P (loadVar t ⟨b,o+off,none⟩) H d:=by
 unfold y04 at a
 split at a
 ·rename_i e
  split at a
  ·rename_i n f
   split at a
   ·rename_i l
    have m:=x02 _ _ l
    have h:=(g.drop off).take n
    refine⟨_,.agg ((vs.drop off).take n).toArray,a,⟨_,rfl,h⟩,λd k=>?_⟩
    have s:((vs.drop off).take n).length=n:=by rw[←h.length,m]
    simp only[loadVar,P6,e0h e,if_true,L06 f,loadCells]
    have:=o05 (P:=P) (H:=H) (b:=b) (o:=o+off) ((vs.drop off).take n) 0 #[] (λx h'=>wpR P (pure (Value.agg x)) h' d) (λj v q=>by
     grind) (by grind[F7])
    grind
   ·exact a.elim
  ·exact a.elim
 ·rename_i e
  split at a
  ·rename_i c f
   obtain⟨v,u,i⟩:=g.nth f
   refine⟨_,v,a,Good.ofCell i,λd k=>?_⟩
   simp only[loadVar,P6,e0h e,Bool.false_eq_true,if_false,load,wpR]
   grind
  ·exact a.elim
 ·exact a.elim
theorem W7{P:Program}(b:Sem Value)(H:Hp)(a:Next->Hp->Prop)(h:wpR P b H (λv H=>a (.value v) H)):wpR P (do pure (Next.value (←b))) H a:=by
 rw[P6];exact h
theorem exec_fieldAddr{t:TypeId}{x:Operand}{k d b off:Nat}(h:o.op = .fieldAddr t x k)(i:y0i P t k=some d)(l:a.eval x=ptr b off):
  ∀ c:Next->Hp->Prop,c (.value (ptr b (off+d))) H->wpR P (execOp a.eval o) H c:=by
 intro c e
 obtain⟨m,f,n,j,hf,g,rfl⟩:=c0h i
 unfold execOp;rw[h]
 refine W7 _ _ _ ?_
 simp only[Instr.fieldAt,P6,L00 j,hf,l,ptr,Instr.sureAddr,F7,fieldPlace,L06 g,Nat.add_one_ne_zero,if_false,u01]
 exact e
theorem exec_indexAddr{t e:TypeId}{x i:Operand}{k:IntKind}{j:Int}{sz b off n c:Nat}(m:o.op = .indexAddr t x i)(q:V00 P t=some e)(p:W5 P e=some sz)
  (u:a.eval x = .slice (some ⟨b,off,none⟩) n c) (h:a.eval i = .int k j) (f:0<=j) (g:j<(n:Int)) :
  ∀ d:Next->Hp->Prop,d (.value (ptr b (off+j.toNat*sz))) H->wpR P (execOp a.eval o) H d:=by
 intro d l
 have s:=p9 q
 unfold execOp;rw[m]
 refine W7 _ _ _ ?_
 simp only[Instr.indexAt,u,h,asIntOf,P6,F7,L00 s,f,g,and_self,if_true,L06 p,u01]
 exact l
theorem G08{x:Value}{k:IntKind}{i:Int}{y:Nat}{b:BoundsCode}(e:x = .int k i)(c:0<=i)(d:i<=(y:Int))(a:Nat->Hp->Prop):wpR P (Instr.sliceBound x y b) H a=a i.toNat H:=by
 subst e
 simp only[Instr.sliceBound,asIntOf,P6,F7,c,d,and_self,if_true]
theorem P0e{isS:Bool}{n c:Nat}{f b:Option Operand}{l m:Int}(i:L04 a 0 f l)(d:L04 a n b m)(h:0<=l)(s:l<=m)(t:m<=(n:Int))(u:n<=c)
  (g:Nat×Nat×Nat->Hp->Prop):wpR P (Instr.sliceBounds isS n c (f.map a.eval) (b.map a.eval) none) H g=g (l.toNat,m.toNat,c) H:=by
 have q:l<=(m.toNat:Int):=by omega
 cases f with
 |none =>
  have p:l=0:=i
  subst p
  cases b with
  |none =>
   have j:m=(n:Int):=d
   simp_all[Instr.sliceBounds,Option.map_none,P6,F7]
  |some y =>
   obtain⟨k,e⟩:=d
   simp only[Instr.sliceBounds,Option.map_none,Option.map_some,P6,F7,G08 e (by omega) (show m<=(c:Int) by omega)];rfl
 |some x =>
  obtain⟨k,o⟩:=i
  cases b with
  |none =>
   have j:m=(n:Int):=d
   subst j
   simp only[Instr.sliceBounds,Option.map_none,Option.map_some,P6,F7,G08 o h (show l<=((n:Nat):Int) by omega)];rfl
  |some y =>
   obtain⟨v,e⟩:=d
   simp only[Instr.sliceBounds,Option.map_some,P6,F7,G08 e (by omega) (show m<=(c:Int) by omega),G08 o h q]
theorem exec_cutStr{t:TypeId}{x:Operand}{e d:Option Operand}{b:ByteArray}{l m:Int}(n:o.op = .slice t x e d none)(p:P.underlying t=some .string)
  (q:a.eval x = .string b) (j:L04 a 0 e l) (k:L04 a b.size d m) (f:0<=l) (g:l<=m) (h:m<=(b.size:Int)) :
  ∀ c:Next->Hp->Prop,c (.value (.string (b.extract l.toNat m.toNat))) H->wpR P (execOp a.eval o) H c:=by
 intro c i
 unfold execOp;rw[n]
 refine W7 _ _ _ ?_
 simp only[Instr.sliceAt,P6,L00 p,Instr.slice,q,Option.map_none,Option.isSome_none,Bool.false_eq_true,if_false,F7]
 rw[P0e j k f g h (Nat.le_refl _)]
 exact i
theorem exec_index{t:TypeId}{x i:Operand}{b:ByteArray}{k:IntKind}{j:Int}{c:UInt8}(l:o.op = .index t x i)(m:P.underlying t=some .string)(n:a.eval x = .string b)(g:a.eval i = .int k j)
  (e:0<=j) (f:b[j.toNat]?=some c):∀ d:Next->Hp->Prop,d (.value (.int .u8 c.toNat)) H->wpR P (execOp a.eval o) H d:=by
 intro d h
 unfold execOp;rw[l]
 refine W7 _ _ _ ?_
 simp only[Instr.index,n,g,asIntOf,P6,F7,L00 m,e,if_true,f]
 exact h
theorem exec_cat{t j:TypeId}{x y:Operand}{b c:ByteArray}(g:o.op = .binOp .add t x y j)(h:a.eval x = .string b)(i:a.eval y = .string c)(k:b.size+c.size<=9223372036854775807):
  ∀ d:Next->Hp->Prop,d (.value (.string (b++c))) H->wpR P (execOp a.eval o) H d:=by
 intro d e
 unfold execOp;rw[g]
 refine W7 _ _ _ ?_
 have f : ¬ (((b.size+c.size:Nat):Int)>IntKind.i64.max):=by
  have:IntKind.i64.max=9223372036854775807:=by decide
  rw[this];omega
 simp only[h,i,eqGuard,P6,Bool.not_false,if_true,F7,binOp,Go.Op.stringOp,if_neg f]
 exact e
theorem exec_quo{t j:TypeId}{x y:Operand}{b c:Int}(g:o.op = .binOp .quo t x y j)(h:a.eval x = .int .i64 b)(i:a.eval y = .int .i64 c)(f:c≠0):
  ∀ d:Next->Hp->Prop,d (.value (.int .i64 (IntKind.i64.wrap (b.tdiv c)))) H->wpR P (execOp a.eval o) H d:=by
 intro d e
 unfold execOp;rw[g]
 refine W7 _ _ _ ?_
 simp only[h,i,eqGuard,P6,Bool.not_false,if_true,F7,binOp,Go.Op.intDiv,if_neg f,ne_eq,not_true_eq_false,if_false]
 exact e
theorem exec_rem{t j:TypeId}{x y:Operand}{b c:Int}(g:o.op = .binOp .rem t x y j)(h:a.eval x = .int .i64 b)(i:a.eval y = .int .i64 c)(f:c≠0):
  ∀ d:Next->Hp->Prop,d (.value (.int .i64 (b.tmod c))) H->wpR P (execOp a.eval o) H d:=by
 intro d e
 unfold execOp;rw[g]
 refine W7 _ _ _ ?_
 simp only[h,i,eqGuard,P6,Bool.not_false,if_true,F7,binOp,Go.Op.intDiv,if_neg f,ne_eq,not_true_eq_false,if_false]
 exact e
theorem exec_slice{t e sz:Nat}{x:Operand}{g f:Option Operand}{d:Option Addr}{n c:Nat}{l m:Int}(s:o.op = .slice t x g f none)(u:V00 P t=some e)(y:W5 P e=some sz)
  (v:a.eval x = .slice d n c) (k:L04 a 0 g l) (p:L04 a n f m) (h:0<=l) (i:l<=m) (j:m<=(n:Int)) (q:n<=c) :
  ∀ b:Next->Hp->Prop,b (.value (.slice (if c=l.toNat then d else d.map (·.add (l.toNat*sz))) (m.toNat-l.toNat) (c-l.toNat))) H->wpR P (execOp a.eval o) H b:=by
 intro b w
 unfold execOp;rw[s]
 refine W7 _ _ _ ?_
 simp only[Instr.sliceAt,P6,L00 (p9 u),Instr.slice,v,Option.map_none]
 rw[P0e k p h i j q]
 grind[L06,F7]
theorem exec_load{t:TypeId}{x:Operand}{b off:Nat}{v:Value}(d:o.op = .load t x)(g:a.eval x=ptr b off)
  (f:∀ c:Value->Hp->Prop,c v H->wpR P (loadVar t ⟨b,off,none⟩) H c):∀ c:Next->Hp->Prop,c (.value v) H->wpR P (execOp a.eval o) H c:=by
 intro c e
 unfold execOp;rw[d]
 refine W7 _ _ _ ?_
 grind[Instr.loadAt,ptr,Instr.sureAddr,P6,F7]
theorem run_of{v:Value}(e:∀ b:Next->Hp->Prop,b (.value v) H->wpR P (execOp a.eval o) H b)(w:World)(d:Vis H w):(execOp a.eval o).run P w = .ok (.value v) w:=by
 obtain⟨x,c,f⟩:=wpR_sound _ _ w d (e (λn _=>n = .value v) rfl)
 rw[c,f]
end
end Go.H.R
namespace Go.H
set_option linter.unusedVariables false
set_option linter.unusedSimpArgs false
section
variable {P:Program} {h0:Hp} {w0:World} {be:Nat->Nat} {oe:Nat->Value} {H:Hp} {rs:RS} {a:Act} {w:World} {o:Oper} {ops:Array Oper} {i:Nat}
theorem U0t{a b:Bool}(h:eqB a b=true):a=b:=by cases a<;>cases b<;>simp_all [eqB]
theorem T0i:∀(a b:List (Nat×Bool)),P0p a b=true->a=b
 | [],[],_=>rfl
 |(j,w)::r,(f,g)::e,h=>by
  simp only[P0p]at h
  split at h
  ·rename_i c d
   rw[Nat.eq_of_beq_eq_true c,U0t d,T0i r e h]
  ·cases h
 | [],_::_,h=>by cases h
 |_::_,[],h=>by cases h
theorem w03:∀ {bs:List BE} {j:Nat} {b:BE},I02 bs j=some b->b∈bs/\b.j=j
 | [],_,_,h=>by cases h
 |x::r,j,b,h=>by
  simp only[I02]at h
  split at h
  ·simp_all
  ·obtain⟨a,c⟩:=w03 h
   grind
theorem c0c:∀ {bs:List BE} {a:Nat} {b:BE},q0a bs a=some b->b∈bs/\b.d=a
 | [],_,_,h=>by cases h
 |x::r,j,b,h=>by
  simp only[q0a]at h
  split at h
  ·simp_all
  ·obtain⟨c,e⟩:=c0c h
   grind
theorem Q0e:∀ {bs:List BE} {c:Nat},q0a bs c=none->∀ b∈bs,b.d≠c
 | [],_,_,b,a=>by cases a
 |x::r,c,h,b,a=>by
  simp only[q0a]at h
  split at h
  ·cases h
  ·rename_i e
   rcases List.mem_cons.1 a with rfl|a
   ·exact Nat.ne_of_beq_eq_false e
   ·exact Q0e h b a
theorem n04(bs:List BE)(j:Nat)(w:Bool)(r:List (Nat×Bool)):cB bs ((j,w)::r)=match I02 bs j,cB bs r with
  |some b,some c=>some (lit w b.e&&c)
  |_,_=>none:=by
 grind[cB,I02,lit]
theorem m0s{bs:List BE}{x:Nat×Bool}{r:List (Nat×Bool)}(h:cB bs (x::r)=some true):cB bs r=some true:=by
 rw[n04]at h
 grind
theorem H08{bs:List BE}{p:List (Nat×Bool)}:∀ {q:List (Nat×Bool)},T0j p q=true->cB bs q=some true->cB bs p=some true
 | [],h,a=>by rw[T0i _ _ h];exact a
 |x::r,h,a=>by
  simp only[T0j]at h
  split at h
  ·grind[T0i]
  ·exact H08 h (m0s a)
theorem t0m{bs:List BE}{x:BE}(f:∀ y∈bs,y.j≠x.j):∀ {ch:List (Nat×Bool)} {c:Bool},cB bs ch=some c->cB (x::bs) ch=some c
 | [],c,h=>h
 |(j,w)::r,c,h=>by
  rw[n04]at h
  split at h
  ·rename_i b g d a
   have l:Nat.beq x.j j=false:=by
    obtain⟨i,k⟩:=w03 d
    grind[Nat.beq,absurd,Nat.eq_of_beq_eq_true]
   have e:I02 (x::bs) j=some b:=by grind[I02]
   rw[n04,e,t0m f a]
   exact h
  ·cases h
structure S07 (ops:Array Oper) (be:Nat->Nat) (oe:Nat->Value) (rs:RS) (a:Act) (i:Nat):Prop where
 lt:∀ x∈rs.bs,x.j<i/\∃ o,ops[x.j]?=some o/\o.dst=some x.d
 val:∀ x∈rs.bs,∃ c,cB rs.bs x.ch=some c/\a.tmps[x.d]?=some (if c=true then .bool x.e else undef)
 gf:∀ d ch av,z0e rs.gf d=some (ch,av)->∃ c,cB rs.bs ch=some c/\(c=true->Good rs.st be oe av (a.tmps.getD d undef))
theorem S07.grow(r:S07 ops be oe rs a i){st:St}{h:Hp}{be':Nat->Nat}{oe':Nat->Value}(g:Q6 rs.st be oe st be' oe'):S07 ops be' oe' { rs with st:=st,h:=h } a i :=
 ⟨r.lt,r.val,λd ch av e=>let ⟨c,h1,h2⟩:=r.gf d ch av e;⟨c,h1,λb=>(h2 b).grow g⟩⟩
theorem P0o(r:S07 ops be oe rs a i){ch:List (Nat×Bool)}{c:Bool}(d:d00 rs.bs o.guard=some ch)(f:cB rs.bs ch=some c):Region.wanted o (yielded ops a.tmps)=c:=by
 unfold Region.wanted
 cases hg:o.guard with
 |none =>
  rw[hg]at d
  cases d
  cases f
  rfl
 |some p =>
  obtain⟨j,w⟩:=p
  rw[hg]at d
  simp only[d00]at d
  split at d
  ·rename_i b h
   cases d
   obtain⟨k,rfl⟩:=w03 h
   obtain⟨_,t,n,m⟩:=r.lt b k
   obtain⟨g,l,q⟩:=r.val b k
   rw[n04,h,l]at f
   simp only[Option.some.injEq]at f
   have s:yielded ops a.tmps b.j=if g=true then some b.e else none:=by
    unfold yielded
    simp only[n,m,oB,q]
    cases g<;>rfl
   simp only[s,←f]
   cases g<;>cases w<;>cases b.e<;>rfl
  ·cases d
theorem R0e(n:Sim P h0 w0 be oe H rs.st rs.h a w)(r:S07 ops be oe rs a i){ch:List (Nat×Bool)}(k:cB rs.bs ch=some true)(x:Operand):
  (∃ b,Good rs.st be oe b (a.eval x)/\rdG rs ch x=rdA rs.st b):=by
 cases x with
 |tmp t =>
  simp only[rdG]
  split
  ·rename_i e av l
   split
   ·rename_i m
    obtain⟨c,d,j⟩:=r.gf t e av l
    rw[H08 m k]at d
    cases d
    exact⟨av,j rfl,rfl⟩
   ·exact⟨.dead,trivial,rfl⟩
  ·exact⟨_,n.fr t,rfl⟩
 |const v=>exact⟨.val v,rfl,rfl⟩
 |global g=>exact⟨.dead,trivial,rfl⟩
 |func f=>exact⟨.val _,rfl,rfl⟩
theorem M04(z:Sim P h0 w0 be oe H rs.st rs.h a w)(r:S07 ops be oe rs a i)(U:ops[i]?=some o){ch:List (Nat×Bool)}{c:Bool}{av:AV}{v:Value}{K:RS->Prop}
  (E:cB rs.bs ch=some c) (g:c=true->Good rs.st be oe av v) (L:c=false->v=undef) (m:A0e o.dst i ch av rs K) :
  ∃ C,K C/\C.h=rs.h/\S07 ops be oe C (a.put o.dst v) (i+1)/\Sim P h0 w0 be oe H C.st C.h (a.put o.dst v) w:=by
 cases hd:o.dst with
 |none =>
  rw[hd]at m
  exact⟨rs,m,rfl,⟨λx p=>⟨Nat.lt_succ_of_lt (r.lt x p).1,(r.lt x p).2⟩,r.val,r.gf⟩,z⟩
 |some d =>
  rw[hd]at m
  simp only[A0e]at m
  split at m
  ·rename_i O X
   have F:d<rs.st.n:=Nat.le_of_ble_eq_true O
   have Y:z0e rs.gf d=none/\q0a rs.bs d=none:=by
    grind[G07]
   have S:∀ t,t≠d->(a.put (some d) v).tmps[t]?=a.tmps[t]?:=λt Q=>by
    simp[Act.put,Array.getElem?_setIfInBounds_ne (Ne.symm Q)]
   have N:(a.put (some d) v).tmps[d]?=some v:=by simp[Act.put,z.siz,F]
   have p:∀ y∈rs.bs,y.j≠i:=λy R e=>by have:=(r.lt y R).1;omega
   have u:(∀ x∈V0j i d ch av rs.bs,x.j<i+1/\∃ o,ops[x.j]?=some o/\o.dst=some x.d) /\
     (∀ x∈V0j i d ch av rs.bs,∃ c,cB (V0j i d ch av rs.bs) x.ch=some c/\(a.put (some d) v).tmps[x.d]?=some (if c=true then .bool x.e else undef)) /\
     (∀ f b,cB rs.bs f=some b->cB (V0j i d ch av rs.bs) f=some b):=by
    have V:∀ x∈rs.bs,x.j<i+1/\∃ o,ops[x.j]?=some o/\o.dst=some x.d:=λx p=>⟨Nat.lt_succ_of_lt (r.lt x p).1,(r.lt x p).2⟩
    have W:∀ x∈rs.bs,∃ c,cB rs.bs x.ch=some c/\(a.put (some d) v).tmps[x.d]?=some (if c=true then .bool x.e else undef):=λx p=>by
     obtain⟨c,s,A⟩:=r.val x p
     grind[Q0e]
    unfold V0j
    split
    ·rename_i e
     have I:∀ f b,cB rs.bs f=some b->cB (⟨i,d,e,ch⟩::rs.bs) f=some b:=λf b h'=>t0m (x:=⟨i,d,e,ch⟩) p h'
     refine⟨λx G=>?_,λx G=>?_,I⟩
     ·grind
     ·rcases List.mem_cons.1 G with rfl|G
      ·refine⟨c,I _ _ E,?_⟩
       rw[N]
       cases c with
       |true=>rw[show v = .bool e from g rfl];rfl
       |false=>rw[L rfl];rfl
      grind
    grind
   have D:∀ k,Q6 rs.st be oe { rs.st with fr:=(d,k)::rs.st.fr } be oe:=λk=>⟨Nat.le_refl _,λ_ _=>rfl,λi z h=>⟨z,h,Nat.le_refl _,λ_=>rfl⟩⟩
   have J:∀ l f k,z0e rs.gf l=some (f,k)->∃ b,cB (V0j i d ch av rs.bs) f=some b/\(b=true->Good rs.st be oe k ((a.put (some d) v).tmps.getD l undef)):=λl f k q=>by
    obtain⟨b,s,A⟩:=r.gf l f k q
    refine⟨b,u.2.2 _ _ s,λB=>?_⟩
    have T:l≠d:=λe=>by grind
    simp_all
   split at m
   ·
    cases E
    refine⟨_,m,rfl,⟨u.1,u.2.1,λl f k q=>?_⟩,z.put F (g rfl)⟩
    obtain⟨b,s,A⟩:=J l f k q
    exact⟨b,s,λB=>(A B).grow (D av)⟩
   ·refine⟨_,m,rfl,⟨u.1,u.2.1,λl f k q=>?_⟩,z.put F (show Good rs.st be oe .dead v from trivial)⟩
    simp only[z0e]at q
    split at q
    ·rename_i M
     cases q
     have:=Nat.eq_of_beq_eq_true M
     subst this
     refine⟨c,u.2.2 _ _ E,λB=>(Good.grow (D .dead) ?_)⟩
     simp_all
    ·obtain⟨b,s,A⟩:=J l f k q
     exact⟨b,s,λB=>(A B).grow (D .dead)⟩
  ·exact m.elim
end
section
variable {P:Program} {h0:Hp} {w0:World} {be:Nat->Nat} {oe:Nat->Value} {H:Hp} {rs:RS} {a:Act} {w:World} {o:Oper} {ops:Array Oper} {i:Nat}
theorem T07{bs:List BE}{ch:List (Nat×Bool)}{c:Bool}{X:Prop}(h:imp ch c X)(a:c=true):X:=by
 grind[imp]
def CW(H:Hp)(w:World):World->Prop:=λa=>U2 H w H a
theorem U07{v:Value}(c:∀ b,Vis H b->(execOp a.eval o).run P b = .ok (.value v) b):∀ b,CW H w b->o.quietAt P a (CW H w) b v:=λb m=>by
 unfold Oper.quietAt
 rw[c b m.vis]
 exact⟨rfl,rfl⟩
theorem c03{v:Value}(e:∀ c:Next->Hp->Prop,c (.value v) H->R.wpR P (execOp a.eval o) H c):∀ b,CW H w b->o.quietAt P a (CW H w) b v :=
 U07 λb d=>R.run_of e b d
theorem U2.widen{hf:Hp}{w d:World}(c:Vis H w)(e:∀ b o,hf b=some o->H b=some o)(m:U2 hf w hf d):U2 H w H d:=by
 refine⟨m.os,m.tape,m.output,m.size,?_,?_,λb a => .inl a,m.fz,m.dn⟩
 ·intro b a g
  refine m.keep b a ?_
  cases hc:hf b with
  |none=>rfl
  |some o=>grind
 ·intro b o a
  cases hc:hf b with
  |some f =>
   have:=e b f hc
   rw[this]at a;cases a
   exact m.vis b _ hc
  |none=>rw[m.keep b (c.lt (by rw[a];simp)) hc];exact c b o a
theorem N04{ch:List (Nat×Bool)}(G:∀ x,Good rs.st be oe (rdG rs ch x) (a.eval x)):∀(l:List Operand) {vs:List (Nat×Value)},U0j rs ch l=some vs ->
  (∀ p∈vs,p.2=a.eval (.tmp p.1))/\(∀ x∈l,(∃ t v,x = .tmp t/\(t,v)∈vs)∨(∀ g,rho g x=a.eval x))
 | [],vs,h=>by cases h;simp
 | .tmp t::r,vs,h=>by
  simp only[U0j]at h
  split at h
  ·rename_i v i
   split at h
   ·rename_i j e
    cases h
    obtain⟨c,d⟩:=N04 G r e
    grind[D7,List.mem_cons_self,mC]
   ·cases h
  ·cases h
 | .global _::r,vs,h=>by cases h
 | .const v::r,vs,h=>by
  obtain⟨c,d⟩:=N04 G r (vs:=vs) h
  exact⟨c,λx b=>by
   rcases List.mem_cons.1 b with rfl|b
   ·exact .inr λ_=>rfl
   ·exact d x b⟩
 | .func f::r,vs,h=>by
  obtain⟨c,d⟩:=N04 G r (vs:=vs) h
  exact⟨c,λx b=>by
   rcases List.mem_cons.1 b with rfl|b
   ·exact .inr λ_=>rfl
   ·exact d x b⟩
abbrev I0u(P:Program)(be:Nat->Nat)(oe:Nat->Value)(H:Hp)(rs:RS)(a:Act)(w:World)(o:Oper)(c:Bool)(K:AV->Prop):Prop :=
 ∃ av,K av/\(c=true->∃ v,Good rs.st be oe av v/\∀ b,CW H w b->o.quietAt P a (CW H w) b v)
variable {ch:List (Nat×Bool)} {c:Bool} {K:AV->Prop}
theorem M06(G:∀ x,Good rs.st be oe (rdG rs ch x) (a.eval x)):∀(l:List Operand) {st:St} {h:Hp} {K:List (Nat×Value)->St->Hp->Prop},Sim P h0 w0 be oe H st h a w->Q6 rs.st be oe st be oe->e0s rs ch l st h K ->
  ∃ vs st' h',K vs st' h'/\Sim P h0 w0 be oe H st' h' a w/\(∀ p∈vs,p.2=a.eval (.tmp p.1))/\(∀ x∈l,(∃ t v,x = .tmp t/\(t,v)∈vs)∨(∀ q,rho q x=a.eval x))
 | [],st,h,K,c,d,b=>⟨[],st,h,b,c,by simp,by simp⟩
 | .tmp t::r,st,h,K,c,d,b=>by
  obtain⟨u,s,n,s1,o⟩:=K02 c (c.rdA ((G (.tmp t)).grow d)) b
  obtain⟨vs,m,i,g,s2,j,k⟩:=M06 G r s1 (d.trans o) n
  grind
 | .const v::r,st,h,K,c,d,b=>by
  obtain⟨vs,m,i,g,s2,j,k⟩:=M06 G r c d b
  refine⟨vs,m,i,g,s2,j,λx e=>?_⟩
  rcases List.mem_cons.1 e with rfl|e
  ·exact .inr λ_=>rfl
  ·exact k x e
 | .func f::r,st,h,K,c,d,b=>by
  obtain⟨vs,m,i,g,s2,j,k⟩:=M06 G r c d b
  refine⟨vs,m,i,g,s2,j,λx e=>?_⟩
  rcases List.mem_cons.1 e with rfl|e
  ·exact .inr λ_=>rfl
  ·exact k x e
 | .global _::_,_,_,_,_,_,b=>b.elim
theorem N8(z:Sim P h0 w0 be oe H rs.st rs.h a w)(G:c=true->∀ x,Good rs.st be oe (rdG rs ch x) (a.eval x))(d:C0i P o ch c rs K):I0u P be oe H rs a w o c K:=by
 unfold C0i at d
 split at d
 ·rename_i vs C B
  split at d
  ·rename_i f l n
   split at d
   ·rename_i u
    obtain⟨v,y,s⟩:=d
    refine⟨_,s,λg=>?_⟩
    obtain⟨k,p⟩:=N04 (G g) _ B
    rw[G04 k p]at n
    refine⟨v,rfl,λj m=>?_⟩
    unfold Oper.quietAt
    rw[y08 n u]
    refine⟨rfl,((T07 (bs:=rs.bs) y g).run j (λb o q=>m.vis b o (z.sub b o q))).mono ?_⟩
    rintro e I ⟨F,h',rfl,⟨rfl,rfl⟩,t⟩
    exact⟨rfl,U2.trans m (U2.widen m.vis z.sub t)⟩
   ·exact d.elim
  ·split at d
   ·rename_i v A
    refine⟨_,d,λg=>?_⟩
    obtain⟨k,p⟩:=N04 (G g) _ B
    rw[A0a,z08 C k p]at A
    exact⟨v,rfl,U07 λj _=>s0n _ A j⟩
   ·exact d.elim
 ·obtain⟨r,y,s⟩:=d
  refine⟨_,s,λg=>⟨r,rfl,λj m=>?_⟩⟩
  obtain⟨vs,J,k,i,s1,D,E⟩:=M06 (G g) _ z (Q6.refl _ _ _) (T07 (bs:=rs.bs) y g)
  rw[G04 D E]at i
  split at i
  ·rename_i f l n
   split at i
   ·rename_i u
    unfold Oper.quietAt
    rw[y08 n u]
    refine⟨rfl,(i.run j (λb o q=>m.vis b o (s1.sub b o q))).mono ?_⟩
    rintro e I ⟨F,h',rfl,⟨rfl,rfl⟩,t⟩
    exact⟨rfl,U2.trans m (U2.widen m.vis s1.sub t)⟩
   ·exact i.elim
  ·exact i.elim
 ·exact d.elim
theorem p05{d l:Int}{x:Option Operand}(G:∀ x,Good rs.st be oe (rdG rs ch x) (a.eval x))(b:k05 d (x.map (rdG rs ch))=some l):L04 a d x l:=by
 cases x with
 |none=>simp only[Option.map_none,k05,Option.some.injEq]at b;exact b.symm
 |some y =>
  have g:=G y
  simp only[Option.map_some]at b
  cases hr:rdG rs ch y with
  |val v =>
   rw[hr]at b g
   cases v<;>simp only[k05,Option.some.injEq]at b<;>first|(subst b;exact⟨_,g⟩)|cases b
  |_=>rw[hr]at b;cases b
theorem f0q(o:Sim P h0 w0 be oe H rs.st rs.h a w){d:AV}{x:Value}(p:Good rs.st be oe d x){cs:List N5}(b:c00 (rdA rs.st d)=some cs):G2 rs.st oe cs x.cells.toList:=by
 have g:=o.rdA p
 cases hr:rdA rs.st d with
 |val v =>
  rw[hr]at b g
  have f:x=v:=g
  rw[f]
  cases v<;>simp only[c00,Option.some.injEq]at b<;>first|(subst b;first|exact G2.vals _ _ _|exact⟨rfl,trivial⟩)|cases b
 |own i k =>
  rw[hr]at b g
  obtain⟨e,sz,by_,nn,xs,j⟩:=F06 hr
  simp only[c00,Option.some.injEq]at b
  subst b
  have l:x=oe i:=g.own_cur j
  obtain⟨y,n,c,m⟩:=J0e o j
  rw[l,m]
  rw[l,m]at g
  exact⟨g,trivial⟩
 |agg cs' =>
  rw[hr]at b g
  simp only[c00,Option.some.injEq]at b
  subst b
  obtain⟨vs,f,q⟩:=g
  rw[f]
  exact q
 |_=>rw[hr]at b;cases b
set_option maxHeartbeats 1000000 in
theorem Q0o(B:Sim P h0 w0 be oe H rs.st rs.h a w)(r:S07 ops be oe rs a i)(ar:cB rs.bs ch=some c)(s:evG P o ch c rs K):I0u P be oe H rs a w o c K:=by
 have ac:c=true->∀ x,∃ L,Good rs.st be oe L (a.eval x)/\rdG rs ch x=rdA rs.st L:=λh x=>by subst h;exact R0e B r ar x
 have G:c=true->∀ x,Good rs.st be oe (rdG rs ch x) (a.eval x):=λh x=>by
  obtain⟨L,g,e⟩:=ac h x
  rw[e];exact B.rdA g
 have J:∀ {X:Prop},imp ch c X->c=true->X:=λh ar=>T07 (bs:=rs.bs) h ar
 have bA:∀ F,CW H w F->Vis H F:=λF m=>m.vis
 cases ho:o.op with
 |move x =>
  simp only[evG,ho]at s
  have C:K (rdG rs ch x):=by revert s;cases rdG rs ch x<;>intro s<;>first|exact s|exact s.elim
  refine⟨_,C,λh=>⟨_,G h x,U07 λF _=>?_⟩⟩
  unfold execOp;rw[ho];rfl
 |assign x =>
  simp only[evG,ho]at s
  have C:K (rdG rs ch x):=by revert s;cases rdG rs ch x<;>intro s<;>first|exact s|exact s.elim
  refine⟨_,C,λh=>⟨_,G h x,U07 λF _=>?_⟩⟩
  unfold execOp;rw[ho];rfl
 |pick cc x y =>
  cases cc with
  |tmp t =>
   simp only[evG,ho]at s
   split at s
   ·rename_i e q aK bd
    split at s
    ·rename_i bg
     split at s
     ·rename_i bx by_ u I
      refine⟨_,s,λh=>?_⟩
      have aQ:=G h (.tmp t)
      rw[aK]at aQ
      have a7:a.eval (.tmp t) = .bool e:=aQ
      subst h
      obtain⟨W,bf⟩:=c0c bd
      have aJ:=H08 bg ar
      obtain⟨aO,E,ai⟩:=r.val q W
      rw[aJ]at E
      cases E
      have bD:q.e=e:=by
       have:a.eval (.tmp t) = .bool q.e:=by
        simp only[Act.eval,←bf,Array.getD_eq_getD_getElem?,ai];rfl
       grind
      have V:∃ b,I02 rs.bs q.j=some b:=by
       have:∀(l:List BE),q∈l->∃ b,I02 l q.j=some b:=by
        intro l
        induction l with
        |nil=>intro h;cases h
        |cons z l bk =>
         grind[I02,absurd,Nat.ne_of_beq_eq_false]
       exact this _ W
      obtain⟨b,U⟩:=V
      obtain⟨aS,a9⟩:=w03 U
      have aR:b.e=e/\cB rs.bs b.ch=some true:=by
       obtain⟨_,bI,aL,aM⟩:=r.lt b aS
       obtain⟨_,bJ,N,O⟩:=r.lt q W
       rw[a9,N]at aL
       cases aL
       rw[O]at aM
       have bB:q.d=b.d:=by simpa using aM
       obtain⟨aO,al,am⟩:=r.val b aS
       grind[undef]
      refine⟨.bool (cond e bx by_),rfl,U07 λF _=>?_⟩
      unfold execOp;rw[ho]
      simp only[a7,Sem.run_bind,asBool,Sem.run_pure,Result.andThen_ok]
      cases e with
      |true =>
       have aF:cB rs.bs ((q.j,true)::q.ch)=some true:=by
        rw[n04,U,aJ];simp[lit,aR.1]
       obtain⟨L,ao,ap⟩:=R0e B r aF x
       have ah:=B.rdA ao
       rw[←ap,u]at ah
       have aB:a.eval x = .bool bx:=ah
       simp[aB]
      |false =>
       have aF:cB rs.bs ((q.j,false)::q.ch)=some true:=by
        rw[n04,U,aJ];simp[lit,aR.1]
       obtain⟨L,ao,ap⟩:=R0e B r aF y
       have ah:=B.rdA ao
       rw[←ap,I]at ah
       have aB:a.eval y = .bool by_:=ah
       simp[aB]
     ·exact s.elim
    ·exact s.elim
   ·exact s.elim
  |_=>simp only[evG,ho]at s;exact N8 B G s
 |fieldAddr t x k =>
  simp only[evG,ho]at s
  split at s
  ·rename_i j off ag D aa
   refine⟨_,s,λh=>?_⟩
   have g:=G h x
   rw[D]at g
   exact⟨ptr (be j) (off+ag),⟨g.1,rfl⟩,c03 (R.exec_fieldAddr ho aa g.2)⟩
  ·rename_i sl j sz an ag D aa
   refine⟨_,s,λh=>?_⟩
   have g:=G h x
   rw[D]at g
   obtain⟨b,ay,n,Q,M,af⟩:=g
   exact⟨ptr b (ay+(j.toNat*sz+an)+ag),⟨b,ay,n,Q,M,by simp[Nat.add_assoc]⟩,c03 (R.exec_fieldAddr ho aa af)⟩
  ·rename_i aV bl j sz an ag D aa
   refine⟨_,s,λh=>?_⟩
   have g:=G h x
   obtain⟨L,_,T⟩:=ac h x
   rw[D]at g
   obtain⟨aA,az,aN,aX,aZ,Z⟩:=I0i (T.symm.trans D)
   obtain⟨aq,n,Q,M,af⟩:=g.oel_cur Z
   exact⟨ptr aq (j.toNat*sz+an+ag),⟨bl,by simp[stamp,Z],Nat.le_refl _,λ_=>⟨aq,n,Q,M,by simp[Nat.add_assoc]⟩⟩,c03 (R.exec_fieldAddr ho aa af)⟩
  ·exact s.elim
 |indexAddr t x aw =>
  simp only[evG,ho]at s
  split at s
  ·rename_i bm j aj
   split at s
   ·rename_i e ae
    split at s
    ·rename_i sz au
     split at s
     ·rename_i a0 n Q u
      refine⟨_,s.2,λh=>?_⟩
      obtain⟨b,off,aW,aO,M,N,O⟩:=J s.1 h
      cases M
      have A:=G h x
      rw[u]at A
      have gi:=G h aw
      rw[aj]at gi
      exact⟨ptr b (off+j.toNat*sz),⟨b,off,n,Q,rfl,by simp⟩,c03 (R.exec_indexAddr ho ae au A gi N O)⟩
     ·rename_i aV an u
      split at s
      ·rename_i aY a5 az by_ nn xs Y
       split at s
       ·rename_i U
        refine⟨_,s.2,λh=>?_⟩
        obtain⟨N,O⟩:=J s.1 h
        have:=Nat.eq_of_beq_eq_true U
        subst this
        have A:=G h x
        obtain⟨L,_,T⟩:=ac h x
        rw[u]at A
        have gi:=G h aw
        rw[aj]at gi
        obtain⟨aA,bp,aN,aX,aZ,Z⟩:=F06 (T.symm.trans u)
        have aU:=A.own_cur Z
        have ad:=B.own aV _ _ _ _ _ _ Y
        rcases ad.2 with⟨ab,bi,_⟩|⟨g,cap,cur,ab,_⟩
        ·grind
        ·rw[ab]at aU
         refine⟨ptr g (0+j.toNat*az),⟨an,by simp[stamp,Z],Nat.le_refl _,λ_=>⟨g,xs.length,cap,ab,by simp⟩⟩,c03 (R.exec_indexAddr ho ae au aU gi N O)⟩
       ·exact s.elim
      ·exact s.elim
     ·exact s.elim
    ·exact s.elim
   ·exact s.elim
  ·exact s.elim
 |load t x =>
  simp only[evG,ho]at s
  split at s
  ·rename_i j off D
   split at s
   ·rename_i cs ty Y
    obtain⟨E,vs,ai,aC⟩:=B.box j cs ty Y
    obtain⟨av,v,al,am,ax⟩:=R.load_row (H:=H) (b:=be j) (o:=0) (be:=be) s ai (λj v V=>by simp[Hp.cell,aC,V])
    refine⟨av,al,λh=>⟨v,am,c03 ?_⟩⟩
    have g:=G h x
    rw[D]at g
    exact R.exec_load ho g.2 (by simpa using ax)
   ·exact s.elim
  ·rename_i sl idx sz k D
   obtain⟨e,aG,C⟩:=s
   cases c with
   |false =>
    grind[y04]
   |true =>
    have aE:=J aG rfl
    have g:=G rfl x
    rw[D]at g
    obtain⟨b,ay,n,Q,M,af⟩:=g
    obtain⟨_,_,bt,bH,aW,bv,aP,ba⟩:=aE
    rw[M]at aP;cases aP
    obtain⟨av,v,al,am,ax⟩:=R.load_row (H:=H) (b:=b) (o:=ay+idx.toNat*sz) (be:=be) C (G2.vals rs.st oe e) (λj v V=>by
     have:=ba j v V
     unfold Hp.cell at this ⊢
     split at this
     ·rename_i bc;rw[B.sub _ _ bc];exact this
     ·cases this)
    grind[c03,R.exec_load,Nat.add_assoc]
  ·rename_i j aY idx sz k D
   split at s
   ·rename_i bL a5 az by_ nn xs Y
    split at s
    ·rename_i U
     have au:=Nat.eq_of_beq_eq_true U
     subst au
     obtain⟨e,aG,C⟩:=s
     cases c with
     |false =>
      grind[y04]
     |true =>
      have aE:=J aG rfl
      have g:=G rfl x
      obtain⟨L,_,T⟩:=ac rfl x
      rw[D]at g
      obtain⟨aA,bM,aN,aX,aZ,Z⟩:=I0i (T.symm.trans D)
      obtain⟨aq,n,Q,M,af⟩:=g.oel_cur Z
      have ad:=B.own j _ _ _ _ _ _ Y
      obtain⟨av,v,al,am,ax⟩:=R.load_row (H:=H) (b:=aq) (o:=idx.toNat*az) (be:=be) C (G2.vals rs.st oe e) (λj v V =>
       ad.cells M _ _ (I04 xs _ e (λx u=>(ad.1 x u).1) aE j v V))
      grind[c03,R.exec_load]
    ·exact s.elim
   ·exact s.elim
  ·exact s.elim
 |build t bK =>
  simp only[evG,ho]at s
  split at s
  ·rename_i a6 z ak bj
   split at s
   ·rename_i aD
    cases c with
    |false =>
     have:∀(l:List (Nat×Operand)) (cs:List N5) (K':List N5->Prop),E07 P a6 (rdG rs ch) l cs K'->∃ cs,K' cs:=by
      intro l
      induction l with
      |nil=>intro cs K' h;exact⟨_,h⟩
      |cons p l bk =>
       grind[E07]
     grind
    |true =>
     obtain⟨av,v,al,am,ax⟩:=l0k (K':=K) B ho ak bj aD (λx cs bC=>by
      obtain⟨L,ao,ap⟩:=ac rfl x
      grind[f0q]) s
     grind[U07]
   ·exact s.elim
  ·exact s.elim
 |index t x aw =>
  simp only[evG,ho]at s
  split at s
  ·rename_i b bm j u aj ak
   obtain⟨e,E,C⟩:=s
   refine⟨_,C,λh=>?_⟩
   have A:=G h x
   rw[u]at A
   have gi:=G h aw
   rw[aj]at gi
   obtain⟨N,O⟩:=J E h
   exact⟨_,rfl,c03 (R.exec_index ho ak A gi N O)⟩
  ·exact s.elim
 |slice t x bE aj bn =>
  cases bn with
  |some m=>simp only[evG,ho]at s;exact N8 B G s
  |none =>
   simp only[evG,ho]at s
   split at s
   ·rename_i b u ak
    split at s
    ·rename_i l m aH W
     refine⟨_,s.2,λh=>?_⟩
     obtain⟨E,ai,aC⟩:=J s.1 h
     have A:=G h x
     rw[u]at A
     exact⟨_,rfl,c03 (R.exec_cutStr ho ak A (p05 (G h) aH) (p05 (G h) W) E ai aC)⟩
    ·exact s.elim
   ·rename_i a0 n Q u
    split at s
    ·rename_i e ae
     split at s
     ·rename_i sz aK
      split at s
      ·rename_i l m aH W
       obtain⟨v,E,C⟩:=s
       refine⟨_,C,λh=>?_⟩
       obtain⟨⟨N,O,a1,a2⟩,a3⟩:=J E h
       have A:=G h x
       rw[u]at A
       refine⟨v,rfl,?_⟩
       rw[a3 _ _ _ rfl]
       exact c03 (R.exec_slice ho ae aK A (p05 (G h) aH) (p05 (G h) W) N O a1 a2)
      ·exact s.elim
     ·exact s.elim
    ·exact s.elim
   ·exact s.elim
 |binOp bo t x y bN =>
  cases bo with
  |add =>
   simp only[evG,ho]at s
   split at s
   ·rename_i b cc u I
    refine⟨_,s.2,λh=>?_⟩
    have A:=G h x
    rw[u]at A
    have S:=G h y
    rw[I]at S
    exact⟨_,rfl,c03 (R.exec_cat ho A S (J s.1 h))⟩
   grind[N8]
  |quo =>
   simp only[evG,ho]at s
   split at s
   ·rename_i b cc u I
    refine⟨_,s.2,λh=>?_⟩
    have A:=G h x
    rw[u]at A
    have S:=G h y
    rw[I]at S
    exact⟨_,rfl,c03 (R.exec_quo ho A S (J s.1 h))⟩
   ·exact N8 B G s
  |rem =>
   simp only[evG,ho]at s
   split at s
   ·rename_i b cc u I
    refine⟨_,s.2,λh=>?_⟩
    have A:=G h x
    rw[u]at A
    have S:=G h y
    rw[I]at S
    exact⟨_,rfl,c03 (R.exec_rem ho A S (J s.1 h))⟩
   ·exact N8 B G s
  |eql =>
   simp only[evG,ho]at s
   split at s
   ·rename_i xs bq u I
    obtain⟨b,E,C⟩:=s
    exact⟨_,C,λh=>⟨.bool b,rfl,U07 λF _=>J E h _ (D7 u (G h x)) (D7 I (G h y)) F⟩⟩
   ·rename_i br aW bF u I
    obtain⟨b,E,C⟩:=s
    exact⟨_,C,λh=>⟨.bool b,rfl,U07 λF _=>J E h _ (D7 u (G h x)) (D7 I (G h y)) F⟩⟩
   ·exact N8 B G s
  |neq =>
   simp only[evG,ho]at s
   split at s
   ·rename_i xs bq u I
    obtain⟨b,E,C⟩:=s
    exact⟨_,C,λh=>⟨.bool b,rfl,U07 λF _=>J E h _ (D7 u (G h x)) (D7 I (G h y)) F⟩⟩
   grind[N8]
  |_=>simp only[evG,ho]at s;exact N8 B G s
 |call cc =>
  obtain⟨a4,as,ts⟩:=cc
  cases a4 with
  |builtin b =>
   cases b with
   |len =>
    simp only[evG,ho]at s
    split at s
    ·rename_i x t aD aa
     have a8:as = #[x]:=by apply Array.ext';simpa using aD
     have bh:ts = #[t]:=by apply Array.ext';simpa using aa
     split at s
     ·rename_i j k D
      split at s
      ·rename_i aY e sz by_ nn xs aA Y ae
       refine⟨_,s,λh=>?_⟩
       have g:=G h x
       obtain⟨L,_,T⟩:=ac h x
       rw[D]at g
       obtain⟨M,bp,bu,bG,bO,bb⟩:=F06 (T.symm.trans D)
       have u:=g.own_cur bb
       have ad:=B.own j _ _ _ _ _ _ Y
       rcases ad.2 with⟨ab,bi,_⟩|⟨bz,cap,cur,ab,_⟩
       ·rw[ab]at u
        refine⟨.int .i64 xs.length,rfl,U07 λF _=>?_⟩
        grind[H0a]
       ·rw[ab]at u
        exact⟨.int .i64 xs.length,rfl,U07 λF _=>H0a ho a8 bh ae u F⟩
      ·exact s.elim
     ·exact N8 B G s
    ·exact s.elim
   |_=>simp only[evG,ho]at s;exact N8 B G s
  |value f=>simp only[evG,ho]at s;exact N8 B G s
  |invoke r m=>simp only[evG,ho]at s;exact N8 B G s
 |_=>simp only[evG,ho]at s;exact N8 B G s
end
end Go.H
