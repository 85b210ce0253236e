/- The library of the walks, part HC: plain laws over the model. -/
import Derived.Test.YtmgikbbmpnbbjaaGreatHB
namespace Go.H.R
open Go.H
set_option linter.unusedVariables false
set_option linter.unusedSimpArgs false
def wpR(P:Program){b:Type}:Sem b->Hp->(b->Hp->Prop)->Prop
 | .pure a,h,K=>K a h
 | .load _ a k,h,K=>∃ v,(a.spot=none/\Hp.cell h a.block a.off=some v)/\wpR P (k v) h K
 | .program k,h,K=>wpR P (k P) h K
 | .mark _ k,h,K=>wpR P k h K
 |_,_,_=>False
theorem wpR_sound{P:Program}{e:Type}{K:e->Hp->Prop}(s:Sem e):∀(h:Hp) (w:World),Vis h w->wpR P s h K->∃ x,s.run P w = .ok x w/\K x h:=by
 induction s with
 |pure a=>exact λh w c b=>⟨a,rfl,b⟩
 |load m a k d =>
  rintro h w c ⟨v,⟨g,f⟩,b⟩
  grind[Sem.run,a07]
 |program k d=>exact λh w c b=>d _ _ _ c b
 |mark m k d=>exact λh w c b=>d _ _ c b
 |_=>exact λh w c b=>b.elim
theorem C7{P:Program}{d b:Type}(s:Sem d)(f:d->Sem b):∀(h:Hp) (K:b->Hp->Prop),wpR P (s >>= f) h K=wpR P s h (λx h'=>wpR P (f x) h' K):=by
 change ∀(h:Hp) (K:b->Hp->Prop),wpR P (s.bind f) h K=wpR P s h (λx h'=>wpR P (f x) h' K)
 induction s with
 |pure a=>intro h K;rfl
 |load m a k c=>grind[Sem.bind,wpR]
 |program k c=>grind[Sem.bind,wpR]
 |mark m k c=>grind[Sem.bind,wpR]
 |_=>intro h K;rfl
theorem A8{P:Program}{a:Type}(x:a)(h:Hp)(K:a->Hp->Prop):wpR P (pure x) h K=K x h:=rfl
section
variable {P:Program} {h0:Hp} {w0:World} {be:Nat->Nat} {oe:Nat->Value} {H:Hp} {st:St} {h:Hp} {a:Act} {w:World} {o:Oper}
theorem S01{t:TypeId}{d:TypeDesc}(a:P.underlying t=some d)(h:Hp)(K:TypeDesc->Hp->Prop):wpR P (underlying t) h K=K d h:=by
 simp_all[underlying,program,C7,wpR,A8]
theorem e0j{t:TypeId}{i:TypeInfo}(a:P.info? t=some i)(h:Hp)(K:TypeInfo->Hp->Prop):wpR P (typeInfo t) h K=K i h:=by
 grind[typeInfo,program,C7,wpR,A8]
theorem S07{t:TypeId}{n:Nat}(a:d6 P t=some n)(h:Hp)(K:Nat->Hp->Prop):wpR P (sizeOf t) h K=K n h:=by
 grind[d6,sizeOf,C7,e0j,A8]
theorem z0h{t:TypeId}{b:Bool}(a:N0e P t=some b)(h:Hp)(K:Bool->Hp->Prop):wpR P (isAgg t) h K=K b h:=by
 unfold N0e at a
 grind[isAgg,C7,S01,A8,absurd]
theorem D06{H:Hp}{b o:Nat}:∀(vs:List Value) (i:Nat) (acc:Array Value) (K:Array Value->Hp->Prop),(∀ j v,vs[j]?=some v->Hp.cell H b (o+i+j)=some v) ->
  K (acc++vs.toArray) H->wpR P (loadCellsFrom ⟨b,o,none⟩ i vs.length acc) H K
 | [],i,acc,K,_,c=>by grind[loadCellsFrom,A8]
 |v::vs,i,acc,K,a,c=>by
  have h0:=a 0 v (by simp)
  simp only[loadCellsFrom,List.length_cons,C7,load,wpR]
  have d:(⟨b,o,none⟩:Addr).add i=⟨b,o+i,none⟩:=by unfold Addr.add;split<;>simp_all
  rw[d]
  refine⟨v,⟨rfl,by simpa using h0⟩,D06 vs (i+1) (acc.push v) K ?_ ?_⟩
  ·intro j u e
   have:=a (j+1) u (by simpa using e)
   grind
  ·simpa using c
theorem load_row{t:TypeId}{cs:List c6}{vs:List Value}{off:Nat}{K:AV->Prop}{b o:Nat}(a:P05 P t cs off K)(g:Y2 st oe cs vs)
  (p:∀ j v,vs[j]?=some v->Hp.cell H b (o+j)=some v):∃ av v,K av/\C3 st be oe av v/\∀ d:Value->Hp->Prop,d v H->wpR P (loadVar t ⟨b,o+off,none⟩) H d:=by
 unfold P05 at a
 split at a
 ·rename_i e
  split at a
  ·rename_i n f
   split at a
   ·rename_i l
    have m:=N03 _ _ l
    have h:=(g.drop off).take n
    refine⟨_,.agg ((vs.drop off).take n).toArray,a,⟨_,rfl,h⟩,λd k=>?_⟩
    have s:((vs.drop off).take n).length=n:=by rw[←h.length,m]
    simp only[loadVar,C7,z0h e,if_true,S07 f,loadCells]
    have:=D06 (P:=P) (H:=H) (b:=b) (o:=o+off) ((vs.drop off).take n) 0 #[] (λx h'=>wpR P (pure (Value.agg x)) h' d) (λj v q=>by
     grind) (by grind[A8])
    grind
   ·exact a.elim
  ·exact a.elim
 ·rename_i e
  split at a
  ·rename_i c f
   obtain⟨v,u,i⟩:=g.nth f
   refine⟨_,v,a,C3.ofCell i,λd k=>?_⟩
   simp only[loadVar,C7,z0h e,Bool.false_eq_true,if_false,load,wpR]
   grind
  ·exact a.elim
 ·exact a.elim
theorem o8{P:Program}(s:Sem Value)(H:Hp)(a:Next->Hp->Prop)(h:wpR P s H (λv H=>a (.value v) H)):wpR P (do pure (Next.value (←s))) H a:=by
 rw[C7];exact h
theorem exec_fieldAddr{t:TypeId}{x:Operand}{k d b off:Nat}(h:o.op = .fieldAddr t x k)(i:L0i P t k=some d)(l:a.eval x=ptr b off):
  ∀ c:Next->Hp->Prop,c (.value (ptr b (off+d))) H->wpR P (execOp a.eval o) H c:=by
 intro c e
 obtain⟨m,f,n,j,hf,g,rfl⟩:=x0h i
 unfold execOp;rw[h]
 refine o8 _ _ _ ?_
 simp only[Instr.fieldAt,C7,S01 j,hf,l,ptr,Instr.sureAddr,A8,fieldPlace,S07 g,Nat.add_one_ne_zero,if_false,E02]
 exact e
theorem exec_indexAddr{t e:TypeId}{x i:Operand}{k:IntKind}{j:Int}{sz b off n c:Nat}(m:o.op = .indexAddr t x i)(q:j02 P t=some e)(p:d6 P e=some sz)
  (u:a.eval x = .slice (some ⟨b,off,none⟩) n c) (h:a.eval i = .int k j) (f:0<=j) (g:j<(n:Int)) :
  ∀ d:Next->Hp->Prop,d (.value (ptr b (off+j.toNat*sz))) H->wpR P (execOp a.eval o) H d:=by
 intro d l
 have s:=u00 q
 unfold execOp;rw[m]
 refine o8 _ _ _ ?_
 simp only[Instr.indexAt,u,h,asIntOf,C7,A8,S01 s,f,g,and_self,if_true,S07 p,E02]
 exact l
theorem G09{x:Value}{k:IntKind}{i:Int}{y:Nat}{b:BoundsCode}(e:x = .int k i)(c:0<=i)(d:i<=(y:Int))(a:Nat->Hp->Prop):wpR P (Instr.sliceBound x y b) H a=a i.toNat H:=by
 subst e
 simp only[Instr.sliceBound,asIntOf,C7,A8,c,d,and_self,if_true]
theorem i0f{isS:Bool}{n c:Nat}{f b:Option Operand}{l m:Int}(i:b06 a 0 f l)(d:b06 a n b m)(h:0<=l)(s:l<=m)(t:m<=(n:Int))(u:n<=c)
  (g:Nat×Nat×Nat->Hp->Prop):wpR P (Instr.sliceBounds isS n c (f.map a.eval) (b.map a.eval) none) H g=g (l.toNat,m.toNat,c) H:=by
 have q:l<=(m.toNat:Int):=by omega
 cases f with
 |none =>
  have p:l=0:=i
  subst p
  cases b with
  |none =>
   have j:m=(n:Int):=d
   simp_all[Instr.sliceBounds,Option.map_none,C7,A8]
  |some y =>
   obtain⟨k,e⟩:=d
   simp only[Instr.sliceBounds,Option.map_none,Option.map_some,C7,A8,G09 e (by omega) (show m<=(c:Int) by omega)];rfl
 |some x =>
  obtain⟨k,o⟩:=i
  cases b with
  |none =>
   have j:m=(n:Int):=d
   subst j
   simp only[Instr.sliceBounds,Option.map_none,Option.map_some,C7,A8,G09 o h (show l<=((n:Nat):Int) by omega)];rfl
  |some y =>
   obtain⟨v,e⟩:=d
   simp only[Instr.sliceBounds,Option.map_some,C7,A8,G09 e (by omega) (show m<=(c:Int) by omega),G09 o h q]
theorem exec_cutStr{t:TypeId}{x:Operand}{e d:Option Operand}{b:ByteArray}{l m:Int}(n:o.op = .slice t x e d none)(p:P.underlying t=some .string)
  (q:a.eval x = .string b) (j:b06 a 0 e l) (k:b06 a b.size d m) (f:0<=l) (g:l<=m) (h:m<=(b.size:Int)) :
  ∀ c:Next->Hp->Prop,c (.value (.string (b.extract l.toNat m.toNat))) H->wpR P (execOp a.eval o) H c:=by
 intro c i
 unfold execOp;rw[n]
 refine o8 _ _ _ ?_
 simp only[Instr.sliceAt,C7,S01 p,Instr.slice,q,Option.map_none,Option.isSome_none,Bool.false_eq_true,if_false,A8]
 rw[i0f j k f g h (Nat.le_refl _)]
 exact i
theorem exec_index{t:TypeId}{x i:Operand}{b:ByteArray}{k:IntKind}{j:Int}{c:UInt8}(l:o.op = .index t x i)(m:P.underlying t=some .string)(n:a.eval x = .string b)(g:a.eval i = .int k j)
  (e:0<=j) (f:b[j.toNat]?=some c):∀ d:Next->Hp->Prop,d (.value (.int .u8 c.toNat)) H->wpR P (execOp a.eval o) H d:=by
 intro d h
 unfold execOp;rw[l]
 refine o8 _ _ _ ?_
 simp only[Instr.index,n,g,asIntOf,C7,A8,S01 m,e,if_true,f]
 exact h
theorem exec_cat{t j:TypeId}{x y:Operand}{b c:ByteArray}(g:o.op = .binOp .add t x y j)(h:a.eval x = .string b)(i:a.eval y = .string c)(k:b.size+c.size<=9223372036854775807):
  ∀ d:Next->Hp->Prop,d (.value (.string (b++c))) H->wpR P (execOp a.eval o) H d:=by
 intro d e
 unfold execOp;rw[g]
 refine o8 _ _ _ ?_
 have f : ¬ (((b.size+c.size:Nat):Int)>IntKind.i64.max):=by
  have:IntKind.i64.max=9223372036854775807:=by decide
  rw[this];omega
 simp only[h,i,eqGuard,C7,Bool.not_false,if_true,A8,binOp,Go.Op.stringOp,if_neg f]
 exact e
theorem exec_quo{t j:TypeId}{x y:Operand}{b c:Int}(g:o.op = .binOp .quo t x y j)(h:a.eval x = .int .i64 b)(i:a.eval y = .int .i64 c)(f:c≠0):
  ∀ d:Next->Hp->Prop,d (.value (.int .i64 (IntKind.i64.wrap (b.tdiv c)))) H->wpR P (execOp a.eval o) H d:=by
 intro d e
 unfold execOp;rw[g]
 refine o8 _ _ _ ?_
 simp only[h,i,eqGuard,C7,Bool.not_false,if_true,A8,binOp,Go.Op.intDiv,if_neg f,ne_eq,not_true_eq_false,if_false]
 exact e
theorem exec_rem{t j:TypeId}{x y:Operand}{b c:Int}(g:o.op = .binOp .rem t x y j)(h:a.eval x = .int .i64 b)(i:a.eval y = .int .i64 c)(f:c≠0):
  ∀ d:Next->Hp->Prop,d (.value (.int .i64 (b.tmod c))) H->wpR P (execOp a.eval o) H d:=by
 intro d e
 unfold execOp;rw[g]
 refine o8 _ _ _ ?_
 simp only[h,i,eqGuard,C7,Bool.not_false,if_true,A8,binOp,Go.Op.intDiv,if_neg f,ne_eq,not_true_eq_false,if_false]
 exact e
theorem exec_slice{t e sz:Nat}{x:Operand}{g f:Option Operand}{d:Option Addr}{n c:Nat}{l m:Int}(s:o.op = .slice t x g f none)(u:j02 P t=some e)(y:d6 P e=some sz)
  (v:a.eval x = .slice d n c) (k:b06 a 0 g l) (p:b06 a n f m) (h:0<=l) (i:l<=m) (j:m<=(n:Int)) (q:n<=c) :
  ∀ b:Next->Hp->Prop,b (.value (.slice (if c=l.toNat then d else d.map (·.add (l.toNat*sz))) (m.toNat-l.toNat) (c-l.toNat))) H->wpR P (execOp a.eval o) H b:=by
 intro b w
 unfold execOp;rw[s]
 refine o8 _ _ _ ?_
 simp only[Instr.sliceAt,C7,S01 (u00 u),Instr.slice,v,Option.map_none]
 rw[i0f k p h i j q]
 grind[S07,A8]
theorem exec_load{t:TypeId}{x:Operand}{b off:Nat}{v:Value}(d:o.op = .load t x)(g:a.eval x=ptr b off)
  (f:∀ c:Value->Hp->Prop,c v H->wpR P (loadVar t ⟨b,off,none⟩) H c):∀ c:Next->Hp->Prop,c (.value v) H->wpR P (execOp a.eval o) H c:=by
 intro c e
 unfold execOp;rw[d]
 refine o8 _ _ _ ?_
 grind[Instr.loadAt,ptr,Instr.sureAddr,C7,A8]
theorem run_of{v:Value}(e:∀ b:Next->Hp->Prop,b (.value v) H->wpR P (execOp a.eval o) H b)(w:World)(d:Vis H w):(execOp a.eval o).run P w = .ok (.value v) w:=by
 obtain⟨x,c,f⟩:=wpR_sound _ _ w d (e (λn _=>n = .value v) rfl)
 rw[c,f]
end
end Go.H.R
namespace Go.H
set_option linter.unusedVariables false
set_option linter.unusedSimpArgs false
section
variable {P:Program} {h0:Hp} {w0:World} {be:Nat->Nat} {oe:Nat->Value} {H:Hp} {rs:RS} {a:Act} {w:World} {o:Oper} {ops:Array Oper} {i:Nat}
theorem p0u{a b:Bool}(h:eqB a b=true):a=b:=by cases a<;>cases b<;>simp_all [eqB]
theorem f0j:∀(a b:List (Nat×Bool)),H0q a b=true->a=b
 | [],[],_=>rfl
 |(j,w)::r,(f,g)::e,h=>by
  simp only[H0q]at h
  split at h
  ·rename_i c d
   rw[Nat.eq_of_beq_eq_true c,p0u d,f0j r e h]
  ·cases h
 | [],_::_,h=>by cases h
 |_::_,[],h=>by cases h
theorem H04:∀ {bs:List BE} {j:Nat} {b:BE},V03 bs j=some b->b∈bs/\b.j=j
 | [],_,_,h=>by cases h
 |x::r,j,b,h=>by
  simp only[V03]at h
  split at h
  ·simp_all
  ·obtain⟨a,c⟩:=H04 h
   grind
theorem Q0c:∀ {bs:List BE} {s:Nat} {b:BE},f0b bs s=some b->b∈bs/\b.d=s
 | [],_,_,h=>by cases h
 |x::r,j,b,h=>by
  simp only[f0b]at h
  split at h
  ·simp_all
  ·obtain⟨a,c⟩:=Q0c h
   grind
theorem j0f:∀ {bs:List BE} {s:Nat},f0b bs s=none->∀ b∈bs,b.d≠s
 | [],_,_,b,a=>by cases a
 |x::r,s,h,b,a=>by
  simp only[f0b]at h
  split at h
  ·cases h
  ·rename_i c
   rcases List.mem_cons.1 a with rfl|a
   ·exact Nat.ne_of_beq_eq_false c
   ·exact j0f h b a
theorem E05(bs:List BE)(j:Nat)(w:Bool)(r:List (Nat×Bool)):cB bs ((j,w)::r)=match V03 bs j,cB bs r with
  |some b,some c=>some (lit w b.e&&c)
  |_,_=>none:=by
 grind[cB,V03,lit]
theorem Y0s{bs:List BE}{x:Nat×Bool}{r:List (Nat×Bool)}(h:cB bs (x::r)=some true):cB bs r=some true:=by
 rw[E05]at h
 grind
theorem H09{bs:List BE}{p:List (Nat×Bool)}:∀ {q:List (Nat×Bool)},d0k p q=true->cB bs q=some true->cB bs p=some true
 | [],h,a=>by rw[f0j _ _ h];exact a
 |x::r,h,a=>by
  simp only[d0k]at h
  split at h
  ·grind[f0j]
  ·exact H09 h (Y0s a)
theorem H0m{bs:List BE}{x:BE}(f:∀ y∈bs,y.j≠x.j):∀ {ch:List (Nat×Bool)} {c:Bool},cB bs ch=some c->cB (x::bs) ch=some c
 | [],c,h=>h
 |(j,w)::r,c,h=>by
  rw[E05]at h
  split at h
  ·rename_i b g d a
   have l:Nat.beq x.j j=false:=by
    obtain⟨i,k⟩:=H04 d
    grind[Nat.beq,absurd,Nat.eq_of_beq_eq_true]
   have e:V03 (x::bs) j=some b:=by grind[V03]
   rw[E05,e,H0m f a]
   exact h
  ·cases h
structure W08 (ops:Array Oper) (be:Nat->Nat) (oe:Nat->Value) (rs:RS) (a:Act) (i:Nat):Prop where
 lt:∀ x∈rs.bs,x.j<i/\∃ o,ops[x.j]?=some o/\o.dst=some x.d
 val:∀ x∈rs.bs,∃ c,cB rs.bs x.ch=some c/\a.tmps[x.d]?=some (if c=true then .bool x.e else undef)
 gf:∀ d ch av,R0e rs.gf d=some (ch,av)->∃ c,cB rs.bs ch=some c/\(c=true->C3 rs.st be oe av (a.tmps.getD d undef))
theorem W08.grow(r:W08 ops be oe rs a i){st:St}{h:Hp}{be':Nat->Nat}{oe':Nat->Value}(g:F7 rs.st be oe st be' oe'):W08 ops be' oe' { rs with st:=st,h:=h } a i :=
 ⟨r.lt,r.val,λd ch av e=>let ⟨c,h1,h2⟩:=r.gf d ch av e;⟨c,h1,λb=>(h2 b).grow g⟩⟩
theorem I0p(r:W08 ops be oe rs a i){ch:List (Nat×Bool)}{c:Bool}(d:b01 rs.bs o.guard=some ch)(f:cB rs.bs ch=some c):Region.wanted o (yielded ops a.tmps)=c:=by
 unfold Region.wanted
 cases hg:o.guard with
 |none =>
  rw[hg]at d
  cases d
  cases f
  rfl
 |some p =>
  obtain⟨j,w⟩:=p
  rw[hg]at d
  simp only[b01]at d
  split at d
  ·rename_i b h
   cases d
   obtain⟨k,rfl⟩:=H04 h
   obtain⟨_,t,n,m⟩:=r.lt b k
   obtain⟨g,l,q⟩:=r.val b k
   rw[E05,h,l]at f
   simp only[Option.some.injEq]at f
   have s:yielded ops a.tmps b.j=if g=true then some b.e else none:=by
    unfold yielded
    simp only[n,m,oB,q]
    cases g<;>rfl
   simp only[s,←f]
   cases g<;>cases w<;>cases b.e<;>rfl
  ·cases d
theorem k0f(s:Sim P h0 w0 be oe H rs.st rs.h a w)(r:W08 ops be oe rs a i){ch:List (Nat×Bool)}(k:cB rs.bs ch=some true)(x:Operand):
  (∃ b,C3 rs.st be oe b (a.eval x)/\rdG rs ch x=rdA rs.st b):=by
 cases x with
 |tmp t =>
  simp only[rdG]
  split
  ·rename_i e av l
   split
   ·rename_i m
    obtain⟨c,d,j⟩:=r.gf t e av l
    rw[H09 m k]at d
    cases d
    exact⟨av,j rfl,rfl⟩
   ·exact⟨.dead,trivial,rfl⟩
  ·exact⟨_,s.fr t,rfl⟩
 |const v=>exact⟨.val v,rfl,rfl⟩
 |global g=>exact⟨.dead,trivial,rfl⟩
 |func f=>exact⟨.val _,rfl,rfl⟩
theorem c06(s:Sim P h0 w0 be oe H rs.st rs.h a w)(r:W08 ops be oe rs a i)(U:ops[i]?=some o){ch:List (Nat×Bool)}{c:Bool}{av:AV}{v:Value}{K:RS->Prop}
  (E:cB rs.bs ch=some c) (g:c=true->C3 rs.st be oe av v) (L:c=false->v=undef) (m:S0e o.dst i ch av rs K) :
  ∃ C,K C/\C.h=rs.h/\W08 ops be oe C (a.put o.dst v) (i+1)/\Sim P h0 w0 be oe H C.st C.h (a.put o.dst v) w:=by
 cases hd:o.dst with
 |none =>
  rw[hd]at m
  exact⟨rs,m,rfl,⟨λx p=>⟨Nat.lt_succ_of_lt (r.lt x p).1,(r.lt x p).2⟩,r.val,r.gf⟩,s⟩
 |some d =>
  rw[hd]at m
  simp only[S0e]at m
  split at m
  ·rename_i O X
   have F:d<rs.st.n:=Nat.le_of_ble_eq_true O
   have Y:R0e rs.gf d=none/\f0b rs.bs d=none:=by
    grind[K08]
   have S:∀ t,t≠d->(a.put (some d) v).tmps[t]?=a.tmps[t]?:=λt Q=>by
    simp[Act.put,Array.getElem?_setIfInBounds_ne (Ne.symm Q)]
   have N:(a.put (some d) v).tmps[d]?=some v:=by simp[Act.put,s.siz,F]
   have p:∀ y∈rs.bs,y.j≠i:=λy R e=>by have:=(r.lt y R).1;omega
   have z:(∀ x∈f0k i d ch av rs.bs,x.j<i+1/\∃ o,ops[x.j]?=some o/\o.dst=some x.d) /\
     (∀ x∈f0k i d ch av rs.bs,∃ c,cB (f0k i d ch av rs.bs) x.ch=some c/\(a.put (some d) v).tmps[x.d]?=some (if c=true then .bool x.e else undef)) /\
     (∀ f b,cB rs.bs f=some b->cB (f0k i d ch av rs.bs) f=some b):=by
    have V:∀ x∈rs.bs,x.j<i+1/\∃ o,ops[x.j]?=some o/\o.dst=some x.d:=λx p=>⟨Nat.lt_succ_of_lt (r.lt x p).1,(r.lt x p).2⟩
    have W:∀ x∈rs.bs,∃ c,cB rs.bs x.ch=some c/\(a.put (some d) v).tmps[x.d]?=some (if c=true then .bool x.e else undef):=λx p=>by
     obtain⟨c,u,A⟩:=r.val x p
     grind[j0f]
    unfold f0k
    split
    ·rename_i e
     have I:∀ f b,cB rs.bs f=some b->cB (⟨i,d,e,ch⟩::rs.bs) f=some b:=λf b h'=>H0m (x:=⟨i,d,e,ch⟩) p h'
     refine⟨λx G=>?_,λx G=>?_,I⟩
     ·grind
     ·rcases List.mem_cons.1 G with rfl|G
      ·refine⟨c,I _ _ E,?_⟩
       rw[N]
       cases c with
       |true=>rw[show v = .bool e from g rfl];rfl
       |false=>rw[L rfl];rfl
      grind
    grind
   have D:∀ k,F7 rs.st be oe { rs.st with fr:=(d,k)::rs.st.fr } be oe:=λk=>⟨Nat.le_refl _,λ_ _=>rfl,λi s h=>⟨s,h,Nat.le_refl _,λ_=>rfl⟩⟩
   have J:∀ l f k,R0e rs.gf l=some (f,k)->∃ b,cB (f0k i d ch av rs.bs) f=some b/\(b=true->C3 rs.st be oe k ((a.put (some d) v).tmps.getD l undef)):=λl f k q=>by
    obtain⟨b,u,A⟩:=r.gf l f k q
    refine⟨b,z.2.2 _ _ u,λB=>?_⟩
    have T:l≠d:=λe=>by grind
    simp_all
   split at m
   ·
    cases E
    refine⟨_,m,rfl,⟨z.1,z.2.1,λl f k q=>?_⟩,s.put F (g rfl)⟩
    obtain⟨b,u,A⟩:=J l f k q
    exact⟨b,u,λB=>(A B).grow (D av)⟩
   ·refine⟨_,m,rfl,⟨z.1,z.2.1,λl f k q=>?_⟩,s.put F (show C3 rs.st be oe .dead v from trivial)⟩
    simp only[R0e]at q
    split at q
    ·rename_i M
     cases q
     have:=Nat.eq_of_beq_eq_true M
     subst this
     refine⟨c,z.2.2 _ _ E,λB=>(C3.grow (D .dead) ?_)⟩
     simp_all
    ·obtain⟨b,u,A⟩:=J l f k q
     exact⟨b,u,λB=>(A B).grow (D .dead)⟩
  ·exact m.elim
end
section
variable {P:Program} {h0:Hp} {w0:World} {be:Nat->Nat} {oe:Nat->Value} {H:Hp} {rs:RS} {a:Act} {w:World} {o:Oper} {ops:Array Oper} {i:Nat}
theorem X08{bs:List BE}{ch:List (Nat×Bool)}{c:Bool}{X:Prop}(h:imp ch c X)(a:c=true):X:=by
 grind[imp]
def CW(H:Hp)(w:World):World->Prop:=λa=>I3 H w H a
theorem Y08{v:Value}(c:∀ b,Vis H b->(execOp a.eval o).run P b = .ok (.value v) b):∀ b,CW H w b->o.quietAt P a (CW H w) b v:=λb m=>by
 unfold Oper.quietAt
 rw[c b m.vis]
 exact⟨rfl,rfl⟩
theorem k04{v:Value}(e:∀ c:Next->Hp->Prop,c (.value v) H->R.wpR P (execOp a.eval o) H c):∀ b,CW H w b->o.quietAt P a (CW H w) b v :=
 Y08 λb d=>R.run_of e b d
theorem I3.widen{hf:Hp}{w d:World}(c:Vis H w)(e:∀ b o,hf b=some o->H b=some o)(m:I3 hf w hf d):I3 H w H d:=by
 refine⟨m.os,m.tape,m.output,m.size,?_,?_,λb a => .inl a,m.fz,m.dn⟩
 ·intro b a g
  refine m.keep b a ?_
  cases hc:hf b with
  |none=>rfl
  |some o=>grind
 ·intro b o a
  cases hc:hf b with
  |some f =>
   have:=e b f hc
   rw[this]at a;cases a
   exact m.vis b _ hc
  |none=>rw[m.keep b (c.lt (by rw[a];simp)) hc];exact c b o a
theorem d06{ch:List (Nat×Bool)}(G:∀ x,C3 rs.st be oe (rdG rs ch x) (a.eval x)):∀(l:List Operand) {vs:List (Nat×Value)},e0k rs ch l=some vs ->
  (∀ p∈vs,p.2=a.eval (.tmp p.1))/\(∀ x∈l,(∃ t v,x = .tmp t/\(t,v)∈vs)∨(∀ g,rho g x=a.eval x))
 | [],vs,h=>by cases h;simp
 | .tmp t::r,vs,h=>by
  simp only[e0k]at h
  split at h
  ·rename_i v i
   split at h
   ·rename_i j e
    cases h
    obtain⟨c,d⟩:=d06 G r e
    grind[t8,List.mem_cons_self,mC]
   ·cases h
  ·cases h
 | .global _::r,vs,h=>by cases h
 | .const v::r,vs,h=>by
  obtain⟨c,d⟩:=d06 G r (vs:=vs) h
  exact⟨c,λx b=>by
   rcases List.mem_cons.1 b with rfl|b
   ·exact .inr λ_=>rfl
   ·exact d x b⟩
 | .func f::r,vs,h=>by
  obtain⟨c,d⟩:=d06 G r (vs:=vs) h
  exact⟨c,λx b=>by
   rcases List.mem_cons.1 b with rfl|b
   ·exact .inr λ_=>rfl
   ·exact d x b⟩
abbrev c0v(P:Program)(be:Nat->Nat)(oe:Nat->Value)(H:Hp)(rs:RS)(a:Act)(w:World)(o:Oper)(c:Bool)(K:AV->Prop):Prop :=
 ∃ av,K av/\(c=true->∃ v,C3 rs.st be oe av v/\∀ b,CW H w b->o.quietAt P a (CW H w) b v)
variable {ch:List (Nat×Bool)} {c:Bool} {K:AV->Prop}
theorem T07(G:∀ x,C3 rs.st be oe (rdG rs ch x) (a.eval x)):∀(l:List Operand) {st:St} {h:Hp} {K:List (Nat×Value)->St->Hp->Prop},Sim P h0 w0 be oe H st h a w->F7 rs.st be oe st be oe->Q0s rs ch l st h K ->
  ∃ vs st' h',K vs st' h'/\Sim P h0 w0 be oe H st' h' a w/\(∀ p∈vs,p.2=a.eval (.tmp p.1))/\(∀ x∈l,(∃ t v,x = .tmp t/\(t,v)∈vs)∨(∀ o,rho o x=a.eval x))
 | [],st,h,K,s,c,b=>⟨[],st,h,b,s,by simp,by simp⟩
 | .tmp t::r,st,h,K,s,c,b=>by
  obtain⟨u,q,m,s1,n⟩:=X03 s (s.rdA ((G (.tmp t)).grow c)) b
  obtain⟨vs,k,g,e,s2,i,j⟩:=T07 G r s1 (c.trans n) m
  grind
 | .const v::r,st,h,K,s,c,b=>by
  obtain⟨vs,k,g,e,s2,i,j⟩:=T07 G r s c b
  refine⟨vs,k,g,e,s2,i,λx d=>?_⟩
  rcases List.mem_cons.1 d with rfl|d
  ·exact .inr λ_=>rfl
  ·exact j x d
 | .func f::r,st,h,K,s,c,b=>by
  obtain⟨vs,k,g,e,s2,i,j⟩:=T07 G r s c b
  refine⟨vs,k,g,e,s2,i,λx d=>?_⟩
  rcases List.mem_cons.1 d with rfl|d
  ·exact .inr λ_=>rfl
  ·exact j x d
 | .global _::_,_,_,_,_,_,b=>b.elim
theorem O9(s:Sim P h0 w0 be oe H rs.st rs.h a w)(G:c=true->∀ x,C3 rs.st be oe (rdG rs ch x) (a.eval x))(d:O0i P o ch c rs K):c0v P be oe H rs a w o c K:=by
 unfold O0i at d
 split at d
 ·rename_i vs C B
  split at d
  ·rename_i f l n
   split at d
   ·rename_i y
    obtain⟨v,z,t⟩:=d
    refine⟨_,t,λg=>?_⟩
    obtain⟨k,p⟩:=d06 (G g) _ B
    rw[X05 k p]at n
    refine⟨v,rfl,λj m=>?_⟩
    unfold Oper.quietAt
    rw[A09 n y]
    refine⟨rfl,((X08 (bs:=rs.bs) z g).run j (λb o q=>m.vis b o (s.sub b o q))).mono ?_⟩
    rintro e I ⟨F,h',rfl,⟨rfl,rfl⟩,u⟩
    exact⟨rfl,I3.trans m (I3.widen m.vis s.sub u)⟩
   ·exact d.elim
  ·split at d
   ·rename_i v A
    refine⟨_,d,λg=>?_⟩
    obtain⟨k,p⟩:=d06 (G g) _ B
    rw[p0b,B09 C k p]at A
    exact⟨v,rfl,Y08 λj _=>W0n _ A j⟩
   ·exact d.elim
 ·obtain⟨r,z,t⟩:=d
  refine⟨_,t,λg=>⟨r,rfl,λj m=>?_⟩⟩
  obtain⟨vs,J,k,i,s1,D,E⟩:=T07 (G g) _ s (F7.refl _ _ _) (X08 (bs:=rs.bs) z g)
  rw[X05 D E]at i
  split at i
  ·rename_i f l n
   split at i
   ·rename_i y
    unfold Oper.quietAt
    rw[A09 n y]
    refine⟨rfl,(i.run j (λb o q=>m.vis b o (s1.sub b o q))).mono ?_⟩
    rintro e I ⟨F,h',rfl,⟨rfl,rfl⟩,u⟩
    exact⟨rfl,I3.trans m (I3.widen m.vis s1.sub u)⟩
   ·exact i.elim
  ·exact i.elim
 ·exact d.elim
theorem E06{d l:Int}{x:Option Operand}(G:∀ x,C3 rs.st be oe (rdG rs ch x) (a.eval x))(b:z06 d (x.map (rdG rs ch))=some l):b06 a d x l:=by
 cases x with
 |none=>simp only[Option.map_none,z06,Option.some.injEq]at b;exact b.symm
 |some y =>
  have g:=G y
  simp only[Option.map_some]at b
  cases hr:rdG rs ch y with
  |val v =>
   rw[hr]at b g
   cases v<;>simp only[z06,Option.some.injEq]at b<;>first|(subst b;exact⟨_,g⟩)|cases b
  |_=>rw[hr]at b;cases b
theorem X0q(s:Sim P h0 w0 be oe H rs.st rs.h a w){d:AV}{x:Value}(o:C3 rs.st be oe d x){cs:List c6}(b:a01 (rdA rs.st d)=some cs):Y2 rs.st oe cs x.cells.toList:=by
 have g:=s.rdA o
 cases hr:rdA rs.st d with
 |val v =>
  rw[hr]at b g
  have f:x=v:=g
  rw[f]
  cases v<;>simp only[a01,Option.some.injEq]at b<;>first|(subst b;first|exact Y2.vals _ _ _|exact⟨rfl,trivial⟩)|cases b
 |own i k =>
  rw[hr]at b g
  obtain⟨e,sz,by_,nn,xs,j⟩:=M07 hr
  simp only[a01,Option.some.injEq]at b
  subst b
  have l:x=oe i:=g.own_cur j
  obtain⟨y,n,c,m⟩:=c0f s j
  rw[l,m]
  rw[l,m]at g
  exact⟨g,trivial⟩
 |agg cs' =>
  rw[hr]at b g
  simp only[a01,Option.some.injEq]at b
  subst b
  obtain⟨vs,f,p⟩:=g
  rw[f]
  exact p
 |_=>rw[hr]at b;cases b
set_option maxHeartbeats 1000000 in
theorem J0p(s:Sim P h0 w0 be oe H rs.st rs.h a w)(r:W08 ops be oe rs a i)(au:cB rs.bs ch=some c)(u:evG P o ch c rs K):c0v P be oe H rs a w o c K:=by
 have ac:c=true->∀ x,∃ L,C3 rs.st be oe L (a.eval x)/\rdG rs ch x=rdA rs.st L:=λh x=>by subst h;exact k0f s r au x
 have G:c=true->∀ x,C3 rs.st be oe (rdG rs ch x) (a.eval x):=λh x=>by
  obtain⟨L,g,e⟩:=ac h x
  rw[e];exact s.rdA g
 have J:∀ {X:Prop},imp ch c X->c=true->X:=λh au=>X08 (bs:=rs.bs) h au
 have bG:∀ F,CW H w F->Vis H F:=λF m=>m.vis
 cases ho:o.op with
 |move x =>
  simp only[evG,ho]at u
  have C:K (rdG rs ch x):=by revert u;cases rdG rs ch x<;>intro u<;>first|exact u|exact u.elim
  refine⟨_,C,λh=>⟨_,G h x,Y08 λF _=>?_⟩⟩
  unfold execOp;rw[ho];rfl
 |assign x =>
  simp only[evG,ho]at u
  have C:K (rdG rs ch x):=by revert u;cases rdG rs ch x<;>intro u<;>first|exact u|exact u.elim
  refine⟨_,C,λh=>⟨_,G h x,Y08 λF _=>?_⟩⟩
  unfold execOp;rw[ho];rfl
 |pick ad x y =>
  cases ad with
  |tmp t =>
   simp only[evG,ho]at u
   split at u
   ·rename_i e q aL bj
    split at u
    ·rename_i bl
     split at u
     ·rename_i bx by_ A I
      refine⟨_,u,λh=>?_⟩
      have aR:=G h (.tmp t)
      rw[aL]at aR
      have bc:a.eval (.tmp t) = .bool e:=aR
      subst h
      obtain⟨W,bk⟩:=Q0c bj
      have aK:=H09 bl au
      obtain⟨aP,E,aj⟩:=r.val q W
      rw[aK]at E
      cases E
      have bJ:q.e=e:=by
       have:a.eval (.tmp t) = .bool q.e:=by
        simp only[Act.eval,←bk,Array.getD_eq_getD_getElem?,aj];rfl
       grind
      have V:∃ b,V03 rs.bs q.j=some b:=by
       have:∀(l:List BE),q∈l->∃ b,V03 l q.j=some b:=by
        intro l
        induction l with
        |nil=>intro h;cases h
        |cons z l bp =>
         grind[V03,absurd,Nat.ne_of_beq_eq_false]
       exact this _ W
      obtain⟨b,U⟩:=V
      obtain⟨aU,bf⟩:=H04 U
      have aS:b.e=e/\cB rs.bs b.ch=some true:=by
       obtain⟨_,bO,aM,aN⟩:=r.lt b aU
       obtain⟨_,bP,N,O⟩:=r.lt q W
       rw[bf,N]at aM
       cases aM
       rw[O]at aN
       have bH:q.d=b.d:=by simpa using aN
       obtain⟨aP,am,an⟩:=r.val b aU
       grind[undef]
      refine⟨.bool (cond e bx by_),rfl,Y08 λF _=>?_⟩
      unfold execOp;rw[ho]
      simp only[bc,Sem.run_bind,asBool,Sem.run_pure,Result.andThen_ok]
      cases e with
      |true =>
       have aG:cB rs.bs ((q.j,true)::q.ch)=some true:=by
        rw[E05,U,aK];simp[lit,aS.1]
       obtain⟨L,ap,aq⟩:=k0f s r aG x
       have ai:=s.rdA ap
       rw[←aq,A]at ai
       have aC:a.eval x = .bool bx:=ai
       simp[aC]
      |false =>
       have aG:cB rs.bs ((q.j,false)::q.ch)=some true:=by
        rw[E05,U,aK];simp[lit,aS.1]
       obtain⟨L,ap,aq⟩:=k0f s r aG y
       have ai:=s.rdA ap
       rw[←aq,I]at ai
       have aC:a.eval y = .bool by_:=ai
       simp[aC]
     ·exact u.elim
    ·exact u.elim
   ·exact u.elim
  |_=>simp only[evG,ho]at u;exact O9 s G u
 |fieldAddr t x k =>
  simp only[evG,ho]at u
  split at u
  ·rename_i j off ah D aa
   refine⟨_,u,λh=>?_⟩
   have g:=G h x
   rw[D]at g
   exact⟨ptr (be j) (off+ah),⟨g.1,rfl⟩,k04 (R.exec_fieldAddr ho aa g.2)⟩
  ·rename_i sl j sz ao ah D aa
   refine⟨_,u,λh=>?_⟩
   have g:=G h x
   rw[D]at g
   obtain⟨b,az,n,Q,M,ag⟩:=g
   exact⟨ptr b (az+(j.toNat*sz+ao)+ah),⟨b,az,n,Q,M,by simp[Nat.add_assoc]⟩,k04 (R.exec_fieldAddr ho aa ag)⟩
  ·rename_i aW bq j sz ao ah D aa
   refine⟨_,u,λh=>?_⟩
   have g:=G h x
   obtain⟨L,_,T⟩:=ac h x
   rw[D]at g
   obtain⟨aB,aA,aO,aY,a0,Z⟩:=U0i (T.symm.trans D)
   obtain⟨ar,n,Q,M,ag⟩:=g.oel_cur Z
   exact⟨ptr ar (j.toNat*sz+ao+ah),⟨bq,by simp[stamp,Z],Nat.le_refl _,λ_=>⟨ar,n,Q,M,by simp[Nat.add_assoc]⟩⟩,k04 (R.exec_fieldAddr ho aa ag)⟩
  ·exact u.elim
 |indexAddr t x ax =>
  simp only[evG,ho]at u
  split at u
  ·rename_i br j ak
   split at u
   ·rename_i e af
    split at u
    ·rename_i sz aw
     split at u
     ·rename_i a1 n Q A
      refine⟨_,u.2,λh=>?_⟩
      obtain⟨b,off,aX,aP,M,N,O⟩:=J u.1 h
      cases M
      have B:=G h x
      rw[A]at B
      have gi:=G h ax
      rw[ak]at gi
      exact⟨ptr b (off+j.toNat*sz),⟨b,off,n,Q,rfl,by simp⟩,k04 (R.exec_indexAddr ho af aw B gi N O)⟩
     ·rename_i aW ao A
      split at u
      ·rename_i aZ ba aA by_ nn xs Y
       split at u
       ·rename_i U
        refine⟨_,u.2,λh=>?_⟩
        obtain⟨N,O⟩:=J u.1 h
        have:=Nat.eq_of_beq_eq_true U
        subst this
        have B:=G h x
        obtain⟨L,_,T⟩:=ac h x
        rw[A]at B
        have gi:=G h ax
        rw[ak]at gi
        obtain⟨aB,bv,aO,aY,a0,Z⟩:=M07 (T.symm.trans A)
        have aV:=B.own_cur Z
        have ae:=s.own aW _ _ _ _ _ _ Y
        rcases ae.2 with⟨ab,bn,_⟩|⟨g,cap,cur,ab,_⟩
        ·grind
        ·rw[ab]at aV
         refine⟨ptr g (0+j.toNat*aA),⟨ao,by simp[stamp,Z],Nat.le_refl _,λ_=>⟨g,xs.length,cap,ab,by simp⟩⟩,k04 (R.exec_indexAddr ho af aw aV gi N O)⟩
       ·exact u.elim
      ·exact u.elim
     ·exact u.elim
    ·exact u.elim
   ·exact u.elim
  ·exact u.elim
 |load t x =>
  simp only[evG,ho]at u
  split at u
  ·rename_i j off D
   split at u
   ·rename_i cs ty Y
    obtain⟨E,vs,aj,aD⟩:=s.box j cs ty Y
    obtain⟨av,v,am,an,ay⟩:=R.load_row (H:=H) (b:=be j) (o:=0) (be:=be) u aj (λj v V=>by simp[Hp.cell,aD,V])
    refine⟨av,am,λh=>⟨v,an,k04 ?_⟩⟩
    have g:=G h x
    rw[D]at g
    exact R.exec_load ho g.2 (by simpa using ay)
   ·exact u.elim
  ·rename_i sl idx sz k D
   obtain⟨e,aH,C⟩:=u
   cases c with
   |false =>
    grind[P05]
   |true =>
    have aF:=J aH rfl
    have g:=G rfl x
    rw[D]at g
    obtain⟨b,az,n,Q,M,ag⟩:=g
    obtain⟨_,_,bC,bN,aX,bE,aQ,bg⟩:=aF
    rw[M]at aQ;cases aQ
    obtain⟨av,v,am,an,ay⟩:=R.load_row (H:=H) (b:=b) (o:=az+idx.toNat*sz) (be:=be) C (Y2.vals rs.st oe e) (λj v V=>by
     have:=bg j v V
     unfold Hp.cell at this ⊢
     split at this
     ·rename_i bi;rw[s.sub _ _ bi];exact this
     ·cases this)
    grind[k04,R.exec_load,Nat.add_assoc]
  ·rename_i j aZ idx sz k D
   split at u
   ·rename_i bQ ba aA by_ nn xs Y
    split at u
    ·rename_i U
     have aw:=Nat.eq_of_beq_eq_true U
     subst aw
     obtain⟨e,aH,C⟩:=u
     cases c with
     |false =>
      grind[P05]
     |true =>
      have aF:=J aH rfl
      have g:=G rfl x
      obtain⟨L,_,T⟩:=ac rfl x
      rw[D]at g
      obtain⟨aB,bR,aO,aY,a0,Z⟩:=U0i (T.symm.trans D)
      obtain⟨ar,n,Q,M,ag⟩:=g.oel_cur Z
      have ae:=s.own j _ _ _ _ _ _ Y
      obtain⟨av,v,am,an,ay⟩:=R.load_row (H:=H) (b:=ar) (o:=idx.toNat*aA) (be:=be) C (Y2.vals rs.st oe e) (λj v V =>
       ae.cells M _ _ (d05 xs _ e (λx A=>(ae.1 x A).1) aF j v V))
      grind[k04,R.exec_load]
    ·exact u.elim
   ·exact u.elim
  ·exact u.elim
 |build t ps =>
  simp only[evG,ho]at u
  split at u
  ·rename_i bb z al bo
   split at u
   ·rename_i aE
    cases c with
    |false =>
     have:∀(l:List (Nat×Operand)) (cs:List c6) (K':List c6->Prop),I08 P bb (rdG rs ch) l cs K'->∃ cs,K' cs:=by
      intro l
      induction l with
      |nil=>intro cs K' h;exact⟨_,h⟩
      |cons p l bp =>
       grind[I08]
     grind
    |true =>
     obtain⟨av,v,am,an,ay⟩:=v0k (K':=K) s ho al bo aE (λx cs bI=>by
      obtain⟨L,ap,aq⟩:=ac rfl x
      grind[X0q]) u
     grind[Y08]
   ·exact u.elim
  ·exact u.elim
 |index t x ax =>
  simp only[evG,ho]at u
  split at u
  ·rename_i b br j A ak al
   obtain⟨e,E,C⟩:=u
   refine⟨_,C,λh=>?_⟩
   have B:=G h x
   rw[A]at B
   have gi:=G h ax
   rw[ak]at gi
   obtain⟨N,O⟩:=J E h
   exact⟨_,rfl,k04 (R.exec_index ho al B gi N O)⟩
  ·exact u.elim
 |slice t x bK ak bt =>
  cases bt with
  |some m=>simp only[evG,ho]at u;exact O9 s G u
  |none =>
   simp only[evG,ho]at u
   split at u
   ·rename_i b A al
    split at u
    ·rename_i l m aJ W
     refine⟨_,u.2,λh=>?_⟩
     obtain⟨E,aj,aD⟩:=J u.1 h
     have B:=G h x
     rw[A]at B
     exact⟨_,rfl,k04 (R.exec_cutStr ho al B (E06 (G h) aJ) (E06 (G h) W) E aj aD)⟩
    ·exact u.elim
   ·rename_i a1 n Q A
    split at u
    ·rename_i e af
     split at u
     ·rename_i sz aL
      split at u
      ·rename_i l m aJ W
       obtain⟨v,E,C⟩:=u
       refine⟨_,C,λh=>?_⟩
       obtain⟨⟨N,O,a2,a3⟩,a4⟩:=J E h
       have B:=G h x
       rw[A]at B
       refine⟨v,rfl,?_⟩
       rw[a4 _ _ _ rfl]
       exact k04 (R.exec_slice ho af aL B (E06 (G h) aJ) (E06 (G h) W) N O a2 a3)
      ·exact u.elim
     ·exact u.elim
    ·exact u.elim
   ·exact u.elim
 |binOp bu t x y bS =>
  cases bu with
  |add =>
   simp only[evG,ho]at u
   split at u
   ·rename_i b ad A I
    refine⟨_,u.2,λh=>?_⟩
    have B:=G h x
    rw[A]at B
    have S:=G h y
    rw[I]at S
    exact⟨_,rfl,k04 (R.exec_cat ho B S (J u.1 h))⟩
   grind[O9]
  |quo =>
   simp only[evG,ho]at u
   split at u
   ·rename_i b ad A I
    refine⟨_,u.2,λh=>?_⟩
    have B:=G h x
    rw[A]at B
    have S:=G h y
    rw[I]at S
    exact⟨_,rfl,k04 (R.exec_quo ho B S (J u.1 h))⟩
   ·exact O9 s G u
  |rem =>
   simp only[evG,ho]at u
   split at u
   ·rename_i b ad A I
    refine⟨_,u.2,λh=>?_⟩
    have B:=G h x
    rw[A]at B
    have S:=G h y
    rw[I]at S
    exact⟨_,rfl,k04 (R.exec_rem ho B S (J u.1 h))⟩
   ·exact O9 s G u
  |eql =>
   simp only[evG,ho]at u
   split at u
   ·rename_i xs bA A I
    obtain⟨b,E,C⟩:=u
    exact⟨_,C,λh=>⟨.bool b,rfl,Y08 λF _=>J E h _ (t8 A (G h x)) (t8 I (G h y)) F⟩⟩
   ·rename_i bB aX bL A I
    obtain⟨b,E,C⟩:=u
    exact⟨_,C,λh=>⟨.bool b,rfl,Y08 λF _=>J E h _ (t8 A (G h x)) (t8 I (G h y)) F⟩⟩
   ·exact O9 s G u
  |neq =>
   simp only[evG,ho]at u
   split at u
   ·rename_i xs bA A I
    obtain⟨b,E,C⟩:=u
    exact⟨_,C,λh=>⟨.bool b,rfl,Y08 λF _=>J E h _ (t8 A (G h x)) (t8 I (G h y)) F⟩⟩
   grind[O9]
  |_=>simp only[evG,ho]at u;exact O9 s G u
 |call ad =>
  obtain⟨a5,as,bz⟩:=ad
  cases a5 with
  |builtin b =>
   cases b with
   |len =>
    simp only[evG,ho]at u
    split at u
    ·rename_i x t aE aa
     have bd:as = #[x]:=by apply Array.ext';simpa using aE
     have bm:bz = #[t]:=by apply Array.ext';simpa using aa
     split at u
     ·rename_i j k D
      split at u
      ·rename_i aZ e sz by_ nn xs aB Y af
       refine⟨_,u,λh=>?_⟩
       have g:=G h x
       obtain⟨L,_,T⟩:=ac h x
       rw[D]at g
       obtain⟨M,bv,bD,bM,bT,bh⟩:=M07 (T.symm.trans D)
       have A:=g.own_cur bh
       have ae:=s.own j _ _ _ _ _ _ Y
       rcases ae.2 with⟨ab,bn,_⟩|⟨bF,cap,cur,ab,_⟩
       ·rw[ab]at A
        refine⟨.int .i64 xs.length,rfl,Y08 λF _=>?_⟩
        grind[v0b]
       ·rw[ab]at A
        exact⟨.int .i64 xs.length,rfl,Y08 λF _=>v0b ho bd bm af A F⟩
      ·exact u.elim
     ·exact O9 s G u
    ·exact u.elim
   |_=>simp only[evG,ho]at u;exact O9 s G u
  |value f=>simp only[evG,ho]at u;exact O9 s G u
  |invoke r m=>simp only[evG,ho]at u;exact O9 s G u
 |_=>simp only[evG,ho]at u;exact O9 s G u
end
end Go.H
