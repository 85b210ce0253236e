/- Plain laws over the model: the library's sort, at a slice that lies in memory. -/
import Derived.Test.YtfphndijjmdiiaaGreatH35
import Derived.Sort.Grow
import Derived.Shelf.SlSortCmp.Whole1
open Go.Sort Go.Proofs Go.Shelf Go.Lib
namespace Go.H
set_option linter.unusedVariables false
set_option linter.unusedSimpArgs false
theorem U2.grown{h:Hp}{w a:World}(k:Vis h w)(m:U2 h w h a):∃ q l,a=grow (w.drewN q) l:=by
 refine⟨a.drawn-w.drawn,a.heap.extract w.heap.size a.heap.size,?_⟩
 have j:∀ b,b<w.heap.size->a.heap[b]?=w.heap[b]?:=λb g=>by
  cases hc:h b with
  |none=>exact m.keep b g hc
  |some o=>rw[m.vis b o hc,k b o hc]
 have p:a.heap=w.heap++a.heap.extract w.heap.size a.heap.size:=by
  refine Array.ext_getElem? λi=>?_
  rcases Nat.lt_or_ge i w.heap.size with c|c
  ·rw[Array.getElem?_append_left c,j i c]
  ·rw[Array.getElem?_append_right c,Array.getElem?_extract]
   have:=m.size
   by_cases hi2:i<a.heap.size
   ·rw[if_pos (by omega)]
    congr 1
    omega
   ·rw[if_neg (by omega),Array.getElem?_eq_none (by omega)]
 have n:=m.dn
 cases w
 cases a
 simp only[grow,Go.World.drewN]at *
 have d:=m.os
 have e:=m.tape
 have f:=m.output
 simp only at d e f
 subst d e f
 congr 1
 omega
theorem k0e{w:World}{g m b:Nat}{f:Array Value->Array Value}{os:Array Obj}(a:b<w.heap.size):
  (grow (mapBlock (Sort.ahead w m) g f) os).heap[b]?=if g=b then(w.heap[b]?).map (onCells f)else w.heap[b]?:=by
 show(w.heap.modify g (onCells f)++os)[b]?=_
 rw[Array.getElem?_append_left (by simpa using a),Array.getElem?_modify]
theorem A0s{w:World}{g m:Nat}{f:Array Value->Array Value}{os:Array Obj}:w.heap.size<=(grow (mapBlock (Sort.ahead w m) g f) os).heap.size:=by
 show w.heap.size<=(w.heap.modify g (onCells f)++os).size
 simp
theorem w0q{h:Hp}{w:World}{g m:Nat}{o:Obj}{f:Array Value->Array Value}{os:Array Obj}(i:h g=none)(k:Vis (h.set g o) w):Vis h (grow (mapBlock (Sort.ahead w m) g f) os):=by
 intro b x a
 have d:b≠g:=λe=>by rw[e,i]at a;cases a
 have c:=k b x (by rw[Hp.set_other _ _ d];exact a)
 have j:b<w.heap.size:=(Array.getElem?_eq_some_iff.1 c).1
 rw[k0e j,if_neg (Ne.symm d)]
 exact c
theorem x0q{h:Hp}{w:World}{g m:Nat}{cur:Array Value}{e:TypeId}{f:Array Value->Array Value}{os:Array Obj}(q:h g=none)(n:Vis (h.set g (.cells cur e (0,0))) w):
  U2 (h.set g (.cells cur e (0,0))) w (h.set g (.cells (f cur) e (0,0))) (grow (mapBlock (Sort.ahead w m) g f) os):=by
 have j:w.heap[g]?=some (.cells cur e (0,0)):=n g _ (Hp.set_same _ _ _)
 have s:g<w.heap.size:=(Array.getElem?_eq_some_iff.1 j).1
 have k:(grow (mapBlock (Sort.ahead w m) g f) os).heap[g]?=some (.cells (f cur) e (0,0)):=by
  rw[k0e s,if_pos rfl,j];rfl
 refine⟨rfl,rfl,rfl,A0s,λb d l=>?_,λb x i=>?_,λb d=>?_,λa p=>?_,Nat.le_add_right _ _⟩
 ·have t:b≠g:=λc=>by rw[c,Hp.set_same]at l;cases l
  rw[k0e d,if_neg (Ne.symm t)]
 ·by_cases c:b=g
  ·subst c;rw[Hp.set_same]at i;cases i;exact k
  ·rw[Hp.set_other _ _ c]at i
   exact w0q q n b x i
 ·by_cases c:b=g
  ·subst c;exact .inl (by rw[Hp.set_same];simp)
  ·rw[Hp.set_other _ _ c]at d;exact .inl (by rw[Hp.set_other _ _ c];exact d)
 ·by_cases c:a.block=g
  ·rw[H02 (o := .cells (f cur) e (0,0)) (by rw[c];exact k),H02 (o := .cells cur e (0,0)) (by rw[c];exact j)];rfl
  ·exact P0b (by rw[k0e p,if_neg (Ne.symm c)])
theorem y0q{b c:Type}(f:b->c):∀ l:List b,(l.map λp=>[f p]).flatten=l.map f
 | []=>rfl
 |a::l=>by simp[y0q f l]
theorem N0g{a:Type}[Inhabited a](enc:a->Value)(d:Array a)(c:Array Value)(h:d.size<=c.size):(putCells enc 0 d c).toList.take d.size=d.toList.map enc:=by
 apply List.ext_getElem?
 intro i
 rw[List.getElem?_take,Array.getElem?_toList,List.getElem?_map,Array.getElem?_toList]
 by_cases hi:i<d.size
 ·rw[if_pos hi]
  simp only[putCells,Array.getElem?_mapIdx,Array.getElem?_eq_getElem (show i<c.size by omega),Array.getElem?_eq_getElem hi,Option.map_some]
  rw[if_pos ⟨Nat.zero_le _,by omega⟩,Nat.sub_zero,getElem!_pos d i hi]
 ·rw[if_neg hi,Array.getElem?_eq_none (by omega)];rfl
theorem I05{i:Type}{R:i->i->Prop}(j:∀ x y,R x y->R y x->x=y):∀ {d f:List i},d.Perm f->d.Pairwise R->f.Pairwise R->d=f
 | [],f,c,_,_=>(List.nil_perm.1 c).symm
 |a::d,[],c,_,_=>absurd c.length_eq (by simp)
 |a::d,b::f,c,k,l=>by
  have g:a∈b::f:=c.subset mS
  have h:b∈a::d:=c.symm.subset mS
  have e:a=b:=by
   rcases List.mem_cons.1 g with e|g
   ·exact e
   ·rcases List.mem_cons.1 h with e|h
    ·exact e.symm
    ·exact j _ _ ((List.pairwise_cons.1 k).1 b h) ((List.pairwise_cons.1 l).1 a g)
  subst e
  rw[I05 j ((List.perm_cons a).1 c) (List.pairwise_cons.1 k).2 (List.pairwise_cons.1 l).2]
def M0k{a:Type}(cf:a->a->Int)(x:a):List a->List a
 | []=>[x]
 |y::l=>bif ltOf cf y x then y::M0k cf x l else x::y::l
def Z08{a:Type}(cf:a->a->Int):List a->List a
 | []=>[]
 |x::l=>M0k cf x (Z08 cf l)
theorem p0c{a:Type}(cf:a->a->Int)(x:a):∀ l,(M0k cf x l).Perm (x::l)
 | [] => .refl _
 |y::l=>by
  unfold M0k
  cases ltOf cf y x
  ·exact .refl _
  ·exact((p0c cf x l).cons y).trans (.swap ..)
theorem J08{a:Type}(cf:a->a->Int):∀ l,(Z08 cf l).Perm l
 | [] => .refl _
 |x::l=>(p0c cf x _).trans ((J08 cf l).cons x)
theorem u0d{e:Type}{cf:e->e->Int}(d:SWO (ltOf cf))(x:e):∀ l:List e,l.Pairwise (λa b=>ltOf cf b a=false)->(M0k cf x l).Pairwise λa b=>ltOf cf b a=false
 | [],_=>by simp[M0k]
 |y::l,h=>by
  obtain⟨f,g⟩:=List.pairwise_cons.1 h
  unfold M0k
  cases hc:ltOf cf y x with
  |false =>
   show(x::y::l).Pairwise _
   refine List.pairwise_cons.2 ⟨λz c=>?_,h⟩
   rcases List.mem_cons.1 c with rfl|c
   ·exact hc
   ·exact d.ntrans _ _ _ (f z c) hc
  |true =>
   show(y::M0k cf x l).Pairwise _
   refine List.pairwise_cons.2 ⟨λz c=>?_,u0d d x l g⟩
   rcases List.mem_cons.1 ((p0c cf x l).subset c)with rfl|c
   ·cases hd:ltOf cf z y with
    |false=>rfl
    |true=>have:=d.trans _ _ _ hc hd;rw[d.irrefl]at this;cases this
   ·exact f z c
theorem c08{c:Type}{cf:c->c->Int}(d:SWO (ltOf cf)):∀ l:List c,(Z08 cf l).Pairwise λa b=>ltOf cf b a=false
 | [] => .nil
 |x::l=>u0d d x _ (c08 d l)
theorem d0u{c:Type}[Inhabited c]{lt:c->c->Bool}{d:Array c}(h:SortedIn lt 0 d.size d):d.toList.Pairwise λa b=>lt b a=false:=by
 rw[List.pairwise_iff_getElem]
 intro i j g l k
 have f:i<d.size:=by simpa using g
 have e:j<d.size:=by simpa using l
 have:=h i j (Nat.zero_le _) k e
 rwa [getElem!_pos d i f,getElem!_pos d j e]at this
theorem e0u{b:Type}[Inhabited b]{d a:Array b}(h:PermIn 0 d.size d a):a.size=d.size/\a.toList.Perm d.toList:=by
 refine⟨h.1,?_⟩
 have:=h.2.2
 rw[←h.1]at this
 have e:a.extract 0 a.size=a:=Array.extract_size
 have c:d.extract 0 a.size=d:=by rw[h.1];exact Array.extract_size
 rw[e,c]at this
 exact this
theorem O0u{a b:Type}{cf:a->a->Int}(f:b->a)(h:SWO (ltOf cf)):SWO (ltOf λx y=>cf (f x) (f y)) :=
 ⟨λx=>h.irrefl (f x),λx y z=>h.trans (f x) (f y) (f z),λx y z=>h.ntrans (f x) (f y) (f z)⟩
structure Cmp {α:Type} (cf:α->α->Int):Prop where
 swo:SWO (ltOf cf)
 tot:∀ x y,ltOf cf x y=false->ltOf cf y x=false->x=y
section
variable {P:Program} {ρ:Ren} {ι α:Type} [Inhabited ι] {row:ι->List Value} {dat:ι->α} {cf:α->α->Int} {gf sz:Nat} {h h':Hp} {v:Value} {e:Nat} {l:List ι}
theorem Tr.sort1(L:SlLaysF.n6 P ρ)(ag:sz=1)(J:∀ p,(row p).length=sz)(M:∀ p,∀ v∈row p,v.oneCell'=true)(A:Cmp cf)(U:∀ args w,(callFunc gf args).run P w = .ok (.enter gf args) w)
  (Z:∀ u v x y,row x = [u]->row y = [v]->Tr P gf #[u,v] h λq h'=>q = .int .i64 (cf (dat x) (dat y))/\h'=h)
  (fr:U0 h h' v e sz true (l.map row)) (ac:l.length<4611686018427387904) :
  Tr P (ρ.f 6) #[v,.func (.func gf) #[] #[]] h' λu k=>u = .tuple #[]/\∃ G:List ι,G.Perm l/\G.map dat=Z08 cf (l.map dat)/\U0 h k v e sz true (G.map row):=by
 subst ag
 obtain⟨al,fr⟩:=fr
 rcases fr with⟨_,_,h0,_⟩|⟨g,cap,cur,rfl,B,rfl,i,t,H,I⟩
 ·cases h0
 refine⟨λw E=>?_⟩
 let enc:ι->Value:=λp=>(row p).headD (.slice none 0 0)
 have c:∀ p:ι,row p = [enc p]:=λp=>by
  obtain⟨u,ah⟩:=List.length_eq_one_iff.1 (J p)
  simp[enc,ah]
 have X:OneCell enc:=λp=>M p _ (by rw[c p];simp)
 have F:w.heap[g]?=some (.cells cur e (0,0)):=E g _ (Hp.set_same _ _ _)
 have ai:l.map row=l.map λp=>[enc p]:=List.map_congr_left λp _=>c p
 have ak:l.length<=cur.size:=by rw[H];simpa using i
 have V:cur.toList.take l.length=l.map enc:=by
  rw[ai,y0q]at I
  simpa using I
 have W:Holds enc w g 0 l.toArray:=λj ab=>by
  have C:j<l.length:=by simpa using ab
  have s:cur[j]?=some (enc l[j]):=by
   have:=congrArg (λz=>z[j]?) V
   simp only[List.getElem?_take,if_pos C,List.getElem?_map,Array.getElem?_toList,List.getElem?_eq_getElem C,Option.map_some]at this
   exact this
  refine⟨?_,?_⟩
  ·have:cur[0+j]?=some (enc l[j]):=by rw[Nat.zero_add];exact s
   simp[World.cell?,F,getElem!_pos,C]
   exact s
  ·rw[H02 (o := .cells cur e (0,0)) F];simp[J01]
 have aa:CmpLays1 P gf #[] enc (λx y=>cf (dat x) (dat y)) g 0 l.toArray.size w:=λm os S D x y=>by
  have N:=w0q (m:=m) (f:=putCells enc 0 S) (os:=os) B E
  refine((Z _ _ _ _ (c x) (c y)).run _ N).mono ?_
  rintro T aj ⟨u,h',rfl,⟨rfl,rfl⟩,ad⟩
  exact⟨rfl,U2.grown N ad⟩
 have af:=Any.slices_SortFunc L enc X (λx y=>cf (dat x) (dat y)) (O0u _ A.swo) gf #[] g 0 cap l.toArray w U aa W (Array.getElem?_eq_some_iff.1 F).1 (by simpa using ac)
 have Y:(l.map row).length=l.toArray.size:=by simp
 rw[Y]
 refine af.mono ?_
 rintro T aj ⟨rfl,d,n,os,ae,D,rfl⟩
 obtain⟨O,Q⟩:=e0u ae
 rw[←O]at D
 have K:d.size=l.length:=by rw[O];simp
 refine⟨_,_,rfl,⟨rfl,d.toList,Q,?_,⟨λx s=>?_,.inr ⟨g,cap,putCells enc 0 d cur,by simp[K],B,rfl,by simpa [K] using i,t,by simpa [putCells] using H,?_⟩⟩⟩,x0q B E⟩
 ·refine I05 (R:=λa b=>ltOf cf b a=false) (λx y i t=>A.tot x y t i) ((Q.map _).trans (J08 cf _).symm) ?_ (c08 A.swo _)
  exact List.pairwise_map.2 (d0u D)
 ·obtain⟨p,_,rfl⟩:=List.mem_map.1 s
  exact⟨J p,M p⟩
 ·rw[List.map_congr_left (g:=λp=>[enc p]) λp _=>c p,y0q,←N0g enc d cur (by omega)]
  simp
end
abbrev N0k{a:Type}(r:Wp a)(h:Hp):Type := {p:List Value×a×List Nat // r.W h p.1 p.2.1 p.2.2}
theorem e0j{a:Type}{r:Wp a}{h:Hp}:∀ {vs:List (List Value)} {xs:List a} {Bs:List (List Nat)},F3 (r.W h) vs xs Bs->∃ l:List (N0k r h),(l.map λp=>p.1.1)=vs/\(l.map λp=>p.1.2.1)=xs/\(l.map λp=>p.1.2.2)=Bs
 | [],[],[],_=>⟨[],rfl,rfl,rfl⟩
 |v::vs,x::xs,b::Bs,hf=>by
  obtain⟨l,c,d,e⟩:=e0j hf.2
  exact⟨⟨(v,x,b),hf.1⟩::l,by simp[c],by simp[d],by simp[e]⟩
 | [],_::_,_,hf=>hf.elim
 | [],[],_::_,hf=>hf.elim
 |_::_,[],_,hf=>hf.elim
 |_::_,_::_,[],hf=>hf.elim
theorem f0j{a:Type}{r:Wp a}{h:Hp}:∀(l:List (N0k r h)),F3 (r.W h) (l.map λp=>p.1.1) (l.map λp=>p.1.2.1) (l.map λp=>p.1.2.2)
 | []=>trivial
 |p::l=>⟨p.2,f0j l⟩
section
variable {P:Program} {ρ:Ren} {α:Type} {cf:α->α->Int} {gf:Nat} {h h':Hp} {v:Value} {e:Nat} {vs:List (List Value)} {xs:List α}
theorem Tr.sort1W{r:Wp α}{Bs:List (List Nat)}(L:SlLaysF.n6 P ρ)(o:r.sz=1)(j:Cmp cf)(c:∀ args w,(callFunc gf args).run P w = .ok (.enter gf args) w){z:List Value}{z':α}{zb:List Nat}(A:r.W h z z' zb)
  (m:∀ u v x y,r.R h [u] x->r.R h [v] y->Tr P gf #[u,v] h λq h'=>q = .int .i64 (cf x y)/\h'=h)
  (fr:U0 h h' v e r.sz true vs) (f3:F3 (r.W h) vs xs Bs) (n:xs.length<4611686018427387904) :
  Tr P (ρ.f 6) #[v,.func (.func gf) #[] #[]] h' λu k=>u = .tuple #[]/\∃ b a,U0 h k v e r.sz true b/\F3 (r.W h) b (Z08 cf xs) a/\a.Perm Bs:=by
 obtain⟨l,rfl,rfl,rfl⟩:=e0j f3
 haveI:Inhabited (N0k r h):=⟨⟨(z,z',zb),A⟩⟩
 refine(Tr.sort1 (row:=λp:N0k r h=>p.1.1) (dat:=λp=>p.1.2.1) L o (λp=>r.len (r.toR p.2)) (λp=>r.one (r.toR p.2)) j c (λu v x y s t=>m u v _ _ (by rw[←s];exact r.toR x.2) (by rw[←t];exact r.toR y.2)) fr (by simpa using n)).mono ?_
 rintro u k ⟨rfl,B,d,g,i⟩
 exact⟨rfl,_,_,i,by rw[←g];exact f0j B,d.map _⟩
end
end Go.H
