/- Plain laws over the model: the model's own monad run over a part of the heap. No program in sight. -/
import Derived.WalkKit
import Derived.Deep.Quiet
namespace Go.H
set_option linter.unusedVariables false
abbrev Hp:=Nat->Option Obj
def Hp.cell(h:Hp)(b o:Nat):Option Value:=match h b with
 |some (.cells c _ _)=>c[o]?
 |_=>none
def Hp.set(h:Hp)(b:Nat)(x:Obj):Hp:=λa=>if a=b then some x else h a
theorem Hp.set_same(h:Hp)(b:Nat)(x:Obj):(h.set b x) b=some x:=by simp[Hp.set]
theorem Hp.set_other(h:Hp){b a:Nat}(x:Obj)(c:a≠b):(h.set b x) a=h a:=by simp[Hp.set,c]
def Vis(h:Hp)(w:World):Prop:=∀ b o,h b=some o->w.heap[b]?=some o
structure T2 (h:Hp) (w:World) (h':Hp) (w':World):Prop where
 os:w'.os=w.os
 tape:w'.tape=w.tape
 output:w'.output=w.output
 size:w.heap.size<=w'.heap.size
 keep:∀ b,b<w.heap.size->h b=none->w'.heap[b]?=w.heap[b]?
 vis:Vis h' w'
 fresh:∀ b,h' b≠none->h b≠none∨w.heap.size<=b
 fz:∀ a:Addr,a.block<w.heap.size->w'.frozen? a=w.frozen? a
 dn:w.drawn<=w'.drawn
theorem Vis.lt{h:Hp}{w:World}(hv:Vis h w){b:Nat}(a:h b≠none):b<w.heap.size:=by
 cases ho:h b with
 |none=>exact absurd ho a
 |some o=>exact(Array.getElem?_eq_some_iff.1 (hv b o ho)).1
theorem i0b{w b:World}{a:Addr}(h:b.heap[a.block]?=w.heap[a.block]?):b.frozen? a=w.frozen? a:=by
 unfold World.frozen?
 rw[h]
def e01(o:Obj)(off:Nat):Bool:=match o with
 | .cells _ _ (b,a)=>b<=off&&off<a
 |_=>false
theorem c02{w:World}{a:Addr}{o:Obj}(h:w.heap[a.block]?=some o):w.frozen? a=e01 o a.off:=by
 unfold World.frozen? e01
 rw[h]
 cases o<;>rfl
theorem f0n{w:World}{a:Addr}(h:w.heap[a.block]?=none):w.frozen? a=false:=by
 unfold World.frozen?
 rw[h]
def G0q:Obj->Bool
 | .cells _ _ (b,a)=>Nat.ble a b
 |_=>true
theorem g0n{o:Obj}(h:G0q o=true)(off:Nat):e01 o off=false:=by
 cases o with
 |cells c t a =>
  obtain⟨d,b⟩:=a
  have:=Nat.le_of_ble_eq_true h
  simp only[e01,Bool.and_eq_false_imp,decide_eq_true_eq,decide_eq_false_iff_not]
  omega
 |_=>rfl
theorem T2.refl{h:Hp}{w:World}(hv:Vis h w):T2 h w h w :=
 ⟨rfl,rfl,rfl,Nat.le_refl _,λ_ _ _=>rfl,hv,λ_ a => .inl a,λ_ _=>rfl,Nat.le_refl _⟩
theorem T2.trans{h f g:Hp}{w j k:World}(a:T2 h w f j)(b:T2 f j g k):T2 h w g k:=by
 refine⟨b.os.trans a.os,b.tape.trans a.tape,b.output.trans a.output,Nat.le_trans a.size b.size,?_,b.vis,?_,λx c=>(b.fz x (Nat.lt_of_lt_of_le c a.size)).trans (a.fz x c),Nat.le_trans a.dn b.dn⟩
 ·intro x c i
  have l:f x=none:=by
   cases hc:f x with
   |none=>rfl
   |some o =>
    have:=a.fresh x (by simp[hc])
    rcases this with d|d
    ·exact absurd i d
    ·omega
  rw[b.keep x (Nat.lt_of_lt_of_le c a.size) l,a.keep x c i]
 ·intro x c
  rcases b.fresh x c with d|d
  ·exact a.fresh x d
  ·exact .inr (Nat.le_trans a.size d)
theorem T2.none_of{h a:Hp}{w f:World}(m:T2 h w a f){b:Nat}(g:b<w.heap.size)(d:h b=none):a b=none:=by
 cases hc:a b with
 |none=>rfl
 |some o =>
  rcases m.fresh b (by simp[hc])with c|c
  ·exact absurd d c
  ·omega
theorem T2.drawn{h:Hp}{w:World}(hv:Vis h w)(n:Nat)(b:w.drawn<=n):T2 h w h { w with drawn:=n } :=
 ⟨rfl,rfl,rfl,Nat.le_refl _,λ_ _ _=>rfl,hv,λ_ a => .inl a,λ_ _=>rfl,b⟩
theorem T2.new{h:Hp}{w:World}(hv:Vis h w)(o:Obj)(d:G0q o=true):T2 h w (h.set w.heap.size o) { w with heap:=w.heap.push o }:=by
 refine⟨rfl,rfl,rfl,by simp,?_,?_,?_,λx _=>?_,Nat.le_refl _⟩
 rotate_left 3
 ·by_cases e:x.block=w.heap.size
  ·rw[c02 (o:=o) (by simp[e]),g0n d,f0n (by simp[e])]
  ·exact i0b (by simp[Array.getElem?_push,e])
 ·intro b c _
  simp[Array.getElem?_push,Nat.ne_of_lt c]
 ·intro b x a
  by_cases e:b=w.heap.size
  ·subst e;simp[Hp.set]at a;subst a;simp
  ·rw[Hp.set_other h o e]at a
   have:=hv b x a
   simp[Array.getElem?_push,e,this]
 ·intro b c
  by_cases e:b=w.heap.size
  ·right;omega
  ·left;rwa [Hp.set_other h o e]at c
theorem T2.upd{h:Hp}{w a:World}(hv:Vis h w){b:Nat}{o c:Obj}(f:h b=some o)(s:∀ off,e01 c off=e01 o off)
  (n:a.os=w.os) (q:a.tape=w.tape) (p:a.output=w.output) (t:a.heap.size=w.heap.size)
  (l:a.heap[b]?=some c) (i:∀ k,k≠b->a.heap[k]?=w.heap[k]?) (m:w.drawn<=a.drawn:=by first|exact Nat.le_refl _|simp):T2 h w (h.set b c) a:=by
 refine⟨n,q,p,by omega,?_,?_,?_,λx _=>?_,m⟩
 rotate_left 3
 ·by_cases e:x.block=b
  ·rw[c02 (o:=c) (by rw[e];exact l),s,c02 (o:=o) (by rw[e];exact hv _ _ f)]
  ·exact i0b (i _ e)
 ·intro k g j
  exact i k (λe=>by subst e;rw[f]at j;cases j)
 ·intro k x d
  by_cases e:k=b
  ·subst e;simp[Hp.set]at d;subst d;exact l
  ·rw[Hp.set_other h c e]at d
   rw[i k e];exact hv k x d
 ·intro k g
  by_cases e:k=b
  ·subst e;exact .inl (by simp[f])
  ·rw[Hp.set_other h c e]at g;exact .inl g
def T02:Value->Prop
 | .agg _ | .tuple _=>False
 |_=>True
def o08:Obj->Bool
 | .cells ..=>true
 |_=>false
def h0h:Obj->Option (TypeId×Nat)
 | .cells c e _=>some (e,c.size)
 |_=>none
def wpS(P:Program){g:Type}:Sem g->Hp->(g->Hp->Prop)->Prop
 | .pure a,h,K=>K a h
 | .load _ a k,h,K=>∃ v,(a.spot=none/\Hp.cell h a.block a.off=some v)/\wpS P (k v) h K
 | .store _ a v k,h,K=>∃ c t d,(h a.block=some (.cells c t d)/\a.spot=none/\a.off<c.size/\(d.1<=a.off&&a.off<d.2)=false/\T02 v) /\
   wpS P k (h.set a.block (.cells (c.setIfInBounds a.off v) t d)) K
 | .new o k,h,K=>match G0q o with
  |true=>∀ b,h b=none->wpS P (k b) (h.set b o) K
  |false=>False
 | .shape r k,h,K=>∃ o,h r=some o/\wpS P (k (h0h o)) h K
 | .freeze _ _ _,_,_=>False
 | .frozen a k,h,K=>∃ o,h a.block=some o/\wpS P (k (e01 o a.off)) h K
 | .getObj r k,h,K=>∃ o,(h r=some o/\o08 o=false)/\wpS P (k o) h K
 | .setObj r o k,h,K=>∃ f,(h r=some f/\o08 f=false/\o08 o=false)/\wpS P k (h.set r o) K
 | .choose q k,h,K=>match q.forced with
  |true=>wpS P (k 0) h K
  |false=>∀ t,wpS P (k (q.cut t)) h K
 | .sys _ _,_,_=>False
 | .program k,h,K=>wpS P (k P) h K
 | .mark _ k,h,K=>wpS P k h K
 | .halt _,_,_=>False
theorem P05{h:Hp}{w:World}(hv:Vis h w){a:Addr}{v:Value}(f:a.spot=none)(b:Hp.cell h a.block a.off=some v):w.cell? a=some v:=by
 unfold Hp.cell at b
 split at b
 ·rename_i c t g d
  simp[World.cell?,hv _ _ d,f,b]
 ·cases b
theorem B9{P:Program}{H:Type}{K:H->Hp->Prop}(s:Sem H):∀(h:Hp) (w:World),Vis h w->wpS P s h K ->
  ∃ x f g,s.run P w = .ok x g/\K x f/\T2 h w f g:=by
 induction s with
 |pure a=>exact λh w hv d=>⟨a,h,w,rfl,d,T2.refl hv⟩
 |load m a k i =>
  rintro h w hv ⟨v,⟨D,z⟩,d⟩
  obtain⟨x,f,g,l,p,j⟩:=i v h w hv d
  exact⟨x,f,g,by simp[Sem.run,P05 hv D z,l],p,j⟩
 |store m a v k i =>
  rintro h w hv ⟨c,t,F,⟨G,D,C,M,I⟩,d⟩
  have A:=hv _ _ G
  have J:w.cell? a=some (c[a.off]'C):=by simp[World.cell?,A,D,C]
  have L:w.frozen? a=false:=by
   unfold World.frozen?
   rw[A]
   exact M
  have N:(w.setCell a v).heap[a.block]?=some (.cells (c.setIfInBounds a.off v) t F):=by
   simp[World.setCell,Array.getElem?_modify,A,D]
  have u:T2 h w (h.set a.block (.cells (c.setIfInBounds a.off v) t F)) (w.setCell a v) :=
   T2.upd hv G (λ_=>rfl) rfl rfl rfl (by simp[World.setCell]) N (λk d=>by
    simp only[World.setCell,Array.getElem?_modify]
    rw[if_neg (λe=>d e.symm)])
  obtain⟨x,f,g,l,p,j⟩:=i _ _ u.vis d
  refine⟨x,f,g,?_,p,u.trans j⟩
  cases v<;>simp only[T02]at I<;>simp[Sem.run,J,L,l]
 |new o k i =>
  intro h w hv d
  have O:h w.heap.size=none:=by
   cases z:h w.heap.size with
   |none=>rfl
   |some E=>exact absurd (hv.lt (b:=w.heap.size) (by simp[z])) (Nat.lt_irrefl _)
  unfold wpS at d
  split at d
  rotate_left
  ·exact d.elim
  rename_i Q
  have u:=T2.new hv o Q
  obtain⟨x,f,g,l,p,j⟩:=i _ _ _ u.vis (d _ O)
  exact⟨x,f,g,l,p,u.trans j⟩
 |shape r k i =>
  rintro h w hv ⟨o,y,d⟩
  obtain⟨x,f,g,l,p,j⟩:=i _ _ _ hv d
  refine⟨x,f,g,?_,p,j⟩
  have:w.shape? r=h0h o:=by simp[World.shape?,hv _ _ y];cases o<;>simp[h0h]
  simp[Sem.run,this,l]
 |freeze a n k i=>exact λh w hv d=>d.elim
 |frozen a k i =>
  rintro h w hv ⟨o,y,d⟩
  obtain⟨x,f,g,l,p,j⟩:=i _ _ _ hv d
  refine⟨x,f,g,?_,p,j⟩
  have:w.frozen? a=e01 o a.off:=c02 (hv _ _ y)
  simp[Sem.run,this,l]
 |getObj r k i =>
  rintro h w hv ⟨o,⟨y,z⟩,d⟩
  obtain⟨x,f,g,l,p,j⟩:=i _ _ _ hv d
  refine⟨x,f,g,?_,p,j⟩
  cases o<;>simp[o08]at z<;>simp[Sem.run,hv _ _ y,l]
 |setObj r o k i =>
  rintro h w hv ⟨E,⟨y,z,R⟩,d⟩
  have A:=hv _ _ y
  have C:=hv.lt (b:=r) (by simp[y])
  have u:T2 h w (h.set r o) { w with heap:=w.heap.setIfInBounds r o } :=
   T2.upd hv y (λoff=>by cases o<;>cases E<;>simp_all [o08,e01]) rfl rfl rfl (by simp) (by simp[C]) (λk d=>by
    simp[Array.getElem?_setIfInBounds_ne (Ne.symm d)])
  obtain⟨x,f,g,l,p,j⟩:=i _ _ u.vis d
  refine⟨x,f,g,?_,p,u.trans j⟩
  cases E<;>simp[o08]at z<;>simp[Sem.run,A,l]
 |choose q k i =>
  intro h w hv d
  unfold wpS at d
  cases hq:q.forced with
  |true =>
   rw[hq]at d
   obtain⟨x,f,g,l,p,j⟩:=i _ _ _ hv d
   exact⟨x,f,g,by simp[Sem.run,hq,l],p,j⟩
  |false =>
   rw[hq]at d
   have u:=T2.drawn hv (w.drawn+1) (Nat.le_succ _)
   obtain⟨x,f,g,l,p,j⟩:=i _ _ _ u.vis (d (w.tape w.drawn q))
   exact⟨x,f,g,by simp only[Sem.run,hq];exact l,p,u.trans j⟩
 |sys c k i=>exact λh w hv d=>d.elim
 |program k i =>
  intro h w hv d
  obtain⟨x,f,g,l,p,j⟩:=i _ _ _ hv d
  exact⟨x,f,g,by simp[Sem.run,l],p,j⟩
 |mark m k i =>
  intro h w hv d
  obtain⟨x,f,g,l,p,j⟩:=i _ _ hv d
  exact⟨x,f,g,by simp[Sem.run,l],p,j⟩
 |halt x=>exact λh w hv d=>d.elim
structure Tr (P:Program) (f:FuncId) (args:Array Value) (h:Hp) (T:Value->Hp->Prop):Prop where
 run:∀ w,Vis h w->Calls P f args w λe w'=>∃ v h',e = .returned v/\T v h'/\T2 h w h' w'
theorem Tr.mono{P:Program}{f:FuncId}{args:Array Value}{h:Hp}{b c:Value->Hp->Prop}(t:Tr P f args h b)(g:∀ v a,b v a->c v a):Tr P f args h c :=
 ⟨λw hv=>(t.run w hv).mono λ_ _ ⟨v,a,d,j,i⟩=>⟨v,a,d,g _ _ j,i⟩⟩
theorem aT{a b c:Prop}(h:c)(x:a:=by exact trivial)(y:b:=by first|exact trivial|exact rfl):a ∧ b ∧ c:=⟨x,y,h⟩
theorem aI{a b:Prop}(x:a)(y:b):a ∧ b:=⟨x,y⟩
theorem eX{α:Sort _}{p:α→Prop}(w:α)(h:p w):∃ x,p x:=⟨w,h⟩
theorem oB{α β:Type _}(a:α)(f:α→Option β):(some a).bind f=f a:=rfl
theorem nS(n:Nat):n<n+1:=Nat.lt_succ_self n
theorem mC{α:Type _}{a:α}(y:α){l:List α}(h:a∈l):a∈y::l:=List.mem_cons_of_mem y h
theorem mS{α:Type _}{a:α}{l:List α}:a∈a::l:=List.mem_cons_self ..
theorem iR(a:Int):a≤a:=Int.le_refl a
theorem oJ{α:Type _}{a b:α}(h:some a=some b):a=b:=Option.some.inj h
end Go.H
