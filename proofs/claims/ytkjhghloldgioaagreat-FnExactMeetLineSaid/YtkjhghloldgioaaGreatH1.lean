/- Plain laws over the model: the model's own monad run over a part of the heap. No program in sight. -/
import Derived.WalkKit
import Derived.Deep.Quiet
namespace Go.H
set_option linter.unusedVariables false
abbrev Hp:=Nat->Option Obj
def Hp.cell(h:Hp)(b o:Nat):Option Value:=match h b with
 |some (.cells c _ _)=>c[o]?
 |_=>none
def Hp.set(h:Hp)(b:Nat)(x:Obj):Hp:=λa=>if a=b then some x else h a
theorem Hp.set_same(h:Hp)(b:Nat)(x:Obj):(h.set b x) b=some x:=by simp[Hp.set]
theorem Hp.set_other(h:Hp){b a:Nat}(x:Obj)(c:a≠b):(h.set b x) a=h a:=by simp[Hp.set,c]
def Vis(h:Hp)(w:World):Prop:=∀ b o,h b=some o->w.heap[b]?=some o
structure V2 (h:Hp) (w:World) (h':Hp) (w':World):Prop where
 os:w'.os=w.os
 tape:w'.tape=w.tape
 output:w'.output=w.output
 size:w.heap.size<=w'.heap.size
 keep:∀ b,b<w.heap.size->h b=none->w'.heap[b]?=w.heap[b]?
 vis:Vis h' w'
 fresh:∀ b,h' b≠none->h b≠none∨w.heap.size<=b
 fz:∀ a:Addr,a.block<w.heap.size->w'.frozen? a=w.frozen? a
 dn:w.drawn<=w'.drawn
theorem Vis.lt{h:Hp}{w:World}(c:Vis h w){b:Nat}(a:h b≠none):b<w.heap.size:=by
 cases ho:h b with
 |none=>exact absurd ho a
 |some o=>exact(Array.getElem?_eq_some_iff.1 (c b o ho)).1
theorem f0b{w b:World}{a:Addr}(h:b.heap[a.block]?=w.heap[a.block]?):b.frozen? a=w.frozen? a:=by
 unfold World.frozen?
 rw[h]
def j01(o:Obj)(off:Nat):Bool:=match o with
 | .cells _ _ (b,a)=>b<=off&&off<a
 |_=>false
theorem X01{w:World}{a:Addr}{o:Obj}(h:w.heap[a.block]?=some o):w.frozen? a=j01 o a.off:=by
 unfold World.frozen? j01
 rw[h]
 cases o<;>rfl
theorem J0n{w:World}{a:Addr}(h:w.heap[a.block]?=none):w.frozen? a=false:=by
 unfold World.frozen?
 rw[h]
def B0r:Obj->Bool
 | .cells _ _ (b,a)=>Nat.ble a b
 |_=>true
theorem K0n{o:Obj}(h:B0r o=true)(off:Nat):j01 o off=false:=by
 cases o with
 |cells c t a =>
  obtain⟨d,b⟩:=a
  have:=Nat.le_of_ble_eq_true h
  simp only[j01,Bool.and_eq_false_imp,decide_eq_true_eq,decide_eq_false_iff_not]
  omega
 |_=>rfl
theorem V2.refl{h:Hp}{w:World}(b:Vis h w):V2 h w h w :=
 ⟨rfl,rfl,rfl,Nat.le_refl _,λ_ _ _=>rfl,b,λ_ a => .inl a,λ_ _=>rfl,Nat.le_refl _⟩
theorem V2.trans{h e f:Hp}{w i j:World}(a:V2 h w e i)(b:V2 e i f j):V2 h w f j:=by
 refine⟨b.os.trans a.os,b.tape.trans a.tape,b.output.trans a.output,Nat.le_trans a.size b.size,?_,b.vis,?_,λx c=>(b.fz x (Nat.lt_of_lt_of_le c a.size)).trans (a.fz x c),Nat.le_trans a.dn b.dn⟩
 ·intro x c g
  have k:e x=none:=by
   cases hc:e x with
   |none=>rfl
   |some o =>
    have:=a.fresh x (by simp[hc])
    rcases this with d|d
    ·exact absurd g d
    ·omega
  rw[b.keep x (Nat.lt_of_lt_of_le c a.size) k,a.keep x c g]
 ·intro x c
  rcases b.fresh x c with d|d
  ·exact a.fresh x d
  ·exact .inr (Nat.le_trans a.size d)
theorem V2.none_of{h a:Hp}{w e:World}(m:V2 h w a e){b:Nat}(f:b<w.heap.size)(d:h b=none):a b=none:=by
 cases hc:a b with
 |none=>rfl
 |some o =>
  rcases m.fresh b (by simp[hc])with c|c
  ·exact absurd d c
  ·omega
theorem V2.drawn{h:Hp}{w:World}(c:Vis h w)(n:Nat)(b:w.drawn<=n):V2 h w h { w with drawn:=n } :=
 ⟨rfl,rfl,rfl,Nat.le_refl _,λ_ _ _=>rfl,c,λ_ a => .inl a,λ_ _=>rfl,b⟩
theorem V2.new{h:Hp}{w:World}(d:Vis h w)(o:Obj)(f:B0r o=true):V2 h w (h.set w.heap.size o) { w with heap:=w.heap.push o }:=by
 refine⟨rfl,rfl,rfl,by simp,?_,?_,?_,λx _=>?_,Nat.le_refl _⟩
 rotate_left 3
 ·by_cases e:x.block=w.heap.size
  ·rw[X01 (o:=o) (by simp[e]),K0n f,J0n (by simp[e])]
  ·exact f0b (by simp[Array.getElem?_push,e])
 ·intro b c _
  simp[Array.getElem?_push,Nat.ne_of_lt c]
 ·intro b x a
  by_cases e:b=w.heap.size
  ·subst e;simp[Hp.set]at a;subst a;simp
  ·rw[Hp.set_other h o e]at a
   have:=d b x a
   simp[Array.getElem?_push,e,this]
 ·intro b c
  by_cases e:b=w.heap.size
  ·right;omega
  ·left;rwa [Hp.set_other h o e]at c
theorem V2.upd{h:Hp}{w a:World}(m:Vis h w){b:Nat}{o c:Obj}(f:h b=some o)(t:∀ off,j01 c off=j01 o off)
  (p:a.os=w.os) (s:a.tape=w.tape) (q:a.output=w.output) (u:a.heap.size=w.heap.size)
  (l:a.heap[b]?=some c) (i:∀ k,k≠b->a.heap[k]?=w.heap[k]?) (n:w.drawn<=a.drawn:=by first|exact Nat.le_refl _|simp):V2 h w (h.set b c) a:=by
 refine⟨p,s,q,by omega,?_,?_,?_,λx _=>?_,n⟩
 rotate_left 3
 ·by_cases e:x.block=b
  ·rw[X01 (o:=c) (by rw[e];exact l),t,X01 (o:=o) (by rw[e];exact m _ _ f)]
  ·exact f0b (i _ e)
 ·intro k g j
  exact i k (λe=>by subst e;rw[f]at j;cases j)
 ·intro k x d
  by_cases e:k=b
  ·subst e;simp[Hp.set]at d;subst d;exact l
  ·rw[Hp.set_other h c e]at d
   rw[i k e];exact m k x d
 ·intro k g
  by_cases e:k=b
  ·subst e;exact .inl (by simp[f])
  ·rw[Hp.set_other h c e]at g;exact .inl g
def N02:Value->Prop
 | .agg _ | .tuple _=>False
 |_=>True
def h08:Obj->Bool
 | .cells ..=>true
 |_=>false
def u0h:Obj->Option (TypeId×Nat)
 | .cells c e _=>some (e,c.size)
 |_=>none
def wpS(P:Program){f:Type}:Sem f->Hp->(f->Hp->Prop)->Prop
 | .pure a,h,K=>K a h
 | .load _ a k,h,K=>∃ v,(a.spot=none/\Hp.cell h a.block a.off=some v)/\wpS P (k v) h K
 | .store _ a v k,h,K=>∃ c t d,(h a.block=some (.cells c t d)/\a.spot=none/\a.off<c.size/\(d.1<=a.off&&a.off<d.2)=false/\N02 v) /\
   wpS P k (h.set a.block (.cells (c.setIfInBounds a.off v) t d)) K
 | .new o k,h,K=>match B0r o with
  |true=>∀ b,h b=none->wpS P (k b) (h.set b o) K
  |false=>False
 | .shape r k,h,K=>∃ o,h r=some o/\wpS P (k (u0h o)) h K
 | .freeze _ _ _,_,_=>False
 | .frozen a k,h,K=>∃ o,h a.block=some o/\wpS P (k (j01 o a.off)) h K
 | .getObj r k,h,K=>∃ o,(h r=some o/\h08 o=false)/\wpS P (k o) h K
 | .setObj r o k,h,K=>∃ e,(h r=some e/\h08 e=false/\h08 o=false)/\wpS P k (h.set r o) K
 | .choose q k,h,K=>match q.forced with
  |true=>wpS P (k 0) h K
  |false=>∀ t,wpS P (k (q.cut t)) h K
 | .sys _ _,_,_=>False
 | .program k,h,K=>wpS P (k P) h K
 | .mark _ k,h,K=>wpS P k h K
 | .halt _,_,_=>False
theorem F05{h:Hp}{w:World}(f:Vis h w){a:Addr}{v:Value}(e:a.spot=none)(b:Hp.cell h a.block a.off=some v):w.cell? a=some v:=by
 unfold Hp.cell at b
 split at b
 ·rename_i c t g d
  simp[World.cell?,f _ _ d,e,b]
 ·cases b
theorem R9{P:Program}{I:Type}{K:I->Hp->Prop}(s:Sem I):∀(h:Hp) (w:World),Vis h w->wpS P s h K ->
  ∃ x g i,s.run P w = .ok x i/\K x g/\V2 h w g i:=by
 induction s with
 |pure a=>exact λh w f d=>⟨a,h,w,rfl,d,V2.refl f⟩
 |load m a k j =>
  rintro h w f ⟨v,⟨E,A⟩,d⟩
  obtain⟨x,g,i,p,u,l⟩:=j v h w f d
  exact⟨x,g,i,by simp[Sem.run,F05 f E A,p],u,l⟩
 |store m a v k j =>
  rintro h w f ⟨c,t,G,⟨H,E,D,N,J⟩,d⟩
  have C:=f _ _ H
  have L:w.cell? a=some (c[a.off]'D):=by simp[World.cell?,C,E,D]
  have M:w.frozen? a=false:=by
   unfold World.frozen?
   rw[C]
   exact N
  have O:(w.setCell a v).heap[a.block]?=some (.cells (c.setIfInBounds a.off v) t G):=by
   simp[World.setCell,Array.getElem?_modify,C,E]
  have y:V2 h w (h.set a.block (.cells (c.setIfInBounds a.off v) t G)) (w.setCell a v) :=
   V2.upd f H (λ_=>rfl) rfl rfl rfl (by simp[World.setCell]) O (λk d=>by
    simp only[World.setCell,Array.getElem?_modify]
    rw[if_neg (λe=>d e.symm)])
  obtain⟨x,g,i,p,u,l⟩:=j _ _ y.vis d
  refine⟨x,g,i,?_,u,y.trans l⟩
  cases v<;>simp only[N02]at J<;>simp[Sem.run,L,M,p]
 |new o k j =>
  intro h w f d
  have Q:h w.heap.size=none:=by
   cases A:h w.heap.size with
   |none=>rfl
   |some F=>exact absurd (f.lt (b:=w.heap.size) (by simp[A])) (Nat.lt_irrefl _)
  unfold wpS at d
  split at d
  rotate_left
  ·exact d.elim
  rename_i R
  have y:=V2.new f o R
  obtain⟨x,g,i,p,u,l⟩:=j _ _ _ y.vis (d _ Q)
  exact⟨x,g,i,p,u,y.trans l⟩
 |shape r k j =>
  rintro h w f ⟨o,z,d⟩
  obtain⟨x,g,i,p,u,l⟩:=j _ _ _ f d
  refine⟨x,g,i,?_,u,l⟩
  have:w.shape? r=u0h o:=by simp[World.shape?,f _ _ z];cases o<;>simp[u0h]
  simp[Sem.run,this,p]
 |freeze a n k j=>exact λh w f d=>d.elim
 |frozen a k j =>
  rintro h w f ⟨o,z,d⟩
  obtain⟨x,g,i,p,u,l⟩:=j _ _ _ f d
  refine⟨x,g,i,?_,u,l⟩
  have:w.frozen? a=j01 o a.off:=X01 (f _ _ z)
  simp[Sem.run,this,p]
 |getObj r k j =>
  rintro h w f ⟨o,⟨z,A⟩,d⟩
  obtain⟨x,g,i,p,u,l⟩:=j _ _ _ f d
  refine⟨x,g,i,?_,u,l⟩
  cases o<;>simp[h08]at A<;>simp[Sem.run,f _ _ z,p]
 |setObj r o k j =>
  rintro h w f ⟨F,⟨z,A,S⟩,d⟩
  have C:=f _ _ z
  have D:=f.lt (b:=r) (by simp[z])
  have y:V2 h w (h.set r o) { w with heap:=w.heap.setIfInBounds r o } :=
   V2.upd f z (λoff=>by cases o<;>cases F<;>simp_all [h08,j01]) rfl rfl rfl (by simp) (by simp[D]) (λk d=>by
    simp[Array.getElem?_setIfInBounds_ne (Ne.symm d)])
  obtain⟨x,g,i,p,u,l⟩:=j _ _ y.vis d
  refine⟨x,g,i,?_,u,y.trans l⟩
  cases F<;>simp[h08]at A<;>simp[Sem.run,C,p]
 |choose q k j =>
  intro h w f d
  unfold wpS at d
  cases hq:q.forced with
  |true =>
   rw[hq]at d
   obtain⟨x,g,i,p,u,l⟩:=j _ _ _ f d
   exact⟨x,g,i,by simp[Sem.run,hq,p],u,l⟩
  |false =>
   rw[hq]at d
   have y:=V2.drawn f (w.drawn+1) (Nat.le_succ _)
   obtain⟨x,g,i,p,u,l⟩:=j _ _ _ y.vis (d (w.tape w.drawn q))
   exact⟨x,g,i,by simp only[Sem.run,hq];exact p,u,y.trans l⟩
 |sys c k j=>exact λh w f d=>d.elim
 |program k j =>
  intro h w f d
  obtain⟨x,g,i,p,u,l⟩:=j _ _ _ f d
  exact⟨x,g,i,by simp[Sem.run,p],u,l⟩
 |mark m k j =>
  intro h w f d
  obtain⟨x,g,i,p,u,l⟩:=j _ _ f d
  exact⟨x,g,i,by simp[Sem.run,p],u,l⟩
 |halt x=>exact λh w f d=>d.elim
structure Tr (P:Program) (f:FuncId) (args:Array Value) (h:Hp) (T:Value->Hp->Prop):Prop where
 run:∀ w,Vis h w->Calls P f args w λe w'=>∃ v h',e = .returned v/\T v h'/\V2 h w h' w'
theorem Tr.mono{P:Program}{f:FuncId}{args:Array Value}{h:Hp}{b c:Value->Hp->Prop}(t:Tr P f args h b)(e:∀ v a,b v a->c v a):Tr P f args h c :=
 ⟨λw j=>(t.run w j).mono λ_ _ ⟨v,a,d,i,g⟩=>⟨v,a,d,e _ _ i,g⟩⟩
theorem aI{a b:Prop}(x:a)(y:b):a ∧ b:=⟨x,y⟩
theorem eX{α:Sort _}{p:α→Prop}(w:α)(h:p w):∃ x,p x:=⟨w,h⟩
theorem oB{α β:Type _}(a:α)(f:α→Option β):(some a).bind f=f a:=rfl
theorem nS(n:Nat):n<n+1:=Nat.lt_succ_self n
theorem mC{α:Type _}{a:α}(y:α){l:List α}(h:a∈l):a∈y::l:=List.mem_cons_of_mem y h
theorem mS{α:Type _}{a:α}{l:List α}:a∈a::l:=List.mem_cons_self ..
theorem iR(a:Int):a≤a:=Int.le_refl a
theorem oJ{α:Type _}{a b:α}(h:some a=some b):a=b:=Option.some.inj h
end Go.H
