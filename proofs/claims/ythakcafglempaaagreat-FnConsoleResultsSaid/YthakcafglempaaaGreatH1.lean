/- Plain laws over the model: the model's own monad run over a part of the heap. No program in sight. -/
import Derived.WalkKit
import Derived.Deep.Quiet
namespace Go.H
set_option linter.all false
abbrev LV:=List (List Value)
abbrev BA:=ByteArray
abbrev iV(x:Int):Value:=.int .i64 x
abbrev Hp:=Nat->Option Obj
def Hp.cell(h:Hp)(b o:Nat):Option Value:=match h b with
 |some (.cells c _ _)=>c[o]?
 |_=>none
def Hp.set(h:Hp)(b:Nat)(x:Obj):Hp:=λa=>if a=b then some x else h a
theorem Hp.set_same(h:Hp)(b:Nat)(x:Obj):(h.set b x) b=some x:=by simp[Hp.set]
theorem Hp.set_other(h:Hp){b a:Nat}(x:Obj)(c:a≠b):(h.set b x) a=h a:=by simp[Hp.set,c]
def Vis(h:Hp)(w:World):Prop:=∀ b o,h b=some o->w.heap[b]?=some o
structure T2 (h:Hp) (w:World) (h':Hp) (w':World):Prop where
 os:w'.os=w.os
 tape:w'.tape=w.tape
 output:w'.output=w.output
 size:w.heap.size<=w'.heap.size
 keep:∀ b,b<w.heap.size->h b=none->w'.heap[b]?=w.heap[b]?
 vis:Vis h' w'
 fresh:∀ b,h' b≠none->h b≠none∨w.heap.size<=b
 fz:∀ a:Addr,a.block<w.heap.size->w'.frozen? a=w.frozen? a
 dn:w.drawn<=w'.drawn
theorem Vis.lt{h:Hp}{w:World}(c:Vis h w){b:Nat}(a:h b≠none):b<w.heap.size:=by
 cases ho:h b with
 |none=>exact absurd ho a
 |some o=>exact(Array.getElem?_eq_some_iff.1 (c b o ho)).1
theorem k0g{w b:World}{a:Addr}(h:b.heap[a.block]?=w.heap[a.block]?):b.frozen? a=w.frozen? a:=by unfold World.frozen?;rw[h]
def H03(o:Obj)(off:Nat):Bool:=match o with
 | .cells _ _ (b,a)=>b<=off&&off<a
 |_=>false
theorem G04{w:World}{a:Addr}{o:Obj}(h:w.heap[a.block]?=some o):w.frozen? a=H03 o a.off:=by unfold World.frozen? H03;rw[h];cases o<;>rfl
theorem A0t{w:World}{a:Addr}(h:w.heap[a.block]?=none):w.frozen? a=false:=by unfold World.frozen?;rw[h]
def a0x:Obj->Bool
 | .cells _ _ (b,a)=>Nat.ble a b
 |_=>true
theorem B0t{o:Obj}(h:a0x o=true)(off:Nat):H03 o off=false:=by
 cases o with
 |cells c t a =>obtain⟨d,b⟩:=a;have:=Nat.le_of_ble_eq_true h;simp only[H03,Bool.and_eq_false_imp,decide_eq_true_eq,decide_eq_false_iff_not];omega
 |_=>rfl
theorem T2.refl{h:Hp}{w:World}(b:Vis h w):T2 h w h w :=
 ⟨rfl,rfl,rfl,Nat.le_refl _,λ_ _ _=>rfl,b,λ_ a => .inl a,λ_ _=>rfl,Nat.le_refl _⟩
theorem T2.trans{h d e:Hp}{w w1 g:World}(a:T2 h w d w1)(b:T2 d w1 e g):T2 h w e g:=by
 refine⟨b.os.trans a.os,b.tape.trans a.tape,b.output.trans a.output,Nat.le_trans a.size b.size,?_,b.vis,?_,λx c=>(b.fz x (Nat.lt_of_lt_of_le c a.size)).trans (a.fz x c),Nat.le_trans a.dn b.dn⟩
 ·intro x c f;have i:d x=none:=by
   cases hc:d x with
   |none=>rfl
   |some o =>
    have:=a.fresh x (by simp[hc]);rcases this with h'|h';·exact absurd f h'
    omega
  rw[b.keep x (Nat.lt_of_lt_of_le c a.size) i,a.keep x c f]
 intro x c;rcases b.fresh x c with h'|h';·exact a.fresh x h'
 exact .inr (Nat.le_trans a.size h')
theorem T2.none_of{h h':Hp}{w d:World}(m:T2 h w h' d){b:Nat}(e:b<w.heap.size)(c:h b=none):h' b=none:=by
 cases hc:h' b with
 |none=>rfl
 |some o =>
  rcases m.fresh b (by simp[hc])with a|a;·exact absurd c a
  omega
theorem T2.drawn{h:Hp}{w:World}(c:Vis h w)(n:Nat)(b:w.drawn<=n):T2 h w h { w with drawn:=n } :=
 ⟨rfl,rfl,rfl,Nat.le_refl _,λ_ _ _=>rfl,c,λ_ a => .inl a,λ_ _=>rfl,b⟩
theorem T2.new{h:Hp}{w:World}(d:Vis h w)(o:Obj)(f:a0x o=true):T2 h w (h.set w.heap.size o) { w with heap:=w.heap.push o }:=by
 refine⟨rfl,rfl,rfl,by simp,?_,?_,?_,λx _=>?_,Nat.le_refl _⟩;rotate_left 3
 ·by_cases e:x.block=w.heap.size;·rw[G04 (o:=o) (by simp[e]),B0t f,A0t (by simp[e])]
  exact k0g (by simp[Array.getElem?_push,e])
 ·intro b c _;simp[Array.getElem?_push,Nat.ne_of_lt c]
 ·intro b x a;by_cases e:b=w.heap.size;·subst e;simp[Hp.set]at a;subst a;simp
  rw[Hp.set_other h o e]at a;have:=d b x a;simp[Array.getElem?_push,e,this]
 intro b c;by_cases e:b=w.heap.size;·right;omega
 left;rwa [Hp.set_other h o e]at c
theorem T2.upd{h:Hp}{w a:World}(m:Vis h w){b:Nat}{o c:Obj}(f:h b=some o)(t:∀ off,H03 c off=H03 o off) (p:a.os=w.os) (s:a.tape=w.tape) (q:a.output=w.output) (u:a.heap.size=w.heap.size) (l:a.heap[b]?=some c) (i:∀ k,k≠b->a.heap[k]?=w.heap[k]?) (n:w.drawn<=a.drawn:=by first|exact Nat.le_refl _|simp):T2 h w (h.set b c) a:=by
 refine⟨p,s,q,by omega,?_,?_,?_,λx _=>?_,n⟩;rotate_left 3
 ·by_cases e:x.block=b;·rw[G04 (o:=c) (by rw[e];exact l),t,G04 (o:=o) (by rw[e];exact m _ _ f)]
  exact k0g (i _ e)
 ·intro k g j;exact i k (λe=>by subst e;rw[f]at j;cases j)
 ·intro k x d;by_cases e:k=b;·subst e;simp[Hp.set]at d;subst d;exact l
  rw[Hp.set_other h c e]at d;rw[i k e];exact m k x d
 intro k g;by_cases e:k=b;·subst e;exact .inl (by simp[f])
 rw[Hp.set_other h c e]at g;exact .inl g
def T06:Value->Prop
 | .agg _ | .tuple _=>False
 |_=>True
def D0c:Obj->Bool
 | .cells ..=>true
 |_=>false
def J0m:Obj->Option (TypeId×Nat)
 | .cells c e _=>some (e,c.size)
 |_=>none
def wpS(P:Program){f:Type}:Sem f->Hp->(f->Hp->Prop)->Prop
 | .pure a,h,K=>K a h
 | .load _ a k,h,K=>∃ v,(a.spot=none/\Hp.cell h a.block a.off=some v)/\wpS P (k v) h K
 | .store _ a v k,h,K=>∃ c t d,(h a.block=some (.cells c t d)/\a.spot=none/\a.off<c.size/\(d.1<=a.off&&a.off<d.2)=false/\T06 v) /\
   wpS P k (h.set a.block (.cells (c.setIfInBounds a.off v) t d)) K
 | .new o k,h,K=>match a0x o with
  |true=>∀ b,h b=none->wpS P (k b) (h.set b o) K
  |false=>False
 | .shape r k,h,K=>∃ o,h r=some o/\wpS P (k (J0m o)) h K
 | .freeze _ _ _,_,_=>False
 | .frozen a k,h,K=>∃ o,h a.block=some o/\wpS P (k (H03 o a.off)) h K
 | .getObj r k,h,K=>∃ o,(h r=some o/\D0c o=false)/\wpS P (k o) h K
 | .setObj r o k,h,K=>∃ e,(h r=some e/\D0c e=false/\D0c o=false)/\wpS P k (h.set r o) K
 | .choose q k,h,K=>match q.forced with
  |true=>wpS P (k 0) h K
  |false=>∀ t,wpS P (k (q.cut t)) h K
 | .sys _ _,_,_=>False
 | .program k,h,K=>wpS P (k P) h K
 | .mark _ k,h,K=>wpS P k h K
 | .halt _,_,_=>False
theorem E09{h:Hp}{w:World}(f:Vis h w){a:Addr}{v:Value}(e:a.spot=none)(b:Hp.cell h a.block a.off=some v):w.cell? a=some v:=by
 unfold Hp.cell at b;split at b;·rename_i c t g d;simp[World.cell?,f _ _ d,e,b]
 cases b
theorem P01{P:Program}{H:Type}{K:H->Hp->Prop}(E:Sem H):∀(h:Hp) (w:World),Vis h w->wpS P E h K -> ∃ x h' g,E.run P w = .ok x g/\K x h'/\T2 h w h' g:=by
 induction E with
 |pure a=>exact λh w f d=>⟨a,h,w,rfl,d,T2.refl f⟩
 |load m a k i =>rintro h w f ⟨v,⟨C,y⟩,d⟩;obtain⟨x,h',g,l,p,j⟩:=i v h w f d;exact⟨x,h',g,by simp[Sem.run,E09 f C y,l],p,j⟩
 |store m a v k i =>
  rintro h w f ⟨c,t,F,⟨G,C,A,M,I⟩,d⟩;have z:=f _ _ G;have J:w.cell? a=some (c[a.off]'A):=by simp[World.cell?,z,C,A]
  have L:w.frozen? a=false:=by unfold World.frozen?;rw[z];exact M
  have N:(w.setCell a v).heap[a.block]?=some (.cells (c.setIfInBounds a.off v) t F):=by simp[World.setCell,Array.getElem?_modify,z,C]
  have s:T2 h w (h.set a.block (.cells (c.setIfInBounds a.off v) t F)) (w.setCell a v) :=
   T2.upd f G (λ_=>rfl) rfl rfl rfl (by simp[World.setCell]) N (λk d=>by
    simp only[World.setCell,Array.getElem?_modify]
    rw[if_neg (λe=>d e.symm)])
  obtain⟨x,h',g,l,p,j⟩:=i _ _ s.vis d;refine⟨x,h',g,?_,p,s.trans j⟩;cases v<;>simp only[T06]at I<;>simp[Sem.run,J,L,l]
 |new o k i =>
  intro h w f d;have O:h w.heap.size=none:=by
   cases y:h w.heap.size with
   |none=>rfl
   |some D=>exact absurd (f.lt (b:=w.heap.size) (by simp[y])) (Nat.lt_irrefl _)
  unfold wpS at d;split at d;rotate_left;·exact d.elim
  rename_i Q;have s:=T2.new f o Q;obtain⟨x,h',g,l,p,j⟩:=i _ _ _ s.vis (d _ O);exact⟨x,h',g,l,p,s.trans j⟩
 |shape r k i =>
  rintro h w f ⟨o,u,d⟩;obtain⟨x,h',g,l,p,j⟩:=i _ _ _ f d;refine⟨x,h',g,?_,p,j⟩;have:w.shape? r=J0m o:=by simp[World.shape?,f _ _ u];cases o<;>simp[J0m]
  simp[Sem.run,this,l]
 |freeze a n k i=>exact λh w f d=>d.elim
 |frozen a k i =>rintro h w f ⟨o,u,d⟩;obtain⟨x,h',g,l,p,j⟩:=i _ _ _ f d;refine⟨x,h',g,?_,p,j⟩;have:w.frozen? a=H03 o a.off:=G04 (f _ _ u);simp[Sem.run,this,l]
 |getObj r k i =>rintro h w f ⟨o,⟨u,y⟩,d⟩;obtain⟨x,h',g,l,p,j⟩:=i _ _ _ f d;refine⟨x,h',g,?_,p,j⟩;cases o<;>simp[D0c]at y<;>simp[Sem.run,f _ _ u,l]
 |setObj r o k i =>
  rintro h w f ⟨D,⟨u,y,R⟩,d⟩;have z:=f _ _ u;have A:=f.lt (b:=r) (by simp[u]);have s:T2 h w (h.set r o) { w with heap:=w.heap.setIfInBounds r o } :=
   T2.upd f u (λoff=>by cases o<;>cases D<;>simp_all [D0c,H03]) rfl rfl rfl (by simp) (by simp[A]) (λk d=>by
    simp[Array.getElem?_setIfInBounds_ne (Ne.symm d)])
  obtain⟨x,h',g,l,p,j⟩:=i _ _ s.vis d;refine⟨x,h',g,?_,p,s.trans j⟩;cases D<;>simp[D0c]at y<;>simp[Sem.run,z,l]
 |choose q k i =>
  intro h w f d;unfold wpS at d;cases hq:q.forced;·rw[hq]at d;have s:=T2.drawn f (w.drawn+1) (Nat.le_succ _);obtain⟨x,h',g,l,p,j⟩:=i _ _ _ s.vis (d (w.tape w.drawn q));exact⟨x,h',g,by simp only[Sem.run,hq];exact l,p,s.trans j⟩
  rw[hq]at d;obtain⟨x,h',g,l,p,j⟩:=i _ _ _ f d;exact⟨x,h',g,by simp[Sem.run,hq,l],p,j⟩
 |sys c k i=>exact λh w f d=>d.elim
 |program k i =>intro h w f d;obtain⟨x,h',g,l,p,j⟩:=i _ _ _ f d;exact⟨x,h',g,by simp[Sem.run,l],p,j⟩
 |mark m k i =>intro h w f d;obtain⟨x,h',g,l,p,j⟩:=i _ _ f d;exact⟨x,h',g,by simp[Sem.run,l],p,j⟩
 |halt x=>exact λh w f d=>d.elim
structure Tr (P:Program) (f:FuncId) (args:Array Value) (h:Hp) (T:Value->Hp->Prop):Prop where
 run:∀ w,Vis h w->Calls P f args w λe w'=>∃ v h',e = .returned v/\T v h'/\T2 h w h' w'
theorem Tr.mono{P:Program}{f:FuncId}{args:Array Value}{h:Hp}{a b:Value->Hp->Prop}(t:Tr P f args h a)(d:∀ v h',a v h'->b v h'):Tr P f args h b :=
 ⟨λw i=>(t.run w i).mono λ_ _ ⟨v,h',c,g,e⟩=>⟨v,h',c,d _ _ g,e⟩⟩
theorem aT{a b c:Prop}(h:c)(x:a:=by exact trivial)(y:b:=by first|exact trivial|exact rfl):a ∧ b ∧ c:=⟨x,y,h⟩
def iP:=@if_pos
def iE:=@if_neg
def dE:=@decide_eq_true_eq
def bT:=@Bool.not_true
def bF:=@Bool.not_false
def fT:=@Bool.false_eq_true
def aE:=@Bool.and_eq_true
def zF:=@cond_false
def cT:=@cond_true
def lA:=@List.length_append
def lS:=@List.length_singleton
def lC:=@List.length_cons
def mG:=@List.mem_of_getElem?
def gI:=@List.getElem?_eq_some_iff
def mE:=@List.mem_cons
def dZ:=@List.drop_zero
def gG:=@List.getElem?_eq_getElem
def nA:=@List.nil_append
def dF:=@decide_eq_false
def dT:=@decide_eq_true
def lN:=@List.length_nil
def iN:=@Int.toNat_natCast
theorem aI{a b:Prop}(x:a)(y:b):a ∧ b:=⟨x,y⟩
theorem eX{α:Sort _}{p:α→Prop}(w:α)(h:p w):∃ x,p x:=⟨w,h⟩
theorem oB{α β:Type _}(a:α)(f:α→Option β):(some a).bind f=f a:=rfl
theorem nS(n:Nat):n<n+1:=Nat.lt_succ_self n
theorem mC{α:Type _}{a:α}(y:α){l:List α}(h:a∈l):a∈y::l:=List.mem_cons_of_mem y h
theorem mS{α:Type _}{a:α}{l:List α}:a∈a::l:=List.mem_cons_self ..
theorem iR(a:Int):a≤a:=Int.le_refl a
theorem oM{p:Prop}(h:p:=by omega):p:=h
theorem oD{p:Prop}(h:p:=by decide):p:=h
theorem oS{p:Prop}(h:p:=by simp):p:=h
theorem oG{p:Prop}(h:p:=by grind):p:=h
theorem oJ{α:Type _}{a b:α}(h:some a=some b):a=b:=Option.some.inj h
end Go.H
