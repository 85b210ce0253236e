/- Plain laws over the model: the model's own monad run over a part of the heap. No program in sight. -/
import Derived.WalkKit
import Derived.Deep.Quiet
namespace Go.H
set_option linter.unusedVariables false
abbrev Hp:=Nat->Option Obj
def Hp.cell(h:Hp)(b o:Nat):Option Value:=match h b with
 |some (.cells c _ _)=>c[o]?
 |_=>none
def Hp.set(h:Hp)(b:Nat)(x:Obj):Hp:=λb'=>if b'=b then some x else h b'
theorem Hp.set_same(h:Hp)(b:Nat)(x:Obj):(h.set b x) b=some x:=by simp[Hp.set]
theorem Hp.set_other(h:Hp){b b':Nat}(x:Obj)(hne:b'≠b):(h.set b x) b'=h b':=by simp[Hp.set,hne]
def Vis(h:Hp)(w:World):Prop:=∀ b o,h b=some o->w.heap[b]?=some o
structure P2 (h:Hp) (w:World) (h':Hp) (w':World):Prop where
 os:w'.os=w.os
 tape:w'.tape=w.tape
 output:w'.output=w.output
 size:w.heap.size<=w'.heap.size
 keep:∀ b,b<w.heap.size->h b=none->w'.heap[b]?=w.heap[b]?
 vis:Vis h' w'
 fresh:∀ b,h' b≠none->h b≠none∨w.heap.size<=b
 fz:∀ a:Addr,a.block<w.heap.size->w'.frozen? a=w.frozen? a
 dn:w.drawn<=w'.drawn
theorem Vis.lt{h:Hp}{w:World}(hv:Vis h w){b:Nat}(hb:h b≠none):b<w.heap.size:=by
 cases ho:h b with
 |none=>exact absurd ho hb
 |some o=>exact(Array.getElem?_eq_some_iff.1 (hv b o ho)).1
theorem D0a{w w':World}{a:Addr}(h:w'.heap[a.block]?=w.heap[a.block]?):w'.frozen? a=w.frozen? a:=by
 unfold World.frozen?
 rw[h]
def e01(o:Obj)(off:Nat):Bool:=match o with
 | .cells _ _ (lo,hi)=>lo<=off&&off<hi
 |_=>false
theorem W01{w:World}{a:Addr}{o:Obj}(h:w.heap[a.block]?=some o):w.frozen? a=e01 o a.off:=by
 unfold World.frozen? e01
 rw[h]
 cases o<;>rfl
theorem z0m{w:World}{a:Addr}(h:w.heap[a.block]?=none):w.frozen? a=false:=by
 unfold World.frozen?
 rw[h]
def Y0p:Obj->Bool
 | .cells _ _ (lo,hi)=>Nat.ble hi lo
 |_=>true
theorem A0m{o:Obj}(h:Y0p o=true)(off:Nat):e01 o off=false:=by
 cases o with
 |cells c t fz =>
  obtain⟨lo,hi⟩:=fz
  have:=Nat.le_of_ble_eq_true h
  simp only[e01,Bool.and_eq_false_imp,decide_eq_true_eq,decide_eq_false_iff_not]
  omega
 |_=>rfl
theorem P2.refl{h:Hp}{w:World}(hv:Vis h w):P2 h w h w :=
 ⟨rfl,rfl,rfl,Nat.le_refl _,λ_ _ _=>rfl,hv,λ_ hb => .inl hb,λ_ _=>rfl,Nat.le_refl _⟩
theorem P2.trans{h h1 h2:Hp}{w w1 w2:World}(a:P2 h w h1 w1)(b:P2 h1 w1 h2 w2):P2 h w h2 w2:=by
 refine⟨b.os.trans a.os,b.tape.trans a.tape,b.output.trans a.output,Nat.le_trans a.size b.size,?_,b.vis,?_,λx hx=>(b.fz x (Nat.lt_of_lt_of_le hx a.size)).trans (a.fz x hx),Nat.le_trans a.dn b.dn⟩
 ·intro x hx hn
  have h1n:h1 x=none:=by
   cases hc:h1 x with
   |none=>rfl
   |some o =>
    have:=a.fresh x (by simp[hc])
    rcases this with h'|h'
    ·exact absurd hn h'
    ·omega
  rw[b.keep x (Nat.lt_of_lt_of_le hx a.size) h1n,a.keep x hx hn]
 ·intro x hx
  rcases b.fresh x hx with h'|h'
  ·exact a.fresh x h'
  ·exact .inr (Nat.le_trans a.size h')
theorem P2.none_of{h h':Hp}{w w':World}(m:P2 h w h' w'){b:Nat}(hb:b<w.heap.size)(hn:h b=none):h' b=none:=by
 cases hc:h' b with
 |none=>rfl
 |some o =>
  rcases m.fresh b (by simp[hc])with h1|h1
  ·exact absurd hn h1
  ·omega
theorem P2.drawn{h:Hp}{w:World}(hv:Vis h w)(n:Nat)(hn:w.drawn<=n):P2 h w h { w with drawn:=n } :=
 ⟨rfl,rfl,rfl,Nat.le_refl _,λ_ _ _=>rfl,hv,λ_ hb => .inl hb,λ_ _=>rfl,hn⟩
theorem P2.new{h:Hp}{w:World}(hv:Vis h w)(o:Obj)(hz:Y0p o=true):P2 h w (h.set w.heap.size o) { w with heap:=w.heap.push o }:=by
 refine⟨rfl,rfl,rfl,by simp,?_,?_,?_,λx _=>?_,Nat.le_refl _⟩
 rotate_left 3
 ·by_cases e:x.block=w.heap.size
  ·rw[W01 (o:=o) (by simp[e]),A0m hz,z0m (by simp[e])]
  ·exact D0a (by simp[Array.getElem?_push,e])
 ·intro b hb _
  simp[Array.getElem?_push,Nat.ne_of_lt hb]
 ·intro b x hx
  by_cases e:b=w.heap.size
  ·subst e;simp[Hp.set]at hx;subst hx;simp
  ·rw[Hp.set_other h o e]at hx
   have:=hv b x hx
   simp[Array.getElem?_push,e,this]
 ·intro b hb
  by_cases e:b=w.heap.size
  ·right;omega
  ·left;rwa [Hp.set_other h o e]at hb
theorem P2.upd{h:Hp}{w w':World}(hv:Vis h w){b:Nat}{o o':Obj}(hb:h b=some o)(hz:∀ off,e01 o' off=e01 o off)
  (hos:w'.os=w.os) (ht:w'.tape=w.tape) (hout:w'.output=w.output) (hsz:w'.heap.size=w.heap.size)
  (hsame:w'.heap[b]?=some o') (hoth:∀ k,k≠b->w'.heap[k]?=w.heap[k]?) (hdn:w.drawn<=w'.drawn:=by first|exact Nat.le_refl _|simp):P2 h w (h.set b o') w':=by
 refine⟨hos,ht,hout,by omega,?_,?_,?_,λx _=>?_,hdn⟩
 rotate_left 3
 ·by_cases e:x.block=b
  ·rw[W01 (o:=o') (by rw[e];exact hsame),hz,W01 (o:=o) (by rw[e];exact hv _ _ hb)]
  ·exact D0a (hoth _ e)
 ·intro k hk hn
  exact hoth k (λe=>by subst e;rw[hb]at hn;cases hn)
 ·intro k x hx
  by_cases e:k=b
  ·subst e;simp[Hp.set]at hx;subst hx;exact hsame
  ·rw[Hp.set_other h o' e]at hx
   rw[hoth k e];exact hv k x hx
 ·intro k hk
  by_cases e:k=b
  ·subst e;exact .inl (by simp[hb])
  ·rw[Hp.set_other h o' e]at hk;exact .inl hk
def I02:Value->Prop
 | .agg _ | .tuple _=>False
 |_=>True
def L07:Obj->Bool
 | .cells ..=>true
 |_=>false
def F0g:Obj->Option (TypeId×Nat)
 | .cells c e _=>some (e,c.size)
 |_=>none
def wpS(P:Program){α:Type}:Sem α->Hp->(α->Hp->Prop)->Prop
 | .pure a,h,K=>K a h
 | .load _ a k,h,K=>∃ v,(a.spot=none/\Hp.cell h a.block a.off=some v)/\wpS P (k v) h K
 | .store _ a v k,h,K=>∃ c t fz,(h a.block=some (.cells c t fz)/\a.spot=none/\a.off<c.size/\(fz.1<=a.off&&a.off<fz.2)=false/\I02 v) /\
   wpS P k (h.set a.block (.cells (c.setIfInBounds a.off v) t fz)) K
 | .new o k,h,K=>match Y0p o with
  |true=>∀ b,h b=none->wpS P (k b) (h.set b o) K
  |false=>False
 | .shape r k,h,K=>∃ o,h r=some o/\wpS P (k (F0g o)) h K
 | .freeze _ _ _,_,_=>False
 | .frozen a k,h,K=>∃ o,h a.block=some o/\wpS P (k (e01 o a.off)) h K
 | .getObj r k,h,K=>∃ o,(h r=some o/\L07 o=false)/\wpS P (k o) h K
 | .setObj r o k,h,K=>∃ o',(h r=some o'/\L07 o'=false/\L07 o=false)/\wpS P k (h.set r o) K
 | .choose q k,h,K=>match q.forced with
  |true=>wpS P (k 0) h K
  |false=>∀ t,wpS P (k (q.cut t)) h K
 | .sys _ _,_,_=>False
 | .program k,h,K=>wpS P (k P) h K
 | .mark _ k,h,K=>wpS P k h K
 | .halt _,_,_=>False
theorem u05{h:Hp}{w:World}(hv:Vis h w){a:Addr}{v:Value}(hs:a.spot=none)(hc:Hp.cell h a.block a.off=some v):w.cell? a=some v:=by
 unfold Hp.cell at hc
 split at hc
 ·rename_i c t fz ho
  simp[World.cell?,hv _ _ ho,hs,hc]
 ·cases hc
theorem J9{P:Program}{α:Type}{K:α->Hp->Prop}(s:Sem α):∀(h:Hp) (w:World),Vis h w->wpS P s h K ->
  ∃ x h' w',s.run P w = .ok x w'/\K x h'/\P2 h w h' w':=by
 induction s with
 |pure a=>exact λh w hv hk=>⟨a,h,w,rfl,hk,P2.refl hv⟩
 |load m a k ih =>
  rintro h w hv ⟨v,⟨hs,hc⟩,hk⟩
  obtain⟨x,h',w',hr,hx,hm⟩:=ih v h w hv hk
  exact⟨x,h',w',by simp[Sem.run,u05 hv hs hc,hr],hx,hm⟩
 |store m a v k ih =>
  rintro h w hv ⟨c,t,fz,⟨hb,hs,hlt,hfz,h1⟩,hk⟩
  have hw:=hv _ _ hb
  have hcell:w.cell? a=some (c[a.off]'hlt):=by simp[World.cell?,hw,hs,hlt]
  have hfr:w.frozen? a=false:=by
   unfold World.frozen?
   rw[hw]
   exact hfz
  have hheap:(w.setCell a v).heap[a.block]?=some (.cells (c.setIfInBounds a.off v) t fz):=by
   simp[World.setCell,Array.getElem?_modify,hw,hs]
  have hm1:P2 h w (h.set a.block (.cells (c.setIfInBounds a.off v) t fz)) (w.setCell a v) :=
   P2.upd hv hb (λ_=>rfl) rfl rfl rfl (by simp[World.setCell]) hheap (λk hk=>by
    simp only[World.setCell,Array.getElem?_modify]
    rw[if_neg (λe=>hk e.symm)])
  obtain⟨x,h',w',hr,hx,hm⟩:=ih _ _ hm1.vis hk
  refine⟨x,h',w',?_,hx,hm1.trans hm⟩
  cases v<;>simp only[I02]at h1<;>simp[Sem.run,hcell,hfr,hr]
 |new o k ih =>
  intro h w hv hk
  have hn:h w.heap.size=none:=by
   cases hc:h w.heap.size with
   |none=>rfl
   |some o'=>exact absurd (hv.lt (b:=w.heap.size) (by simp[hc])) (Nat.lt_irrefl _)
  unfold wpS at hk
  split at hk
  rotate_left
  ·exact hk.elim
  rename_i hz
  have hm1:=P2.new hv o hz
  obtain⟨x,h',w',hr,hx,hm⟩:=ih _ _ _ hm1.vis (hk _ hn)
  exact⟨x,h',w',hr,hx,hm1.trans hm⟩
 |shape r k ih =>
  rintro h w hv ⟨o,ho,hk⟩
  obtain⟨x,h',w',hr,hx,hm⟩:=ih _ _ _ hv hk
  refine⟨x,h',w',?_,hx,hm⟩
  have:w.shape? r=F0g o:=by simp[World.shape?,hv _ _ ho];cases o<;>simp[F0g]
  simp[Sem.run,this,hr]
 |freeze a n k ih=>exact λh w hv hk=>hk.elim
 |frozen a k ih =>
  rintro h w hv ⟨o,ho,hk⟩
  obtain⟨x,h',w',hr,hx,hm⟩:=ih _ _ _ hv hk
  refine⟨x,h',w',?_,hx,hm⟩
  have:w.frozen? a=e01 o a.off:=W01 (hv _ _ ho)
  simp[Sem.run,this,hr]
 |getObj r k ih =>
  rintro h w hv ⟨o,⟨ho,hc⟩,hk⟩
  obtain⟨x,h',w',hr,hx,hm⟩:=ih _ _ _ hv hk
  refine⟨x,h',w',?_,hx,hm⟩
  cases o<;>simp[L07]at hc<;>simp[Sem.run,hv _ _ ho,hr]
 |setObj r o k ih =>
  rintro h w hv ⟨o',⟨ho,hc,hc2⟩,hk⟩
  have hw:=hv _ _ ho
  have hlt:=hv.lt (b:=r) (by simp[ho])
  have hm1:P2 h w (h.set r o) { w with heap:=w.heap.setIfInBounds r o } :=
   P2.upd hv ho (λoff=>by cases o<;>cases o'<;>simp_all [L07,e01]) rfl rfl rfl (by simp) (by simp[hlt]) (λk hk=>by
    simp[Array.getElem?_setIfInBounds_ne (Ne.symm hk)])
  obtain⟨x,h',w',hr,hx,hm⟩:=ih _ _ hm1.vis hk
  refine⟨x,h',w',?_,hx,hm1.trans hm⟩
  cases o'<;>simp[L07]at hc<;>simp[Sem.run,hw,hr]
 |choose q k ih =>
  intro h w hv hk
  unfold wpS at hk
  cases hq:q.forced with
  |true =>
   rw[hq]at hk
   obtain⟨x,h',w',hr,hx,hm⟩:=ih _ _ _ hv hk
   exact⟨x,h',w',by simp[Sem.run,hq,hr],hx,hm⟩
  |false =>
   rw[hq]at hk
   have hm1:=P2.drawn hv (w.drawn+1) (Nat.le_succ _)
   obtain⟨x,h',w',hr,hx,hm⟩:=ih _ _ _ hm1.vis (hk (w.tape w.drawn q))
   exact⟨x,h',w',by simp only[Sem.run,hq];exact hr,hx,hm1.trans hm⟩
 |sys c k ih=>exact λh w hv hk=>hk.elim
 |program k ih =>
  intro h w hv hk
  obtain⟨x,h',w',hr,hx,hm⟩:=ih _ _ _ hv hk
  exact⟨x,h',w',by simp[Sem.run,hr],hx,hm⟩
 |mark m k ih =>
  intro h w hv hk
  obtain⟨x,h',w',hr,hx,hm⟩:=ih _ _ hv hk
  exact⟨x,h',w',by simp[Sem.run,hr],hx,hm⟩
 |halt x=>exact λh w hv hk=>hk.elim
structure Tr (P:Program) (f:FuncId) (args:Array Value) (h:Hp) (T:Value->Hp->Prop):Prop where
 run:∀ w,Vis h w->Calls P f args w λe w'=>∃ v h',e = .returned v/\T v h'/\P2 h w h' w'
theorem Tr.mono{P:Program}{f:FuncId}{args:Array Value}{h:Hp}{T T':Value->Hp->Prop}(t:Tr P f args h T)(hi:∀ v h',T v h'->T' v h'):Tr P f args h T' :=
 ⟨λw hv=>(t.run w hv).mono λ_ _ ⟨v,h',he,ht,hm⟩=>⟨v,h',he,hi _ _ ht,hm⟩⟩
theorem aI{a b:Prop}(x:a)(y:b):a ∧ b:=⟨x,y⟩
theorem eX{α:Sort _}{p:α→Prop}(w:α)(h:p w):∃ x,p x:=⟨w,h⟩
theorem oB{α β:Type _}(a:α)(f:α→Option β):(some a).bind f=f a:=rfl
theorem nS(n:Nat):n<n+1:=Nat.lt_succ_self n
theorem mC{α:Type _}{a:α}(y:α){l:List α}(h:a∈l):a∈y::l:=List.mem_cons_of_mem y h
theorem mS{α:Type _}{a:α}{l:List α}:a∈a::l:=List.mem_cons_self ..
theorem iR(a:Int):a≤a:=Int.le_refl a
theorem oJ{α:Type _}{a b:α}(h:some a=some b):a=b:=Option.some.inj h
end Go.H
