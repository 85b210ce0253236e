/- Plain laws over the model: a struct behind a pointer whose cells calls change, and the heap without it. -/
import Derived.Test.YthakcafglempaaaGreatH45
namespace Go.H
set_option linter.all false
def Hp.drop(h:Hp)(k:Nat):Hp:=λb=>if b=k then none else h b
theorem Hp.dropS(h:Hp)(k:Nat):Sub (h.drop k) h:=λb o e=>by
 unfold Hp.drop at e;by_cases c:b=k;·rw[if_pos c]at e;cases e
 rwa [if_neg c]at e
theorem Hp.dropN(h:Hp)(k:Nat):h.drop k k=none:=if_pos rfl
theorem Sub.drop{h a:Hp}(k:Nat)(d:Sub h a):Sub (h.drop k) (a.drop k):=λb o e=>by
 unfold Hp.drop at e ⊢;by_cases c:b=k;·rw[if_pos c]at e;cases e
 rw[if_neg c]at e ⊢;exact d b o e
theorem Hp.dropSet(h:Hp)(k:Nat)(o:Obj):(h.set k o).drop k=h.drop k:=by
 funext b;unfold Hp.drop;by_cases c:b=k;·rw[if_pos c,if_pos c]
 rw[if_neg c,if_neg c,Hp.set_other _ _ c]
theorem Sub.dropSet{h a:Hp}{k:Nat}{o:Obj}(b:Sub (h.set k o) a):Sub (h.drop k) (a.drop k):=Hp.dropSet h k o▸Sub.drop k b
theorem Hp.setS(h:Hp)(k:Nat)(o:Obj):Sub (h.drop k) (h.set k o):=Hp.dropSet h k o▸Hp.dropS (h.set k o) k
theorem New.dropB{a:Type}{r:Wp a}{h h':Hp}{cs:List Value}{x:a}{k:Nat}{o:Obj}(w:New r h h' cs x)(d:h k=some o):r.R (h'.drop k) cs x :=
 let ⟨B,hw,hf,_⟩:=w
 r.toR (r.frame hw λb c=>if_neg λe=>by subst e;have:=hf.2 b c;rw[d]at this;cases this)
theorem Sub.setD{h a:Hp}{k:Nat}{o:Obj}(d:h k=none)(f:Sub (h.set k o) a):Sub h (a.drop k):=λb x e=>by
 have c:b≠k:=λc=>by subst c;rw[d]at e;cases e
 show(if b=k then none else a b)=some x;rw[if_neg c];exact f b x (by rw[Hp.set_other h o c];exact e)
theorem E0q{P:Program}{a:Type}{m:Sem a}{h h':Hp}{K:a->Hp->Prop}(e:h=h')(w:wpS P m h' K):wpS P m h K:=e▸w
theorem Hp.set2{h:Hp}{k:Nat}(x y:Obj):(h.set k x).set k y=h.set k y:=by
 funext b;unfold Hp.set;by_cases c:b=k;·rw[if_pos c,if_pos c]
 rw[if_neg c,if_neg c,if_neg c]
theorem Hp.setN{h:Hp}{k:Nat}{o:Obj}(a:h k=none):Sub h ((h.set k o).drop k):=λb x e=>by
 rw[Hp.dropSet];unfold Hp.drop;by_cases c:b=k;·subst c;rw[a]at e;cases e
 rw[if_neg c];exact e
theorem Hp.dropE{h:Hp}{k:Nat}{o:Obj}(a:h k=some o):h=(h.drop k).set k o:=by
 funext b;show h b=if b=k then some o else if b=k then none else h b
 by_cases c:b=k;·rw[if_pos c,c,a]
 rw[if_neg c,if_neg c]
theorem Tr.besideD{P:Program}{f:FuncId}{args:Array Value}{h:Hp}{k:Nat}{o:Obj}{a K:Value->Hp->Prop}(c:h k=some o)(t:Tr P f args (h.drop k) a)(b:∀ v h',a v h'->h' k=none->K v (h'.set k o)):Tr P f args h K:=by rw[Hp.dropE c];exact Tr.beside (Hp.dropN h k) t b
end Go.H
