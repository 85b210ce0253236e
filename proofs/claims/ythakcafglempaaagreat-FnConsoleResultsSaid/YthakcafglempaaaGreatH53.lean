/- Plain laws over the model: steps of a walk in few words. -/
import Derived.Test.YthakcafglempaaaGreatH35
import Derived.Test.YthakcafglempaaaGreatH41
namespace Go.H
set_option linter.all false
theorem w5{A B C D:Prop}{X Y Z:Nat->Prop}(m:Nat)(h:Z m)(x:X m:=by kernel_rfl)(y:Y m:=by kernel_rfl):A∨B∨C∨D∨∃ m,(X m/\Y m)/\Z m := .inr (.inr (.inr (.inr ⟨m,⟨x,y⟩,h⟩)))
theorem w4{A B C E X Y Z:Prop}(h:Z)(x:X:=by kernel_rfl)(y:Y:=by kernel_rfl):A∨B∨C∨((X/\Y)/\Z)∨E := .inr (.inr (.inr (.inl ⟨⟨x,y⟩,h⟩)))
theorem w3{A B E X Y Z:Prop}(h:Z)(x:X:=by kernel_rfl)(y:Y:=by kernel_rfl):A∨B∨((X/\Y)/\Z)∨E := .inr (.inr (.inl ⟨⟨x,y⟩,h⟩))
theorem w1{E X Y Z:Prop}(h:Z)(x:X:=by kernel_rfl)(y:Y:=by kernel_rfl):((X/\Y)/\Z)∨E := .inl ⟨⟨x,y⟩,h⟩
theorem wk{P:Program}{f:FuncId}{args:List Value}{h:Hp}{a:Value->Hp->Prop}(fn:Func)(b:n0s P fn args h a)(hf:P.funcs[f]?=some fn:=by exact rfl):Tr P f args.toArray h a:=j5 hf b
theorem wkF{P:Program}{f:FuncId}{args:List Value}{h:Hp}{x:Value}(fn:Func)(a:n0s P fn args h λv h'=>v=x/\Sub h h')(hf:P.funcs[f]?=some fn:=by exact rfl):Tr P f args.toArray h λv h'=>v=x/\h'=h := .forget (j5 hf a)
theorem slL{d:Type}{r:Wp d}{h:Hp}{cs:List Value}{xs:List d}(b:r.slice.R h cs xs):∃ a c,cs = [.slice a xs.length c]/\xs.length<=9223372036854775807:=by obtain⟨a,n,c,rfl⟩:=Wp.slice_cell b;obtain⟨rfl,l⟩:=Sl.len b;exact⟨a,c,rfl,l⟩
abbrev sF{b:Type}(r:Wp (List b))(x:List b)(v:Value)(d:Hp):Prop:=∃(a:Option Addr) (c:Nat),v = .slice a x.length c/\r.R d [.slice a x.length c] x/\x.length<=9223372036854775807
theorem fS{g:Type}(r:Wp (List g))(x:List g){A:Prop}{B C:(Value->Hp->Prop)->Prop}(b:B (sF r x))(d:C (sF r x)):A∨∃ f:Value->Hp->Prop,(∀ v b d,Sub b d->f v b->f v d)/\B f/\C f :=
 .inr ⟨sF r x,λv b d h ⟨a,c,e,q,l⟩=>⟨a,c,e,r.mono h q,l⟩,b,d⟩
theorem r3{d e f:Sort _}{a:d}{b:e}{c:f}:a=a/\b=b/\c=c:=⟨rfl,rfl,rfl⟩
theorem pm{a:Sort _}{p q:a->Prop}{B:Prop}(x:a)(b:p x)(c:q x):(∃ x,p x/\q x)∨B := .inl ⟨x,b,c⟩
theorem sr{h:Hp}:Sub h h:=Sub.refl h
def sL:=@Sl.len
def fL:=@F2.length
def fA:=@F2.append
def nP:=@New.pair
def nI:=@New.int
def nD:=@New.sndI
theorem kR{p:Prop}(h:p:=by kernel_rfl):p:=h
end Go.H
