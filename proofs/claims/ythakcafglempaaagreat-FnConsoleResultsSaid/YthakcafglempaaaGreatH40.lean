/- Plain laws over the model: slices of ints of which it is known whether they are nil. -/
import Derived.Test.YthakcafglempaaaGreatH35
namespace Go.H
set_option linter.all false
def Rp.opt:Rp (Option (List Int)) where
 sz:=1
 R:=λh cs o=>∃ a n c,cs = [.slice a n c]/\a.isNone=o.isNone/\U0t h (.slice a n c) (o.getD [])
 len:=by rintro h cs x ⟨a,n,c,rfl,_⟩;rfl
 one:=by rintro h cs x ⟨a,n,c,rfl,_⟩ v b;simp at b;rw[b];rfl
 mono:=by rintro h h' cs x f ⟨a,n,c,rfl,d,e⟩;exact⟨a,n,c,rfl,d,Sl.mono f e⟩
def Wp.opt:Wp (Option (List Int)) :=
 { Rp.opt with
  W:=λh cs o B=>∃ a n c,cs = [.slice a n c]/\a.isNone=o.isNone/\Wp.int.slice.W h [.slice a n c] (o.getD []) B
  toR:=λ⟨a,n,c,e,d,b⟩=>⟨a,n,c,e,d,Wp.int.slice.toR b⟩
  dom:=λ⟨a,n,c,e,d,b⟩=>Wp.int.slice.dom b
  frame:=λ⟨a,n,c,e,d,b⟩ hf=>⟨a,n,c,e,d,Wp.int.slice.frame b hf⟩ }
theorem l0A(h:Hp):∃ cs,Wp.opt.R h cs none:=⟨_,none,0,0,rfl,rfl,⟨_,0,0,[],rfl,rfl,Nat.zero_le _,⟨oS,none,0,0,rfl,rfl,Nat.le_refl _,.inl rfl⟩,trivial⟩⟩
theorem P0y(h:Hp):Wp.opt.R h [.slice none 0 0] none:=⟨none,0,0,rfl,rfl,⟨_,0,0,[],rfl,rfl,Nat.zero_le _,⟨oS,none,0,0,rfl,rfl,Nat.le_refl _,.inl rfl⟩,trivial⟩⟩
theorem Q0y{h:Hp}{g o n c:Nat}{xs:List Int}(r:U0t h (.slice (some ⟨g,o,none⟩) n c) xs):Wp.opt.R h [.slice (some ⟨g,o,none⟩) n c] (some xs):=⟨_,_,_,rfl,rfl,r⟩
theorem F2.ofOpt{h:Hp}:∀ {vs:LV} {xs:List (Option (List Int))},F2 (Wp.opt.R h) vs xs->F2 (Rp.int.slice.R h) vs (xs.map λo=>o.getD [])
 | [],[],_=>trivial
 |v::vs,x::xs,hf=>by obtain⟨⟨a,n,c,rfl,_,r⟩,b⟩:=hf;exact⟨r,F2.ofOpt b⟩
 | [],_::_,hf=>hf.elim
 |_::_,[],hf=>hf.elim
end Go.H
