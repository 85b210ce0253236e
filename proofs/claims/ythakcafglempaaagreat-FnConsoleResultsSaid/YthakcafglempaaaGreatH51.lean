/- Plain laws over the model: a slice of bytes holds numbers from 0 to 255. -/
import Derived.Test.YthakcafglempaaaGreatH49
namespace Go.H
set_option linter.all false
def Rp.u8b:Rp Int:=⟨1,λ_ cs x=>cs = [.int .u8 x]/\0<=x/\x<256,λh=>by rw[h.1];rfl,λh v a=>by rw[h.1]at a;simp at a;rw[a];rfl,λ_ h=>h⟩
theorem a05.u8b{P:Program}{t:TypeId}(a:P.underlying t=some (.int .u8)):a05 P t Rp.u8b:=by
 intro H enc w base e d n cs x c;obtain⟨k,rfl,_,b⟩:=DataW.trod_int a c;have h:0<=k/\k<=255:=by simpa [Lit.wf,IntKind.min,IntKind.max,IntKind.signed,IntKind.bits] using b
 exact⟨k,rfl,h.1,oM⟩
theorem F2.byt{h:Hp}:∀ {vs:LV} {xs:List Int},F2 (Rp.u8b.R h) vs xs->F2 (Rp.u8.R h) vs xs/\∀ x∈xs,0<=x/\x<256
 | [],[],_=>⟨trivial,λx b=>by cases b⟩
 |v::vs,x::xs,f=>⟨⟨f.1.1,(F2.byt f.2).1⟩,λy a=>by
  rcases List.mem_cons.1 a with rfl|a;·exact f.1.2
  exact(F2.byt f.2).2 y a⟩
theorem Rp.u8b_is{h:Hp}{cs:List Value}{xs:List Int}(R:Rp.u8b.slice.R h cs xs):Rp.u8.slice.R h cs xs/\∀ x∈xs,0<=x/\x<256:=by obtain⟨a,n,c,vs,d,e,f,g,b⟩:=R;exact⟨⟨a,n,c,vs,d,e,f,g,(F2.byt b).1⟩,(F2.byt b).2⟩
end Go.H
