/- Plain laws over the model: one cell of fresh memory is written. -/
import Derived.Test.YtohcdjhocpakkaaGreatH35
namespace Go.H
set_option linter.unusedVariables false
set_option linter.unusedSimpArgs false
theorem E6.ofN{h:Hp}{s:Value}{idx:Int}{off:Nat}{u:Value}{K:Hp->Prop}(g:T02 u)(w:r04 h s idx off [u] K):E6 h s idx off u K:=by
 obtain⟨b,of,n,i,cur,ty,⟨rfl,d,f,c⟩,a⟩:=w
 have c:of+off+1<=cur.size:=c
 refine E6.mk (p:=of+off) d f (by omega) rfl g ?_
 rw[s04]at a
 have:(U2 cur.toList (of+off) [u]).toArray=cur.setIfInBounds (of+off) u:=by
  apply Array.toList_inj.1
  simp[U2]
 rw[this]at a
 exact a
end Go.H
