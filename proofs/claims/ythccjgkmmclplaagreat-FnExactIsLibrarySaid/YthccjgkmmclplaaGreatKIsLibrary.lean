/- IsLibrary, of the spec and of the code. -/
import Derived.Test.YthccjgkmmclplaaGreatP15
import Derived.Test.YthccjgkmmclplaaGreatWg1
import Derived.Test.YthccjgkmmclplaaGreatWg4
namespace Go.Proofs.YthccjgkmmclplaaGreat
open Go.H
set_option linter.unusedVariables false
theorem lib_ok {x : LLibrary} (h : mLibrary x ≤ 1048576) : entsOk x.2 := by
  unfold mLibrary mEntryS at h
  refine ⟨by omega, fun e he => ?_⟩
  have := sumM_mem (m := mEntry) he
  unfold mEntry mGraph mEdgeS at this h
  exact ⟨by omega, by omega⟩
theorem t_specIsLibrary (h : Hp) (cs : List Value) (x : LLibrary) (hx : wLibrary.R h cs x) (hm : mLibrary x ≤ 1048576) :
    Tr Tryz.prog 9 #[.agg cs.toArray] h fun v h' => v = .bool (F_IsLibrary x) ∧ h' = h :=
  t_spec_IsLibrary h cs x hx _ (m_specIsLibrary x (lib_ok hm))
theorem t_implIsLibrary (h : Hp) (cs : List Value) (x : LLibrary) (hx : wLibrary.R h cs x) (hm : mLibrary x ≤ 1048576) :
    Tr Tryz.prog 11 #[.agg cs.toArray] h fun v h' => v = .bool (F_IsLibrary x) ∧ h' = h :=
  t_impl_IsLibrary h cs x hx _ (m_implIsLibrary x (lib_ok hm))
end Go.Proofs.YthccjgkmmclplaaGreat
