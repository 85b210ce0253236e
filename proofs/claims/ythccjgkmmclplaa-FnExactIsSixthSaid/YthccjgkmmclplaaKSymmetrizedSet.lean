/- SymmetrizedSet, LongestPiece and IsSixth, of the spec and of the code. -/
import Derived.Test.YthccjgkmmclplaaP7
import Derived.Test.YthccjgkmmclplaaW7
import Derived.Test.YthccjgkmmclplaaPS
namespace Go.Proofs.Ythccjgkmmclplaa
open Go.H
set_option linter.unusedVariables false
theorem sumM_le {α : Type} {m : α → Nat} {B : Nat} : ∀ {l : List α}, (∀ x ∈ l, m x ≤ B) → sumM m l ≤ l.length * B
  | [], _ => by simp [sumM]
  | a :: l, h => by
    have h1 := h a (List.mem_cons_self ..)
    have h2 := sumM_le (l := l) fun x hx => h x (List.mem_cons_of_mem _ hx)
    simp only [sumM, List.length_cons, Nat.add_mul, Nat.one_mul]
    omega
theorem c_SymmetrizedSet (x : LPresentation) (hx : mPresentation x ≤ 1048576) : cIntSS (F_SymmetrizedSet x) ≤ 16777216 := by
  obtain ⟨h1, h2⟩ := sym_good x
  unfold cIntSS
  have h3 : sumM cIntS (F_SymmetrizedSet x) ≤ (F_SymmetrizedSet x).length * 1000 := sumM_le fun w hw => by
    have := (h1 w hw).2
    unfold cIntS
    rw [sumM_one]
    omega
  have h4 : (F_SymmetrizedSet x).length * 1000 ≤ 288 * 1000 := Nat.mul_le_mul_right _ h2
  omega
theorem t_specSymmetrizedSet (h : Hp) (cs : List Value) (x : LPresentation) (hx : wPresentation.R h cs x) (hm : mPresentation x ≤ 1048576) :
    Tr Try.prog 15 #[.agg cs.toArray] h fun v h' => wIntSS.R h' [v] (F_SymmetrizedSet x) ∧ Sub h h' := by
  refine Tr.mono (t_spec_SymmetrizedSet h cs x hx _ (m_specSymmetrizedSet x (pres_short hm).1 (pres_short hm).2)) ?_
  rintro v k ⟨a0, n0, c0, rfl, r, s⟩
  exact ⟨r, s⟩
theorem t_implSymmetrizedSet (h : Hp) (cs : List Value) (x : LPresentation) (hx : wPresentation.R h cs x) (hm : mPresentation x ≤ 1048576) :
    Tr Try.prog 16 #[.agg cs.toArray] h fun v h' => New wIntSS h h' [v] (F_SymmetrizedSet x) := by
  refine Tr.mono (t_impl_SymmetrizedSet h cs x hx _ (m_implSymmetrizedSet x (pres_short hm).1 (pres_short hm).2)) ?_
  rintro v k ⟨a0, n0, c0, rfl, r⟩
  exact r
theorem t_specLongestPiece (h : Hp) (cs : List Value) (x : LPresentation) (hx : wPresentation.R h cs x) (hm : mPresentation x ≤ 1048576) :
    Tr Try.prog 11 #[.agg cs.toArray] h fun v h' => v = .int .i64 (F_LongestPiece x) ∧ h' = h :=
  t_spec_LongestPiece h cs x hx _ (m_specLongestPiece x (pres_short hm).1 (pres_short hm).2)
theorem t_implLongestPiece (h : Hp) (cs : List Value) (x : LPresentation) (hx : wPresentation.R h cs x) (hm : mPresentation x ≤ 1048576) :
    Tr Try.prog 13 #[.agg cs.toArray] h fun v h' => v = .int .i64 (F_LongestPiece x) ∧ h' = h :=
  t_impl_LongestPiece h cs x hx _ (m_implLongestPiece x (pres_short hm).1 (pres_short hm).2)
theorem t_specIsSixth (h : Hp) (cs : List Value) (x : LPresentation) (hx : wPresentation.R h cs x) (hm : mPresentation x ≤ 1048576) :
    Tr Try.prog 21 #[.agg cs.toArray] h fun v h' => v = .bool (F_IsSixth x) ∧ h' = h :=
  t_spec_IsSixth h cs x hx _ (m_specIsSixth x (pres_short hm).1 (pres_short hm).2)
theorem t_implIsSixth (h : Hp) (cs : List Value) (x : LPresentation) (hx : wPresentation.R h cs x) (hm : mPresentation x ≤ 1048576) :
    Tr Try.prog 22 #[.agg cs.toArray] h fun v h' => v = .bool (F_IsSixth x) ∧ h' = h :=
  t_impl_IsSixth h cs x hx _ (m_implIsSixth x (pres_short hm).1 (pres_short hm).2)
end Go.Proofs.Ythccjgkmmclplaa
