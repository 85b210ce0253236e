/- FormatPresentation, of the spec and of the code. -/
import Derived.Test.YtjalbdammdmgiaaP2b
import Derived.Test.YtjalbdammdmgiaaW2
import Derived.Test.YtjalbdammdmgiaaPS
namespace Go.Proofs.Ytjalbdammdmgiaa
open Go.H
set_option linter.unusedVariables false
def F_FormatPresentation (x : LPresentation) : ByteArray := F_pres x
theorem t_specFormatPresentation (h : Hp) (cs : List Value) (x : LPresentation) (hx : wPresentation.R h cs x) (hm : mPresentation x ≤ 1048576) :
    Tr Try.prog 15 #[.agg cs.toArray] h fun v h' => v = .string (F_FormatPresentation x) ∧ h' = h :=
  t_spec_FormatPresentation h cs x hx _ (m_specFormatPresentation x (pres_short hm).1 (pres_short hm).2)
theorem t_implFormatPresentation (h : Hp) (cs : List Value) (x : LPresentation) (hx : wPresentation.R h cs x) (hm : mPresentation x ≤ 1048576) :
    Tr Try.prog 17 #[.agg cs.toArray] h fun v h' => v = .string (F_FormatPresentation x) ∧ h' = h :=
  t_impl_FormatPresentation h cs x hx _ (m_implFormatPresentation x (pres_short hm).1 (pres_short hm).2)
end Go.Proofs.Ytjalbdammdmgiaa
