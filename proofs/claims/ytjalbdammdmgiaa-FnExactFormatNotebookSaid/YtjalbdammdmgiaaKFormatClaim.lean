/- FormatClaim and FormatNotebook, of the spec and of the code. -/
import Derived.Test.YtjalbdammdmgiaaP4d
import Derived.Test.YtjalbdammdmgiaaW4
import Derived.Test.YtjalbdammdmgiaaPS
namespace Go.Proofs.Ytjalbdammdmgiaa
open Go.H
set_option linter.unusedVariables false
theorem all_int {h : Hp} {v : List Value} {w : LIntS} (hw : wIntS.R h v w) : all64' w := by
  obtain ⟨a, n, c, rfl⟩ := Wp.slice_cell hw
  intro x hx
  obtain ⟨k, hk⟩ := List.getElem?_of_mem hx
  obtain ⟨_, cs, _, r⟩ := Sl.getI (r := Wp.int.toRp) hw (i := (k : Int)) (x := x) (gi_at hk) (by decide)
  obtain ⟨_, i⟩ := r
  exact i
theorem claim_fit {h : Hp} {cs : List Value} {x : LClaim} (hx : wClaim.R h cs x) (hm : mClaim x ≤ 1048576) : ClaimFit x ∧ x.2.2.2.2.1.length ≤ 1048576 := by
  obtain ⟨a, r, ws, w, ks, ⟨gr, gn, es⟩, n⟩ := x
  obtain ⟨c1, c2, rfl, ⟨_, h0⟩, c3, c4, rfl, ⟨_, h1⟩, c5, c6, rfl, h2, c7, c8, rfl, h3, c9, c10, rfl, h4, c11, c12, rfl, h5, ⟨_, h6⟩⟩ := hx
  have e : mClaim (a, r, ws, w, ks, (gr, gn, es), n) = mIntSS ws + w.length + ks.length + es.length := rfl
  rw [e] at hm
  have := intSS_short (ws := ws) (n := 1048576) (by omega) (by decide)
  refine ⟨⟨this, ?_, ⟨all_int h4, ?_⟩, ?_, h1, h6⟩, ?_⟩ <;> simp only <;> omega
def F_FormatClaim (x : LClaim) : ByteArray := F_claim x
theorem t_specFormatClaim (h : Hp) (cs : List Value) (x : LClaim) (hx : wClaim.R h cs x) (hm : mClaim x ≤ 1048576) :
    Tr Try.prog 30 #[.agg cs.toArray] h fun v h' => v = .string (F_FormatClaim x) ∧ h' = h :=
  t_spec_FormatClaim h cs x hx _ (m_specFormatClaim x (claim_fit hx hm).1)
theorem t_implFormatClaim (h : Hp) (cs : List Value) (x : LClaim) (hx : wClaim.R h cs x) (hm : mClaim x ≤ 1048576) :
    Tr Try.prog 32 #[.agg cs.toArray] h fun v h' => v = .string (F_FormatClaim x) ∧ h' = h :=
  t_impl_FormatClaim h cs x hx _ (m_implFormatClaim x (claim_fit hx hm).1)
theorem note_fit {h : Hp} {cs : List Value} {x : LNotebook} (hx : wNotebook.R h cs x) (hm : mNotebook x ≤ 1048576) : (∀ c ∈ x.2, ClaimFit c) ∧ x.2.length ≤ 1048576 ∧ (∀ c ∈ x.2, c.2.2.2.2.1.length ≤ 1048576) := by
  obtain ⟨v, cl⟩ := x
  obtain ⟨c1, c2, rfl, ⟨_, h0⟩, h1⟩ := hx
  have e : mNotebook (v, cl) = cl.length + sumM mClaim cl := rfl
  rw [e] at hm
  have each : ∀ c ∈ cl, ClaimFit c ∧ c.2.2.2.2.1.length ≤ 1048576 := fun c hc => by
    obtain ⟨k, hk⟩ := List.getElem?_of_mem hc
    obtain ⟨a, n, c', rfl⟩ := Wp.slice_cell h1
    obtain ⟨_, cs', _, r⟩ := Sl.getI (r := wClaim.toRp) h1 (i := (k : Int)) (x := c) (gi_at hk) (by decide)
    have := sumM_mem (m := mClaim) hc
    exact claim_fit r (by omega)
  exact ⟨fun c hc => (each c hc).1, by simp only; omega, fun c hc => (each c hc).2⟩
def F_FormatNotebook (x : LNotebook) : ByteArray := F_notebook x
theorem t_specFormatNotebook (h : Hp) (cs : List Value) (x : LNotebook) (hx : wNotebook.R h cs x) (hm : mNotebook x ≤ 1048576) :
    Tr Try.prog 35 #[.agg cs.toArray] h fun v h' => v = .string (F_FormatNotebook x) ∧ h' = h :=
  t_spec_FormatNotebook h cs x hx _ (m_specFormatNotebook x (note_fit hx hm).1 (note_fit hx hm).2.1 (note_fit hx hm).2.2)
theorem t_implFormatNotebook (h : Hp) (cs : List Value) (x : LNotebook) (hx : wNotebook.R h cs x) (hm : mNotebook x ≤ 1048576) :
    Tr Try.prog 37 #[.agg cs.toArray] h fun v h' => v = .string (F_FormatNotebook x) ∧ h' = h :=
  t_impl_FormatNotebook h cs x hx _ (m_implFormatNotebook x (note_fit hx hm).1 (note_fit hx hm).2.1 (note_fit hx hm).2.2)
end Go.Proofs.Ytjalbdammdmgiaa
