/- What ShortestRelator does. -/
import Derived.Test.YtalidbmconldoaaM1
namespace Go.Proofs.Ytalidbmconldoaa
open Go.H
set_option linter.unusedVariables false
set_option maxRecDepth 10000

def shortL : List (List Int) → Int → Int
  | [], n => n
  | w :: r, n => shortL r (if n = 0 ∨ (w.length : Int) < n then (w.length : Int) else n)
theorem shortL_append : ∀ (a b : List (List Int)) (n : Int), shortL (a ++ b) n = shortL b (shortL a n)
  | [], b, n => rfl
  | w :: r, b, n => by simp only [List.cons_append, shortL, shortL_append r b]
theorem shortL_snoc {l : List (List Int)} {k : Nat} {w : List Int} (h : l[k]? = some w) (n : Int) : shortL (l.take (k + 1)) n = if shortL (l.take k) n = 0 ∨ (w.length : Int) < shortL (l.take k) n then (w.length : Int) else shortL (l.take k) n := by
  rw [take_snoc h, shortL_append]; rfl
def F_ShortestRelator (x : LPresentation) : Int := if F_IsPresentation x = true then shortL x.2 0 else 0

theorem t_specShortestRelator (h : Hp) (cs : List Value) (x : LPresentation) (hx : wPresentation.R h cs x) (hm : mPresentation x ≤ 1048576) :
    Tr Try.prog 25 #[.agg cs.toArray] h fun v h' => v = .int .i64 (F_ShortestRelator x) ∧ h' = h := by
  obtain ⟨x0, a1, n1, c1, x1, rfl, rfl, h0, h1⟩ := openPresentation hx
  obtain ⟨rfl, hn⟩ := Sl.len h1
  refine walk (args := [.agg #[.int .i64 x0, .slice a1 x1.length c1]]) (fn := Try.f25) rfl ?_
  refine Exists.intro { vars := [3, 4], boxes := [], owns := [] } (Exists.intro (fun vs _ h' => ∃ k : Nat, k ≤ x1.length ∧ (k = 0 ∨ F_IsPresentation (x0, x1) = true) ∧ vs = [.int .i64 (shortL (x1.take k) 0), .int .i64 k] ∧ h' = h) (Exists.intro (fun vs _ => match vs with | [_, .int _ j] => ((x1.length : Int) - j).toNat | _ => 0) ?_))
  refine And.intro ⟨0, by omega, .inl rfl, rfl, rfl⟩ ?_
  rintro _ _ hh ⟨k, hk, hp, ⟨⟩, rfl⟩
  refine Exists.intro (.bool _) (And.intro (fun _ => t_specIsPresentation' _ [.int .i64 x0, .slice a1 x1.length c1] (x0, x1) (closePresentation h0 h1)) ?_)
  refine And.intro (fun hc2 => ?_) (fun hc2 => ?_)
  · have hlt : k < x1.length := by
      by_cases g : k < x1.length
      · exact g
      · simp [g] at hc2
    have hP : F_IsPresentation (x0, x1) = true := by simpa [hlt] using hc2
    obtain ⟨x, gx⟩ := has_get hlt
    obtain ⟨b1, cs1, e1, i1⟩ := Sl.get h1 gx (by decide)
    obtain ⟨aq, nq, cq, rfl⟩ := Wp.slice_cell i1
    obtain ⟨rfl, hnq⟩ := Sl.len i1
    have hw := wsucc hlt hn
    have hs := shortL_snoc gx 0
    refine And.intro (fun _ => b1) (Exists.intro _ (And.intro (fun _ => e1) ?_))
    refine And.intro (fun hc3 => ?_) (fun hc3 => ?_)
    · refine And.intro b1 (Exists.intro _ (And.intro e1 ?_))
      refine And.intro rfl (And.intro (by first | exact trivial | exact And.intro rfl trivial | exact And.intro rfl (And.intro rfl trivial) | exact And.intro rfl (And.intro rfl (And.intro rfl trivial)) | exact And.intro rfl (And.intro rfl (And.intro rfl (And.intro rfl trivial)))) (And.intro (by first | exact trivial | exact And.intro rfl trivial | exact And.intro rfl (And.intro rfl trivial) | exact And.intro rfl (And.intro rfl (And.intro rfl trivial)) | exact And.intro rfl (And.intro rfl (And.intro rfl (And.intro rfl trivial)))) (And.intro ?_ ?_)))
      · refine ⟨k + 1, by omega, .inr hP, ?_, rfl⟩
        rw [hs, if_pos ?_, ← hw]
        by_cases g : shortL (x1.take k) 0 = 0
        · exact .inl g
        · exact .inr (by simpa [g] using hc3)
      · show ((x1.length : Int) - IntKind.i64.wrap ((k : Int) + 1)).toNat < ((x1.length : Int) - (k : Int)).toNat
        omega
    · refine And.intro rfl (And.intro (by first | exact trivial | exact And.intro rfl trivial | exact And.intro rfl (And.intro rfl trivial) | exact And.intro rfl (And.intro rfl (And.intro rfl trivial)) | exact And.intro rfl (And.intro rfl (And.intro rfl (And.intro rfl trivial)))) (And.intro (by first | exact trivial | exact And.intro rfl trivial | exact And.intro rfl (And.intro rfl trivial) | exact And.intro rfl (And.intro rfl (And.intro rfl trivial)) | exact And.intro rfl (And.intro rfl (And.intro rfl (And.intro rfl trivial)))) (And.intro ?_ ?_)))
      · refine ⟨k + 1, by omega, .inr hP, ?_, rfl⟩
        rw [hs, if_neg ?_, ← hw]
        by_cases g : shortL (x1.take k) 0 = 0
        · simp [g] at hc3
        · have g2 : ¬ (x.length : Int) < shortL (x1.take k) 0 := by simpa [g] using hc3
          exact fun e => e.elim g g2
      · show ((x1.length : Int) - IntKind.i64.wrap ((k : Int) + 1)).toNat < ((x1.length : Int) - (k : Int)).toNat
        omega
  · refine And.intro (congrArg (Value.int .i64) ?_) rfl
    unfold F_ShortestRelator
    by_cases hP : F_IsPresentation (x0, x1) = true
    · rw [if_pos hP]
      have hk : k = x1.length := by
        rcases Nat.lt_or_ge k x1.length with g | g
        · simp [g, hP] at hc2
        · omega
      subst hk
      rw [List.take_length]
    · rw [if_neg hP]
      rcases hp with rfl | hp
      · simp [shortL]
      · exact absurd hp hP

theorem t_implShortestRelator (h : Hp) (cs : List Value) (x : LPresentation) (hx : wPresentation.R h cs x) (hm : mPresentation x ≤ 1048576) :
    Tr Try.prog 26 #[.agg cs.toArray] h fun v h' => v = .int .i64 (F_ShortestRelator x) ∧ h' = h := by
  obtain ⟨x0, a1, n1, c1, x1, rfl, rfl, h0, h1⟩ := openPresentation hx
  obtain ⟨rfl, hn⟩ := Sl.len h1
  refine walk (args := [.agg #[.int .i64 x0, .slice a1 x1.length c1]]) (fn := Try.f26) rfl ?_
  refine Tr.val (t_implIsPresentation' _ [.int .i64 x0, .slice a1 x1.length c1] (x0, x1) (closePresentation h0 h1)) ?_
  refine And.intro (fun hc => ?_) (fun hc => ?_)
  · refine And.intro (congrArg (Value.int .i64) ?_) rfl
    unfold F_ShortestRelator
    rw [if_neg (by simpa using hc)]
  have hP : F_IsPresentation (x0, x1) = true := by simpa using hc
  refine Exists.intro { vars := [3, 13], boxes := [], owns := [] } (Exists.intro (fun vs _ h' => ∃ k : Nat, k ≤ x1.length ∧ vs = [.int .i64 (shortL (x1.take k) 0), .int .i64 k] ∧ h' = h) (Exists.intro (fun vs _ => match vs with | [_, .int _ j] => ((x1.length : Int) - j).toNat | _ => 0) ?_))
  refine And.intro ⟨0, by omega, rfl, rfl⟩ ?_
  rintro _ _ hh ⟨k, hk, ⟨⟩, rfl⟩
  refine And.intro (fun hc2 => ?_) (fun hc2 => ?_)
  · have hlt : k < x1.length := by simpa using hc2
    obtain ⟨x, gx⟩ := has_get hlt
    obtain ⟨b1, cs1, e1, i1⟩ := Sl.get h1 gx (by decide)
    obtain ⟨aq, nq, cq, rfl⟩ := Wp.slice_cell i1
    obtain ⟨rfl, hnq⟩ := Sl.len i1
    have hw := wsucc hlt hn
    have hs := shortL_snoc gx 0
    refine And.intro b1 (Exists.intro _ (And.intro e1 ?_))
    refine And.intro (fun hc3 => ?_) (fun hc3 => ?_)
    · refine And.intro rfl (And.intro (by first | exact trivial | exact And.intro rfl trivial | exact And.intro rfl (And.intro rfl trivial) | exact And.intro rfl (And.intro rfl (And.intro rfl trivial)) | exact And.intro rfl (And.intro rfl (And.intro rfl (And.intro rfl trivial)))) (And.intro (by first | exact trivial | exact And.intro rfl trivial | exact And.intro rfl (And.intro rfl trivial) | exact And.intro rfl (And.intro rfl (And.intro rfl trivial)) | exact And.intro rfl (And.intro rfl (And.intro rfl (And.intro rfl trivial)))) (And.intro ?_ ?_)))
      · refine ⟨k + 1, by omega, ?_, rfl⟩
        rw [hs, if_pos ?_, ← hw]
        by_cases g : shortL (x1.take k) 0 = 0
        · exact .inl g
        · exact .inr (by simpa [g] using hc3)
      · show ((x1.length : Int) - IntKind.i64.wrap ((k : Int) + 1)).toNat < ((x1.length : Int) - (k : Int)).toNat
        omega
    · refine And.intro rfl (And.intro (by first | exact trivial | exact And.intro rfl trivial | exact And.intro rfl (And.intro rfl trivial) | exact And.intro rfl (And.intro rfl (And.intro rfl trivial)) | exact And.intro rfl (And.intro rfl (And.intro rfl (And.intro rfl trivial)))) (And.intro (by first | exact trivial | exact And.intro rfl trivial | exact And.intro rfl (And.intro rfl trivial) | exact And.intro rfl (And.intro rfl (And.intro rfl trivial)) | exact And.intro rfl (And.intro rfl (And.intro rfl (And.intro rfl trivial)))) (And.intro ?_ ?_)))
      · refine ⟨k + 1, by omega, ?_, rfl⟩
        rw [hs, if_neg ?_, ← hw]
        by_cases g : shortL (x1.take k) 0 = 0
        · simp [g] at hc3
        · have g2 : ¬ (x.length : Int) < shortL (x1.take k) 0 := by simpa [g] using hc3
          exact fun e => e.elim g g2
      · show ((x1.length : Int) - IntKind.i64.wrap ((k : Int) + 1)).toNat < ((x1.length : Int) - (k : Int)).toNat
        omega
  · refine And.intro (congrArg (Value.int .i64) ?_) rfl
    have hk : k = x1.length := by simp at hc2; omega
    subst hk
    unfold F_ShortestRelator
    rw [if_pos hP, List.take_length]
end Go.Proofs.Ytalidbmconldoaa
