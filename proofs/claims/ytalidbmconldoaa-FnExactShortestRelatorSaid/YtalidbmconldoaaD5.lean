/- What the program's IsWord does. -/
import Derived.Test.YtalidbmconldoaaD4
namespace Go.Proofs.Ytalidbmconldoaa
open Go.H
set_option linter.unusedVariables false
set_option maxRecDepth 10000

theorem t_implIsWord (h : Hp) (r : Int) (a : Option Addr) (n c : Nat) (w : List Int) (hx : Ints h (.slice a n c) w) :
    Tr Try.prog 120 #[.int .i64 r, .slice a n c] h fun v h' => v = .bool (isWordB r w) ∧ h' = h := by
  obtain ⟨rfl, hn⟩ := hx.len
  refine walk (args := [.int .i64 r, .slice a w.length c]) (fn := Try.f120) rfl ?_
  refine Tr.val (t_within _ r 1 3) ?_
  refine And.intro (fun hc => ?_) (fun hc => ?_)
  · refine And.intro (congrArg Value.bool ?_) rfl
    have : ¬ ((1 ≤ r ∧ r ≤ 3) ∧ w.length ≤ 24) := fun h => by
      have h1 : decide (1 ≤ r ∧ r ≤ 3) = true := decide_eq_true h.1
      have h2 : decide ((w.length : Int) > 24) = false := decide_eq_false (by omega)
      rw [h1, h2] at hc
      cases hc
    exact (decide_eq_false fun h => this ⟨h.1, h.2.1⟩).symm
  have h13 : (1 ≤ r ∧ r ≤ 3) ∧ w.length ≤ 24 := by
    by_cases h1 : 1 ≤ r ∧ r ≤ 3
    · by_cases h2 : (w.length : Int) > 24
      · rw [decide_eq_true h1, decide_eq_true h2] at hc; cases hc
      · exact ⟨h1, by omega⟩
    · rw [decide_eq_false h1] at hc; cases hc
  refine Exists.intro { vars := [17], boxes := [], owns := [] } (Exists.intro (fun vs _ h' => ∃ k : Nat, k ≤ w.length ∧ (∀ i, i < k → okL r w i) ∧ vs = [.int .i64 k] ∧ h' = h) (Exists.intro (fun vs _ => match vs with | [.int _ j] => ((w.length : Int) - j).toNat | _ => 0) ?_))
  refine And.intro ⟨0, by omega, by simp, rfl, rfl⟩ ?_
  rintro _ h1 ⟨k, hk, hall, ⟨⟩, rfl⟩
  refine And.intro (fun hc2 => ?_) (fun hc2 => ?_)
  · have hlt : k < w.length := by simpa using hc2
    obtain ⟨b1, e1, i1⟩ := hx.get hlt
    have hw := wsucc hlt hn
    have hprev : 0 < k → InB (.slice a w.length c) (IntKind.i64.wrap ((k : Int) - 1)) ∧ ElemAt h1 (.slice a w.length c) 1 (IntKind.i64.wrap ((k : Int) - 1)) [.int .i64 (w.getD (k - 1) 0)] := fun h0 => by
      obtain ⟨b2, e2, i2⟩ := hx.get (i := k - 1) (by omega)
      rw [w64 (by omega) (by omega), show (k : Int) - 1 = ((k - 1 : Nat) : Int) from by omega]
      exact ⟨b2, e2⟩
    refine And.intro b1 (Exists.intro _ (And.intro e1 ?_))
    refine Tr.val (t_isLetter _ r _) ?_
    refine And.intro (fun hc3 => ?_) (Exists.intro [.int .i64 (w.getD (k - 1) 0)] (And.intro (fun hc3 => ?_) ?_))
    · rcases Nat.eq_zero_or_pos k with rfl | h0
      · exact absurd hc3 (by simp [lit])
      · exact (hprev h0).1
    · rcases Nat.eq_zero_or_pos k with rfl | h0
      · exact absurd hc3 (by simp [lit])
      · exact (hprev h0).2
    refine Exists.intro (.bool _) (And.intro (fun _ => t_areInverse _ _ _) ?_)
    have key : ((bif !decide (w.getD k 0 ≠ 0 ∧ IntKind.i64.wrap (0 - r) ≤ w.getD k 0 ∧ w.getD k 0 ≤ r) then true else bif decide ((k : Int) > 0) then decide (w.getD (k - 1) 0 ≠ 0 ∧ w.getD (k - 1) 0 ≠ -9223372036854775808 ∧ w.getD k 0 = IntKind.i64.wrap (0 - w.getD (k - 1) 0)) else false) = true ↔ ¬ okL r w k) := by
      rw [w64 (x := 0 - r) (by omega) (by omega)]
      unfold okL
      rcases Nat.eq_zero_or_pos k with rfl | h0
      · generalize w.getD 0 0 = x
        simp
        omega
      · have hp := hall (k - 1) (by omega)
        unfold okL at hp
        have hk0 : k ≠ 0 := by omega
        generalize w.getD (k - 1) 0 = y at *
        generalize w.getD k 0 = x at *
        rw [w64 (x := 0 - y) (by omega) (by omega)]
        simp
        omega
    refine And.intro (fun hc3 => ?_) (fun hc3 => ?_)
    · refine And.intro (congrArg Value.bool ?_) rfl
      exact (isWord_no hlt fun _ => key.1 hc3).symm
    · refine And.intro rfl (And.intro (by first | exact trivial | exact And.intro rfl trivial | exact And.intro rfl (And.intro rfl trivial) | exact And.intro rfl (And.intro rfl (And.intro rfl trivial)) | exact And.intro rfl (And.intro rfl (And.intro rfl (And.intro rfl trivial)))) (And.intro (by first | exact trivial | exact And.intro rfl trivial | exact And.intro rfl (And.intro rfl trivial) | exact And.intro rfl (And.intro rfl (And.intro rfl trivial)) | exact And.intro rfl (And.intro rfl (And.intro rfl (And.intro rfl trivial)))) (And.intro ?_ ?_)))
      · refine ⟨k + 1, by omega, fun i hi => ?_, by rw [← hw], rfl⟩
        by_cases e : i = k
        · rw [e]
          exact Decidable.by_contra fun hno => by rw [key.2 hno] at hc3; cases hc3
        · exact hall i (by omega)
      · show ((w.length : Int) - IntKind.i64.wrap ((k : Int) + 1)).toNat < ((w.length : Int) - (k : Int)).toNat
        omega
  · have hk : k = w.length := by simp at hc2; omega
    subst hk
    refine And.intro (congrArg Value.bool ?_) rfl
    exact (decide_eq_true ⟨h13.1, h13.2, hall⟩).symm
end Go.Proofs.Ytalidbmconldoaa
