/- What IsWord does. -/
import Derived.Test.YtalidbmconldoaaC1
import Derived.Test.YtalidbmconldoaaG1
namespace Go.Proofs.Ytalidbmconldoaa
open Go.H
set_option linter.unusedVariables false
set_option maxRecDepth 10000

def okL (r : Int) (w : List Int) (i : Nat) : Prop := w.getD i 0 ≠ 0 ∧ -r ≤ w.getD i 0 ∧ w.getD i 0 ≤ r ∧ (i ≠ 0 → w.getD i 0 ≠ - w.getD (i - 1) 0)
instance (r : Int) (w : List Int) (i : Nat) : Decidable (okL r w i) := by unfold okL; infer_instance
def isWordB (r : Int) (w : List Int) : Bool := decide ((1 ≤ r ∧ r ≤ 3) ∧ w.length ≤ 24 ∧ ∀ i, i < w.length → okL r w i)
theorem isWord_no {r : Int} {w : List Int} {i : Nat} (hi : i < w.length) (h : (1 ≤ r ∧ r ≤ 3) → ¬ okL r w i) : isWordB r w = false := by
  simp only [isWordB, decide_eq_false_iff_not]
  exact fun ⟨h1, _, h2⟩ => h h1 (h2 i hi)

theorem isWord_end {r : Int} {w : List Int} (hall : (1 ≤ r ∧ r ≤ 3) → ∀ i, i < w.length → okL r w i) : (bif decide (1 ≤ r ∧ r ≤ 3) then decide ((w.length : Int) ≤ 24) else false) = isWordB r w := by
  unfold isWordB
  by_cases h13 : 1 ≤ r ∧ r ≤ 3
  · rw [decide_eq_true h13, cond_true]
    apply decide_eq_decide.2
    exact ⟨fun hl => ⟨h13, by omega, hall h13⟩, fun ⟨_, hl, _⟩ => by omega⟩
  · rw [decide_eq_false h13, cond_false]
    exact (decide_eq_false fun h => h13 h.1).symm

theorem t_specIsWord (h : Hp) (r : Int) (a : Option Addr) (n c : Nat) (w : List Int) (hx : Ints h (.slice a n c) w) (hr : In64 r) :
    Tr Try.prog 116 #[.int .i64 r, .slice a n c] h fun v h' => v = .bool (isWordB r w) ∧ h' = h := by
  obtain ⟨rfl, hn⟩ := hx.len
  refine walk (args := [.int .i64 r, .slice a w.length c]) (fn := Try.f116) rfl ?_
  refine Exists.intro { vars := [5], boxes := [], owns := [] } (Exists.intro (fun vs _ h' => ∃ k : Nat, k ≤ w.length ∧ ((1 ≤ r ∧ r ≤ 3) → ∀ i, i < k → okL r w i) ∧ vs = [.int .i64 k] ∧ h' = h) (Exists.intro (fun vs _ => match vs with | [.int _ j] => ((w.length : Int) - j).toNat | _ => 0) ?_))
  refine And.intro ⟨0, by omega, by simp, rfl, rfl⟩ ?_
  rintro _ h1 ⟨k, hk, hall, ⟨⟩, rfl⟩
  refine And.intro (fun hc2 => ?_) (fun hc2 => ?_)
  · have hlt : k < w.length := by simpa using hc2
    obtain ⟨b1, e1, i1⟩ := hx.get hlt
    have hw := wsucc hlt hn
    have hprev : 0 < k → InB (.slice a w.length c) (IntKind.i64.wrap ((k : Int) - 1)) ∧ ElemAt h1 (.slice a w.length c) 1 (IntKind.i64.wrap ((k : Int) - 1)) [.int .i64 (w.getD (k - 1) 0)] := fun h0 => by
      obtain ⟨b2, e2, i2⟩ := hx.get (i := k - 1) (by omega)
      rw [w64 (by omega) (by omega), show (k : Int) - 1 = ((k - 1 : Nat) : Int) from by omega]
      exact ⟨b2, e2⟩
    refine Or.inl (And.intro (And.intro (by kernel_rfl) (by kernel_rfl)) ?_)
    refine And.intro b1 (Exists.intro _ (And.intro e1 ?_))
    refine And.intro (fun _ => b1) (Exists.intro _ (And.intro (fun _ => e1) ?_))
    refine Exists.intro (.bool _) (And.intro (fun _ => t_l1In _ _ _ _) ?_)
    refine And.intro (fun _ => b1) (Exists.intro _ (And.intro (fun _ => e1) ?_))
    refine And.intro (fun hc3 => ?_) (Exists.intro [.int .i64 (w.getD (k - 1) 0)] (And.intro (fun hc3 => ?_) ?_))
    · rcases Nat.eq_zero_or_pos k with rfl | h0
      · exact absurd hc3 (by simp [lit])
      · exact (hprev h0).1
    · rcases Nat.eq_zero_or_pos k with rfl | h0
      · exact absurd hc3 (by simp [lit])
      · exact (hprev h0).2
    have key : (1 ≤ r ∧ r ≤ 3) → ((bif bif w.getD k 0 == 0 then true else !decide (IntKind.i64.wrap (0 - r) ≤ w.getD k 0 ∧ w.getD k 0 ≤ r) then true else bif decide ((k : Int) > 0) then w.getD k 0 == IntKind.i64.wrap (0 - w.getD (k - 1) 0) else false) = true ↔ ¬ okL r w k) := fun h13 => by
      rw [w64 (x := 0 - r) (by omega) (by omega)]
      unfold okL
      rcases Nat.eq_zero_or_pos k with rfl | h0
      · generalize w.getD 0 0 = x
        simp
        omega
      · have hp := hall h13 (k - 1) (by omega)
        unfold okL at hp
        have hk0 : k ≠ 0 := by omega
        generalize w.getD (k - 1) 0 = y at *
        generalize w.getD k 0 = x at *
        rw [w64 (x := 0 - y) (by omega) (by omega)]
        simp
        omega
    refine And.intro (fun hc3 => ?_) (fun hc3 => ?_)
    · refine And.intro (congrArg Value.bool ?_) rfl
      refine (isWord_no hlt fun h13 => ?_).symm
      exact (key h13).1 hc3
    · refine And.intro rfl (And.intro (by first | exact trivial | exact And.intro rfl trivial | exact And.intro rfl (And.intro rfl trivial) | exact And.intro rfl (And.intro rfl (And.intro rfl trivial)) | exact And.intro rfl (And.intro rfl (And.intro rfl (And.intro rfl trivial)))) (And.intro (by first | exact trivial | exact And.intro rfl trivial | exact And.intro rfl (And.intro rfl trivial) | exact And.intro rfl (And.intro rfl (And.intro rfl trivial)) | exact And.intro rfl (And.intro rfl (And.intro rfl (And.intro rfl trivial)))) (And.intro ?_ ?_)))
      · refine ⟨k + 1, by omega, fun h13 i hi => ?_, by rw [← hw], rfl⟩
        by_cases e : i = k
        · rw [e]
          have := fun hno => (key h13).2 hno
          exact Decidable.by_contra fun hno => by rw [this hno] at hc3; cases hc3
        · exact hall h13 i (by omega)
      · show ((w.length : Int) - IntKind.i64.wrap ((k : Int) + 1)).toNat < ((w.length : Int) - (k : Int)).toNat
        omega
  · have hk : k = w.length := by simp at hc2; omega
    subst hk
    refine Tr.val (t_l1In _ r 1 3) ?_
    refine And.intro (congrArg Value.bool ?_) rfl
    exact isWord_end hall

theorem t_areInverse (h : Hp) (x y : Int) : Tr Try.prog 70 #[.int .i64 x, .int .i64 y] h fun v h' => v = .bool (decide (x ≠ 0 ∧ x ≠ -9223372036854775808 ∧ y = IntKind.i64.wrap (0 - x))) ∧ h' = h := by
  refine walk (args := [.int .i64 x, .int .i64 y]) (fn := Try.f70) rfl ?_
  refine And.intro (congrArg Value.bool ?_) rfl
  show (bif bif x != 0 then x != -9223372036854775808 else false then y == IntKind.i64.wrap (0 - x) else false) = _
  generalize IntKind.i64.wrap (0 - x) = z
  by_cases h1 : x = 0 <;> by_cases h2 : x = -9223372036854775808 <;> by_cases h3 : y = z <;> simp [h1, h2, h3]

theorem t_isLetter (h : Hp) (r x : Int) : Tr Try.prog 141 #[.int .i64 r, .int .i64 x] h fun v h' => v = .bool (decide (x ≠ 0 ∧ IntKind.i64.wrap (0 - r) ≤ x ∧ x ≤ r)) ∧ h' = h := by
  refine walk (args := [.int .i64 r, .int .i64 x]) (fn := Try.f141) rfl ?_
  refine Exists.intro (.bool _) (And.intro (fun _ => t_within _ _ _ _) ?_)
  refine And.intro (congrArg Value.bool ?_) rfl
  by_cases h1 : x = 0 <;> simp [h1]
end Go.Proofs.Ytalidbmconldoaa
