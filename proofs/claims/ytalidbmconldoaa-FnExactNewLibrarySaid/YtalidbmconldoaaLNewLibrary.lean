/- What the law on NewLibrary does. -/
import Derived.Test.YtalidbmconldoaaC1
import Derived.Test.YtalidbmconldoaaG3
import Derived.Test.YtalidbmconldoaaG5
import Derived.Test.YtalidbmconldoaaG6
namespace Go.Proofs.Ytalidbmconldoaa
open Go.H
set_option linter.unusedVariables false
set_option linter.unusedSimpArgs false
set_option maxRecDepth 10000
namespace nLibrary

def RL (r : Int) : Int := if 1 ≤ r ∧ r ≤ 3 then r else 0
def RB (r : Int) : Bool := decide (1 ≤ r ∧ r ≤ 3)
theorem rl64 (r : Int) : In64 (RL r) := by
  unfold RL
  split
  · exact in64 (by omega) (by omega)
  · exact in64 (by decide) (by decide)
theorem nilW (h : Hp) : wEntryS.W h [.slice none 0 0] [] [] := ⟨_, [], [], [], rfl, ⟨by simp, .inl ⟨rfl, rfl, rfl⟩⟩, trivial, rfl⟩
theorem nilR (h : Hp) : wEntryS.R h [.slice none 0 0] [] := wEntryS.toR (nilW h)
theorem t_specNew (h : Hp) (r : Int) :
    Tr Try.prog 20 #[.int .i64 r] h fun v h' => v = .tuple #[.agg #[.int .i64 (RL r), .slice none 0 0], .bool (RB r)] ∧ h' = h := by
  refine walk (args := [.int .i64 r]) (fn := Try.f20) rfl ?_
  refine Tr.val (t_l1In _ _ _ _) ?_
  refine And.intro (fun hc => ?_) (fun hc => ?_)
  · have hr : ¬ (1 ≤ r ∧ r ≤ 3) := not_dec hc
    have e1 : RL r = 0 := if_neg hr
    have e2 : RB r = false := decide_eq_false hr
    rw [e1, e2]
    exact And.intro rfl rfl
  · have hr : 1 ≤ r ∧ r ≤ 3 := not_dec' hc
    have e1 : RL r = r := if_pos hr
    have e2 : RB r = true := decide_eq_true hr
    rw [e1, e2]
    exact And.intro rfl rfl
theorem t_implNew (h : Hp) (r : Int) :
    Tr Try.prog 21 #[.int .i64 r] h fun v h' => v = .tuple #[.agg #[.int .i64 (RL r), .slice none 0 0], .bool (RB r)] ∧ h' = h := by
  refine walk (args := [.int .i64 r]) (fn := Try.f21) rfl ?_
  refine Tr.val (t_within _ _ _ _) ?_
  refine And.intro (fun hc => ?_) (fun hc => ?_)
  · have hr : ¬ (1 ≤ r ∧ r ≤ 3) := not_dec hc
    have e1 : RL r = 0 := if_neg hr
    have e2 : RB r = false := decide_eq_false hr
    rw [e1, e2]
    exact And.intro rfl rfl
  · have hr : 1 ≤ r ∧ r ≤ 3 := not_dec' hc
    have e1 : RL r = r := if_pos hr
    have e2 : RB r = true := decide_eq_true hr
    rw [e1, e2]
    exact And.intro rfl rfl
theorem t_mark0 (h : Hp) (r k : Int) (hr : In64 r) (hk : 0 ≤ k ∧ k ≤ 4611686018427387904) :
    Tr Try.prog 23 #[.agg #[.int .i64 r, .slice none 0 0], .int .i64 k] h fun v h' => v = .int .i64 k ∧ h' = h := by
  refine (t_markLibrary h [.int .i64 r, .slice none 0 0] (r, []) [] k (closeWLibrary hr (nilW h)) (by simp) ⟨hk.1, by show k + ((0 : Nat) : Int) ≤ _; omega⟩).mono ?_
  rintro v h' ⟨rfl, _, f⟩
  exact ⟨congrArg (Value.int .i64) (Int.add_zero k), funext fun y => f y (by simp)⟩
theorem t_held0 (h : Hp) (r k : Int) (hr : In64 r) (hk : 0 ≤ k ∧ k ≤ 4611686018427387904) :
    Tr Try.prog 24 #[.agg #[.int .i64 r, .slice none 0 0], .int .i64 k] h fun v h' => v = .int .i64 k ∧ h' = h := by
  refine (t_heldLibrary h [.int .i64 r, .slice none 0 0] (r, []) k (closeLibrary hr (nilR h)) ⟨hk.1, by show k + ((0 : Nat) : Int) ≤ _; omega⟩).mono ?_
  rintro v h' ⟨rfl, e⟩
  exact ⟨congrArg (Value.int .i64) (Int.add_zero k), e⟩
theorem t_lawNewLibrary (h : Hp) (r : Int) (hr : In64 r) :
    Tr Try.prog 4 #[.int .i64 r] h fun v h' => v = .bool true ∧ Sub h h' := by
  have hl := rl64 r
  refine walk (args := [.int .i64 r]) (fn := Try.f4) rfl ?_
  refine Tr.val (t_specNew _ r) ?_
  refine Tr.val (t_implNew _ r) ?_
  refine Tr.val ((t_eqLibrary _ [.int .i64 (RL r), .slice none 0 0] [.int .i64 (RL r), .slice none 0 0] (RL r, []) (RL r, []) (closeLibrary hl (nilR _)) (closeLibrary hl (nilR _)))) ?_
  refine And.intro (fun hc => ?_) (fun hc => ?_)
  · simp at hc
  refine Tr.val (t_mark0 _ (RL r) 1 hl ⟨by decide, by decide⟩) ?_
  refine Tr.val (t_held0 _ (RL r) 1 hl ⟨by decide, by decide⟩) ?_
  refine And.intro (fun hc => ?_) (fun hc => ?_)
  · simp at hc
  refine And.intro (fun hc => ?_) (fun hc => ?_)
  · simp at hc
  refine Tr.val (t_implNew _ r) ?_
  refine Tr.val ((t_eqLibrary _ [.int .i64 (RL r), .slice none 0 0] [.int .i64 (RL r), .slice none 0 0] (RL r, []) (RL r, []) (closeLibrary hl (nilR _)) (closeLibrary hl (nilR _)))) ?_
  refine And.intro (fun hc => ?_) (fun hc => ?_)
  · simp at hc
  refine Tr.val (t_held0 _ (RL r) 1 hl ⟨by decide, by decide⟩) ?_
  refine And.intro (fun hc => ?_) (fun hc => ?_)
  · simp at hc
  refine And.intro (fun hc => ?_) (fun hc => ?_)
  · simp at hc
  exact And.intro rfl (Sub.refl _)
end nLibrary
end Go.Proofs.Ytalidbmconldoaa
