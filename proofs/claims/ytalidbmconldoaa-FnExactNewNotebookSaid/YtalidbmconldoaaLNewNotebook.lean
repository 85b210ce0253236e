/- What the law on NewNotebook does. -/
import Derived.Test.YtalidbmconldoaaC1
import Derived.Test.YtalidbmconldoaaG3
namespace Go.Proofs.Ytalidbmconldoaa
open Go.H
set_option linter.unusedVariables false
set_option linter.unusedSimpArgs false
set_option maxRecDepth 10000
namespace nNotebook

def RL (r : Int) : Int := if 1 ≤ r ∧ r ≤ 3 then r else 0
def RB (r : Int) : Bool := decide (1 ≤ r ∧ r ≤ 3)
theorem rl64 (r : Int) : In64 (RL r) := by
  unfold RL
  split
  · exact in64 (by omega) (by omega)
  · exact in64 (by decide) (by decide)
theorem nilW (h : Hp) : wClaimS.W h [.slice none 0 0] [] [] := ⟨_, [], [], [], rfl, ⟨by simp, .inl ⟨rfl, rfl, rfl⟩⟩, trivial, rfl⟩
theorem nilR (h : Hp) : wClaimS.R h [.slice none 0 0] [] := wClaimS.toR (nilW h)
theorem t_specNew (h : Hp) (r : Int) :
    Tr Try.prog 36 #[.int .i64 r] h fun v h' => v = .tuple #[.agg #[.int .i64 (RL r), .slice none 0 0], .bool (RB r)] ∧ h' = h := by
  refine walk (args := [.int .i64 r]) (fn := Try.f36) rfl ?_
  refine Tr.val (t_l1In _ _ _ _) ?_
  refine And.intro (fun hc => ?_) (fun hc => ?_)
  · have hr : ¬ (1 ≤ r ∧ r ≤ 3) := not_dec hc
    have e1 : RL r = 0 := if_neg hr
    have e2 : RB r = false := decide_eq_false hr
    rw [e1, e2]
    exact And.intro rfl rfl
  · have hr : 1 ≤ r ∧ r ≤ 3 := not_dec' hc
    have e1 : RL r = r := if_pos hr
    have e2 : RB r = true := decide_eq_true hr
    rw [e1, e2]
    exact And.intro rfl rfl
theorem t_implNew (h : Hp) (r : Int) :
    Tr Try.prog 37 #[.int .i64 r] h fun v h' => v = .tuple #[.agg #[.int .i64 (RL r), .slice none 0 0], .bool (RB r)] ∧ h' = h := by
  refine walk (args := [.int .i64 r]) (fn := Try.f37) rfl ?_
  refine Tr.val (t_within _ _ _ _) ?_
  refine And.intro (fun hc => ?_) (fun hc => ?_)
  · have hr : ¬ (1 ≤ r ∧ r ≤ 3) := not_dec hc
    have e1 : RL r = 0 := if_neg hr
    have e2 : RB r = false := decide_eq_false hr
    rw [e1, e2]
    exact And.intro rfl rfl
  · have hr : 1 ≤ r ∧ r ≤ 3 := not_dec' hc
    have e1 : RL r = r := if_pos hr
    have e2 : RB r = true := decide_eq_true hr
    rw [e1, e2]
    exact And.intro rfl rfl
theorem t_markS0 (h : Hp) (k : Int) :
    Tr Try.prog 88 #[.slice none 0 0, .int .i64 k] h fun v h' => v = .int .i64 k ∧ h' = h := by
  refine walk (args := [.slice none 0 0, .int .i64 k]) (fn := Try.f88) rfl ?_
  refine Exists.intro { vars := [1, 5], boxes := [], owns := [] } (Exists.intro (fun vs _ h' => vs = [.int .i64 k, .int .i64 0] ∧ h' = h) (Exists.intro (fun vs _ => 0) ?_))
  refine And.intro ⟨rfl, rfl⟩ ?_
  rintro _ _ h1 ⟨⟨⟩, rfl⟩
  refine And.intro (fun hc2 => ?_) (fun hc2 => ?_)
  · simp at hc2
  · exact And.intro rfl rfl
theorem t_mark0 (h : Hp) (r k : Int) (hr : In64 r) (hk : 0 ≤ k ∧ k ≤ 4611686018427387904) :
    Tr Try.prog 39 #[.agg #[.int .i64 r, .slice none 0 0], .int .i64 k] h fun v h' => v = .int .i64 k ∧ h' = h := by
  refine walk (args := [.agg #[.int .i64 r, .slice none 0 0], .int .i64 k]) (fn := Try.f39) rfl ?_
  refine Tr.val (t_markS0 _ k) ?_
  exact And.intro rfl rfl
theorem t_heldS0 (h : Hp) (k : Int) :
    Tr Try.prog 89 #[.slice none 0 0, .int .i64 k] h fun v h' => v = .int .i64 k ∧ h' = h := by
  refine walk (args := [.slice none 0 0, .int .i64 k]) (fn := Try.f89) rfl ?_
  refine Exists.intro { vars := [1, 5], boxes := [], owns := [] } (Exists.intro (fun vs _ h' => vs = [.int .i64 k, .int .i64 0] ∧ h' = h) (Exists.intro (fun vs _ => 0) ?_))
  refine And.intro ⟨rfl, rfl⟩ ?_
  rintro _ _ h1 ⟨⟨⟩, rfl⟩
  refine And.intro (fun hc2 => ?_) (fun hc2 => ?_)
  · simp at hc2
  · exact And.intro rfl rfl
theorem t_held0 (h : Hp) (r k : Int) (hr : In64 r) (hk : 0 ≤ k ∧ k ≤ 4611686018427387904) :
    Tr Try.prog 40 #[.agg #[.int .i64 r, .slice none 0 0], .int .i64 k] h fun v h' => v = .int .i64 k ∧ h' = h := by
  refine walk (args := [.agg #[.int .i64 r, .slice none 0 0], .int .i64 k]) (fn := Try.f40) rfl ?_
  refine Tr.val (t_heldS0 _ k) ?_
  refine And.intro (fun hc => ?_) (fun hc => ?_)
  · have : k < 0 := by simpa using hc
    omega
  exact And.intro rfl rfl
theorem t_lawNewNotebook (h : Hp) (r : Int) (hr : In64 r) :
    Tr Try.prog 8 #[.int .i64 r] h fun v h' => v = .bool true ∧ Sub h h' := by
  have hl := rl64 r
  refine walk (args := [.int .i64 r]) (fn := Try.f8) rfl ?_
  refine Tr.val (t_specNew _ r) ?_
  refine Tr.val (t_implNew _ r) ?_
  refine Tr.val ((t_eqNotebook _ [.int .i64 (RL r), .slice none 0 0] [.int .i64 (RL r), .slice none 0 0] (RL r, []) (RL r, []) (closeNotebook hl (nilR _)) (closeNotebook hl (nilR _)))) ?_
  refine And.intro (fun hc => ?_) (fun hc => ?_)
  · simp at hc
  refine Tr.val (t_mark0 _ (RL r) 1 hl ⟨by decide, by decide⟩) ?_
  refine Tr.val (t_held0 _ (RL r) 1 hl ⟨by decide, by decide⟩) ?_
  refine And.intro (fun hc => ?_) (fun hc => ?_)
  · simp at hc
  refine And.intro (fun hc => ?_) (fun hc => ?_)
  · simp at hc
  refine Tr.val (t_implNew _ r) ?_
  refine Tr.val ((t_eqNotebook _ [.int .i64 (RL r), .slice none 0 0] [.int .i64 (RL r), .slice none 0 0] (RL r, []) (RL r, []) (closeNotebook hl (nilR _)) (closeNotebook hl (nilR _)))) ?_
  refine And.intro (fun hc => ?_) (fun hc => ?_)
  · simp at hc
  refine Tr.val (t_held0 _ (RL r) 1 hl ⟨by decide, by decide⟩) ?_
  refine And.intro (fun hc => ?_) (fun hc => ?_)
  · simp at hc
  refine And.intro (fun hc => ?_) (fun hc => ?_)
  · simp at hc
  exact And.intro rfl (Sub.refl _)
end nNotebook
end Go.Proofs.Ytalidbmconldoaa
