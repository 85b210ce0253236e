/- What ClaimWord does. -/
import Derived.Test.YtdhephfnmmllnaaC1
namespace Go.Proofs.Ytdhephfnmmllnaa
open Go.H
set_option linter.unusedVariables false
set_option maxRecDepth 10000
def claimTab : List ByteArray := [⟨#[105, 110]⟩, ⟨#[111, 117, 116]⟩, ⟨#[115, 97, 109, 101]⟩, ⟨#[99, 111, 110, 106, 117, 103, 97, 116, 101]⟩, ⟨#[102, 114, 101, 101]⟩, ⟨#[105, 110, 100, 101, 120]⟩]
def claimWord (x : Int) : ByteArray := if 1 ≤ x ∧ x ≤ 6 then claimTab.getD (x - 1).toNat default else ⟨#[]⟩
theorem t_specClaimWord (h : Hp) (x : Int) : Tr Try.prog 9 #[.int .i64 x] h fun v h' => v = .string (claimWord x) ∧ h' = h := by
  refine evFn_sound (args := [.int .i64 x]) (fn := Try.f9) rfl ?_
  refine Tr.val (t_l1In h x 1 6) ?_
  refine And.intro (fun hc => ?_) (fun hc => ?_)
  · refine And.intro ?_ rfl
    have hx : ¬ (1 ≤ x ∧ x ≤ 6) := by simp at hc; omega
    rw [claimWord, if_neg hx]
    rfl
  · have hx : 1 ≤ x ∧ x ≤ 6 := by simp at hc; omega
    have hw : IntKind.i64.wrap (x - 1) = x - 1 := w64 (by omega) (by omega)
    refine And.intro ?_ (Exists.intro [.string (claimTab.getD (x - 1).toNat default)] (And.intro ?_ (And.intro ?_ rfl)))
    · show 0 ≤ IntKind.i64.wrap (x - 1) ∧ IntKind.i64.wrap (x - 1) < 6
      omega
    · have h6 : x = 1 ∨ x = 2 ∨ x = 3 ∨ x = 4 ∨ x = 5 ∨ x = 6 := by omega
      rcases h6 with rfl | rfl | rfl | rfl | rfl | rfl <;> rfl
    · rw [claimWord, if_pos hx]
      rfl
theorem t_implClaimWord (h : Hp) (x : Int) : Tr Try.prog 10 #[.int .i64 x] h fun v h' => v = .string (claimWord x) ∧ h' = h := by
  refine evFn_sound (args := [.int .i64 x]) (fn := Try.f10) rfl ?_
  refine Tr.val (t_within h x 1 6) ?_
  refine And.intro (fun hc => ?_) (fun hc => ?_)
  · refine And.intro ?_ rfl
    have hx : ¬ (1 ≤ x ∧ x ≤ 6) := by simp at hc; omega
    rw [claimWord, if_neg hx]
    rfl
  · have hx : 1 ≤ x ∧ x ≤ 6 := by simp at hc; omega
    have hw : IntKind.i64.wrap (x - 1) = x - 1 := w64 (by omega) (by omega)
    refine And.intro ?_ (Exists.intro [.string (claimTab.getD (x - 1).toNat default)] (And.intro ?_ (And.intro ?_ rfl)))
    · show 0 ≤ IntKind.i64.wrap (x - 1) ∧ IntKind.i64.wrap (x - 1) < 6
      omega
    · have h6 : x = 1 ∨ x = 2 ∨ x = 3 ∨ x = 4 ∨ x = 5 ∨ x = 6 := by omega
      rcases h6 with rfl | rfl | rfl | rfl | rfl | rfl <;> rfl
    · rw [claimWord, if_pos hx]
      rfl

theorem t_FnExactClaimWord (h : Hp) (x : Int) : Tr Try.prog 3 #[.int .i64 x] h fun v h' => v = .bool true ∧ h' = h := by
  refine evFn_sound (args := [.int .i64 x]) (fn := Try.f3) rfl ?_
  refine Tr.val (t_specClaimWord h x) ?_
  refine Tr.val (t_implClaimWord h x) ?_
  refine And.intro (fun hc => ?_) (fun hc => ?_)
  · exact absurd hc (by simp)
  · exact And.intro rfl rfl
end Go.Proofs.Ytdhephfnmmllnaa
