/- What IsName does. -/
import Derived.Test.YtdhephfnmmllnaaC1
namespace Go.Proofs.Ytdhephfnmmllnaa
open Go.H
set_option linter.unusedVariables false
set_option maxRecDepth 10000

def byteAt (s : ByteArray) (i : Nat) : UInt8 := (s[i]?).getD 0
theorem byteAt_spec {s : ByteArray} {i : Nat} (h : i < s.size) : s[i]? = some (byteAt s i) := by
  unfold byteAt
  cases hb : s[i]? with
  | none => simp at hb; omega
  | some b => rfl
def okName (s : ByteArray) (i : Nat) : Prop := (97 ≤ (byteAt s i).toNat ∧ (byteAt s i).toNat ≤ 122) ∨ (i ≠ 0 ∧ 48 ≤ (byteAt s i).toNat ∧ (byteAt s i).toNat ≤ 57)
instance (s : ByteArray) (i : Nat) : Decidable (okName s i) := by unfold okName; infer_instance
def isNameB (s : ByteArray) : Bool := decide ((1 ≤ s.size ∧ s.size ≤ 8) ∧ ∀ i, i < s.size → okName s i)

theorem isName_no {s : ByteArray} {n : Nat} (hlt : n < s.size) (h : ¬ okName s n) : isNameB s = false := by
  simp only [isNameB, decide_eq_false_iff_not]
  exact fun ⟨_, h2⟩ => h (h2 n hlt)
theorem isName_end {s : ByteArray} (h : ∀ i, i < s.size → okName s i) : decide (1 ≤ (s.size : Int) ∧ (s.size : Int) ≤ 8) = isNameB s := by
  unfold isNameB
  apply decide_eq_decide.2
  exact ⟨fun ⟨a, b⟩ => ⟨⟨by omega, by omega⟩, h⟩, fun ⟨⟨a, b⟩, _⟩ => ⟨by omega, by omega⟩⟩
theorem ok_next {s : ByteArray} {n : Nat} (h : ∀ i, i < n → okName s i) (hn : okName s n) : ∀ i, i < n + 1 → okName s i := fun i hi => by
  by_cases e : i = n
  · rw [e]; exact hn
  · exact h i (by omega)

theorem t_specIsName (h : Hp) (s : ByteArray) (hs : s.size ≤ 9223372036854775807) : Tr Try.prog 13 #[.string s] h fun v h' => v = .bool (isNameB s) ∧ h' = h := by
  refine walk (args := [.string s]) (fn := Try.f13) rfl ?_
  refine Exists.intro ⟨[3], [], []⟩ (Exists.intro (fun vs _ h' => ∃ n : Nat, n ≤ s.size ∧ (∀ i, i < n → okName s i) ∧ vs = [.int .i64 n] ∧ h' = h) (Exists.intro (fun vs _ => match vs with | [.int _ k] => ((s.size : Int) - k).toNat | _ => 0) ?_))
  refine And.intro ⟨0, by omega, by simp, rfl, rfl⟩ ?_
  rintro _ _ ⟨n, hn, hn1, ⟨⟩, rfl⟩
  refine And.intro (fun hc => ?_) (fun hc => ?_)
  · have hlt : n < s.size := by simp at hc; omega
    have hb := byteAt_spec hlt
    refine Exists.intro (byteAt s n) (And.intro ⟨by omega, hb⟩ ?_)
    refine Exists.intro (byteAt s n) (And.intro (fun _ => ⟨by omega, hb⟩) ?_)
    refine Exists.intro (byteAt s n) (And.intro (fun _ => ⟨by omega, hb⟩) ?_)
    refine Exists.intro (byteAt s n) (And.intro (fun _ => ⟨by omega, hb⟩) ?_)
    refine And.intro (fun hc2 => ?_) (fun hc2 => ?_)
    · refine And.intro ?_ rfl
      have hnot : ¬ okName s n := by unfold okName; simp at hc2; omega
      exact congrArg Value.bool (isName_no hlt hnot).symm
    · have hyes : okName s n := by unfold okName; simp at hc2; omega
      have hw : IntKind.i64.wrap ((n : Int) + 1) = ((n + 1 : Nat) : Int) := by rw [w64 (by omega) (by omega)]; omega
      refine And.intro rfl (And.intro trivial (And.intro trivial (And.intro ?_ ?_)))
      · refine ⟨n + 1, by omega, ok_next hn1 hyes, ?_, rfl⟩
        rw [← hw]
      · show ((s.size : Int) - IntKind.i64.wrap ((n : Int) + 1)).toNat < ((s.size : Int) - (n : Int)).toNat
        omega
  · have hge : n = s.size := by simp at hc; omega
    subst hge
    refine Tr.val (t_l1In _ _ 1 8) ?_
    exact And.intro (congrArg Value.bool (isName_end hn1)) rfl

theorem t_implIsName (h : Hp) (s : ByteArray) (hs : s.size ≤ 9223372036854775807) : Tr Try.prog 14 #[.string s] h fun v h' => v = .bool (isNameB s) ∧ h' = h := by
  refine walk (args := [.string s]) (fn := Try.f14) rfl ?_
  refine Tr.val (t_within _ _ 1 8) ?_
  refine And.intro (fun hc => ?_) (fun hc => ?_)
  · refine And.intro (congrArg Value.bool ?_) rfl
    simp at hc
    simp only [isNameB, Bool.false_eq, decide_eq_false_iff_not]
    omega
  have h8 : 1 ≤ s.size ∧ s.size ≤ 8 := by simp at hc; omega
  refine Exists.intro ⟨[3], [], []⟩ (Exists.intro (fun vs _ h' => ∃ n : Nat, n ≤ s.size ∧ (∀ i, i < n → okName s i) ∧ vs = [.int .i64 n] ∧ h' = h) (Exists.intro (fun vs _ => match vs with | [.int _ k] => ((s.size : Int) - k).toNat | _ => 0) ?_))
  refine And.intro ⟨0, by omega, by simp, rfl, rfl⟩ ?_
  rintro _ _ ⟨n, hn, hn1, ⟨⟩, rfl⟩
  refine And.intro (fun hc => ?_) (fun hc => ?_)
  · have hlt : n < s.size := by simp at hc; omega
    have hb := byteAt_spec hlt
    refine Exists.intro (byteAt s n) (And.intro ⟨by omega, hb⟩ ?_)
    refine Exists.intro (byteAt s n) (And.intro (fun _ => ⟨by omega, hb⟩) ?_)
    refine Exists.intro (byteAt s n) (And.intro ⟨by omega, hb⟩ ?_)
    refine Exists.intro (byteAt s n) (And.intro (fun _ => ⟨by omega, hb⟩) ?_)
    refine And.intro (fun hc2 => ?_) (fun hc2 => ?_)
    · refine And.intro ?_ rfl
      have hnot : ¬ okName s n := by unfold okName; simp at hc2; omega
      exact congrArg Value.bool (isName_no hlt hnot).symm
    · have hyes : okName s n := by unfold okName; simp at hc2; omega
      have hw : IntKind.i64.wrap ((n : Int) + 1) = ((n + 1 : Nat) : Int) := by rw [w64 (by omega) (by omega)]; omega
      refine And.intro rfl (And.intro trivial (And.intro trivial (And.intro ?_ ?_)))
      · refine ⟨n + 1, by omega, ok_next hn1 hyes, ?_, rfl⟩
        rw [← hw]
      · show ((s.size : Int) - IntKind.i64.wrap ((n : Int) + 1)).toNat < ((s.size : Int) - (n : Int)).toNat
        omega
  · have hge : n = s.size := by simp at hc; omega
    subst hge
    refine And.intro (congrArg Value.bool ?_) rfl
    rw [← isName_end hn1]
    simp; omega

theorem t_FnExactIsName (h : Hp) (s : ByteArray) (hs : s.size ≤ 9223372036854775807) : Tr Try.prog 5 #[.string s] h fun v h' => v = .bool true ∧ h' = h := by
  refine walk (args := [.string s]) (fn := Try.f5) rfl ?_
  refine And.intro (fun _ => And.intro rfl rfl) (fun _ => ?_)
  refine Tr.val (t_specIsName h s hs) ?_
  refine Tr.val (t_implIsName h s hs) ?_
  refine And.intro (fun hc => ?_) (fun hc => ?_)
  · exact absurd hc (by simp)
  · exact And.intro rfl rfl
end Go.Proofs.Ytdhephfnmmllnaa
