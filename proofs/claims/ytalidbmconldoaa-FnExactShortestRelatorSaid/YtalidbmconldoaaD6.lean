/- What TotalLength and AreWords do. -/
import Derived.Test.YtalidbmconldoaaD5
namespace Go.Proofs.Ytalidbmconldoaa
open Go.H
set_option linter.unusedVariables false
set_option maxRecDepth 10000

def sumLen : List (List Int) → Int
  | [] => 0
  | x :: r => x.length + sumLen r
theorem sumLen_nonneg : ∀ l, 0 ≤ sumLen l
  | [] => by decide
  | x :: r => by have := sumLen_nonneg r; simp only [sumLen]; omega
theorem sumLen_append : ∀ a b, sumLen (a ++ b) = sumLen a + sumLen b
  | [], b => by simp [sumLen]
  | x :: r, b => by simp only [List.cons_append, sumLen, sumLen_append r b]; omega
theorem sumLen_take (l : List (List Int)) (k : Nat) : sumLen (l.take k) ≤ sumLen l := by
  have h1 := sumLen_append (l.take k) (l.drop k)
  rw [List.take_append_drop] at h1
  have := sumLen_nonneg (l.drop k)
  omega

theorem sumLen_succ (l : List (List Int)) (k : Nat) (h : k < l.length) : sumLen (l.take (k + 1)) = sumLen (l.take k) + ((l.getD k []).length : Int) := by
  rw [take_succ_getD [] l k h, sumLen_append]
  simp only [sumLen]; omega

theorem t_specTotalLength (h : Hp) (a : Option Addr) (n c : Nat) (ws : List (List Int)) (hx : IntSS h (.slice a n c) ws) (hl : sumLen ws ≤ 9223372036854775807) :
    Tr Try.prog 126 #[.slice a n c] h fun v h' => v = .int .i64 (sumLen ws) ∧ h' = h := by
  obtain ⟨rfl, hn⟩ := hx.len
  refine walk (args := [.slice a ws.length c]) (fn := Try.f126) rfl ?_
  refine Exists.intro { vars := [3, 4], boxes := [], owns := [] } (Exists.intro (fun vs _ h' => ∃ k : Nat, k ≤ ws.length ∧ vs = [.int .i64 (sumLen (ws.take k)), .int .i64 k] ∧ h' = h) (Exists.intro (fun vs _ => match vs with | [_, .int _ j] => ((ws.length : Int) - j).toNat | _ => 0) ?_))
  refine And.intro ⟨0, by omega, rfl, rfl⟩ ?_
  rintro _ _ h1 ⟨k, hk, ⟨⟩, rfl⟩
  refine And.intro (fun hc2 => ?_) (fun hc2 => ?_)
  · have hlt : k < ws.length := by simpa using hc2
    obtain ⟨b1, a1, n1, c1, e1, i1⟩ := hx.getS hlt
    obtain ⟨rfl, _⟩ := i1.len
    have hw := wsucc hlt hn
    have h3 := sumLen_succ ws k hlt
    have h4 := sumLen_take ws (k + 1)
    have h5 := sumLen_nonneg (ws.take k)
    refine And.intro b1 (Exists.intro _ (And.intro e1 ?_))
    refine And.intro rfl (And.intro (by first | exact trivial | exact And.intro rfl trivial | exact And.intro rfl (And.intro rfl trivial) | exact And.intro rfl (And.intro rfl (And.intro rfl trivial)) | exact And.intro rfl (And.intro rfl (And.intro rfl (And.intro rfl trivial)))) (And.intro (by first | exact trivial | exact And.intro rfl trivial | exact And.intro rfl (And.intro rfl trivial) | exact And.intro rfl (And.intro rfl (And.intro rfl trivial)) | exact And.intro rfl (And.intro rfl (And.intro rfl (And.intro rfl trivial)))) (And.intro ?_ ?_)))
    · refine ⟨k + 1, by omega, ?_, rfl⟩
      show [Value.int .i64 (IntKind.i64.wrap (sumLen (ws.take k) + ((ws.getD k []).length : Int))), Value.int .i64 (IntKind.i64.wrap ((k : Int) + 1))] = _
      rw [w64 (by omega) (by omega), hw, h3]
    · show ((ws.length : Int) - IntKind.i64.wrap ((k : Int) + 1)).toNat < ((ws.length : Int) - (k : Int)).toNat
      omega
  · have hk : k = ws.length := by simp at hc2; omega
    subst hk
    refine And.intro ?_ rfl
    rw [List.take_length]
    rfl

theorem t_implTotalLength (h : Hp) (a : Option Addr) (n c : Nat) (ws : List (List Int)) (hx : IntSS h (.slice a n c) ws) (hl : sumLen ws ≤ 9223372036854775807) :
    Tr Try.prog 127 #[.slice a n c] h fun v h' => v = .int .i64 (sumLen ws) ∧ h' = h := by
  obtain ⟨rfl, hn⟩ := hx.len
  refine walk (args := [.slice a ws.length c]) (fn := Try.f127) rfl ?_
  refine Exists.intro { vars := [3, 8], boxes := [], owns := [] } (Exists.intro (fun vs _ h' => ∃ k : Nat, k ≤ ws.length ∧ vs = [.int .i64 (sumLen (ws.take k)), .int .i64 k] ∧ h' = h) (Exists.intro (fun vs _ => match vs with | [_, .int _ j] => ((ws.length : Int) - j).toNat | _ => 0) ?_))
  refine And.intro ⟨0, by omega, rfl, rfl⟩ ?_
  rintro _ _ h1 ⟨k, hk, ⟨⟩, rfl⟩
  refine And.intro (fun hc2 => ?_) (fun hc2 => ?_)
  · have hlt : k < ws.length := by simpa using hc2
    obtain ⟨b1, a1, n1, c1, e1, i1⟩ := hx.getS hlt
    obtain ⟨rfl, _⟩ := i1.len
    have hw := wsucc hlt hn
    have h3 := sumLen_succ ws k hlt
    have h4 := sumLen_take ws (k + 1)
    have h5 := sumLen_nonneg (ws.take k)
    refine And.intro b1 (Exists.intro _ (And.intro e1 ?_))
    refine And.intro rfl (And.intro (by first | exact trivial | exact And.intro rfl trivial | exact And.intro rfl (And.intro rfl trivial) | exact And.intro rfl (And.intro rfl (And.intro rfl trivial)) | exact And.intro rfl (And.intro rfl (And.intro rfl (And.intro rfl trivial)))) (And.intro (by first | exact trivial | exact And.intro rfl trivial | exact And.intro rfl (And.intro rfl trivial) | exact And.intro rfl (And.intro rfl (And.intro rfl trivial)) | exact And.intro rfl (And.intro rfl (And.intro rfl (And.intro rfl trivial)))) (And.intro ?_ ?_)))
    · refine ⟨k + 1, by omega, ?_, rfl⟩
      show [Value.int .i64 (IntKind.i64.wrap (sumLen (ws.take k) + ((ws.getD k []).length : Int))), Value.int .i64 (IntKind.i64.wrap ((k : Int) + 1))] = _
      rw [w64 (by omega) (by omega), hw, h3]
    · show ((ws.length : Int) - IntKind.i64.wrap ((k : Int) + 1)).toNat < ((ws.length : Int) - (k : Int)).toNat
      omega
  · have hk : k = ws.length := by simp at hc2; omega
    subst hk
    refine And.intro ?_ rfl
    rw [List.take_length]
    rfl

def areWordsB (r : Int) (ws : List (List Int)) : Bool := decide ((1 ≤ r ∧ r ≤ 3) ∧ ws.length ≤ 6 ∧ (∀ i, i < ws.length → isWordB r (ws.getD i []) = true) ∧ sumLen ws < 40)
theorem sumLen_bound {r : Int} : ∀ {ws : List (List Int)}, (∀ i, i < ws.length → isWordB r (ws.getD i []) = true) → sumLen ws ≤ 24 * ws.length
  | [], _ => by simp [sumLen]
  | w :: ws, h => by
    have h1 := sumLen_bound (ws := ws) fun i hi => by simpa using h (i + 1) (by simpa using hi)
    have h2 := h 0 (by simp)
    simp only [isWordB, decide_eq_true_eq, List.getD_cons_zero] at h2
    simp only [sumLen, List.length_cons]
    omega
theorem areWords_no {r : Int} {ws : List (List Int)} {i : Nat} (hi : i < ws.length) (h : isWordB r (ws.getD i []) = false) : areWordsB r ws = false := by
  simp only [areWordsB, decide_eq_false_iff_not]
  exact fun ⟨_, _, h1, _⟩ => by rw [h1 i hi] at h; cases h

theorem areWords_end {r : Int} {ws : List (List Int)} (hall : ∀ i, i < ws.length → isWordB r (ws.getD i []) = true) :
    (bif bif decide (1 ≤ r ∧ r ≤ 3) then decide ((ws.length : Int) ≤ 6) else false then decide (sumLen ws < 40) else false) = areWordsB r ws := by
  have h : areWordsB r ws = (decide (1 ≤ r ∧ r ≤ 3) && (decide ((ws.length : Int) ≤ 6) && decide (sumLen ws < 40))) := by
    unfold areWordsB
    rw [← Bool.decide_and, ← Bool.decide_and]
    apply decide_eq_decide.2
    exact ⟨fun g => ⟨g.1, by have := g.2.1; omega, g.2.2.2⟩, fun g => ⟨g.1, by have := g.2.1; omega, hall, g.2.2⟩⟩
  rw [h]
  cases decide (1 ≤ r ∧ r ≤ 3) <;> cases decide ((ws.length : Int) ≤ 6) <;> cases decide (sumLen ws < 40) <;> rfl

theorem t_specAreWords (h : Hp) (r : Int) (a : Option Addr) (n c : Nat) (ws : List (List Int)) (hx : IntSS h (.slice a n c) ws) (hr : In64 r) :
    Tr Try.prog 67 #[.int .i64 r, .slice a n c] h fun v h' => v = .bool (areWordsB r ws) ∧ h' = h := by
  obtain ⟨rfl, hn⟩ := hx.len
  refine walk (args := [.int .i64 r, .slice a ws.length c]) (fn := Try.f67) rfl ?_
  refine Exists.intro { vars := [5], boxes := [], owns := [] } (Exists.intro (fun vs _ h' => ∃ k : Nat, k ≤ ws.length ∧ (∀ i, i < k → isWordB r (ws.getD i []) = true) ∧ vs = [.int .i64 k] ∧ h' = h) (Exists.intro (fun vs _ => match vs with | [.int _ j] => ((ws.length : Int) - j).toNat | _ => 0) ?_))
  refine And.intro ⟨0, by omega, by simp, rfl, rfl⟩ ?_
  rintro _ h1 ⟨k, hk, hall, ⟨⟩, rfl⟩
  refine And.intro (fun hc2 => ?_) (fun hc2 => ?_)
  · have hlt : k < ws.length := by simpa using hc2
    obtain ⟨b1, a1, n1, c1, e1, i1⟩ := hx.getS hlt
    have hw := wsucc hlt hn
    refine And.intro b1 (Exists.intro _ (And.intro e1 ?_))
    refine Tr.val (t_specIsWord _ r _ _ _ _ i1 hr) ?_
    refine And.intro (fun hc3 => ?_) (fun hc3 => ?_)
    · refine And.intro (congrArg Value.bool ?_) rfl
      exact (areWords_no hlt (by simpa using hc3)).symm
    · refine And.intro rfl (And.intro (by first | exact trivial | exact And.intro rfl trivial | exact And.intro rfl (And.intro rfl trivial) | exact And.intro rfl (And.intro rfl (And.intro rfl trivial)) | exact And.intro rfl (And.intro rfl (And.intro rfl (And.intro rfl trivial)))) (And.intro (by first | exact trivial | exact And.intro rfl trivial | exact And.intro rfl (And.intro rfl trivial) | exact And.intro rfl (And.intro rfl (And.intro rfl trivial)) | exact And.intro rfl (And.intro rfl (And.intro rfl (And.intro rfl trivial)))) (And.intro ?_ ?_)))
      · refine ⟨k + 1, by omega, fun i hi => ?_, by rw [← hw], rfl⟩
        by_cases e : i = k
        · rw [e]; simpa using hc3
        · exact hall i (by omega)
      · show ((ws.length : Int) - IntKind.i64.wrap ((k : Int) + 1)).toNat < ((ws.length : Int) - (k : Int)).toNat
        omega
  · have hk : k = ws.length := by simp at hc2; omega
    subst hk
    have hb := sumLen_bound hall
    refine Tr.val (t_l1In _ r 1 3) ?_
    refine Exists.intro (.int .i64 (sumLen ws)) (And.intro (fun hc3 => t_specTotalLength _ _ _ _ _ hx ?_) ?_)
    · have h6 : ws.length ≤ 6 := Decidable.by_contra fun g => by
        have : decide ((ws.length : Int) ≤ 6) = false := decide_eq_false (by omega)
        simp [lit, this] at hc3
      omega
    refine And.intro (congrArg Value.bool ?_) rfl
    exact areWords_end hall

theorem t_implAreWords (h : Hp) (r : Int) (a : Option Addr) (n c : Nat) (ws : List (List Int)) (hx : IntSS h (.slice a n c) ws) :
    Tr Try.prog 69 #[.int .i64 r, .slice a n c] h fun v h' => v = .bool (areWordsB r ws) ∧ h' = h := by
  obtain ⟨rfl, hn⟩ := hx.len
  refine walk (args := [.int .i64 r, .slice a ws.length c]) (fn := Try.f69) rfl ?_
  refine Tr.val (t_within _ r 1 3) ?_
  refine And.intro (fun hc => ?_) (fun hc => ?_)
  · refine And.intro (congrArg Value.bool ?_) rfl
    have : ¬ ((1 ≤ r ∧ r ≤ 3) ∧ ws.length ≤ 6) := fun h => by
      have h1 : decide (1 ≤ r ∧ r ≤ 3) = true := decide_eq_true h.1
      have h2 : decide ((ws.length : Int) > 6) = false := decide_eq_false (by omega)
      rw [h1, h2] at hc
      cases hc
    exact (decide_eq_false fun h => this ⟨h.1, h.2.1⟩).symm
  have h13 : (1 ≤ r ∧ r ≤ 3) ∧ ws.length ≤ 6 := by
    by_cases h1 : 1 ≤ r ∧ r ≤ 3
    · by_cases h2 : (ws.length : Int) > 6
      · rw [decide_eq_true h1, decide_eq_true h2] at hc; cases hc
      · exact ⟨h1, by omega⟩
    · rw [decide_eq_false h1] at hc; cases hc
  refine Exists.intro { vars := [17], boxes := [], owns := [] } (Exists.intro (fun vs _ h' => ∃ k : Nat, k ≤ ws.length ∧ (∀ i, i < k → isWordB r (ws.getD i []) = true) ∧ vs = [.int .i64 k] ∧ h' = h) (Exists.intro (fun vs _ => match vs with | [.int _ j] => ((ws.length : Int) - j).toNat | _ => 0) ?_))
  refine And.intro ⟨0, by omega, by simp, rfl, rfl⟩ ?_
  rintro _ h1 ⟨k, hk, hall, ⟨⟩, rfl⟩
  refine And.intro (fun hc2 => ?_) (fun hc2 => ?_)
  · have hlt : k < ws.length := by simpa using hc2
    obtain ⟨b1, a1, n1, c1, e1, i1⟩ := hx.getS hlt
    have hw := wsucc hlt hn
    refine And.intro b1 (Exists.intro _ (And.intro e1 ?_))
    refine Tr.val (t_implIsWord _ r _ _ _ _ i1) ?_
    refine And.intro (fun hc3 => ?_) (fun hc3 => ?_)
    · refine And.intro (congrArg Value.bool ?_) rfl
      exact (areWords_no hlt (by simpa using hc3)).symm
    · refine And.intro rfl (And.intro (by first | exact trivial | exact And.intro rfl trivial | exact And.intro rfl (And.intro rfl trivial) | exact And.intro rfl (And.intro rfl (And.intro rfl trivial)) | exact And.intro rfl (And.intro rfl (And.intro rfl (And.intro rfl trivial)))) (And.intro (by first | exact trivial | exact And.intro rfl trivial | exact And.intro rfl (And.intro rfl trivial) | exact And.intro rfl (And.intro rfl (And.intro rfl trivial)) | exact And.intro rfl (And.intro rfl (And.intro rfl (And.intro rfl trivial)))) (And.intro ?_ ?_)))
      · refine ⟨k + 1, by omega, fun i hi => ?_, by rw [← hw], rfl⟩
        by_cases e : i = k
        · rw [e]; simpa using hc3
        · exact hall i (by omega)
      · show ((ws.length : Int) - IntKind.i64.wrap ((k : Int) + 1)).toNat < ((ws.length : Int) - (k : Int)).toNat
        omega
  · have hk : k = ws.length := by simp at hc2; omega
    subst hk
    have hb := sumLen_bound hall
    refine Tr.val (t_implTotalLength _ _ _ _ _ hx (by omega)) ?_
    refine And.intro (congrArg Value.bool ?_) rfl
    unfold areWordsB
    apply decide_eq_decide.2
    exact ⟨fun g => ⟨h13.1, h13.2, hall, g⟩, fun g => g.2.2.2⟩
end Go.Proofs.Ytalidbmconldoaa
