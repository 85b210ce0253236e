/- What IsPresentation does. -/
import Derived.Test.YtalidbmconldoaaD6
namespace Go.Proofs.Ytalidbmconldoaa
open Go.H
set_option linter.unusedVariables false
set_option maxRecDepth 10000

def vPres (r : Int) (a : Option Addr) (n c : Nat) : Value := .agg #[.int .i64 r, .slice a n c]
def cycB (w : List Int) : Bool := decide (w.length ≠ 0 ∧ w.getD 0 0 ≠ IntKind.i64.wrap (0 - w.getD (w.length - 1) 0))
def isPresB (r : Int) (ws : List (List Int)) : Bool := decide ((∀ i, i < ws.length → cycB (ws.getD i []) = true) ∧ areWordsB r ws = true)
theorem isPres_no {r : Int} {ws : List (List Int)} {i : Nat} (hi : i < ws.length) (h : cycB (ws.getD i []) = false) : isPresB r ws = false := by
  simp only [isPresB, decide_eq_false_iff_not]
  exact fun ⟨h1, _⟩ => by rw [h1 i hi] at h; cases h
theorem ends {h : Hp} {a : Option Addr} {n c : Nat} {w : List Int} (hx : Ints h (.slice a n c) w) (hne : w.length ≠ 0) :
    (InB (.slice a n c) 0 ∧ ElemAt h (.slice a n c) 1 0 [.int .i64 (w.getD 0 0)]) ∧ InB (.slice a n c) (IntKind.i64.wrap ((n : Int) - 1)) ∧ ElemAt h (.slice a n c) 1 (IntKind.i64.wrap ((n : Int) - 1)) [.int .i64 (w.getD (w.length - 1) 0)] := by
  obtain ⟨rfl, hn⟩ := hx.len
  obtain ⟨b1, e1, _⟩ := hx.get (i := 0) (by omega)
  obtain ⟨b2, e2, _⟩ := hx.get (i := w.length - 1) (by omega)
  rw [w64 (by omega) (by omega), show (w.length : Int) - 1 = ((w.length - 1 : Nat) : Int) from by omega]
  exact ⟨⟨b1, e1⟩, b2, e2⟩

theorem t_specIsPresentation0 (h : Hp) (r : Int) (a : Option Addr) (n c : Nat) (ws : List (List Int)) (hx : IntSS h (.slice a n c) ws) (hr : In64 r) :
    Tr Try.prog 16 #[vPres r a n c] h fun v h' => v = .bool (isPresB r ws) ∧ h' = h := by
  obtain ⟨rfl, hn⟩ := hx.len
  refine walk (args := [vPres r a ws.length c]) (fn := Try.f16) rfl ?_
  refine Exists.intro { vars := [3], boxes := [], owns := [] } (Exists.intro (fun vs _ h' => ∃ k : Nat, k ≤ ws.length ∧ (∀ i, i < k → cycB (ws.getD i []) = true) ∧ vs = [.int .i64 k] ∧ h' = h) (Exists.intro (fun vs _ => match vs with | [.int _ j] => ((ws.length : Int) - j).toNat | _ => 0) ?_))
  refine And.intro ⟨0, by omega, by simp, rfl, rfl⟩ ?_
  rintro _ h1 ⟨k, hk, hall, ⟨⟩, rfl⟩
  refine And.intro (fun hc2 => ?_) (fun hc2 => ?_)
  · have hlt : k < ws.length := by simpa using hc2
    obtain ⟨b1, a1, n1, c1, e1, i1⟩ := hx.getS hlt
    obtain ⟨rfl, _⟩ := i1.len
    have hw := wsucc hlt hn
    refine And.intro b1 (Exists.intro _ (And.intro e1 ?_))
    have hE := ends i1
    refine Or.inl (And.intro (And.intro (by kernel_rfl) (by kernel_rfl)) ?_)
    generalize hwd : ws.getD k [] = w at *
    have hne : lit false (((w.length : Int)) == 0) = true → w.length ≠ 0 := fun g g2 => by rw [g2] at g; cases g
    refine And.intro (fun g => (hE (hne g)).1.1) (Exists.intro _ (And.intro (fun g => (hE (hne g)).1.2) ?_))
    refine And.intro (fun g => (hE (hne g)).2.1) (Exists.intro _ (And.intro (fun g => (hE (hne g)).2.2) ?_))
    have key : (bif (w.length : Int) == 0 then true else w.getD 0 0 == IntKind.i64.wrap (0 - w.getD (w.length - 1) 0)) = !cycB w := by
      unfold cycB
      by_cases g1 : w.length = 0
      · simp [g1]
      · have : ((w.length : Int) == 0) = false := by simp; intro g; exact g1 (by rw [g]; rfl)
        rw [this]
        by_cases g2 : w.getD 0 0 = IntKind.i64.wrap (0 - w.getD (w.length - 1) 0)
        · rw [cond_false, decide_eq_false (fun g => g.2 g2), beq_iff_eq.2 g2]; rfl
        · rw [cond_false, decide_eq_true ⟨g1, g2⟩, beq_eq_false_iff_ne.2 g2]; rfl
    refine And.intro (fun hc3 => ?_) (fun hc3 => ?_)
    · refine And.intro (congrArg Value.bool ?_) rfl
      refine (isPres_no hlt ?_).symm
      rw [hwd]
      have := key.symm.trans hc3
      simpa using this
    · have hcy : cycB w = true := by
        have := key.symm.trans hc3
        simpa using this
      refine And.intro rfl (And.intro (by first | exact trivial | exact And.intro rfl trivial | exact And.intro rfl (And.intro rfl trivial) | exact And.intro rfl (And.intro rfl (And.intro rfl trivial)) | exact And.intro rfl (And.intro rfl (And.intro rfl (And.intro rfl trivial)))) (And.intro (by first | exact trivial | exact And.intro rfl trivial | exact And.intro rfl (And.intro rfl trivial) | exact And.intro rfl (And.intro rfl (And.intro rfl trivial)) | exact And.intro rfl (And.intro rfl (And.intro rfl (And.intro rfl trivial)))) (And.intro ?_ ?_)))
      · refine ⟨k + 1, by omega, fun i hi => ?_, by rw [← hw], rfl⟩
        by_cases e : i = k
        · rw [e, hwd]; exact hcy
        · exact hall i (by omega)
      · show ((ws.length : Int) - IntKind.i64.wrap ((k : Int) + 1)).toNat < ((ws.length : Int) - (k : Int)).toNat
        omega
  · have hk : k = ws.length := by simp at hc2; omega
    subst hk
    refine Tr.val (t_specAreWords _ r _ _ _ _ hx hr) ?_
    refine And.intro (congrArg Value.bool ?_) rfl
    unfold isPresB
    cases hA : areWordsB r ws
    · exact (decide_eq_false fun g => by cases g.2).symm
    · exact (decide_eq_true ⟨hall, rfl⟩).symm

theorem isWord_small {r : Int} {w : List Int} (h : isWordB r w = true) {i : Nat} (hi : i < w.length) : (1 ≤ r ∧ r ≤ 3) ∧ w.getD i 0 ≠ 0 ∧ -r ≤ w.getD i 0 ∧ w.getD i 0 ≤ r := by
  simp only [isWordB, decide_eq_true_eq] at h
  obtain ⟨h1, _, h2⟩ := h
  have := h2 i hi
  exact ⟨h1, this.1, this.2.1, this.2.2.1⟩

theorem t_implIsPresentation0 (h : Hp) (r : Int) (a : Option Addr) (n c : Nat) (ws : List (List Int)) (hx : IntSS h (.slice a n c) ws) :
    Tr Try.prog 18 #[vPres r a n c] h fun v h' => v = .bool (isPresB r ws) ∧ h' = h := by
  obtain ⟨rfl, hn⟩ := hx.len
  refine walk (args := [vPres r a ws.length c]) (fn := Try.f18) rfl ?_
  refine Tr.val (t_implAreWords _ r _ _ _ _ hx) ?_
  refine And.intro (fun hc => ?_) (fun hc => ?_)
  · refine And.intro (congrArg Value.bool ?_) rfl
    have : areWordsB r ws = false := by simpa using hc
    exact (decide_eq_false fun g => by rw [this] at g; cases g.2).symm
  have hA : areWordsB r ws = true := by simpa using hc
  have hA2 := hA
  simp only [areWordsB, decide_eq_true_eq] at hA2
  obtain ⟨h13, h6, hwords, h40⟩ := hA2
  refine Exists.intro { vars := [14], boxes := [], owns := [] } (Exists.intro (fun vs _ h' => ∃ k : Nat, k ≤ ws.length ∧ (∀ i, i < k → cycB (ws.getD i []) = true) ∧ vs = [.int .i64 k] ∧ h' = h) (Exists.intro (fun vs _ => match vs with | [.int _ j] => ((ws.length : Int) - j).toNat | _ => 0) ?_))
  refine And.intro ⟨0, by omega, by simp, rfl, rfl⟩ ?_
  rintro _ h1 ⟨k, hk, hall, ⟨⟩, rfl⟩
  refine And.intro (fun hc2 => ?_) (fun hc2 => ?_)
  · have hlt : k < ws.length := by simpa using hc2
    obtain ⟨b1, a1, n1, c1, e1, i1⟩ := hx.getS hlt
    obtain ⟨rfl, _⟩ := i1.len
    have hw := wsucc hlt hn
    have hword := hwords k hlt
    refine And.intro b1 (Exists.intro _ (And.intro e1 ?_))
    have hE := ends i1
    refine Or.inl (And.intro (And.intro (by kernel_rfl) (by kernel_rfl)) ?_)
    generalize hwd : ws.getD k [] = w at *
    have hne : lit false (((w.length : Int)) == 0) = true → w.length ≠ 0 := fun g g2 => by rw [g2] at g; cases g
    refine And.intro (fun g => (hE (hne g)).1.1) (Exists.intro _ (And.intro (fun g => (hE (hne g)).1.2) ?_))
    refine And.intro (fun g => (hE (hne g)).2.1) (Exists.intro _ (And.intro (fun g => (hE (hne g)).2.2) ?_))
    refine Exists.intro (.bool _) (And.intro (fun _ => t_areInverse _ _ _) ?_)
    have key : (bif (w.length : Int) == 0 then true else decide (w.getD 0 0 ≠ 0 ∧ w.getD 0 0 ≠ -9223372036854775808 ∧ w.getD (w.length - 1) 0 = IntKind.i64.wrap (0 - w.getD 0 0))) = !cycB w := by
      unfold cycB
      by_cases g1 : w.length = 0
      · simp [g1]
      · have : ((w.length : Int) == 0) = false := by simp; intro g; exact g1 (by rw [g]; rfl)
        rw [this, cond_false, ← decide_not]
        apply decide_eq_decide.2
        obtain ⟨_, s1, s2, s3⟩ := isWord_small hword (i := 0) (by omega)
        obtain ⟨_, s4, s5, s6⟩ := isWord_small hword (i := w.length - 1) (by omega)
        rw [w64 (x := 0 - w.getD 0 0) (by omega) (by omega), w64 (x := 0 - w.getD (w.length - 1) 0) (by omega) (by omega)]
        omega
    refine And.intro (fun hc3 => ?_) (fun hc3 => ?_)
    · refine And.intro (congrArg Value.bool ?_) rfl
      refine (isPres_no hlt ?_).symm
      rw [hwd]
      have := key.symm.trans hc3
      simpa using this
    · have hcy : cycB w = true := by
        have := key.symm.trans hc3
        simpa using this
      refine And.intro rfl (And.intro (by first | exact trivial | exact And.intro rfl trivial | exact And.intro rfl (And.intro rfl trivial) | exact And.intro rfl (And.intro rfl (And.intro rfl trivial)) | exact And.intro rfl (And.intro rfl (And.intro rfl (And.intro rfl trivial)))) (And.intro (by first | exact trivial | exact And.intro rfl trivial | exact And.intro rfl (And.intro rfl trivial) | exact And.intro rfl (And.intro rfl (And.intro rfl trivial)) | exact And.intro rfl (And.intro rfl (And.intro rfl (And.intro rfl trivial)))) (And.intro ?_ ?_)))
      · refine ⟨k + 1, by omega, fun i hi => ?_, by rw [← hw], rfl⟩
        by_cases e : i = k
        · rw [e, hwd]; exact hcy
        · exact hall i (by omega)
      · show ((ws.length : Int) - IntKind.i64.wrap ((k : Int) + 1)).toNat < ((ws.length : Int) - (k : Int)).toNat
        omega
  · have hk : k = ws.length := by simp at hc2; omega
    subst hk
    refine And.intro (congrArg Value.bool ?_) rfl
    exact (decide_eq_true ⟨hall, hA⟩).symm
end Go.Proofs.Ytalidbmconldoaa
