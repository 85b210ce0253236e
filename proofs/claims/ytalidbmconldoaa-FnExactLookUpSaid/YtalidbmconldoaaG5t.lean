/- What markText does. -/
import Derived.Test.YtalidbmconldoaaG1
namespace Go.Proofs.Ytalidbmconldoaa
open Go.H
set_option linter.unusedVariables false
set_option maxRecDepth 10000
theorem digs_zero (n : Nat) (acc : List UInt8) : ∀ f, n = 0 → digs f n acc = acc
  | 0, _ => rfl
  | f + 1, h => by simp [digs, h]
theorem t_markText (h : Hp) (k : Int) (hk : 0 ≤ k ∧ k ≤ 4611686018427387904) :
    Tr Try.prog 129 #[.int .i64 k] h fun v h' => v = .string (mtext k) ∧ h' = h := by
  refine Tr.forget ?_
  refine walk (args := [.int .i64 k]) (fn := Try.f129) rfl ?_
  refine And.intro (fun hc => ?_) (fun hc => ?_)
  · have : k = 0 := by simp at hc; omega
    subst this
    exact And.intro rfl (Sub.refl _)
  have hk0 : 0 < k := by simp at hc; omega
  refine Exists.intro { vars := [0, 3], boxes := [], owns := [] } (Exists.intro (fun vs _ h' => ∃ (m f : Nat) (acc : List UInt8), m ≤ 4611686018427387904 ∧ m < 10 ^ f ∧ f ≤ 20 ∧ digs f m acc = digs 20 k.toNat [] ∧ acc.length ≤ 20 - f ∧ vs = [.int .i64 m, .string ⟨acc.toArray⟩] ∧ Sub h h') (Exists.intro (fun vs _ => match vs with | [.int _ j, _] => j.toNat | _ => 0) ?_))
  refine And.intro ⟨k.toNat, 20, [], by omega, by omega, by omega, rfl, by simp, by rw [show ((k.toNat : Nat) : Int) = k from by omega], Sub.refl _⟩ ?_
  rintro _ _ h1 ⟨m, f, acc, hmb, hm, hf, hd, hl, ⟨⟩, hs⟩
  refine And.intro (fun hc2 => ?_) (fun hc2 => ?_)
  · have hm0 : m ≠ 0 := by rintro rfl; simp at hc2
    refine Exists.intro [_] (And.intro rfl ?_)
    have hX : IntKind.u8.wrap (IntKind.i64.wrap (48 + (m : Int).tmod 10)) = ((48 + m % 10 : Nat) : Int) := by
      rw [show (10 : Int) = ((10 : Nat) : Int) from rfl, ← Int.ofNat_tmod]
      simp [IntKind.wrap, IntKind.signed, IntKind.bits]
      omega
    have hS : strOfNums [IntKind.u8.wrap (IntKind.i64.wrap (48 + (m : Int).tmod 10))] ++ ⟨acc.toArray⟩ = ⟨(UInt8.ofNat (48 + m % 10) :: acc).toArray⟩ := by
      rw [hX, show strOfNums [((48 + m % 10 : Nat) : Int)] = ⟨#[UInt8.ofNat (48 + m % 10)]⟩ from by simp only [strOfNums, List.map_cons, List.map_nil, Int.toNat_natCast]]
      generalize UInt8.ofNat (48 + m % 10) = d
      apply ByteArray.ext
      rw [ByteArray.data_append]
      simp
    obtain ⟨f, rfl⟩ : ∃ f', f = f' + 1 := by
      cases f with
      | zero => simp at hm; omega
      | succ f => exact ⟨f, rfl⟩
    have hq : (m : Int).tdiv 10 = ((m / 10 : Nat) : Int) := by rw [show (10 : Int) = ((10 : Nat) : Int) from rfl, ← Int.ofNat_tdiv]
    refine And.intro ?_ ?_
    · show (strOfNums _).size + acc.toArray.size ≤ 9223372036854775807
      simp only [strOfNums_size, List.size_toArray, List.length_singleton]
      omega
    have hw : IntKind.i64.wrap ((m : Int).tdiv 10) = ((m / 10 : Nat) : Int) := by rw [hq]; exact w64 (by omega) (by omega)
    refine And.intro rfl (And.intro (by first | exact trivial | exact And.intro rfl trivial | exact And.intro rfl (And.intro rfl trivial) | exact And.intro rfl (And.intro rfl (And.intro rfl trivial)) | exact And.intro rfl (And.intro rfl (And.intro rfl (And.intro rfl trivial)))) (And.intro (by first | exact trivial | exact And.intro rfl trivial | exact And.intro rfl (And.intro rfl trivial) | exact And.intro rfl (And.intro rfl (And.intro rfl trivial)) | exact And.intro rfl (And.intro rfl (And.intro rfl (And.intro rfl trivial)))) (And.intro ?_ ?_)))
    · refine ⟨m / 10, f, UInt8.ofNat (48 + m % 10) :: acc, by omega, ?_, by omega, ?_, by simp; omega, ?_, hs⟩
      · rw [Nat.pow_succ] at hm
        omega
      · rw [← hd]
        simp only [digs, if_neg hm0]
      · rw [← hw, ← hS]
    · show (IntKind.i64.wrap ((m : Int).tdiv 10)).toNat < ((m : Int)).toNat
      rw [hw]
      omega
  · have hm0 : m = 0 := by simp at hc2; omega
    refine And.intro ?_ ?_
    · show 1 + acc.toArray.size ≤ 9223372036854775807
      simp only [List.size_toArray]
      omega
    refine And.intro (congrArg Value.string ?_) hs
    rw [digs_zero m acc f hm0] at hd
    unfold mtext
    rw [if_neg (by omega), ← hd]
    apply ByteArray.ext
    simp
end Go.Proofs.Ytalidbmconldoaa
