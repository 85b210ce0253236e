/- Texts of the claim, joined: The data types of the laws, as lists and tuples; What the laws' own helpers do: equality; What the laws' own helpers do: copies. -/
import Derived.Test.YtknoadmdnjaocaaHE
import Derived.Test.YtknoadmdnjaocaaChecked
namespace Go.Proofs.Ytknoadmdnjaocaa
open Go.H
set_option linter.unusedVariables false
set_option linter.unusedSimpArgs false
set_option maxRecDepth 10000
def k03 : Nat → Nat → List UInt8 → List UInt8
 | 0, _, acc => acc
 | f + 1, n, acc => if n = 0 then acc else k03 f (n / 10) (UInt8.ofNat (48 + n % 10) :: acc)
theorem U06 : ∀ (f n : Nat) (acc : List UInt8), (k03 f n acc).length ≤ f + acc.length
 | 0, n, acc => by simp [k03]
 | f + 1, n, acc => by
  simp only [k03]
  split
  ·omega
  ·have := U06 f (n / 10) (UInt8.ofNat (48 + n % 10) :: acc)
   simp only [List.length_cons] at this
   omega
abbrev i0 : Type := List Int
abbrev j0 : Wp i0 := Wp.slice Wp.int
instance g0g : DecidableEq i0 := inferInstanceAs (DecidableEq (List Int))
def V06 (x : i0) : Nat := x.length
abbrev Q6 : Type := List i0
abbrev h9 : Wp Q6 := Wp.slice j0
instance A0f : DecidableEq Q6 := inferInstanceAs (DecidableEq (List i0))
abbrev i9 : Type := Int × Q6
abbrev f03 : Wp i9 := Wp.pair Wp.int h9
instance P0f : DecidableEq i9 := (@instDecidableEqProd _ _ (inferInstance : DecidableEq Int) A0f)
theorem I04 {h : Hp} {cs : List Value} {x : i9} (hx : f03.R h cs x) : ∃ (x0 : Int) (a1 : Option Addr) (n1 c1 : Nat) (x1 : Q6), cs = [.int .i64 x0, .slice a1 n1 c1] ∧ x = (x0, x1) ∧ D0 x0 ∧ h9.R h [.slice a1 n1 c1] x1 := by
 obtain ⟨x0, x1⟩ := x
 obtain ⟨_, _, rfl, ⟨rfl, h0⟩, h1⟩ := hx
 obtain ⟨a1, n1, c1, rfl⟩ := Wp.slice_cell h1
 exact ⟨x0, a1, n1, c1, x1, rfl, rfl, h0, h1⟩
theorem y9 {h : Hp} {x0 : Int} {a1 : Option Addr} {n1 c1 : Nat} {x1 : Q6} (h0 : D0 x0) (h1 : h9.R h [.slice a1 n1 c1] x1) : f03.R h [.int .i64 x0, .slice a1 n1 c1] (x0, x1) :=
 ⟨[.int .i64 x0], [.slice a1 n1 c1], rfl, ⟨rfl, h0⟩, h1⟩
abbrev z0 : Type := Int × i0
abbrev u0 : Wp z0 := Wp.pair Wp.int j0
instance B0f : DecidableEq z0 := (@instDecidableEqProd _ _ (inferInstance : DecidableEq Int) g0g)
theorem v4 {h : Hp} {cs : List Value} {x : z0} (hx : u0.R h cs x) : ∃ (x0 : Int) (a1 : Option Addr) (n1 c1 : Nat) (x1 : i0), cs = [.int .i64 x0, .slice a1 n1 c1] ∧ x = (x0, x1) ∧ D0 x0 ∧ j0.R h [.slice a1 n1 c1] x1 := by
 obtain ⟨x0, x1⟩ := x
 obtain ⟨_, _, rfl, ⟨rfl, h0⟩, h1⟩ := hx
 obtain ⟨a1, n1, c1, rfl⟩ := Wp.slice_cell h1
 exact ⟨x0, a1, n1, c1, x1, rfl, rfl, h0, h1⟩
theorem V0 {h : Hp} {x0 : Int} {a1 : Option Addr} {n1 c1 : Nat} {x1 : i0} (h0 : D0 x0) (h1 : j0.R h [.slice a1 n1 c1] x1) : u0.R h [.int .i64 x0, .slice a1 n1 c1] (x0, x1) :=
 ⟨[.int .i64 x0], [.slice a1 n1 c1], rfl, ⟨rfl, h0⟩, h1⟩
abbrev F0 : Type := List z0
abbrev J7 : Wp F0 := Wp.slice u0
instance Y0e : DecidableEq F0 := inferInstanceAs (DecidableEq (List z0))
end Go.Proofs.Ytknoadmdnjaocaa
namespace Go.Proofs.Ytknoadmdnjaocaa
open Go.H
set_option linter.unusedVariables false
set_option linter.unusedSimpArgs false
set_option maxRecDepth 10000
theorem h0e (h : Hp) (a : Option Addr) (n c : Nat) (a' : Option Addr) (n' c' : Nat) (xs ys : i0) (hx : j0.R h [.slice a n c] xs) (hy : j0.R h [.slice a' n' c'] ys) :
  Tr Try.prog 7 #[.slice a n c, .slice a' n' c'] h fun v h' => v = .bool (decide (xs = ys)) ∧ h' = h := by
 obtain ⟨rfl, hn⟩ := Sl.len hx
 obtain ⟨rfl, hn'⟩ := Sl.len hy
 refine S2 (args := [.slice a xs.length c, .slice a' ys.length c']) (fn := Try.f7) rfl ?_
 refine And.intro (fun hc => ?_) (fun hc => ?_)
 ·refine And.intro (congrArg Value.bool ?_) rfl
  have : xs.length ≠ ys.length := by simp at hc; omega
  exact (decide_eq_false fun e => this (by rw [e])).symm
 have hlen : xs.length = ys.length := by simp at hc; omega
 refine Exists.intro { vars := [5], boxes := [], owns := [] } (Exists.intro (fun vs _ h' => ∃ k : Nat, k ≤ xs.length ∧ xs.take k = ys.take k ∧ vs = [.int .i64 k] ∧ h' = h) (Exists.intro (fun vs _ => match vs with | [.int _ j] => ((xs.length : Int) - j).toNat | _ => 0) ?_))
 refine And.intro ⟨0, by omega, by simp, rfl, rfl⟩ ?_
 rintro _ h1 ⟨k, hk, hall, ⟨⟩, rfl⟩
 refine And.intro (fun hc2 => ?_) (fun hc2 => ?_)
 ·have hlt : k < xs.length := by simpa using hc2
  obtain ⟨x, gx⟩ := Z08 hlt
  obtain ⟨y, gy⟩ := Z08 (l := ys) (k := k) (by omega)
  obtain ⟨b1, cs1, e1, i1⟩ := Sl.get hx gx (by decide)
  obtain ⟨b2, cs2, e2, i2⟩ := Sl.get hy gy (by decide)
  have hw := S6 hlt hn
  obtain ⟨rfl, _⟩ := i1
  obtain ⟨rfl, _⟩ := i2
  refine Or.inl (And.intro (And.intro (by kernel_rfl) (by kernel_rfl)) ?_)
  refine And.intro b1 (Exists.intro _ (And.intro e1 (And.intro b2 (Exists.intro _ (And.intro e2 ?_)))))
  refine And.intro (fun hc3 => ?_) (fun hc3 => ?_)
  ·refine And.intro (congrArg Value.bool ?_) rfl
   have hne : x ≠ y := by simpa using hc3
   exact (decide_eq_false fun e => hne (Option.some.inj (gx.symm.trans ((congrArg (fun l : i0 => l[k]?) e).trans gy)))).symm
  ·have heq : x = y := by simpa using hc3
   refine And.intro rfl (And.intro (by first | exact trivial | exact And.intro rfl trivial | exact And.intro rfl (And.intro rfl trivial) | exact And.intro rfl (And.intro rfl (And.intro rfl trivial)) | exact And.intro rfl (And.intro rfl (And.intro rfl (And.intro rfl trivial)))) (And.intro (by first | exact trivial | exact And.intro rfl trivial | exact And.intro rfl (And.intro rfl trivial) | exact And.intro rfl (And.intro rfl (And.intro rfl trivial)) | exact And.intro rfl (And.intro rfl (And.intro rfl (And.intro rfl trivial)))) (And.intro ?_ ?_)))
   ·refine ⟨k + 1, by omega, by rw [v05 gx, v05 gy, hall, heq], ?_, rfl⟩
    rw [← hw]
   ·show ((xs.length : Int) - IntKind.i64.wrap ((k : Int) + 1)).toNat < ((xs.length : Int) - (k : Int)).toNat
    omega
 ·have hk : k = xs.length := by simp at hc2; omega
  refine And.intro (congrArg Value.bool ?_) rfl
  refine (decide_eq_true ?_).symm
  subst hk
  rwa [List.take_length, hlen, List.take_length] at hall
end Go.Proofs.Ytknoadmdnjaocaa
namespace Go.Proofs.Ytknoadmdnjaocaa
open Go.H
set_option linter.unusedVariables false
set_option linter.unusedSimpArgs false
set_option maxRecDepth 10000
theorem r07 (h : Hp) (a : Option Addr) (n c : Nat) (xs : i0) (hx : j0.R h [.slice a n c] xs) (hl : V06 xs ≤ 1048576) :
  Tr Try.prog 5 #[.slice a n c] h fun v h' => New j0 h h' [v] xs := by
 obtain ⟨rfl, hn⟩ := Sl.len hx
 have hl0 : xs.length ≤ 1048576 := by simp only [V06] at hl; omega
 refine S2 (args := [.slice a xs.length c]) (fn := Try.f5) rfl ?_
 refine And.intro ?_ ?_
 ·show 0 ≤ (xs.length : Int) ∧ (xs.length : Int) ≤ xs.length ∧ (xs.length : Int) * 8 ≤ 140737488355328 ∧ (xs.length : Int) ≤ 9223372036854775807
  omega
 refine Exists.intro { vars := [4], boxes := [], owns := [0], kept := [0] } (Exists.intro (fun vs os h' => ∃ (k : Nat) (L : List (List Value)) (Bs : List (List Nat)), k ≤ xs.length ∧ vs = [.int .i64 k] ∧ os = [d02 L xs.length [.int .i64 0]] ∧ L.length = k ∧
  F3 (Wp.int.W h') L (xs.take k) Bs ∧ Sub h h' ∧ H6 h Bs.flatten) (Exists.intro (fun vs _ => match vs with | [.int _ j] => ((xs.length : Int) - j).toNat | _ => 0) ?_))
 refine And.intro ⟨0, [], [], by omega, rfl, rfl, rfl, trivial, Sub.refl _, by simp [H6]⟩ ?_
 rintro _ _ h1 ⟨k, L, Bs, hk, ⟨⟩, ⟨⟩, hlk, hW, hsub, hfr⟩
 refine And.intro (fun hc2 => ?_) (fun hc2 => ?_)
 ·have hlt : k < xs.length := by simpa using hc2
  obtain ⟨x, gx⟩ := Z08 hlt
  obtain ⟨b1, cs1, e1, i1⟩ := Sl.get (Sl.mono hsub hx) gx (by decide)
  have hw := S6 hlt hn
  obtain ⟨rfl, g1⟩ := i1
  refine And.intro b1 (Exists.intro _ (And.intro e1 ?_))
  obtain ⟨B, hB1, hB2, hB3⟩ := New.int (h := h1) g1
  refine And.intro ?_ ?_
  ·show 0 ≤ (k : Int) ∧ (k : Int) < ((d02 L xs.length [.int .i64 0]).length : Nat)
   rw [Y08 (by omega)]; omega
  refine Exists.intro [.int .i64 0] (And.intro (y0c hlk hlt) ?_)
  refine And.intro rfl (And.intro (by first | exact trivial | exact And.intro rfl trivial | exact And.intro rfl (And.intro rfl trivial) | exact And.intro rfl (And.intro rfl (And.intro rfl trivial)) | exact And.intro rfl (And.intro rfl (And.intro rfl (And.intro rfl trivial)))) (And.intro (by first | exact trivial | exact And.intro rfl trivial | exact And.intro rfl (And.intro rfl trivial) | exact And.intro rfl (And.intro rfl (And.intro rfl trivial)) | exact And.intro rfl (And.intro rfl (And.intro rfl (And.intro rfl trivial)))) (And.intro ?_ ?_)))
  ·refine ⟨k + 1, L ++ [[.int .i64 x]], Bs ++ [B], by omega, by rw [← hw], ?_, by simp [hlk], ?_, hsub.trans hB3, ?_⟩
   ·show [(d02 L xs.length [.int .i64 0]).set k [.int .i64 x]] = _
    rw [z0c hlk hlt]
   ·rw [v05 gx]
    exact F3.snoc hB1 (C0d hW hB3)
   ·exact U0a hW hsub hfr hB2
  ·show ((xs.length : Int) - IntKind.i64.wrap ((k : Int) + 1)).toNat < ((xs.length : Int) - (k : Int)).toNat
   omega
 ·have hk : k = xs.length := by simp at hc2; omega
  intro v h' hf
  rw [A0c (by omega)] at hf
  rw [hk, List.take_length] at hW
  exact O0.fresh (r := Wp.int) hf hW hsub hfr
end Go.Proofs.Ytknoadmdnjaocaa
