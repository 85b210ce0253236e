/- Texts of the claim, joined: The data types of the laws, as lists and tuples; ; What the laws' own helpers do: sizes; What the laws' own helpers do: equality; What the laws' own helpers do: copies. -/
import Derived.Test.YtknoadmdnjaocaaGreatHE
import Derived.Test.YtknoadmdnjaocaaGreatChecked
namespace Go.Proofs.YtknoadmdnjaocaaGreat
open Go.H
set_option linter.unusedVariables false
set_option linter.unusedSimpArgs false
set_option maxRecDepth 10000
def L05 : Nat → Nat → List UInt8 → List UInt8
 | 0, _, acc => acc
 | f + 1, n, acc => if n = 0 then acc else L05 f (n / 10) (UInt8.ofNat (48 + n % 10) :: acc)
theorem D0a : ∀ (f n : Nat) (acc : List UInt8), (L05 f n acc).length ≤ f + acc.length
 | 0, n, acc => by simp [L05]
 | f + 1, n, acc => by
  simp only [L05]
  split
  ·omega
  ·have := D0a f (n / 10) (UInt8.ofNat (48 + n % 10) :: acc)
   simp only [List.length_cons] at this
   omega
abbrev F0 : Type := Int × Int × Int
abbrev j1 : Wp F0 := Wp.pair Wp.int (Wp.pair Wp.int Wp.int)
instance a0n : DecidableEq F0 := (@instDecidableEqProd _ _ (inferInstance : DecidableEq Int) (@instDecidableEqProd _ _ (inferInstance : DecidableEq Int) (inferInstance : DecidableEq Int)))
def u0l (x : F0) : Nat := 0
theorem F1 {h : Hp} {cs : List Value} {x : F0} (hx : j1.R h cs x) : ∃ (x0 : Int) (x1 : Int) (x2 : Int), cs = [.int .i64 x0, .int .i64 x1, .int .i64 x2] ∧ x = (x0, x1, x2) ∧ M0 x0 ∧ M0 x1 ∧ M0 x2 := by
 obtain ⟨x0, x1, x2⟩ := x
 obtain ⟨_, _, rfl, ⟨rfl, h0⟩, ⟨_, _, rfl, ⟨rfl, h1⟩, ⟨rfl, h2⟩⟩⟩ := hx
 exact ⟨x0, x1, x2, rfl, rfl, h0, h1, h2⟩
theorem K1 {h : Hp} {x0 : Int} {x1 : Int} {x2 : Int} (h0 : M0 x0) (h1 : M0 x1) (h2 : M0 x2) : j1.R h [.int .i64 x0, .int .i64 x1, .int .i64 x2] (x0, x1, x2) :=
 ⟨[.int .i64 x0], [.int .i64 x1, .int .i64 x2], rfl, ⟨rfl, h0⟩, ⟨[.int .i64 x1], [.int .i64 x2], rfl, ⟨rfl, h1⟩, ⟨rfl, h2⟩⟩⟩
theorem l0g {h : Hp} {x0 : Int} {x1 : Int} {x2 : Int} (h0 : M0 x0) (h1 : M0 x1) (h2 : M0 x2) : j1.W h [.int .i64 x0, .int .i64 x1, .int .i64 x2] (x0, x1, x2) ([] ++ ([] ++ [])) :=
 ⟨[.int .i64 x0], [.int .i64 x1, .int .i64 x2], [], ([] ++ []), rfl, rfl, ⟨⟨rfl, h0⟩, rfl⟩, ⟨[.int .i64 x1], [.int .i64 x2], [], [], rfl, rfl, ⟨⟨rfl, h1⟩, rfl⟩, ⟨⟨rfl, h2⟩, rfl⟩⟩⟩
abbrev J0 : Type := List F0
abbrev O0 : Wp J0 := Wp.slice j1
instance f0m : DecidableEq J0 := inferInstanceAs (DecidableEq (List F0))
def w02 (x : J0) : Nat := x.length
abbrev l0 : Type := Int × Int × J0
abbrev P0 : Wp l0 := Wp.pair Wp.int (Wp.pair Wp.int O0)
instance g0m : DecidableEq l0 := (@instDecidableEqProd _ _ (inferInstance : DecidableEq Int) (@instDecidableEqProd _ _ (inferInstance : DecidableEq Int) f0m))
def h03 (x : l0) : Nat := w02 x.2.2
theorem C0 {h : Hp} {cs : List Value} {x : l0} (hx : P0.R h cs x) : ∃ (x0 : Int) (x1 : Int) (a2 : Option Addr) (n2 c2 : Nat) (x2 : J0), cs = [.int .i64 x0, .int .i64 x1, .slice a2 n2 c2] ∧ x = (x0, x1, x2) ∧ M0 x0 ∧ M0 x1 ∧ O0.R h [.slice a2 n2 c2] x2 := by
 obtain ⟨x0, x1, x2⟩ := x
 obtain ⟨_, _, rfl, ⟨rfl, h0⟩, ⟨_, _, rfl, ⟨rfl, h1⟩, h2⟩⟩ := hx
 obtain ⟨a2, n2, c2, rfl⟩ := Wp.slice_cell h2
 exact ⟨x0, x1, a2, n2, c2, x2, rfl, rfl, h0, h1, h2⟩
theorem z0 {h : Hp} {x0 : Int} {x1 : Int} {a2 : Option Addr} {n2 c2 : Nat} {x2 : J0} (h0 : M0 x0) (h1 : M0 x1) (h2 : O0.R h [.slice a2 n2 c2] x2) : P0.R h [.int .i64 x0, .int .i64 x1, .slice a2 n2 c2] (x0, x1, x2) :=
 ⟨[.int .i64 x0], [.int .i64 x1, .slice a2 n2 c2], rfl, ⟨rfl, h0⟩, ⟨[.int .i64 x1], [.slice a2 n2 c2], rfl, ⟨rfl, h1⟩, h2⟩⟩
abbrev A4 : Type := Int × Int
abbrev w4 : Wp A4 := Wp.pair Wp.int Wp.int
instance b0n : DecidableEq A4 := (@instDecidableEqProd _ _ (inferInstance : DecidableEq Int) (inferInstance : DecidableEq Int))
theorem a01 {h : Hp} {cs : List Value} {x : A4} (hx : w4.R h cs x) : ∃ (x0 : Int) (x1 : Int), cs = [.int .i64 x0, .int .i64 x1] ∧ x = (x0, x1) ∧ M0 x0 ∧ M0 x1 := by
 obtain ⟨x0, x1⟩ := x
 obtain ⟨_, _, rfl, ⟨rfl, h0⟩, ⟨rfl, h1⟩⟩ := hx
 exact ⟨x0, x1, rfl, rfl, h0, h1⟩
theorem P1 {h : Hp} {x0 : Int} {x1 : Int} (h0 : M0 x0) (h1 : M0 x1) : w4.R h [.int .i64 x0, .int .i64 x1] (x0, x1) :=
 ⟨[.int .i64 x0], [.int .i64 x1], rfl, ⟨rfl, h0⟩, ⟨rfl, h1⟩⟩
abbrev D0 : Type := List Int
abbrev Q0 : Wp D0 := Wp.slice Wp.int
instance c0n : DecidableEq D0 := inferInstanceAs (DecidableEq (List Int))
abbrev Z2 : Type := List D0
abbrev a04 : Wp Z2 := Wp.slice Q0
instance V0m : DecidableEq Z2 := inferInstanceAs (DecidableEq (List D0))
abbrev m0g : Type := ByteArray × l0
instance W0m : DecidableEq m0g := (@instDecidableEqProd _ _ (inferInstance : DecidableEq ByteArray) g0m)
abbrev M09 : Type := List m0g
instance M0m : DecidableEq M09 := inferInstanceAs (DecidableEq (List m0g))
abbrev D8 : Type := List l0
abbrev W02 : Wp D8 := Wp.slice P0
instance N0m : DecidableEq D8 := inferInstanceAs (DecidableEq (List l0))
abbrev F7 : Type := List A4
abbrev r0d : Wp F7 := Wp.slice w4
instance X0m : DecidableEq F7 := inferInstanceAs (DecidableEq (List A4))
end Go.Proofs.YtknoadmdnjaocaaGreat
namespace Go.Proofs.YtknoadmdnjaocaaGreat
open Go.H
set_option linter.unusedVariables false
set_option linter.unusedSimpArgs false
set_option maxRecDepth 10000
open Go.H
theorem n0g (h : Hp) : ∃ cs, j1.R h cs (0, 0, 0) := ⟨_, K1 (by decide) (by decide) (by decide)⟩
theorem b0l (h : Hp) : ∃ cs, P0.R h cs (0, 0, []) := ⟨_, z0 (by decide) (by decide) (a0l j1 h)⟩
end Go.Proofs.YtknoadmdnjaocaaGreat
namespace Go.Proofs.YtknoadmdnjaocaaGreat
open Go.H
set_option linter.unusedVariables false
set_option linter.unusedSimpArgs false
set_option maxRecDepth 10000
theorem Z0i (h : Hp) (a : Option Addr) (n c : Nat) (xs : J0) (left : Int) (hx : O0.R h [.slice a n c] xs) (hl : 0 ≤ left ∧ left ≤ 1048576) :
  Tr Tryz.prog 74 #[.slice a n c, .int .i64 left] h fun v h' => v = .int .i64 (szR left (w02 xs)) ∧ h' = h := by
 obtain ⟨rfl, hn⟩ := Sl.len hx
 have hw : IntKind.i64.wrap (left - (xs.length : Int)) = left - xs.length := w64 (by omega) (by omega)
 refine T2 (args := [.slice a xs.length c, .int .i64 left]) (fn := Tryz.f74) rfl ?_
 refine And.intro (fun hc => ?_) (fun hc => ?_)
 ·refine And.intro ?_ rfl
  simp [hw] at hc
  rw [w02, d0m (by omega)]
  rfl
 ·refine And.intro ?_ rfl
  simp [hw] at hc
  rw [w02, e0m (by omega)]
  exact congrArg (Value.int .i64) hw
theorem a0j (h : Hp) (cs : List Value) (x : l0) (left : Int) (hx : P0.R h cs x) (hl : 0 ≤ left ∧ left ≤ 1048576) :
  Tr Tryz.prog 23 #[.agg cs.toArray, .int .i64 left] h fun v h' => v = .int .i64 (szR left (h03 x)) ∧ h' = h := by
 obtain ⟨x0, x1, a2, n2, c2, x2, rfl, rfl, h0, h1, h2⟩ := C0 hx
 refine T2 (args := [.agg #[.int .i64 x0, .int .i64 x1, .slice a2 n2 c2], .int .i64 left]) (fn := Tryz.f23) rfl ?_
 refine Tr.val (Z0i h a2 n2 c2 x2 (left) h2 hl) ?_
 refine And.intro (fun hc => ?_) (fun hc => ?_)
 ·refine And.intro ?_ rfl
  rw [h03, O0j (left := left) (a := ((w02 x2 : Nat) : Int)) (by simpa using hc) hl.1 (by simp only []; omega)]
  rfl
 have q0 : 0 ≤ szR left ((w02 x2 : Nat) : Int) := by simpa using hc
 have hl0 : 0 ≤ szR left ((w02 x2 : Nat) : Int) ∧ szR left ((w02 x2 : Nat) : Int) ≤ 1048576 := by
  have := N0j q0
  omega
 exact And.intro rfl rfl
end Go.Proofs.YtknoadmdnjaocaaGreat
namespace Go.Proofs.YtknoadmdnjaocaaGreat
open Go.H
set_option linter.unusedVariables false
set_option linter.unusedSimpArgs false
set_option maxRecDepth 10000
theorem C0k (h : Hp) (cs ds : List Value) (x y : F0) (hx : j1.R h cs x) (hy : j1.R h ds y) :
  Tr Tryz.prog 170 #[.agg cs.toArray, .agg ds.toArray] h fun v h' => v = .bool (decide (x = y)) ∧ h' = h := by
 obtain ⟨x0, x1, x2, rfl, rfl, h0, h1, h2⟩ := F1 hx
 obtain ⟨x0y, x1y, x2y, rfl, rfl, h0y, h1y, h2y⟩ := F1 hy
 refine T2 (args := [.agg #[.int .i64 x0, .int .i64 x1, .int .i64 x2], .agg #[.int .i64 x0y, .int .i64 x1y, .int .i64 x2y]]) (fn := Tryz.f170) rfl ?_
 refine And.intro (fun hc => ?_) (fun hc => ?_)
 ·have ne : x0 ≠ x0y := by simpa using hc
  exact And.intro (congrArg Value.bool (decide_eq_false fun e => by cases e; exact ne rfl).symm) rfl
 have q0 : x0 = x0y := by simpa using hc
 subst q0
 refine And.intro (fun hc => ?_) (fun hc => ?_)
 ·have ne : x1 ≠ x1y := by simpa using hc
  exact And.intro (congrArg Value.bool (decide_eq_false fun e => by cases e; exact ne rfl).symm) rfl
 have q1 : x1 = x1y := by simpa using hc
 subst q1
 refine And.intro (fun hc => ?_) (fun hc => ?_)
 ·have ne : x2 ≠ x2y := by simpa using hc
  exact And.intro (congrArg Value.bool (decide_eq_false fun e => by cases e; exact ne rfl).symm) rfl
 have q2 : x2 = x2y := by simpa using hc
 subst q2
 exact And.intro (congrArg Value.bool (decide_eq_true rfl).symm) rfl
theorem b0j (h : Hp) (a : Option Addr) (n c : Nat) (a' : Option Addr) (n' c' : Nat) (xs ys : J0) (hx : O0.R h [.slice a n c] xs) (hy : O0.R h [.slice a' n' c'] ys) :
  Tr Tryz.prog 85 #[.slice a n c, .slice a' n' c'] h fun v h' => v = .bool (decide (xs = ys)) ∧ h' = h := by
 obtain ⟨rfl, hn⟩ := Sl.len hx
 obtain ⟨rfl, hn'⟩ := Sl.len hy
 refine T2 (args := [.slice a xs.length c, .slice a' ys.length c']) (fn := Tryz.f85) rfl ?_
 refine And.intro (fun hc => ?_) (fun hc => ?_)
 ·refine And.intro (congrArg Value.bool ?_) rfl
  have : xs.length ≠ ys.length := by simp at hc; omega
  exact (decide_eq_false fun e => this (by rw [e])).symm
 have hlen : xs.length = ys.length := by simp at hc; omega
 refine Exists.intro { vars := [5], boxes := [], owns := [] } (Exists.intro (fun vs _ h' => ∃ k : Nat, k ≤ xs.length ∧ xs.take k = ys.take k ∧ vs = [.int .i64 k] ∧ h' = h) (Exists.intro (fun vs _ => match vs with | [.int _ j] => ((xs.length : Int) - j).toNat | _ => 0) ?_))
 refine And.intro ⟨0, by omega, by simp, rfl, rfl⟩ ?_
 rintro _ h1 ⟨k, hk, hall, ⟨⟩, rfl⟩
 refine And.intro (fun hc2 => ?_) (fun hc2 => ?_)
 ·have hlt : k < xs.length := by simpa using hc2
  obtain ⟨x, gx⟩ := o0d hlt
  obtain ⟨y, gy⟩ := o0d (l := ys) (k := k) (by omega)
  obtain ⟨b1, cs1, e1, i1⟩ := Sl.get hx gx (by decide)
  obtain ⟨b2, cs2, e2, i2⟩ := Sl.get hy gy (by decide)
  have hw := Q1 hlt hn
  obtain ⟨x0, x1, x2, rfl, rfl, g0, g1, g2⟩ := F1 i1
  obtain ⟨x0y, x1y, x2y, rfl, rfl, g0y, g1y, g2y⟩ := F1 i2
  refine Or.inl (And.intro (And.intro (by kernel_rfl) (by kernel_rfl)) ?_)
  refine And.intro b1 (Exists.intro _ (And.intro e1 (And.intro b2 (Exists.intro _ (And.intro e2 ?_)))))
  refine Exists.intro (.bool _) (And.intro (C0k _ [.int .i64 x0, .int .i64 x1, .int .i64 x2] [.int .i64 x0y, .int .i64 x1y, .int .i64 x2y] (x0, x1, x2) (x0y, x1y, x2y) (K1 g0 g1 g2) (K1 g0y g1y g2y)) ?_)
  refine And.intro (fun hc3 => ?_) (fun hc3 => ?_)
  ·refine And.intro (congrArg Value.bool ?_) rfl
   have hne : (x0, x1, x2) ≠ (x0y, x1y, x2y) := n0h hc3
   exact (decide_eq_false fun e => hne (Option.some.inj (gx.symm.trans ((congrArg (fun l : J0 => l[k]?) e).trans gy)))).symm
  ·have heq : (x0, x1, x2) = (x0y, x1y, x2y) := E0e hc3
   refine And.intro rfl (And.intro (by first | exact trivial | exact And.intro rfl trivial | exact And.intro rfl (And.intro rfl trivial) | exact And.intro rfl (And.intro rfl (And.intro rfl trivial)) | exact And.intro rfl (And.intro rfl (And.intro rfl (And.intro rfl trivial)))) (And.intro (by first | exact trivial | exact And.intro rfl trivial | exact And.intro rfl (And.intro rfl trivial) | exact And.intro rfl (And.intro rfl (And.intro rfl trivial)) | exact And.intro rfl (And.intro rfl (And.intro rfl (And.intro rfl trivial)))) (And.intro ?_ ?_)))
   ·refine ⟨k + 1, by omega, by rw [l08 gx, l08 gy, hall, heq], ?_, rfl⟩
    rw [← hw]
   ·show ((xs.length : Int) - IntKind.i64.wrap ((k : Int) + 1)).toNat < ((xs.length : Int) - (k : Int)).toNat
    omega
 ·have hk : k = xs.length := by simp at hc2; omega
  refine And.intro (congrArg Value.bool ?_) rfl
  refine (decide_eq_true ?_).symm
  subst hk
  rwa [List.take_length, hlen, List.take_length] at hall
theorem c0j (h : Hp) (cs ds : List Value) (x y : l0) (hx : P0.R h cs x) (hy : P0.R h ds y) :
  Tr Tryz.prog 27 #[.agg cs.toArray, .agg ds.toArray] h fun v h' => v = .bool (decide (x = y)) ∧ h' = h := by
 obtain ⟨x0, x1, a2, n2, c2, x2, rfl, rfl, h0, h1, h2⟩ := C0 hx
 obtain ⟨x0y, x1y, a2y, n2y, c2y, x2y, rfl, rfl, h0y, h1y, h2y⟩ := C0 hy
 refine T2 (args := [.agg #[.int .i64 x0, .int .i64 x1, .slice a2 n2 c2], .agg #[.int .i64 x0y, .int .i64 x1y, .slice a2y n2y c2y]]) (fn := Tryz.f27) rfl ?_
 refine And.intro (fun hc => ?_) (fun hc => ?_)
 ·have ne : x0 ≠ x0y := by simpa using hc
  exact And.intro (congrArg Value.bool (decide_eq_false fun e => by cases e; exact ne rfl).symm) rfl
 have q0 : x0 = x0y := by simpa using hc
 subst q0
 refine And.intro (fun hc => ?_) (fun hc => ?_)
 ·have ne : x1 ≠ x1y := by simpa using hc
  exact And.intro (congrArg Value.bool (decide_eq_false fun e => by cases e; exact ne rfl).symm) rfl
 have q1 : x1 = x1y := by simpa using hc
 subst q1
 refine Tr.val (b0j h a2 n2 c2 a2y n2y c2y x2 x2y h2 h2y) ?_
 refine And.intro (fun hc => ?_) (fun hc => ?_)
 ·have ne : x2 ≠ x2y := n0h hc
  exact And.intro (congrArg Value.bool (decide_eq_false fun e => by cases e; exact ne rfl).symm) rfl
 have q2 : x2 = x2y := E0e hc
 subst q2
 exact And.intro (congrArg Value.bool (decide_eq_true rfl).symm) rfl
end Go.Proofs.YtknoadmdnjaocaaGreat
namespace Go.Proofs.YtknoadmdnjaocaaGreat
open Go.H
set_option linter.unusedVariables false
set_option linter.unusedSimpArgs false
set_option maxRecDepth 10000
theorem D0k (h : Hp) (cs : List Value) (x : F0) (hx : j1.R h cs x) (hl : u0l x ≤ 1048576) :
  Tr Tryz.prog 165 #[.agg cs.toArray] h fun v h' => ∃ cs', v = .agg cs'.toArray ∧ New j1 h h' cs' x := by
 obtain ⟨x0, x1, x2, rfl, rfl, h0, h1, h2⟩ := F1 hx
 refine T2 (args := [.agg #[.int .i64 x0, .int .i64 x1, .int .i64 x2]]) (fn := Tryz.f165) rfl ?_
 exact Exists.intro _ (And.intro rfl (New.pair (New.int h0) (New.pair (New.int h1) (New.int h2))))
theorem d0j (h : Hp) (a : Option Addr) (n c : Nat) (xs : J0) (hx : O0.R h [.slice a n c] xs) (hl : w02 xs ≤ 1048576) :
  Tr Tryz.prog 79 #[.slice a n c] h fun v h' => New O0 h h' [v] xs := by
 obtain ⟨rfl, hn⟩ := Sl.len hx
 have hl0 : xs.length ≤ 1048576 := by simp only [w02] at hl; omega
 refine T2 (args := [.slice a xs.length c]) (fn := Tryz.f79) rfl ?_
 refine And.intro ?_ ?_
 ·show 0 ≤ (xs.length : Int) ∧ (xs.length : Int) ≤ xs.length ∧ (xs.length : Int) * 24 ≤ 140737488355328 ∧ (xs.length : Int) ≤ 9223372036854775807
  omega
 refine Exists.intro { vars := [4], boxes := [], owns := [0], kept := [0] } (Exists.intro (fun vs os h' => ∃ (k : Nat) (L : List (List Value)) (Bs : List (List Nat)), k ≤ xs.length ∧ vs = [.int .i64 k] ∧ os = [k04 L xs.length [.int .i64 0, .int .i64 0, .int .i64 0]] ∧ L.length = k ∧
  F3 (j1.W h') L (xs.take k) Bs ∧ Sub h h' ∧ E7 h Bs.flatten) (Exists.intro (fun vs _ => match vs with | [.int _ j] => ((xs.length : Int) - j).toNat | _ => 0) ?_))
 refine And.intro ⟨0, [], [], by omega, rfl, rfl, rfl, trivial, Sub.refl _, by simp [E7]⟩ ?_
 rintro _ _ h1 ⟨k, L, Bs, hk, ⟨⟩, ⟨⟩, hlk, hW, hsub, hfr⟩
 refine And.intro (fun hc2 => ?_) (fun hc2 => ?_)
 ·have hlt : k < xs.length := by simpa using hc2
  obtain ⟨x, gx⟩ := o0d hlt
  obtain ⟨b1, cs1, e1, i1⟩ := Sl.get (Sl.mono hsub hx) gx (by decide)
  have hw := Q1 hlt hn
  obtain ⟨x0, x1, x2, rfl, rfl, g0, g1, g2⟩ := F1 i1
  refine And.intro b1 (Exists.intro _ (And.intro e1 ?_))
  refine Tr.mono (D0k h1 [.int .i64 x0, .int .i64 x1, .int .i64 x2] (x0, x1, x2) (K1 g0 g1 g2) (by simp only [u0l]; omega)) ?_
  rintro v h2 ⟨cs2, rfl, B, hB1, hB2, hB3⟩
  obtain ⟨x0z, x1z, x2z, rfl, ez, _, _, _⟩ := F1 (j1.toR hB1)
  refine And.intro ?_ ?_
  ·show 0 ≤ (k : Int) ∧ (k : Int) < ((k04 L xs.length [.int .i64 0, .int .i64 0, .int .i64 0]).length : Nat)
   rw [n0d (by omega)]; omega
  refine Exists.intro [.int .i64 0, .int .i64 0, .int .i64 0] (And.intro (E0i hlk hlt) ?_)
  refine And.intro rfl (And.intro (by first | exact trivial | exact And.intro rfl trivial | exact And.intro rfl (And.intro rfl trivial) | exact And.intro rfl (And.intro rfl (And.intro rfl trivial)) | exact And.intro rfl (And.intro rfl (And.intro rfl (And.intro rfl trivial)))) (And.intro (by first | exact trivial | exact And.intro rfl trivial | exact And.intro rfl (And.intro rfl trivial) | exact And.intro rfl (And.intro rfl (And.intro rfl trivial)) | exact And.intro rfl (And.intro rfl (And.intro rfl (And.intro rfl trivial)))) (And.intro ?_ ?_)))
  ·refine ⟨k + 1, L ++ [[.int .i64 x0z, .int .i64 x1z, .int .i64 x2z]], Bs ++ [B], by omega, by rw [← hw], ?_, by simp [hlk], ?_, hsub.trans hB3, ?_⟩
   ·show [(k04 L xs.length [.int .i64 0, .int .i64 0, .int .i64 0]).set k [.int .i64 x0z, .int .i64 x1z, .int .i64 x2z]] = _
    rw [F0i hlk hlt]
   ·rw [l08 gx]
    exact F3.snoc hB1 (h0c hW hB3)
   ·exact C0a hW hsub hfr hB2
  ·show ((xs.length : Int) - IntKind.i64.wrap ((k : Int) + 1)).toNat < ((xs.length : Int) - (k : Int)).toNat
   omega
 ·have hk : k = xs.length := by simp at hc2; omega
  intro v h' hf
  rw [G0i (by omega)] at hf
  rw [hk, List.take_length] at hW
  exact U0.fresh (r := j1) hf hW hsub hfr
theorem S08 (h : Hp) (cs : List Value) (x : l0) (hx : P0.R h cs x) (hl : h03 x ≤ 1048576) :
  Tr Tryz.prog 25 #[.agg cs.toArray] h fun v h' => ∃ cs', v = .agg cs'.toArray ∧ New P0 h h' cs' x := by
 obtain ⟨x0, x1, a2, n2, c2, x2, rfl, rfl, h0, h1, h2⟩ := C0 hx
 simp only [h03] at hl
 refine T2 (args := [.agg #[.int .i64 x0, .int .i64 x1, .slice a2 n2 c2]]) (fn := Tryz.f25) rfl ?_
 refine Tr.mono (d0j h a2 n2 c2 x2 (Sl.mono (Sub.refl _) h2) (by omega)) ?_
 rintro v2 k2 N2
 obtain ⟨a2z, n2z, c2z, ez2⟩ := Wp.slice_cell N2.r
 cases ez2
 exact Exists.intro _ (And.intro rfl (New.pair (New.int h0) (New.pair (New.int h1) N2)))
end Go.Proofs.YtknoadmdnjaocaaGreat
