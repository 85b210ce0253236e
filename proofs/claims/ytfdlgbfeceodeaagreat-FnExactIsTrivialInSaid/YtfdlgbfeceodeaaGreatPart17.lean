/- Texts of the claim, joined: The data types of the laws, as lists and tuples; ; What the laws' own helpers do: sizes; What the laws' own helpers do: equality; What the laws' own helpers do: copies. -/
import Derived.Test.YtfdlgbfeceodeaaGreatHE
import Derived.Test.YtfdlgbfeceodeaaGreatChecked
namespace Go.Proofs.YtfdlgbfeceodeaaGreat
open Go.H
set_option linter.unusedVariables false
set_option linter.unusedSimpArgs false
set_option maxRecDepth 10000
abbrev C0 : Type := Int × Int × Int
abbrev S0 : Wp C0 := Wp.pair Wp.int (Wp.pair Wp.int Wp.int)
instance M0m : DecidableEq C0 := (@instDecidableEqProd _ _ (inferInstance : DecidableEq Int) (@instDecidableEqProd _ _ (inferInstance : DecidableEq Int) (inferInstance : DecidableEq Int)))
theorem C1 {h : Hp} {cs : List Value} {x : C0} (hx : S0.R h cs x) : ∃ (x0 : Int) (x1 : Int) (x2 : Int), cs = [.int .i64 x0, .int .i64 x1, .int .i64 x2] ∧ x = (x0, x1, x2) ∧ D0 x0 ∧ D0 x1 ∧ D0 x2 := by
 obtain ⟨x0, x1, x2⟩ := x
 obtain ⟨_, _, rfl, ⟨rfl, h0⟩, ⟨_, _, rfl, ⟨rfl, h1⟩, ⟨rfl, h2⟩⟩⟩ := hx
 exact ⟨x0, x1, x2, rfl, rfl, h0, h1, h2⟩
theorem V0 {h : Hp} {x0 : Int} {x1 : Int} {x2 : Int} (h0 : D0 x0) (h1 : D0 x1) (h2 : D0 x2) : S0.R h [.int .i64 x0, .int .i64 x1, .int .i64 x2] (x0, x1, x2) :=
 ⟨[.int .i64 x0], [.int .i64 x1, .int .i64 x2], rfl, ⟨rfl, h0⟩, ⟨[.int .i64 x1], [.int .i64 x2], rfl, ⟨rfl, h1⟩, ⟨rfl, h2⟩⟩⟩
theorem J0g {h : Hp} {x0 : Int} {x1 : Int} {x2 : Int} (h0 : D0 x0) (h1 : D0 x1) (h2 : D0 x2) : S0.W h [.int .i64 x0, .int .i64 x1, .int .i64 x2] (x0, x1, x2) ([] ++ ([] ++ [])) :=
 ⟨[.int .i64 x0], [.int .i64 x1, .int .i64 x2], [], ([] ++ []), rfl, rfl, ⟨⟨rfl, h0⟩, rfl⟩, ⟨[.int .i64 x1], [.int .i64 x2], [], [], rfl, rfl, ⟨⟨rfl, h1⟩, rfl⟩, ⟨⟨rfl, h2⟩, rfl⟩⟩⟩
abbrev M0 : Type := List C0
abbrev I0 : Wp M0 := Wp.slice S0
instance a0m : DecidableEq M0 := inferInstanceAs (DecidableEq (List C0))
abbrev l0 : Type := Int × Int × M0
abbrev W0 : Wp l0 := Wp.pair Wp.int (Wp.pair Wp.int I0)
instance b0m : DecidableEq l0 := (@instDecidableEqProd _ _ (inferInstance : DecidableEq Int) (@instDecidableEqProd _ _ (inferInstance : DecidableEq Int) a0m))
theorem B0 {h : Hp} {cs : List Value} {x : l0} (hx : W0.R h cs x) : ∃ (x0 : Int) (x1 : Int) (a2 : Option Addr) (n2 c2 : Nat) (x2 : M0), cs = [.int .i64 x0, .int .i64 x1, .slice a2 n2 c2] ∧ x = (x0, x1, x2) ∧ D0 x0 ∧ D0 x1 ∧ I0.R h [.slice a2 n2 c2] x2 := by
 obtain ⟨x0, x1, x2⟩ := x
 obtain ⟨_, _, rfl, ⟨rfl, h0⟩, ⟨_, _, rfl, ⟨rfl, h1⟩, h2⟩⟩ := hx
 obtain ⟨a2, n2, c2, rfl⟩ := Wp.slice_cell h2
 exact ⟨x0, x1, a2, n2, c2, x2, rfl, rfl, h0, h1, h2⟩
theorem z0 {h : Hp} {x0 : Int} {x1 : Int} {a2 : Option Addr} {n2 c2 : Nat} {x2 : M0} (h0 : D0 x0) (h1 : D0 x1) (h2 : I0.R h [.slice a2 n2 c2] x2) : W0.R h [.int .i64 x0, .int .i64 x1, .slice a2 n2 c2] (x0, x1, x2) :=
 ⟨[.int .i64 x0], [.int .i64 x1, .slice a2 n2 c2], rfl, ⟨rfl, h0⟩, ⟨[.int .i64 x1], [.slice a2 n2 c2], rfl, ⟨rfl, h1⟩, h2⟩⟩
abbrev C4 : Type := Int × Int
abbrev A4 : Wp C4 := Wp.pair Wp.int Wp.int
instance N0m : DecidableEq C4 := (@instDecidableEqProd _ _ (inferInstance : DecidableEq Int) (inferInstance : DecidableEq Int))
theorem p01 {h : Hp} {cs : List Value} {x : C4} (hx : A4.R h cs x) : ∃ (x0 : Int) (x1 : Int), cs = [.int .i64 x0, .int .i64 x1] ∧ x = (x0, x1) ∧ D0 x0 ∧ D0 x1 := by
 obtain ⟨x0, x1⟩ := x
 obtain ⟨_, _, rfl, ⟨rfl, h0⟩, ⟨rfl, h1⟩⟩ := hx
 exact ⟨x0, x1, rfl, rfl, h0, h1⟩
theorem Y1 {h : Hp} {x0 : Int} {x1 : Int} (h0 : D0 x0) (h1 : D0 x1) : A4.R h [.int .i64 x0, .int .i64 x1] (x0, x1) :=
 ⟨[.int .i64 x0], [.int .i64 x1], rfl, ⟨rfl, h0⟩, ⟨rfl, h1⟩⟩
abbrev P0 : Type := List Int
abbrev Z0 : Wp P0 := Wp.slice Wp.int
instance O0m : DecidableEq P0 := inferInstanceAs (DecidableEq (List Int))
def u00 (x : P0) : Nat := x.length
abbrev V3 : Type := List P0
abbrev n5 : Wp V3 := Wp.slice Z0
instance c0m : DecidableEq V3 := inferInstanceAs (DecidableEq (List P0))
def e02 (x : V3) : Nat := x.length + n02 u00 x
abbrev F0 : Type := Int × V3
abbrev F1 : Wp F0 := Wp.pair Wp.int n5
instance K0k : DecidableEq F0 := (@instDecidableEqProd _ _ (inferInstance : DecidableEq Int) c0m)
def H6 (x : F0) : Nat := e02 x.2
theorem U1 {h : Hp} {cs : List Value} {x : F0} (hx : F1.R h cs x) : ∃ (x0 : Int) (a1 : Option Addr) (n1 c1 : Nat) (x1 : V3), cs = [.int .i64 x0, .slice a1 n1 c1] ∧ x = (x0, x1) ∧ D0 x0 ∧ n5.R h [.slice a1 n1 c1] x1 := by
 obtain ⟨x0, x1⟩ := x
 obtain ⟨_, _, rfl, ⟨rfl, h0⟩, h1⟩ := hx
 obtain ⟨a1, n1, c1, rfl⟩ := Wp.slice_cell h1
 exact ⟨x0, a1, n1, c1, x1, rfl, rfl, h0, h1⟩
theorem Z1 {h : Hp} {x0 : Int} {a1 : Option Addr} {n1 c1 : Nat} {x1 : V3} (h0 : D0 x0) (h1 : n5.R h [.slice a1 n1 c1] x1) : F1.R h [.int .i64 x0, .slice a1 n1 c1] (x0, x1) :=
 ⟨[.int .i64 x0], [.slice a1 n1 c1], rfl, ⟨rfl, h0⟩, h1⟩
abbrev K0g : Type := ByteArray × l0
instance J0m : DecidableEq K0g := (@instDecidableEqProd _ _ (inferInstance : DecidableEq ByteArray) b0m)
abbrev r0a : Type := List K0g
instance C0m : DecidableEq r0a := inferInstanceAs (DecidableEq (List K0g))
abbrev I7 : Type := List C4
abbrev V0d : Wp I7 := Wp.slice A4
instance K0m : DecidableEq I7 := inferInstanceAs (DecidableEq (List C4))
end Go.Proofs.YtfdlgbfeceodeaaGreat
namespace Go.Proofs.YtfdlgbfeceodeaaGreat
open Go.H
set_option linter.unusedVariables false
set_option linter.unusedSimpArgs false
set_option maxRecDepth 10000
open Go.H
theorem L0g (h : Hp) : ∃ cs, S0.R h cs (0, 0, 0) := ⟨_, V0 (by decide) (by decide) (by decide)⟩
end Go.Proofs.YtfdlgbfeceodeaaGreat
namespace Go.Proofs.YtfdlgbfeceodeaaGreat
open Go.H
set_option linter.unusedVariables false
set_option linter.unusedSimpArgs false
set_option maxRecDepth 10000
theorem J0k (h : Hp) (a : Option Addr) (n c : Nat) (xs : P0) (left : Int) (hx : Z0.R h [.slice a n c] xs) (hl : 0 ≤ left ∧ left ≤ 1048576) :
  Tr Tryz.prog 123 #[.slice a n c, .int .i64 left] h fun v h' => v = .int .i64 (szR left (u00 xs)) ∧ h' = h := by
 obtain ⟨rfl, hn⟩ := Sl.len hx
 have hw : IntKind.i64.wrap (left - (xs.length : Int)) = left - xs.length := w64 (by omega) (by omega)
 refine Q2 (args := [.slice a xs.length c, .int .i64 left]) (fn := Tryz.f123) rfl ?_
 refine And.intro (fun hc => ?_) (fun hc => ?_)
 ·refine And.intro ?_ rfl
  simp [hw] at hc
  rw [u00, X0j (by omega)]
  rfl
 ·refine And.intro ?_ rfl
  simp [hw] at hc
  rw [u00, Y0j (by omega)]
  exact congrArg (Value.int .i64) hw
theorem l0j (h : Hp) (a : Option Addr) (n c : Nat) (xs : V3) (left : Int) (hx : n5.R h [.slice a n c] xs) (hl : 0 ≤ left ∧ left ≤ 1048576) :
  Tr Tryz.prog 56 #[.slice a n c, .int .i64 left] h fun v h' => v = .int .i64 (szR left (e02 xs)) ∧ h' = h := by
 obtain ⟨rfl, hn⟩ := Sl.len hx
 have hw : IntKind.i64.wrap (left - (xs.length : Int)) = left - xs.length := w64 (by omega) (by omega)
 refine Q2 (args := [.slice a xs.length c, .int .i64 left]) (fn := Tryz.f56) rfl ?_
 refine And.intro (fun hc => ?_) (fun hc => ?_)
 ·refine And.intro ?_ rfl
  simp [hw] at hc
  rw [e02, X0j (by omega)]
  rfl
 simp [hw] at hc
 refine Exists.intro { vars := [1, 5], boxes := [], owns := [] } (Exists.intro (fun vs _ h' => ∃ k : Nat, k ≤ xs.length ∧ 0 ≤ szR left ((xs.length + n02 u00 (xs.take k) : Nat) : Int) ∧ vs = [.int .i64 (szR left ((xs.length + n02 u00 (xs.take k) : Nat) : Int)), .int .i64 k] ∧ h' = h) (Exists.intro (fun vs _ => match vs with | [_, .int _ j] => ((xs.length : Int) - j).toNat | _ => 0) ?_))
 have h0 : szR left ((xs.length + n02 u00 (xs.take 0) : Nat) : Int) = left - xs.length := by rw [Y0j (by simp [n02]; omega)]; simp [n02]
 refine And.intro ⟨0, by omega, by omega, by rw [h0]; exact congrArg (fun x => [Value.int .i64 x, Value.int .i64 0]) hw, rfl⟩ ?_
 rintro _ _ h1 ⟨k, hk, hpos, ⟨⟩, rfl⟩
 obtain ⟨q1, q2⟩ := I0g hpos
 refine And.intro (fun hc2 => ?_) (fun hc2 => ?_)
 ·have hlt : k < xs.length := by simpa using hc2
  obtain ⟨x, hgx⟩ := t04 hlt
  obtain ⟨b1, cs1, e1, i1⟩ := Sl.get hx hgx (by decide)
  have hw2 := j2 hlt hn
  obtain ⟨a1, n1, c1, rfl⟩ := Wp.slice_cell i1
  refine And.intro b1 (Exists.intro _ (And.intro e1 ?_))
  refine Tr.val (J0k _ a1 n1 c1 x _ i1 ⟨by omega, by omega⟩) ?_
  have hstep : szR (szR left ((xs.length + n02 u00 (xs.take k) : Nat) : Int)) (u00 x : Nat) = szR left ((xs.length + n02 u00 (xs.take (k + 1)) : Nat) : Int) := by
   rw [f0l hpos (by omega) (by omega), M0i hgx]
   congr 1
   omega
  refine And.intro (fun hc3 => ?_) (fun hc3 => ?_)
  ·refine And.intro ?_ rfl
   rw [hstep] at hc3
   have hneg2 : szR left ((xs.length + n02 u00 (xs.take (k + 1)) : Nat) : Int) < 0 := by simpa using hc3
   have := N0i u00 xs (k + 1)
   rw [e02, d0f hneg2 hl.1 (by omega)]
   rfl
  ·rw [hstep] at hc3
   have hpos2 : 0 ≤ szR left ((xs.length + n02 u00 (xs.take (k + 1)) : Nat) : Int) := by simpa using hc3
   refine And.intro rfl (And.intro (by first | exact trivial | exact And.intro rfl trivial | exact And.intro rfl (And.intro rfl trivial) | exact And.intro rfl (And.intro rfl (And.intro rfl trivial)) | exact And.intro rfl (And.intro rfl (And.intro rfl (And.intro rfl trivial)))) (And.intro (by first | exact trivial | exact And.intro rfl trivial | exact And.intro rfl (And.intro rfl trivial) | exact And.intro rfl (And.intro rfl (And.intro rfl trivial)) | exact And.intro rfl (And.intro rfl (And.intro rfl (And.intro rfl trivial)))) (And.intro ?_ ?_)))
   ·refine ⟨k + 1, by omega, hpos2, ?_, rfl⟩
    rw [← hw2, ← hstep]
   ·show ((xs.length : Int) - IntKind.i64.wrap ((k : Int) + 1)).toNat < ((xs.length : Int) - (k : Int)).toNat
    omega
 ·have hk : k = xs.length := by simp at hc2; omega
  subst hk
  refine And.intro ?_ rfl
  rw [List.take_length]
  rfl
theorem t09 (h : Hp) (cs : List Value) (x : F0) (left : Int) (hx : F1.R h cs x) (hl : 0 ≤ left ∧ left ≤ 1048576) :
  Tr Tryz.prog 27 #[.agg cs.toArray, .int .i64 left] h fun v h' => v = .int .i64 (szR left (H6 x)) ∧ h' = h := by
 obtain ⟨x0, a1, n1, c1, x1, rfl, rfl, h0, h1⟩ := U1 hx
 refine Q2 (args := [.agg #[.int .i64 x0, .slice a1 n1 c1], .int .i64 left]) (fn := Tryz.f27) rfl ?_
 refine Tr.val (l0j h a1 n1 c1 x1 (left) h1 hl) ?_
 refine And.intro (fun hc => ?_) (fun hc => ?_)
 ·refine And.intro ?_ rfl
  rw [H6, d0f (left := left) (a := ((e02 x1 : Nat) : Int)) (by simpa using hc) hl.1 (by simp only []; omega)]
  rfl
 have q0 : 0 ≤ szR left ((e02 x1 : Nat) : Int) := by simpa using hc
 have hl0 : 0 ≤ szR left ((e02 x1 : Nat) : Int) ∧ szR left ((e02 x1 : Nat) : Int) ≤ 1048576 := by
  have := I0g q0
  omega
 exact And.intro rfl rfl
end Go.Proofs.YtfdlgbfeceodeaaGreat
namespace Go.Proofs.YtfdlgbfeceodeaaGreat
open Go.H
set_option linter.unusedVariables false
set_option linter.unusedSimpArgs false
set_option maxRecDepth 10000
theorem k0g (h : Hp) (a : Option Addr) (n c : Nat) (a' : Option Addr) (n' c' : Nat) (xs ys : P0) (hx : Z0.R h [.slice a n c] xs) (hy : Z0.R h [.slice a' n' c'] ys) :
  Tr Tryz.prog 48 #[.slice a n c, .slice a' n' c'] h fun v h' => v = .bool (decide (xs = ys)) ∧ h' = h := by
 obtain ⟨rfl, hn⟩ := Sl.len hx
 obtain ⟨rfl, hn'⟩ := Sl.len hy
 refine Q2 (args := [.slice a xs.length c, .slice a' ys.length c']) (fn := Tryz.f48) rfl ?_
 refine And.intro (fun hc => ?_) (fun hc => ?_)
 ·refine And.intro (congrArg Value.bool ?_) rfl
  have : xs.length ≠ ys.length := by simp at hc; omega
  exact (decide_eq_false fun e => this (by rw [e])).symm
 have hlen : xs.length = ys.length := by simp at hc; omega
 refine Exists.intro { vars := [5], boxes := [], owns := [] } (Exists.intro (fun vs _ h' => ∃ k : Nat, k ≤ xs.length ∧ xs.take k = ys.take k ∧ vs = [.int .i64 k] ∧ h' = h) (Exists.intro (fun vs _ => match vs with | [.int _ j] => ((xs.length : Int) - j).toNat | _ => 0) ?_))
 refine And.intro ⟨0, by omega, by simp, rfl, rfl⟩ ?_
 rintro _ h1 ⟨k, hk, hall, ⟨⟩, rfl⟩
 refine And.intro (fun hc2 => ?_) (fun hc2 => ?_)
 ·have hlt : k < xs.length := by simpa using hc2
  obtain ⟨x, gx⟩ := t04 hlt
  obtain ⟨y, gy⟩ := t04 (l := ys) (k := k) (by omega)
  obtain ⟨b1, cs1, e1, i1⟩ := Sl.get hx gx (by decide)
  obtain ⟨b2, cs2, e2, i2⟩ := Sl.get hy gy (by decide)
  have hw := j2 hlt hn
  obtain ⟨rfl, _⟩ := i1
  obtain ⟨rfl, _⟩ := i2
  refine Or.inl (And.intro (And.intro (by kernel_rfl) (by kernel_rfl)) ?_)
  refine And.intro b1 (Exists.intro _ (And.intro e1 (And.intro b2 (Exists.intro _ (And.intro e2 ?_)))))
  refine And.intro (fun hc3 => ?_) (fun hc3 => ?_)
  ·refine And.intro (congrArg Value.bool ?_) rfl
   have hne : x ≠ y := by simpa using hc3
   exact (decide_eq_false fun e => hne (Option.some.inj (gx.symm.trans ((congrArg (fun l : P0 => l[k]?) e).trans gy)))).symm
  ·have heq : x = y := by simpa using hc3
   refine And.intro rfl (And.intro (by first | exact trivial | exact And.intro rfl trivial | exact And.intro rfl (And.intro rfl trivial) | exact And.intro rfl (And.intro rfl (And.intro rfl trivial)) | exact And.intro rfl (And.intro rfl (And.intro rfl (And.intro rfl trivial)))) (And.intro (by first | exact trivial | exact And.intro rfl trivial | exact And.intro rfl (And.intro rfl trivial) | exact And.intro rfl (And.intro rfl (And.intro rfl trivial)) | exact And.intro rfl (And.intro rfl (And.intro rfl (And.intro rfl trivial)))) (And.intro ?_ ?_)))
   ·refine ⟨k + 1, by omega, by rw [G01 gx, G01 gy, hall, heq], ?_, rfl⟩
    rw [← hw]
   ·show ((xs.length : Int) - IntKind.i64.wrap ((k : Int) + 1)).toNat < ((xs.length : Int) - (k : Int)).toNat
    omega
 ·have hk : k = xs.length := by simp at hc2; omega
  refine And.intro (congrArg Value.bool ?_) rfl
  refine (decide_eq_true ?_).symm
  subst hk
  rwa [List.take_length, hlen, List.take_length] at hall
theorem m0j (h : Hp) (a : Option Addr) (n c : Nat) (a' : Option Addr) (n' c' : Nat) (xs ys : V3) (hx : n5.R h [.slice a n c] xs) (hy : n5.R h [.slice a' n' c'] ys) :
  Tr Tryz.prog 53 #[.slice a n c, .slice a' n' c'] h fun v h' => v = .bool (decide (xs = ys)) ∧ h' = h := by
 obtain ⟨rfl, hn⟩ := Sl.len hx
 obtain ⟨rfl, hn'⟩ := Sl.len hy
 refine Q2 (args := [.slice a xs.length c, .slice a' ys.length c']) (fn := Tryz.f53) rfl ?_
 refine And.intro (fun hc => ?_) (fun hc => ?_)
 ·refine And.intro (congrArg Value.bool ?_) rfl
  have : xs.length ≠ ys.length := by simp at hc; omega
  exact (decide_eq_false fun e => this (by rw [e])).symm
 have hlen : xs.length = ys.length := by simp at hc; omega
 refine Exists.intro { vars := [5], boxes := [], owns := [] } (Exists.intro (fun vs _ h' => ∃ k : Nat, k ≤ xs.length ∧ xs.take k = ys.take k ∧ vs = [.int .i64 k] ∧ h' = h) (Exists.intro (fun vs _ => match vs with | [.int _ j] => ((xs.length : Int) - j).toNat | _ => 0) ?_))
 refine And.intro ⟨0, by omega, by simp, rfl, rfl⟩ ?_
 rintro _ h1 ⟨k, hk, hall, ⟨⟩, rfl⟩
 refine And.intro (fun hc2 => ?_) (fun hc2 => ?_)
 ·have hlt : k < xs.length := by simpa using hc2
  obtain ⟨x, gx⟩ := t04 hlt
  obtain ⟨y, gy⟩ := t04 (l := ys) (k := k) (by omega)
  obtain ⟨b1, cs1, e1, i1⟩ := Sl.get hx gx (by decide)
  obtain ⟨b2, cs2, e2, i2⟩ := Sl.get hy gy (by decide)
  have hw := j2 hlt hn
  obtain ⟨a1, n1, c1, rfl⟩ := Wp.slice_cell i1
  obtain ⟨a2, n2, c2, rfl⟩ := Wp.slice_cell i2
  refine Or.inl (And.intro (And.intro (by kernel_rfl) (by kernel_rfl)) ?_)
  refine And.intro b1 (Exists.intro _ (And.intro e1 (And.intro b2 (Exists.intro _ (And.intro e2 ?_)))))
  refine Exists.intro (.bool _) (And.intro (k0g _ _ _ _ _ _ _ x y i1 i2) ?_)
  refine And.intro (fun hc3 => ?_) (fun hc3 => ?_)
  ·refine And.intro (congrArg Value.bool ?_) rfl
   have hne : x ≠ y := K0h hc3
   exact (decide_eq_false fun e => hne (Option.some.inj (gx.symm.trans ((congrArg (fun l : V3 => l[k]?) e).trans gy)))).symm
  ·have heq : x = y := e0f hc3
   refine And.intro rfl (And.intro (by first | exact trivial | exact And.intro rfl trivial | exact And.intro rfl (And.intro rfl trivial) | exact And.intro rfl (And.intro rfl (And.intro rfl trivial)) | exact And.intro rfl (And.intro rfl (And.intro rfl (And.intro rfl trivial)))) (And.intro (by first | exact trivial | exact And.intro rfl trivial | exact And.intro rfl (And.intro rfl trivial) | exact And.intro rfl (And.intro rfl (And.intro rfl trivial)) | exact And.intro rfl (And.intro rfl (And.intro rfl (And.intro rfl trivial)))) (And.intro ?_ ?_)))
   ·refine ⟨k + 1, by omega, by rw [G01 gx, G01 gy, hall, heq], ?_, rfl⟩
    rw [← hw]
   ·show ((xs.length : Int) - IntKind.i64.wrap ((k : Int) + 1)).toNat < ((xs.length : Int) - (k : Int)).toNat
    omega
 ·have hk : k = xs.length := by simp at hc2; omega
  refine And.intro (congrArg Value.bool ?_) rfl
  refine (decide_eq_true ?_).symm
  subst hk
  rwa [List.take_length, hlen, List.take_length] at hall
theorem u09 (h : Hp) (cs ds : List Value) (x y : F0) (hx : F1.R h cs x) (hy : F1.R h ds y) :
  Tr Tryz.prog 31 #[.agg cs.toArray, .agg ds.toArray] h fun v h' => v = .bool (decide (x = y)) ∧ h' = h := by
 obtain ⟨x0, a1, n1, c1, x1, rfl, rfl, h0, h1⟩ := U1 hx
 obtain ⟨x0y, a1y, n1y, c1y, x1y, rfl, rfl, h0y, h1y⟩ := U1 hy
 refine Q2 (args := [.agg #[.int .i64 x0, .slice a1 n1 c1], .agg #[.int .i64 x0y, .slice a1y n1y c1y]]) (fn := Tryz.f31) rfl ?_
 refine And.intro (fun hc => ?_) (fun hc => ?_)
 ·have ne : x0 ≠ x0y := by simpa using hc
  exact And.intro (congrArg Value.bool (decide_eq_false fun e => by cases e; exact ne rfl).symm) rfl
 have q0 : x0 = x0y := by simpa using hc
 subst q0
 refine Tr.val (m0j h a1 n1 c1 a1y n1y c1y x1 x1y h1 h1y) ?_
 refine And.intro (fun hc => ?_) (fun hc => ?_)
 ·have ne : x1 ≠ x1y := K0h hc
  exact And.intro (congrArg Value.bool (decide_eq_false fun e => by cases e; exact ne rfl).symm) rfl
 have q1 : x1 = x1y := e0f hc
 subst q1
 exact And.intro (congrArg Value.bool (decide_eq_true rfl).symm) rfl
end Go.Proofs.YtfdlgbfeceodeaaGreat
namespace Go.Proofs.YtfdlgbfeceodeaaGreat
open Go.H
set_option linter.unusedVariables false
set_option linter.unusedSimpArgs false
set_option maxRecDepth 10000
theorem t08 (h : Hp) (a : Option Addr) (n c : Nat) (xs : P0) (hx : Z0.R h [.slice a n c] xs) (hl : u00 xs ≤ 1048576) :
  Tr Tryz.prog 63 #[.slice a n c] h fun v h' => New Z0 h h' [v] xs := by
 obtain ⟨rfl, hn⟩ := Sl.len hx
 have hl0 : xs.length ≤ 1048576 := by simp only [u00] at hl; omega
 refine Q2 (args := [.slice a xs.length c]) (fn := Tryz.f63) rfl ?_
 refine And.intro ?_ ?_
 ·show 0 ≤ (xs.length : Int) ∧ (xs.length : Int) ≤ xs.length ∧ (xs.length : Int) * 8 ≤ 140737488355328 ∧ (xs.length : Int) ≤ 9223372036854775807
  omega
 refine Exists.intro { vars := [4], boxes := [], owns := [0], kept := [0] } (Exists.intro (fun vs os h' => ∃ (k : Nat) (L : List (List Value)) (Bs : List (List Nat)), k ≤ xs.length ∧ vs = [.int .i64 k] ∧ os = [I02 L xs.length [.int .i64 0]] ∧ L.length = k ∧
  F3 (Wp.int.W h') L (xs.take k) Bs ∧ Sub h h' ∧ w7 h Bs.flatten) (Exists.intro (fun vs _ => match vs with | [.int _ j] => ((xs.length : Int) - j).toNat | _ => 0) ?_))
 refine And.intro ⟨0, [], [], by omega, rfl, rfl, rfl, trivial, Sub.refl _, by simp [w7]⟩ ?_
 rintro _ _ h1 ⟨k, L, Bs, hk, ⟨⟩, ⟨⟩, hlk, hW, hsub, hfr⟩
 refine And.intro (fun hc2 => ?_) (fun hc2 => ?_)
 ·have hlt : k < xs.length := by simpa using hc2
  obtain ⟨x, gx⟩ := t04 hlt
  obtain ⟨b1, cs1, e1, i1⟩ := Sl.get (Sl.mono hsub hx) gx (by decide)
  have hw := j2 hlt hn
  obtain ⟨rfl, g1⟩ := i1
  refine And.intro b1 (Exists.intro _ (And.intro e1 ?_))
  obtain ⟨B, hB1, hB2, hB3⟩ := New.int (h := h1) g1
  refine And.intro ?_ ?_
  ·show 0 ≤ (k : Int) ∧ (k : Int) < ((I02 L xs.length [.int .i64 0]).length : Nat)
   rw [N07 (by omega)]; omega
  refine Exists.intro [.int .i64 0] (And.intro (L0c hlk hlt) ?_)
  refine And.intro rfl (And.intro (by first | exact trivial | exact And.intro rfl trivial | exact And.intro rfl (And.intro rfl trivial) | exact And.intro rfl (And.intro rfl (And.intro rfl trivial)) | exact And.intro rfl (And.intro rfl (And.intro rfl (And.intro rfl trivial)))) (And.intro (by first | exact trivial | exact And.intro rfl trivial | exact And.intro rfl (And.intro rfl trivial) | exact And.intro rfl (And.intro rfl (And.intro rfl trivial)) | exact And.intro rfl (And.intro rfl (And.intro rfl (And.intro rfl trivial)))) (And.intro ?_ ?_)))
  ·refine ⟨k + 1, L ++ [[.int .i64 x]], Bs ++ [B], by omega, by rw [← hw], ?_, by simp [hlk], ?_, hsub.trans hB3, ?_⟩
   ·show [(I02 L xs.length [.int .i64 0]).set k [.int .i64 x]] = _
    rw [M0c hlk hlt]
   ·rw [G01 gx]
    exact F3.snoc hB1 (c0f hW hB3)
   ·exact i0b hW hsub hfr hB2
  ·show ((xs.length : Int) - IntKind.i64.wrap ((k : Int) + 1)).toNat < ((xs.length : Int) - (k : Int)).toNat
   omega
 ·have hk : k = xs.length := by simp at hc2; omega
  intro v h' hf
  rw [N0c (by omega)] at hf
  rw [hk, List.take_length] at hW
  exact j1.fresh (r := Wp.int) hf hW hsub hfr
theorem n0j (h : Hp) (a : Option Addr) (n c : Nat) (xs : V3) (hx : n5.R h [.slice a n c] xs) (hl : e02 xs ≤ 1048576) :
  Tr Tryz.prog 58 #[.slice a n c] h fun v h' => New n5 h h' [v] xs := by
 obtain ⟨rfl, hn⟩ := Sl.len hx
 have hl0 : xs.length ≤ 1048576 := by simp only [e02] at hl; omega
 refine Q2 (args := [.slice a xs.length c]) (fn := Tryz.f58) rfl ?_
 refine And.intro ?_ ?_
 ·show 0 ≤ (xs.length : Int) ∧ (xs.length : Int) ≤ xs.length ∧ (xs.length : Int) * 24 ≤ 140737488355328 ∧ (xs.length : Int) ≤ 9223372036854775807
  omega
 refine Exists.intro { vars := [4], boxes := [], owns := [0], kept := [0] } (Exists.intro (fun vs os h' => ∃ (k : Nat) (L : List (List Value)) (Bs : List (List Nat)), k ≤ xs.length ∧ vs = [.int .i64 k] ∧ os = [I02 L xs.length [.slice none 0 0]] ∧ L.length = k ∧
  F3 (Z0.W h') L (xs.take k) Bs ∧ Sub h h' ∧ w7 h Bs.flatten) (Exists.intro (fun vs _ => match vs with | [.int _ j] => ((xs.length : Int) - j).toNat | _ => 0) ?_))
 refine And.intro ⟨0, [], [], by omega, rfl, rfl, rfl, trivial, Sub.refl _, by simp [w7]⟩ ?_
 rintro _ _ h1 ⟨k, L, Bs, hk, ⟨⟩, ⟨⟩, hlk, hW, hsub, hfr⟩
 refine And.intro (fun hc2 => ?_) (fun hc2 => ?_)
 ·have hlt : k < xs.length := by simpa using hc2
  obtain ⟨x, gx⟩ := t04 hlt
  obtain ⟨b1, cs1, e1, i1⟩ := Sl.get (Sl.mono hsub hx) gx (by decide)
  have hw := j2 hlt hn
  obtain ⟨a1, n1, c1, rfl⟩ := Wp.slice_cell i1
  refine And.intro b1 (Exists.intro _ (And.intro e1 ?_))
  refine Tr.mono (t08 h1 _ _ _ x i1 (by have := Z0j (m := u00) gx; simp only [e02] at hl; omega)) ?_
  rintro v h2 ⟨B, hB1, hB2, hB3⟩
  obtain ⟨a2, n2, c2, e2⟩ := Wp.slice_cell (Z0.toR hB1)
  cases e2
  refine And.intro ?_ ?_
  ·show 0 ≤ (k : Int) ∧ (k : Int) < ((I02 L xs.length [.slice none 0 0]).length : Nat)
   rw [N07 (by omega)]; omega
  refine Exists.intro [.slice none 0 0] (And.intro (L0c hlk hlt) ?_)
  refine And.intro rfl (And.intro (by first | exact trivial | exact And.intro rfl trivial | exact And.intro rfl (And.intro rfl trivial) | exact And.intro rfl (And.intro rfl (And.intro rfl trivial)) | exact And.intro rfl (And.intro rfl (And.intro rfl (And.intro rfl trivial)))) (And.intro (by first | exact trivial | exact And.intro rfl trivial | exact And.intro rfl (And.intro rfl trivial) | exact And.intro rfl (And.intro rfl (And.intro rfl trivial)) | exact And.intro rfl (And.intro rfl (And.intro rfl (And.intro rfl trivial)))) (And.intro ?_ ?_)))
  ·refine ⟨k + 1, L ++ [[.slice a2 n2 c2]], Bs ++ [B], by omega, by rw [← hw], ?_, by simp [hlk], ?_, hsub.trans hB3, ?_⟩
   ·show [(I02 L xs.length [.slice none 0 0]).set k [.slice a2 n2 c2]] = _
    rw [M0c hlk hlt]
   ·rw [G01 gx]
    exact F3.snoc hB1 (c0f hW hB3)
   ·exact i0b hW hsub hfr hB2
  ·show ((xs.length : Int) - IntKind.i64.wrap ((k : Int) + 1)).toNat < ((xs.length : Int) - (k : Int)).toNat
   omega
 ·have hk : k = xs.length := by simp at hc2; omega
  intro v h' hf
  rw [N0c (by omega)] at hf
  rw [hk, List.take_length] at hW
  exact j1.fresh (r := Z0) hf hW hsub hfr
theorem J01 (h : Hp) (cs : List Value) (x : F0) (hx : F1.R h cs x) (hl : H6 x ≤ 1048576) :
  Tr Tryz.prog 29 #[.agg cs.toArray] h fun v h' => ∃ cs', v = .agg cs'.toArray ∧ New F1 h h' cs' x := by
 obtain ⟨x0, a1, n1, c1, x1, rfl, rfl, h0, h1⟩ := U1 hx
 simp only [H6] at hl
 refine Q2 (args := [.agg #[.int .i64 x0, .slice a1 n1 c1]]) (fn := Tryz.f29) rfl ?_
 refine Tr.mono (n0j h a1 n1 c1 x1 (Sl.mono (Sub.refl _) h1) (by omega)) ?_
 rintro v1 k1 N1
 obtain ⟨a1z, n1z, c1z, ez1⟩ := Wp.slice_cell N1.r
 cases ez1
 exact Exists.intro _ (And.intro rfl (New.pair (New.int h0) N1))
end Go.Proofs.YtfdlgbfeceodeaaGreat
