/- Texts of the claim, joined: The data types of the laws, as lists and tuples; ; What the laws' own helpers do: sizes; What the laws' own helpers do: equality; What the laws' own helpers do: copies. -/
import Derived.Test.YtfdlgbfeceodeaaGreatHE
import Derived.Test.YtfdlgbfeceodeaaGreatChecked
namespace Go.Proofs.YtfdlgbfeceodeaaGreat
open Go.H
set_option linter.unusedVariables false
set_option linter.unusedSimpArgs false
set_option maxRecDepth 10000
abbrev D0 : Type := Int × Int × Int
abbrev Q0 : Wp D0 := Wp.pair Wp.int (Wp.pair Wp.int Wp.int)
instance B0l : DecidableEq D0 := (@instDecidableEqProd _ _ (inferInstance : DecidableEq Int) (@instDecidableEqProd _ _ (inferInstance : DecidableEq Int) (inferInstance : DecidableEq Int)))
theorem j1 {h : Hp} {cs : List Value} {x : D0} (hx : Q0.R h cs x) : ∃ (x0 : Int) (x1 : Int) (x2 : Int), cs = [.int .i64 x0, .int .i64 x1, .int .i64 x2] ∧ x = (x0, x1, x2) ∧ F0 x0 ∧ F0 x1 ∧ F0 x2 := by
 obtain ⟨x0, x1, x2⟩ := x
 obtain ⟨_, _, rfl, ⟨rfl, h0⟩, ⟨_, _, rfl, ⟨rfl, h1⟩, ⟨rfl, h2⟩⟩⟩ := hx
 exact ⟨x0, x1, x2, rfl, rfl, h0, h1, h2⟩
theorem V0 {h : Hp} {x0 : Int} {x1 : Int} {x2 : Int} (h0 : F0 x0) (h1 : F0 x1) (h2 : F0 x2) : Q0.R h [.int .i64 x0, .int .i64 x1, .int .i64 x2] (x0, x1, x2) :=
 ⟨[.int .i64 x0], [.int .i64 x1, .int .i64 x2], rfl, ⟨rfl, h0⟩, ⟨[.int .i64 x1], [.int .i64 x2], rfl, ⟨rfl, h1⟩, ⟨rfl, h2⟩⟩⟩
theorem G0f {h : Hp} {x0 : Int} {x1 : Int} {x2 : Int} (h0 : F0 x0) (h1 : F0 x1) (h2 : F0 x2) : Q0.W h [.int .i64 x0, .int .i64 x1, .int .i64 x2] (x0, x1, x2) ([] ++ ([] ++ [])) :=
 ⟨[.int .i64 x0], [.int .i64 x1, .int .i64 x2], [], ([] ++ []), rfl, rfl, ⟨⟨rfl, h0⟩, rfl⟩, ⟨[.int .i64 x1], [.int .i64 x2], [], [], rfl, rfl, ⟨⟨rfl, h1⟩, rfl⟩, ⟨⟨rfl, h2⟩, rfl⟩⟩⟩
abbrev J0 : Type := List D0
abbrev I0 : Wp J0 := Wp.slice Q0
instance K0k : DecidableEq J0 := inferInstanceAs (DecidableEq (List D0))
abbrev l0 : Type := Int × Int × J0
abbrev Y0 : Wp l0 := Wp.pair Wp.int (Wp.pair Wp.int I0)
instance L0k : DecidableEq l0 := (@instDecidableEqProd _ _ (inferInstance : DecidableEq Int) (@instDecidableEqProd _ _ (inferInstance : DecidableEq Int) K0k))
theorem B0 {h : Hp} {cs : List Value} {x : l0} (hx : Y0.R h cs x) : ∃ (x0 : Int) (x1 : Int) (a2 : Option Addr) (n2 c2 : Nat) (x2 : J0), cs = [.int .i64 x0, .int .i64 x1, .slice a2 n2 c2] ∧ x = (x0, x1, x2) ∧ F0 x0 ∧ F0 x1 ∧ I0.R h [.slice a2 n2 c2] x2 := by
 obtain ⟨x0, x1, x2⟩ := x
 obtain ⟨_, _, rfl, ⟨rfl, h0⟩, ⟨_, _, rfl, ⟨rfl, h1⟩, h2⟩⟩ := hx
 obtain ⟨a2, n2, c2, rfl⟩ := Wp.slice_cell h2
 exact ⟨x0, x1, a2, n2, c2, x2, rfl, rfl, h0, h1, h2⟩
theorem z0 {h : Hp} {x0 : Int} {x1 : Int} {a2 : Option Addr} {n2 c2 : Nat} {x2 : J0} (h0 : F0 x0) (h1 : F0 x1) (h2 : I0.R h [.slice a2 n2 c2] x2) : Y0.R h [.int .i64 x0, .int .i64 x1, .slice a2 n2 c2] (x0, x1, x2) :=
 ⟨[.int .i64 x0], [.int .i64 x1, .slice a2 n2 c2], rfl, ⟨rfl, h0⟩, ⟨[.int .i64 x1], [.slice a2 n2 c2], rfl, ⟨rfl, h1⟩, h2⟩⟩
abbrev f4 : Type := Int × Int
abbrev c4 : Wp f4 := Wp.pair Wp.int Wp.int
instance C0l : DecidableEq f4 := (@instDecidableEqProd _ _ (inferInstance : DecidableEq Int) (inferInstance : DecidableEq Int))
theorem P00 {h : Hp} {cs : List Value} {x : f4} (hx : c4.R h cs x) : ∃ (x0 : Int) (x1 : Int), cs = [.int .i64 x0, .int .i64 x1] ∧ x = (x0, x1) ∧ F0 x0 ∧ F0 x1 := by
 obtain ⟨x0, x1⟩ := x
 obtain ⟨_, _, rfl, ⟨rfl, h0⟩, ⟨rfl, h1⟩⟩ := hx
 exact ⟨x0, x1, rfl, rfl, h0, h1⟩
theorem U1 {h : Hp} {x0 : Int} {x1 : Int} (h0 : F0 x0) (h1 : F0 x1) : c4.R h [.int .i64 x0, .int .i64 x1] (x0, x1) :=
 ⟨[.int .i64 x0], [.int .i64 x1], rfl, ⟨rfl, h0⟩, ⟨rfl, h1⟩⟩
abbrev O0 : Type := List Int
abbrev I1 : Wp O0 := Wp.slice Wp.int
instance D0l : DecidableEq O0 := inferInstanceAs (DecidableEq (List Int))
def Y00 (x : O0) : Nat := x.length
abbrev j3 : Type := List O0
abbrev P4 : Wp j3 := Wp.slice I1
instance M0k : DecidableEq j3 := inferInstanceAs (DecidableEq (List O0))
def h01 (x : j3) : Nat := x.length + O01 Y00 x
abbrev C0 : Type := Int × j3
abbrev D1 : Wp C0 := Wp.pair Wp.int P4
instance r0j : DecidableEq C0 := (@instDecidableEqProd _ _ (inferInstance : DecidableEq Int) M0k)
def w6 (x : C0) : Nat := h01 x.2
theorem J1 {h : Hp} {cs : List Value} {x : C0} (hx : D1.R h cs x) : ∃ (x0 : Int) (a1 : Option Addr) (n1 c1 : Nat) (x1 : j3), cs = [.int .i64 x0, .slice a1 n1 c1] ∧ x = (x0, x1) ∧ F0 x0 ∧ P4.R h [.slice a1 n1 c1] x1 := by
 obtain ⟨x0, x1⟩ := x
 obtain ⟨_, _, rfl, ⟨rfl, h0⟩, h1⟩ := hx
 obtain ⟨a1, n1, c1, rfl⟩ := Wp.slice_cell h1
 exact ⟨x0, a1, n1, c1, x1, rfl, rfl, h0, h1⟩
theorem L1 {h : Hp} {x0 : Int} {a1 : Option Addr} {n1 c1 : Nat} {x1 : j3} (h0 : F0 x0) (h1 : P4.R h [.slice a1 n1 c1] x1) : D1.R h [.int .i64 x0, .slice a1 n1 c1] (x0, x1) :=
 ⟨[.int .i64 x0], [.slice a1 n1 c1], rfl, ⟨rfl, h0⟩, h1⟩
abbrev H0f : Type := ByteArray × l0
instance y0l : DecidableEq H0f := (@instDecidableEqProd _ _ (inferInstance : DecidableEq ByteArray) L0k)
abbrev G09 : Type := List H0f
instance r0l : DecidableEq G09 := inferInstanceAs (DecidableEq (List H0f))
abbrev z7 : Type := List f4
abbrev Y0c : Wp z7 := Wp.slice c4
instance z0l : DecidableEq z7 := inferInstanceAs (DecidableEq (List f4))
end Go.Proofs.YtfdlgbfeceodeaaGreat
namespace Go.Proofs.YtfdlgbfeceodeaaGreat
open Go.H
set_option linter.unusedVariables false
set_option linter.unusedSimpArgs false
set_option maxRecDepth 10000
open Go.H
theorem I0f (h : Hp) : ∃ cs, Q0.R h cs (0, 0, 0) := ⟨_, V0 (by decide) (by decide) (by decide)⟩
end Go.Proofs.YtfdlgbfeceodeaaGreat
namespace Go.Proofs.YtfdlgbfeceodeaaGreat
open Go.H
set_option linter.unusedVariables false
set_option linter.unusedSimpArgs false
set_option maxRecDepth 10000
theorem o0j (h : Hp) (a : Option Addr) (n c : Nat) (xs : O0) (left : Int) (hx : I1.R h [.slice a n c] xs) (hl : 0 ≤ left ∧ left ≤ 1048576) :
  Tr Tryz.prog 123 #[.slice a n c, .int .i64 left] h fun v h' => v = .int .i64 (szR left (Y00 xs)) ∧ h' = h := by
 obtain ⟨rfl, hn⟩ := Sl.len hx
 have hw : IntKind.i64.wrap (left - (xs.length : Int)) = left - xs.length := w64 (by omega) (by omega)
 refine U2 (args := [.slice a xs.length c, .int .i64 left]) (fn := Tryz.f123) rfl ?_
 refine And.intro (fun hc => ?_) (fun hc => ?_)
 ·refine And.intro ?_ rfl
  simp [hw] at hc
  rw [Y00, K0i (by omega)]
  rfl
 ·refine And.intro ?_ rfl
  simp [hw] at hc
  rw [Y00, L0i (by omega)]
  exact congrArg (Value.int .i64) hw
theorem X0h (h : Hp) (a : Option Addr) (n c : Nat) (xs : j3) (left : Int) (hx : P4.R h [.slice a n c] xs) (hl : 0 ≤ left ∧ left ≤ 1048576) :
  Tr Tryz.prog 56 #[.slice a n c, .int .i64 left] h fun v h' => v = .int .i64 (szR left (h01 xs)) ∧ h' = h := by
 obtain ⟨rfl, hn⟩ := Sl.len hx
 have hw : IntKind.i64.wrap (left - (xs.length : Int)) = left - xs.length := w64 (by omega) (by omega)
 refine U2 (args := [.slice a xs.length c, .int .i64 left]) (fn := Tryz.f56) rfl ?_
 refine And.intro (fun hc => ?_) (fun hc => ?_)
 ·refine And.intro ?_ rfl
  simp [hw] at hc
  rw [h01, K0i (by omega)]
  rfl
 simp [hw] at hc
 refine Exists.intro { vars := [1, 5], boxes := [], owns := [] } (Exists.intro (fun vs _ h' => ∃ k : Nat, k ≤ xs.length ∧ 0 ≤ szR left ((xs.length + O01 Y00 (xs.take k) : Nat) : Int) ∧ vs = [.int .i64 (szR left ((xs.length + O01 Y00 (xs.take k) : Nat) : Int)), .int .i64 k] ∧ h' = h) (Exists.intro (fun vs _ => match vs with | [_, .int _ j] => ((xs.length : Int) - j).toNat | _ => 0) ?_))
 have h0 : szR left ((xs.length + O01 Y00 (xs.take 0) : Nat) : Int) = left - xs.length := by rw [L0i (by simp [O01]; omega)]; simp [O01]
 refine And.intro ⟨0, by omega, by omega, by rw [h0]; exact congrArg (fun x => [Value.int .i64 x, Value.int .i64 0]) hw, rfl⟩ ?_
 rintro _ _ h1 ⟨k, hk, hpos, ⟨⟩, rfl⟩
 obtain ⟨q1, q2⟩ := F0f hpos
 refine And.intro (fun hc2 => ?_) (fun hc2 => ?_)
 ·have hlt : k < xs.length := by simpa using hc2
  obtain ⟨x, hgx⟩ := R03 hlt
  obtain ⟨b1, cs1, e1, i1⟩ := Sl.get hx hgx (by decide)
  have hw2 := A2 hlt hn
  obtain ⟨a1, n1, c1, rfl⟩ := Wp.slice_cell i1
  refine And.intro b1 (Exists.intro _ (And.intro e1 ?_))
  refine Tr.val (o0j _ a1 n1 c1 x _ i1 ⟨by omega, by omega⟩) ?_
  have hstep : szR (szR left ((xs.length + O01 Y00 (xs.take k) : Nat) : Int)) (Y00 x : Nat) = szR left ((xs.length + O01 Y00 (xs.take (k + 1)) : Nat) : Int) := by
   rw [M0j hpos (by omega) (by omega), G0h hgx]
   congr 1
   omega
  refine And.intro (fun hc3 => ?_) (fun hc3 => ?_)
  ·refine And.intro ?_ rfl
   rw [hstep] at hc3
   have hneg2 : szR left ((xs.length + O01 Y00 (xs.take (k + 1)) : Nat) : Int) < 0 := by simpa using hc3
   have := H0h Y00 xs (k + 1)
   rw [h01, e0e hneg2 hl.1 (by omega)]
   rfl
  ·rw [hstep] at hc3
   have hpos2 : 0 ≤ szR left ((xs.length + O01 Y00 (xs.take (k + 1)) : Nat) : Int) := by simpa using hc3
   refine And.intro rfl (And.intro (by first | exact trivial | exact And.intro rfl trivial | exact And.intro rfl (And.intro rfl trivial) | exact And.intro rfl (And.intro rfl (And.intro rfl trivial)) | exact And.intro rfl (And.intro rfl (And.intro rfl (And.intro rfl trivial)))) (And.intro (by first | exact trivial | exact And.intro rfl trivial | exact And.intro rfl (And.intro rfl trivial) | exact And.intro rfl (And.intro rfl (And.intro rfl trivial)) | exact And.intro rfl (And.intro rfl (And.intro rfl (And.intro rfl trivial)))) (And.intro ?_ ?_)))
   ·refine ⟨k + 1, by omega, hpos2, ?_, rfl⟩
    rw [← hw2, ← hstep]
   ·show ((xs.length : Int) - IntKind.i64.wrap ((k : Int) + 1)).toNat < ((xs.length : Int) - (k : Int)).toNat
    omega
 ·have hk : k = xs.length := by simp at hc2; omega
  subst hk
  refine And.intro ?_ rfl
  rw [List.take_length]
  rfl
theorem O08 (h : Hp) (cs : List Value) (x : C0) (left : Int) (hx : D1.R h cs x) (hl : 0 ≤ left ∧ left ≤ 1048576) :
  Tr Tryz.prog 27 #[.agg cs.toArray, .int .i64 left] h fun v h' => v = .int .i64 (szR left (w6 x)) ∧ h' = h := by
 obtain ⟨x0, a1, n1, c1, x1, rfl, rfl, h0, h1⟩ := J1 hx
 refine U2 (args := [.agg #[.int .i64 x0, .slice a1 n1 c1], .int .i64 left]) (fn := Tryz.f27) rfl ?_
 refine Tr.val (X0h h a1 n1 c1 x1 (left) h1 hl) ?_
 refine And.intro (fun hc => ?_) (fun hc => ?_)
 ·refine And.intro ?_ rfl
  rw [w6, e0e (left := left) (a := ((h01 x1 : Nat) : Int)) (by simpa using hc) hl.1 (by simp only []; omega)]
  rfl
 have q0 : 0 ≤ szR left ((h01 x1 : Nat) : Int) := by simpa using hc
 have hl0 : 0 ≤ szR left ((h01 x1 : Nat) : Int) ∧ szR left ((h01 x1 : Nat) : Int) ≤ 1048576 := by
  have := F0f q0
  omega
 exact And.intro rfl rfl
end Go.Proofs.YtfdlgbfeceodeaaGreat
namespace Go.Proofs.YtfdlgbfeceodeaaGreat
open Go.H
set_option linter.unusedVariables false
set_option linter.unusedSimpArgs false
set_option maxRecDepth 10000
theorem p0j (h : Hp) (a : Option Addr) (n c : Nat) (a' : Option Addr) (n' c' : Nat) (xs ys : O0) (hx : I1.R h [.slice a n c] xs) (hy : I1.R h [.slice a' n' c'] ys) :
  Tr Tryz.prog 48 #[.slice a n c, .slice a' n' c'] h fun v h' => v = .bool (decide (xs = ys)) ∧ h' = h := by
 obtain ⟨rfl, hn⟩ := Sl.len hx
 obtain ⟨rfl, hn'⟩ := Sl.len hy
 refine U2 (args := [.slice a xs.length c, .slice a' ys.length c']) (fn := Tryz.f48) rfl ?_
 refine And.intro (fun hc => ?_) (fun hc => ?_)
 ·refine And.intro (congrArg Value.bool ?_) rfl
  have : xs.length ≠ ys.length := by simp at hc; omega
  exact (decide_eq_false fun e => this (by rw [e])).symm
 have hlen : xs.length = ys.length := by simp at hc; omega
 refine Exists.intro { vars := [5], boxes := [], owns := [] } (Exists.intro (fun vs _ h' => ∃ k : Nat, k ≤ xs.length ∧ xs.take k = ys.take k ∧ vs = [.int .i64 k] ∧ h' = h) (Exists.intro (fun vs _ => match vs with | [.int _ j] => ((xs.length : Int) - j).toNat | _ => 0) ?_))
 refine And.intro ⟨0, by omega, by simp, rfl, rfl⟩ ?_
 rintro _ h1 ⟨k, hk, hall, ⟨⟩, rfl⟩
 refine And.intro (fun hc2 => ?_) (fun hc2 => ?_)
 ·have hlt : k < xs.length := by simpa using hc2
  obtain ⟨x, gx⟩ := R03 hlt
  obtain ⟨y, gy⟩ := R03 (l := ys) (k := k) (by omega)
  obtain ⟨b1, cs1, e1, i1⟩ := Sl.get hx gx (by decide)
  obtain ⟨b2, cs2, e2, i2⟩ := Sl.get hy gy (by decide)
  have hw := A2 hlt hn
  obtain ⟨rfl, _⟩ := i1
  obtain ⟨rfl, _⟩ := i2
  refine Or.inl (And.intro (And.intro (by kernel_rfl) (by kernel_rfl)) ?_)
  refine And.intro b1 (Exists.intro _ (And.intro e1 (And.intro b2 (Exists.intro _ (And.intro e2 ?_)))))
  refine And.intro (fun hc3 => ?_) (fun hc3 => ?_)
  ·refine And.intro (congrArg Value.bool ?_) rfl
   have hne : x ≠ y := by simpa using hc3
   exact (decide_eq_false fun e => hne (Option.some.inj (gx.symm.trans ((congrArg (fun l : O0 => l[k]?) e).trans gy)))).symm
  ·have heq : x = y := by simpa using hc3
   refine And.intro rfl (And.intro (by first | exact trivial | exact And.intro rfl trivial | exact And.intro rfl (And.intro rfl trivial) | exact And.intro rfl (And.intro rfl (And.intro rfl trivial)) | exact And.intro rfl (And.intro rfl (And.intro rfl (And.intro rfl trivial)))) (And.intro (by first | exact trivial | exact And.intro rfl trivial | exact And.intro rfl (And.intro rfl trivial) | exact And.intro rfl (And.intro rfl (And.intro rfl trivial)) | exact And.intro rfl (And.intro rfl (And.intro rfl (And.intro rfl trivial)))) (And.intro ?_ ?_)))
   ·refine ⟨k + 1, by omega, by rw [g01 gx, g01 gy, hall, heq], ?_, rfl⟩
    rw [← hw]
   ·show ((xs.length : Int) - IntKind.i64.wrap ((k : Int) + 1)).toNat < ((xs.length : Int) - (k : Int)).toNat
    omega
 ·have hk : k = xs.length := by simp at hc2; omega
  refine And.intro (congrArg Value.bool ?_) rfl
  refine (decide_eq_true ?_).symm
  subst hk
  rwa [List.take_length, hlen, List.take_length] at hall
theorem Y0h (h : Hp) (a : Option Addr) (n c : Nat) (a' : Option Addr) (n' c' : Nat) (xs ys : j3) (hx : P4.R h [.slice a n c] xs) (hy : P4.R h [.slice a' n' c'] ys) :
  Tr Tryz.prog 53 #[.slice a n c, .slice a' n' c'] h fun v h' => v = .bool (decide (xs = ys)) ∧ h' = h := by
 obtain ⟨rfl, hn⟩ := Sl.len hx
 obtain ⟨rfl, hn'⟩ := Sl.len hy
 refine U2 (args := [.slice a xs.length c, .slice a' ys.length c']) (fn := Tryz.f53) rfl ?_
 refine And.intro (fun hc => ?_) (fun hc => ?_)
 ·refine And.intro (congrArg Value.bool ?_) rfl
  have : xs.length ≠ ys.length := by simp at hc; omega
  exact (decide_eq_false fun e => this (by rw [e])).symm
 have hlen : xs.length = ys.length := by simp at hc; omega
 refine Exists.intro { vars := [5], boxes := [], owns := [] } (Exists.intro (fun vs _ h' => ∃ k : Nat, k ≤ xs.length ∧ xs.take k = ys.take k ∧ vs = [.int .i64 k] ∧ h' = h) (Exists.intro (fun vs _ => match vs with | [.int _ j] => ((xs.length : Int) - j).toNat | _ => 0) ?_))
 refine And.intro ⟨0, by omega, by simp, rfl, rfl⟩ ?_
 rintro _ h1 ⟨k, hk, hall, ⟨⟩, rfl⟩
 refine And.intro (fun hc2 => ?_) (fun hc2 => ?_)
 ·have hlt : k < xs.length := by simpa using hc2
  obtain ⟨x, gx⟩ := R03 hlt
  obtain ⟨y, gy⟩ := R03 (l := ys) (k := k) (by omega)
  obtain ⟨b1, cs1, e1, i1⟩ := Sl.get hx gx (by decide)
  obtain ⟨b2, cs2, e2, i2⟩ := Sl.get hy gy (by decide)
  have hw := A2 hlt hn
  obtain ⟨a1, n1, c1, rfl⟩ := Wp.slice_cell i1
  obtain ⟨a2, n2, c2, rfl⟩ := Wp.slice_cell i2
  refine Or.inl (And.intro (And.intro (by kernel_rfl) (by kernel_rfl)) ?_)
  refine And.intro b1 (Exists.intro _ (And.intro e1 (And.intro b2 (Exists.intro _ (And.intro e2 ?_)))))
  refine Exists.intro (.bool _) (And.intro (p0j _ _ _ _ _ _ _ x y i1 i2) ?_)
  refine And.intro (fun hc3 => ?_) (fun hc3 => ?_)
  ·refine And.intro (congrArg Value.bool ?_) rfl
   have hne : x ≠ y := H0g hc3
   exact (decide_eq_false fun e => hne (Option.some.inj (gx.symm.trans ((congrArg (fun l : j3 => l[k]?) e).trans gy)))).symm
  ·have heq : x = y := f0e hc3
   refine And.intro rfl (And.intro (by first | exact trivial | exact And.intro rfl trivial | exact And.intro rfl (And.intro rfl trivial) | exact And.intro rfl (And.intro rfl (And.intro rfl trivial)) | exact And.intro rfl (And.intro rfl (And.intro rfl (And.intro rfl trivial)))) (And.intro (by first | exact trivial | exact And.intro rfl trivial | exact And.intro rfl (And.intro rfl trivial) | exact And.intro rfl (And.intro rfl (And.intro rfl trivial)) | exact And.intro rfl (And.intro rfl (And.intro rfl (And.intro rfl trivial)))) (And.intro ?_ ?_)))
   ·refine ⟨k + 1, by omega, by rw [g01 gx, g01 gy, hall, heq], ?_, rfl⟩
    rw [← hw]
   ·show ((xs.length : Int) - IntKind.i64.wrap ((k : Int) + 1)).toNat < ((xs.length : Int) - (k : Int)).toNat
    omega
 ·have hk : k = xs.length := by simp at hc2; omega
  refine And.intro (congrArg Value.bool ?_) rfl
  refine (decide_eq_true ?_).symm
  subst hk
  rwa [List.take_length, hlen, List.take_length] at hall
theorem P08 (h : Hp) (cs ds : List Value) (x y : C0) (hx : D1.R h cs x) (hy : D1.R h ds y) :
  Tr Tryz.prog 31 #[.agg cs.toArray, .agg ds.toArray] h fun v h' => v = .bool (decide (x = y)) ∧ h' = h := by
 obtain ⟨x0, a1, n1, c1, x1, rfl, rfl, h0, h1⟩ := J1 hx
 obtain ⟨x0y, a1y, n1y, c1y, x1y, rfl, rfl, h0y, h1y⟩ := J1 hy
 refine U2 (args := [.agg #[.int .i64 x0, .slice a1 n1 c1], .agg #[.int .i64 x0y, .slice a1y n1y c1y]]) (fn := Tryz.f31) rfl ?_
 refine And.intro (fun hc => ?_) (fun hc => ?_)
 ·have ne : x0 ≠ x0y := by simpa using hc
  exact And.intro (congrArg Value.bool (decide_eq_false fun e => by cases e; exact ne rfl).symm) rfl
 have q0 : x0 = x0y := by simpa using hc
 subst q0
 refine Tr.val (Y0h h a1 n1 c1 a1y n1y c1y x1 x1y h1 h1y) ?_
 refine And.intro (fun hc => ?_) (fun hc => ?_)
 ·have ne : x1 ≠ x1y := H0g hc
  exact And.intro (congrArg Value.bool (decide_eq_false fun e => by cases e; exact ne rfl).symm) rfl
 have q1 : x1 = x1y := f0e hc
 subst q1
 exact And.intro (congrArg Value.bool (decide_eq_true rfl).symm) rfl
end Go.Proofs.YtfdlgbfeceodeaaGreat
namespace Go.Proofs.YtfdlgbfeceodeaaGreat
open Go.H
set_option linter.unusedVariables false
set_option linter.unusedSimpArgs false
set_option maxRecDepth 10000
theorem q0j (h : Hp) (a : Option Addr) (n c : Nat) (xs : O0) (hx : I1.R h [.slice a n c] xs) (hl : Y00 xs ≤ 1048576) :
  Tr Tryz.prog 63 #[.slice a n c] h fun v h' => New I1 h h' [v] xs := by
 obtain ⟨rfl, hn⟩ := Sl.len hx
 have hl0 : xs.length ≤ 1048576 := by simp only [Y00] at hl; omega
 refine U2 (args := [.slice a xs.length c]) (fn := Tryz.f63) rfl ?_
 refine And.intro ?_ ?_
 ·show 0 ≤ (xs.length : Int) ∧ (xs.length : Int) ≤ xs.length ∧ (xs.length : Int) * 8 ≤ 140737488355328 ∧ (xs.length : Int) ≤ 9223372036854775807
  omega
 refine Exists.intro { vars := [4], boxes := [], owns := [0], kept := [0] } (Exists.intro (fun vs os h' => ∃ (k : Nat) (L : List (List Value)) (Bs : List (List Nat)), k ≤ xs.length ∧ vs = [.int .i64 k] ∧ os = [j02 L xs.length [.int .i64 0]] ∧ L.length = k ∧
  F3 (Wp.int.W h') L (xs.take k) Bs ∧ Sub h h' ∧ g7 h Bs.flatten) (Exists.intro (fun vs _ => match vs with | [.int _ j] => ((xs.length : Int) - j).toNat | _ => 0) ?_))
 refine And.intro ⟨0, [], [], by omega, rfl, rfl, rfl, trivial, Sub.refl _, by simp [g7]⟩ ?_
 rintro _ _ h1 ⟨k, L, Bs, hk, ⟨⟩, ⟨⟩, hlk, hW, hsub, hfr⟩
 refine And.intro (fun hc2 => ?_) (fun hc2 => ?_)
 ·have hlt : k < xs.length := by simpa using hc2
  obtain ⟨x, gx⟩ := R03 hlt
  obtain ⟨b1, cs1, e1, i1⟩ := Sl.get (Sl.mono hsub hx) gx (by decide)
  have hw := A2 hlt hn
  obtain ⟨rfl, g1⟩ := i1
  refine And.intro b1 (Exists.intro _ (And.intro e1 ?_))
  obtain ⟨B, hB1, hB2, hB3⟩ := New.int (h := h1) g1
  refine And.intro ?_ ?_
  ·show 0 ≤ (k : Int) ∧ (k : Int) < ((j02 L xs.length [.int .i64 0]).length : Nat)
   rw [j07 (by omega)]; omega
  refine Exists.intro [.int .i64 0] (And.intro (S0b hlk hlt) ?_)
  refine And.intro rfl (And.intro (by first | exact trivial | exact And.intro rfl trivial | exact And.intro rfl (And.intro rfl trivial) | exact And.intro rfl (And.intro rfl (And.intro rfl trivial)) | exact And.intro rfl (And.intro rfl (And.intro rfl (And.intro rfl trivial)))) (And.intro (by first | exact trivial | exact And.intro rfl trivial | exact And.intro rfl (And.intro rfl trivial) | exact And.intro rfl (And.intro rfl (And.intro rfl trivial)) | exact And.intro rfl (And.intro rfl (And.intro rfl (And.intro rfl trivial)))) (And.intro ?_ ?_)))
  ·refine ⟨k + 1, L ++ [[.int .i64 x]], Bs ++ [B], by omega, by rw [← hw], ?_, by simp [hlk], ?_, hsub.trans hB3, ?_⟩
   ·show [(j02 L xs.length [.int .i64 0]).set k [.int .i64 x]] = _
    rw [T0b hlk hlt]
   ·rw [g01 gx]
    exact F3.snoc hB1 (d0e hW hB3)
   ·exact u0a hW hsub hfr hB2
  ·show ((xs.length : Int) - IntKind.i64.wrap ((k : Int) + 1)).toNat < ((xs.length : Int) - (k : Int)).toNat
   omega
 ·have hk : k = xs.length := by simp at hc2; omega
  intro v h' hf
  rw [U0b (by omega)] at hf
  rw [hk, List.take_length] at hW
  exact Z0.fresh (r := Wp.int) hf hW hsub hfr
theorem Z0h (h : Hp) (a : Option Addr) (n c : Nat) (xs : j3) (hx : P4.R h [.slice a n c] xs) (hl : h01 xs ≤ 1048576) :
  Tr Tryz.prog 58 #[.slice a n c] h fun v h' => New P4 h h' [v] xs := by
 obtain ⟨rfl, hn⟩ := Sl.len hx
 have hl0 : xs.length ≤ 1048576 := by simp only [h01] at hl; omega
 refine U2 (args := [.slice a xs.length c]) (fn := Tryz.f58) rfl ?_
 refine And.intro ?_ ?_
 ·show 0 ≤ (xs.length : Int) ∧ (xs.length : Int) ≤ xs.length ∧ (xs.length : Int) * 24 ≤ 140737488355328 ∧ (xs.length : Int) ≤ 9223372036854775807
  omega
 refine Exists.intro { vars := [4], boxes := [], owns := [0], kept := [0] } (Exists.intro (fun vs os h' => ∃ (k : Nat) (L : List (List Value)) (Bs : List (List Nat)), k ≤ xs.length ∧ vs = [.int .i64 k] ∧ os = [j02 L xs.length [.slice none 0 0]] ∧ L.length = k ∧
  F3 (I1.W h') L (xs.take k) Bs ∧ Sub h h' ∧ g7 h Bs.flatten) (Exists.intro (fun vs _ => match vs with | [.int _ j] => ((xs.length : Int) - j).toNat | _ => 0) ?_))
 refine And.intro ⟨0, [], [], by omega, rfl, rfl, rfl, trivial, Sub.refl _, by simp [g7]⟩ ?_
 rintro _ _ h1 ⟨k, L, Bs, hk, ⟨⟩, ⟨⟩, hlk, hW, hsub, hfr⟩
 refine And.intro (fun hc2 => ?_) (fun hc2 => ?_)
 ·have hlt : k < xs.length := by simpa using hc2
  obtain ⟨x, gx⟩ := R03 hlt
  obtain ⟨b1, cs1, e1, i1⟩ := Sl.get (Sl.mono hsub hx) gx (by decide)
  have hw := A2 hlt hn
  obtain ⟨a1, n1, c1, rfl⟩ := Wp.slice_cell i1
  refine And.intro b1 (Exists.intro _ (And.intro e1 ?_))
  refine Tr.mono (q0j h1 _ _ _ x i1 (by have := M0i (m := Y00) gx; simp only [h01] at hl; omega)) ?_
  rintro v h2 ⟨B, hB1, hB2, hB3⟩
  obtain ⟨a2, n2, c2, e2⟩ := Wp.slice_cell (I1.toR hB1)
  cases e2
  refine And.intro ?_ ?_
  ·show 0 ≤ (k : Int) ∧ (k : Int) < ((j02 L xs.length [.slice none 0 0]).length : Nat)
   rw [j07 (by omega)]; omega
  refine Exists.intro [.slice none 0 0] (And.intro (S0b hlk hlt) ?_)
  refine And.intro rfl (And.intro (by first | exact trivial | exact And.intro rfl trivial | exact And.intro rfl (And.intro rfl trivial) | exact And.intro rfl (And.intro rfl (And.intro rfl trivial)) | exact And.intro rfl (And.intro rfl (And.intro rfl (And.intro rfl trivial)))) (And.intro (by first | exact trivial | exact And.intro rfl trivial | exact And.intro rfl (And.intro rfl trivial) | exact And.intro rfl (And.intro rfl (And.intro rfl trivial)) | exact And.intro rfl (And.intro rfl (And.intro rfl (And.intro rfl trivial)))) (And.intro ?_ ?_)))
  ·refine ⟨k + 1, L ++ [[.slice a2 n2 c2]], Bs ++ [B], by omega, by rw [← hw], ?_, by simp [hlk], ?_, hsub.trans hB3, ?_⟩
   ·show [(j02 L xs.length [.slice none 0 0]).set k [.slice a2 n2 c2]] = _
    rw [T0b hlk hlt]
   ·rw [g01 gx]
    exact F3.snoc hB1 (d0e hW hB3)
   ·exact u0a hW hsub hfr hB2
  ·show ((xs.length : Int) - IntKind.i64.wrap ((k : Int) + 1)).toNat < ((xs.length : Int) - (k : Int)).toNat
   omega
 ·have hk : k = xs.length := by simp at hc2; omega
  intro v h' hf
  rw [U0b (by omega)] at hf
  rw [hk, List.take_length] at hW
  exact Z0.fresh (r := I1) hf hW hsub hfr
theorem k01 (h : Hp) (cs : List Value) (x : C0) (hx : D1.R h cs x) (hl : w6 x ≤ 1048576) :
  Tr Tryz.prog 29 #[.agg cs.toArray] h fun v h' => ∃ cs', v = .agg cs'.toArray ∧ New D1 h h' cs' x := by
 obtain ⟨x0, a1, n1, c1, x1, rfl, rfl, h0, h1⟩ := J1 hx
 simp only [w6] at hl
 refine U2 (args := [.agg #[.int .i64 x0, .slice a1 n1 c1]]) (fn := Tryz.f29) rfl ?_
 refine Tr.mono (Z0h h a1 n1 c1 x1 (Sl.mono (Sub.refl _) h1) (by omega)) ?_
 rintro v1 k1 N1
 obtain ⟨a1z, n1z, c1z, ez1⟩ := Wp.slice_cell N1.r
 cases ez1
 exact Exists.intro _ (And.intro rfl (New.pair (New.int h0) N1))
end Go.Proofs.YtfdlgbfeceodeaaGreat
