/- Texts of the claim, joined: The data types of the laws, as lists and tuples; ; What the laws' own helpers do: sizes; What the laws' own helpers do: equality; What the laws' own helpers do: copies; What the laws' own helpers do: marks; What the laws' own helpers do: marks that are still there. -/
import Derived.Test.YtknoadmdnjaocaaGreatHE
import Derived.Test.YtknoadmdnjaocaaGreatChecked
namespace Go.Proofs.YtknoadmdnjaocaaGreat
open Go.H
set_option linter.unusedVariables false
set_option linter.unusedSimpArgs false
set_option maxRecDepth 10000
theorem t0h {x : Int} (h1 : -9223372036854775808 ≤ x) (h2 : x ≤ 9223372036854775807) : N0 x := ⟨h1, h2⟩
abbrev C0 : Type := Int × Int × Int
abbrev P0 : Wp C0 := Wp.pair Wp.int (Wp.pair Wp.int Wp.int)
instance M0l : DecidableEq C0 := (@instDecidableEqProd _ _ (inferInstance : DecidableEq Int) (@instDecidableEqProd _ _ (inferInstance : DecidableEq Int) (inferInstance : DecidableEq Int)))
def s0k (x : C0) : Nat := 0
def p7 (x : C0) : Nat := 1 + 1 + 1
def j01 (x : C0) (k : Int) : C0 := (k, (k + (1 : Nat)), (k + (1 + 1 : Nat)))
theorem E1 {h : Hp} {cs : List Value} {x : C0} (hx : P0.R h cs x) : ∃ (x0 : Int) (x1 : Int) (x2 : Int), cs = [.int .i64 x0, .int .i64 x1, .int .i64 x2] ∧ x = (x0, x1, x2) ∧ N0 x0 ∧ N0 x1 ∧ N0 x2 := by
 obtain ⟨x0, x1, x2⟩ := x
 obtain ⟨_, _, rfl, ⟨rfl, h0⟩, ⟨_, _, rfl, ⟨rfl, h1⟩, ⟨rfl, h2⟩⟩⟩ := hx
 exact ⟨x0, x1, x2, rfl, rfl, h0, h1, h2⟩
theorem K1 {h : Hp} {x0 : Int} {x1 : Int} {x2 : Int} (h0 : N0 x0) (h1 : N0 x1) (h2 : N0 x2) : P0.R h [.int .i64 x0, .int .i64 x1, .int .i64 x2] (x0, x1, x2) :=
 ⟨[.int .i64 x0], [.int .i64 x1, .int .i64 x2], rfl, ⟨rfl, h0⟩, ⟨[.int .i64 x1], [.int .i64 x2], rfl, ⟨rfl, h1⟩, ⟨rfl, h2⟩⟩⟩
theorem t07 {h : Hp} {cs : List Value} {x : C0} {B : List Nat} (hx : P0.W h cs x B) : ∃ (x0 : Int) (x1 : Int) (x2 : Int), cs = [.int .i64 x0, .int .i64 x1, .int .i64 x2] ∧ x = (x0, x1, x2) ∧ B = ([] ++ ([] ++ [])) ∧ N0 x0 ∧ N0 x1 ∧ N0 x2 := by
 obtain ⟨x0, x1, x2⟩ := x
 obtain ⟨_, _, _, _, rfl, rfl, ⟨⟨rfl, h0⟩, rfl⟩, ⟨_, _, _, _, rfl, rfl, ⟨⟨rfl, h1⟩, rfl⟩, ⟨⟨rfl, h2⟩, rfl⟩⟩⟩ := hx
 exact ⟨x0, x1, x2, rfl, rfl, rfl, h0, h1, h2⟩
theorem o03 {h : Hp} {x0 : Int} {x1 : Int} {x2 : Int} (h0 : N0 x0) (h1 : N0 x1) (h2 : N0 x2) : P0.W h [.int .i64 x0, .int .i64 x1, .int .i64 x2] (x0, x1, x2) ([] ++ ([] ++ [])) :=
 ⟨[.int .i64 x0], [.int .i64 x1, .int .i64 x2], [], ([] ++ []), rfl, rfl, ⟨⟨rfl, h0⟩, rfl⟩, ⟨[.int .i64 x1], [.int .i64 x2], [], [], rfl, rfl, ⟨⟨rfl, h1⟩, rfl⟩, ⟨⟨rfl, h2⟩, rfl⟩⟩⟩
abbrev I0 : Type := List C0
abbrev J0 : Wp I0 := Wp.slice P0
instance Y0k : DecidableEq I0 := inferInstanceAs (DecidableEq (List C0))
def k01 (x : I0) : Nat := x.length
def j04 (x : I0) : Nat := c5 p7 x
def p03 (x : I0) (k : Int) : I0 := mkL j01 p7 x k
abbrev j0 : Type := Int × Int × I0
abbrev S0 : Wp j0 := Wp.pair Wp.int (Wp.pair Wp.int J0)
instance Z0k : DecidableEq j0 := (@instDecidableEqProd _ _ (inferInstance : DecidableEq Int) (@instDecidableEqProd _ _ (inferInstance : DecidableEq Int) Y0k))
def P7 (x : j0) : Nat := k01 x.2.2
def S5 (x : j0) : Nat := 1 + 1 + j04 x.2.2
def f00 (x : j0) (k : Int) : j0 := (k, (k + (1 : Nat)), p03 x.2.2 (k + (1 + 1 : Nat)))
theorem B0 {h : Hp} {cs : List Value} {x : j0} (hx : S0.R h cs x) : ∃ (x0 : Int) (x1 : Int) (a2 : Option Addr) (n2 c2 : Nat) (x2 : I0), cs = [.int .i64 x0, .int .i64 x1, .slice a2 n2 c2] ∧ x = (x0, x1, x2) ∧ N0 x0 ∧ N0 x1 ∧ J0.R h [.slice a2 n2 c2] x2 := by
 obtain ⟨x0, x1, x2⟩ := x
 obtain ⟨_, _, rfl, ⟨rfl, h0⟩, ⟨_, _, rfl, ⟨rfl, h1⟩, h2⟩⟩ := hx
 obtain ⟨a2, n2, c2, rfl⟩ := Wp.slice_cell h2
 exact ⟨x0, x1, a2, n2, c2, x2, rfl, rfl, h0, h1, h2⟩
theorem z0 {h : Hp} {x0 : Int} {x1 : Int} {a2 : Option Addr} {n2 c2 : Nat} {x2 : I0} (h0 : N0 x0) (h1 : N0 x1) (h2 : J0.R h [.slice a2 n2 c2] x2) : S0.R h [.int .i64 x0, .int .i64 x1, .slice a2 n2 c2] (x0, x1, x2) :=
 ⟨[.int .i64 x0], [.int .i64 x1, .slice a2 n2 c2], rfl, ⟨rfl, h0⟩, ⟨[.int .i64 x1], [.slice a2 n2 c2], rfl, ⟨rfl, h1⟩, h2⟩⟩
theorem F05 {h : Hp} {cs : List Value} {x : j0} {B : List Nat} (hx : S0.W h cs x B) : ∃ (x0 : Int) (x1 : Int) (a2 : Option Addr) (n2 c2 : Nat) (x2 : I0) (B2 : List Nat), cs = [.int .i64 x0, .int .i64 x1, .slice a2 n2 c2] ∧ x = (x0, x1, x2) ∧ B = ([] ++ ([] ++ B2)) ∧ N0 x0 ∧ N0 x1 ∧ J0.W h [.slice a2 n2 c2] x2 B2 := by
 obtain ⟨x0, x1, x2⟩ := x
 obtain ⟨_, _, _, _, rfl, rfl, ⟨⟨rfl, h0⟩, rfl⟩, ⟨_, _, _, _, rfl, rfl, ⟨⟨rfl, h1⟩, rfl⟩, h2⟩⟩ := hx
 obtain ⟨a2, n2, c2, rfl⟩ := Wp.slice_cell (J0.toR h2)
 exact ⟨x0, x1, a2, n2, c2, x2, _, rfl, rfl, rfl, h0, h1, h2⟩
theorem k04 {h : Hp} {x0 : Int} {x1 : Int} {a2 : Option Addr} {n2 c2 : Nat} {x2 : I0} {B2 : List Nat} (h0 : N0 x0) (h1 : N0 x1) (h2 : J0.W h [.slice a2 n2 c2] x2 B2) : S0.W h [.int .i64 x0, .int .i64 x1, .slice a2 n2 c2] (x0, x1, x2) ([] ++ ([] ++ B2)) :=
 ⟨[.int .i64 x0], [.int .i64 x1, .slice a2 n2 c2], [], ([] ++ B2), rfl, rfl, ⟨⟨rfl, h0⟩, rfl⟩, ⟨[.int .i64 x1], [.slice a2 n2 c2], [], B2, rfl, rfl, ⟨⟨rfl, h1⟩, rfl⟩, h2⟩⟩
abbrev R3 : Type := Int × Int
abbrev Q3 : Wp R3 := Wp.pair Wp.int Wp.int
instance N0l : DecidableEq R3 := (@instDecidableEqProd _ _ (inferInstance : DecidableEq Int) (inferInstance : DecidableEq Int))
theorem A00 {h : Hp} {cs : List Value} {x : R3} (hx : Q3.R h cs x) : ∃ (x0 : Int) (x1 : Int), cs = [.int .i64 x0, .int .i64 x1] ∧ x = (x0, x1) ∧ N0 x0 ∧ N0 x1 := by
 obtain ⟨x0, x1⟩ := x
 obtain ⟨_, _, rfl, ⟨rfl, h0⟩, ⟨rfl, h1⟩⟩ := hx
 exact ⟨x0, x1, rfl, rfl, h0, h1⟩
theorem O1 {h : Hp} {x0 : Int} {x1 : Int} (h0 : N0 x0) (h1 : N0 x1) : Q3.R h [.int .i64 x0, .int .i64 x1] (x0, x1) :=
 ⟨[.int .i64 x0], [.int .i64 x1], rfl, ⟨rfl, h0⟩, ⟨rfl, h1⟩⟩
abbrev D0 : Type := List Int
abbrev D1 : Wp D0 := Wp.slice Wp.int
instance O0l : DecidableEq D0 := inferInstanceAs (DecidableEq (List Int))
def j05 (x : D0) : Nat := c5 (fun _ => 1) x
def v0c (x : D0) (k : Int) : D0 := mkL (fun _ k => k) (fun _ => 1) x k
abbrev B8 : Type := List D0
abbrev l04 : Wp B8 := Wp.slice D1
instance I0l : DecidableEq B8 := inferInstanceAs (DecidableEq (List D0))
abbrev n0f : Type := ByteArray × j0
instance J0l : DecidableEq n0f := (@instDecidableEqProd _ _ (inferInstance : DecidableEq ByteArray) Z0k)
abbrev O08 : Type := List n0f
instance A0l : DecidableEq O08 := inferInstanceAs (DecidableEq (List n0f))
abbrev V5 : Type := List j0
abbrev C5 : Wp V5 := Wp.slice S0
instance B0l : DecidableEq V5 := inferInstanceAs (DecidableEq (List j0))
def b9 (x : V5) : Nat := x.length + c5 P7 x
def P08 (x : V5) : Nat := c5 S5 x
def L0i (x : V5) (k : Int) : V5 := mkL f00 S5 x k
abbrev R6 : Type := List R3
abbrev w0c : Wp R6 := Wp.slice Q3
instance K0l : DecidableEq R6 := inferInstanceAs (DecidableEq (List R3))
theorem W0j (x : C0) : p7 x ≤ 3 := by
 simp only [p7]
 omega
theorem X0j (x : I0) : j04 x ≤ 16 * k01 x := R0d (c := p7) (fun x => by have := W0j x; omega) x
theorem M0i (x : j0) : S5 x ≤ 2 + 16 * P7 x := by
 have := X0j x.2.2
 simp only [S5, P7]
 omega
theorem N0i (x : V5) : P08 x ≤ 16 * b9 x := t0g (c := S5) (m := P7) (fun x => by have := M0i x; omega) x
end Go.Proofs.YtknoadmdnjaocaaGreat
namespace Go.Proofs.YtknoadmdnjaocaaGreat
open Go.H
set_option linter.unusedVariables false
set_option linter.unusedSimpArgs false
set_option maxRecDepth 10000
open Go.H
theorem o0f (h : Hp) : ∃ cs, P0.R h cs (0, 0, 0) := ⟨_, K1 (by decide) (by decide) (by decide)⟩
end Go.Proofs.YtknoadmdnjaocaaGreat
namespace Go.Proofs.YtknoadmdnjaocaaGreat
open Go.H
set_option linter.unusedVariables false
set_option linter.unusedSimpArgs false
set_option maxRecDepth 10000
theorem P0h (h : Hp) (a : Option Addr) (n c : Nat) (xs : I0) (left : Int) (hx : J0.R h [.slice a n c] xs) (hl : 0 ≤ left ∧ left ≤ 1048576) :
  Tr Tryz.prog 74 #[.slice a n c, .int .i64 left] h fun v h' => v = .int .i64 (szR left (k01 xs)) ∧ h' = h := by
 obtain ⟨rfl, hn⟩ := Sl.len hx
 have hw : IntKind.i64.wrap (left - (xs.length : Int)) = left - xs.length := w64 (by omega) (by omega)
 refine j3 (args := [.slice a xs.length c, .int .i64 left]) (fn := Tryz.f74) rfl ?_
 refine And.intro (fun hc => ?_) (fun hc => ?_)
 ·refine And.intro ?_ rfl
  simp [hw] at hc
  rw [k01, G0i (by omega)]
  rfl
 ·refine And.intro ?_ rfl
  simp [hw] at hc
  rw [k01, H0i (by omega)]
  exact congrArg (Value.int .i64) hw
theorem Q0h (h : Hp) (cs : List Value) (x : j0) (left : Int) (hx : S0.R h cs x) (hl : 0 ≤ left ∧ left ≤ 1048576) :
  Tr Tryz.prog 23 #[.agg cs.toArray, .int .i64 left] h fun v h' => v = .int .i64 (szR left (P7 x)) ∧ h' = h := by
 obtain ⟨x0, x1, a2, n2, c2, x2, rfl, rfl, h0, h1, h2⟩ := B0 hx
 refine j3 (args := [.agg #[.int .i64 x0, .int .i64 x1, .slice a2 n2 c2], .int .i64 left]) (fn := Tryz.f23) rfl ?_
 refine Tr.val (P0h h a2 n2 c2 x2 (left) h2 hl) ?_
 refine And.intro (fun hc => ?_) (fun hc => ?_)
 ·refine And.intro ?_ rfl
  rw [P7, P0d (left := left) (a := ((k01 x2 : Nat) : Int)) (by simpa using hc) hl.1 (by simp only []; omega)]
  rfl
 have q0 : 0 ≤ szR left ((k01 x2 : Nat) : Int) := by simpa using hc
 have hl0 : 0 ≤ szR left ((k01 x2 : Nat) : Int) ∧ szR left ((k01 x2 : Nat) : Int) ≤ 1048576 := by
  have := m0f q0
  omega
 exact And.intro rfl rfl
theorem Q0f (h : Hp) (a : Option Addr) (n c : Nat) (xs : V5) (left : Int) (hx : C5.R h [.slice a n c] xs) (hl : 0 ≤ left ∧ left ≤ 1048576) :
  Tr Tryz.prog 35 #[.slice a n c, .int .i64 left] h fun v h' => v = .int .i64 (szR left (b9 xs)) ∧ h' = h := by
 obtain ⟨rfl, hn⟩ := Sl.len hx
 have hw : IntKind.i64.wrap (left - (xs.length : Int)) = left - xs.length := w64 (by omega) (by omega)
 refine j3 (args := [.slice a xs.length c, .int .i64 left]) (fn := Tryz.f35) rfl ?_
 refine And.intro (fun hc => ?_) (fun hc => ?_)
 ·refine And.intro ?_ rfl
  simp [hw] at hc
  rw [b9, G0i (by omega)]
  rfl
 simp [hw] at hc
 refine Exists.intro { vars := [1, 5], boxes := [], owns := [] } (Exists.intro (fun vs _ h' => ∃ k : Nat, k ≤ xs.length ∧ 0 ≤ szR left ((xs.length + c5 P7 (xs.take k) : Nat) : Int) ∧ vs = [.int .i64 (szR left ((xs.length + c5 P7 (xs.take k) : Nat) : Int)), .int .i64 k] ∧ h' = h) (Exists.intro (fun vs _ => match vs with | [_, .int _ j] => ((xs.length : Int) - j).toNat | _ => 0) ?_))
 have h0 : szR left ((xs.length + c5 P7 (xs.take 0) : Nat) : Int) = left - xs.length := by rw [H0i (by simp [c5]; omega)]; simp [c5]
 refine And.intro ⟨0, by omega, by omega, by rw [h0]; exact congrArg (fun x => [Value.int .i64 x, Value.int .i64 0]) hw, rfl⟩ ?_
 rintro _ _ h1 ⟨k, hk, hpos, ⟨⟩, rfl⟩
 obtain ⟨q1, q2⟩ := m0f hpos
 refine And.intro (fun hc2 => ?_) (fun hc2 => ?_)
 ·have hlt : k < xs.length := by simpa using hc2
  obtain ⟨x, hgx⟩ := N9 hlt
  obtain ⟨b1, cs1, e1, i1⟩ := Sl.get hx hgx (by decide)
  have hw2 := D2 hlt hn
  obtain ⟨x0, x1, a2, n2, c2, x2, rfl, rfl, g0, g1, g2⟩ := B0 i1
  refine And.intro b1 (Exists.intro _ (And.intro e1 ?_))
  refine Tr.val (Q0h _ [.int .i64 x0, .int .i64 x1, .slice a2 n2 c2] (x0, x1, x2) _ (z0 g0 g1 g2) ⟨by omega, by omega⟩) ?_
  have hstep : szR (szR left ((xs.length + c5 P7 (xs.take k) : Nat) : Int)) (P7 (x0, x1, x2) : Nat) = szR left ((xs.length + c5 P7 (xs.take (k + 1)) : Nat) : Int) := by
   rw [T0j hpos (by omega) (by omega), N02 hgx]
   congr 1
   omega
  refine And.intro (fun hc3 => ?_) (fun hc3 => ?_)
  ·refine And.intro ?_ rfl
   rw [hstep] at hc3
   have hneg2 : szR left ((xs.length + c5 P7 (xs.take (k + 1)) : Nat) : Int) < 0 := by simpa using hc3
   have := O02 P7 xs (k + 1)
   rw [b9, P0d hneg2 hl.1 (by omega)]
   rfl
  ·rw [hstep] at hc3
   have hpos2 : 0 ≤ szR left ((xs.length + c5 P7 (xs.take (k + 1)) : Nat) : Int) := by simpa using hc3
   refine And.intro rfl (And.intro (by first | exact trivial | exact And.intro rfl trivial | exact And.intro rfl (And.intro rfl trivial) | exact And.intro rfl (And.intro rfl (And.intro rfl trivial)) | exact And.intro rfl (And.intro rfl (And.intro rfl (And.intro rfl trivial)))) (And.intro (by first | exact trivial | exact And.intro rfl trivial | exact And.intro rfl (And.intro rfl trivial) | exact And.intro rfl (And.intro rfl (And.intro rfl trivial)) | exact And.intro rfl (And.intro rfl (And.intro rfl (And.intro rfl trivial)))) (And.intro ?_ ?_)))
   ·refine ⟨k + 1, by omega, hpos2, ?_, rfl⟩
    rw [← hw2, ← hstep]
   ·show ((xs.length : Int) - IntKind.i64.wrap ((k : Int) + 1)).toNat < ((xs.length : Int) - (k : Int)).toNat
    omega
 ·have hk : k = xs.length := by simp at hc2; omega
  subst hk
  refine And.intro ?_ rfl
  rw [List.take_length]
  rfl
end Go.Proofs.YtknoadmdnjaocaaGreat
namespace Go.Proofs.YtknoadmdnjaocaaGreat
open Go.H
set_option linter.unusedVariables false
set_option linter.unusedSimpArgs false
set_option maxRecDepth 10000
theorem w0j (h : Hp) (cs ds : List Value) (x y : C0) (hx : P0.R h cs x) (hy : P0.R h ds y) :
  Tr Tryz.prog 170 #[.agg cs.toArray, .agg ds.toArray] h fun v h' => v = .bool (decide (x = y)) ∧ h' = h := by
 obtain ⟨x0, x1, x2, rfl, rfl, h0, h1, h2⟩ := E1 hx
 obtain ⟨x0y, x1y, x2y, rfl, rfl, h0y, h1y, h2y⟩ := E1 hy
 refine j3 (args := [.agg #[.int .i64 x0, .int .i64 x1, .int .i64 x2], .agg #[.int .i64 x0y, .int .i64 x1y, .int .i64 x2y]]) (fn := Tryz.f170) rfl ?_
 refine And.intro (fun hc => ?_) (fun hc => ?_)
 ·have ne : x0 ≠ x0y := by simpa using hc
  exact And.intro (congrArg Value.bool (decide_eq_false fun e => by cases e; exact ne rfl).symm) rfl
 have q0 : x0 = x0y := by simpa using hc
 subst q0
 refine And.intro (fun hc => ?_) (fun hc => ?_)
 ·have ne : x1 ≠ x1y := by simpa using hc
  exact And.intro (congrArg Value.bool (decide_eq_false fun e => by cases e; exact ne rfl).symm) rfl
 have q1 : x1 = x1y := by simpa using hc
 subst q1
 refine And.intro (fun hc => ?_) (fun hc => ?_)
 ·have ne : x2 ≠ x2y := by simpa using hc
  exact And.intro (congrArg Value.bool (decide_eq_false fun e => by cases e; exact ne rfl).symm) rfl
 have q2 : x2 = x2y := by simpa using hc
 subst q2
 exact And.intro (congrArg Value.bool (decide_eq_true rfl).symm) rfl
theorem R0h (h : Hp) (a : Option Addr) (n c : Nat) (a' : Option Addr) (n' c' : Nat) (xs ys : I0) (hx : J0.R h [.slice a n c] xs) (hy : J0.R h [.slice a' n' c'] ys) :
  Tr Tryz.prog 85 #[.slice a n c, .slice a' n' c'] h fun v h' => v = .bool (decide (xs = ys)) ∧ h' = h := by
 obtain ⟨rfl, hn⟩ := Sl.len hx
 obtain ⟨rfl, hn'⟩ := Sl.len hy
 refine j3 (args := [.slice a xs.length c, .slice a' ys.length c']) (fn := Tryz.f85) rfl ?_
 refine And.intro (fun hc => ?_) (fun hc => ?_)
 ·refine And.intro (congrArg Value.bool ?_) rfl
  have : xs.length ≠ ys.length := by simp at hc; omega
  exact (decide_eq_false fun e => this (by rw [e])).symm
 have hlen : xs.length = ys.length := by simp at hc; omega
 refine Exists.intro { vars := [5], boxes := [], owns := [] } (Exists.intro (fun vs _ h' => ∃ k : Nat, k ≤ xs.length ∧ xs.take k = ys.take k ∧ vs = [.int .i64 k] ∧ h' = h) (Exists.intro (fun vs _ => match vs with | [.int _ j] => ((xs.length : Int) - j).toNat | _ => 0) ?_))
 refine And.intro ⟨0, by omega, by simp, rfl, rfl⟩ ?_
 rintro _ h1 ⟨k, hk, hall, ⟨⟩, rfl⟩
 refine And.intro (fun hc2 => ?_) (fun hc2 => ?_)
 ·have hlt : k < xs.length := by simpa using hc2
  obtain ⟨x, gx⟩ := N9 hlt
  obtain ⟨y, gy⟩ := N9 (l := ys) (k := k) (by omega)
  obtain ⟨b1, cs1, e1, i1⟩ := Sl.get hx gx (by decide)
  obtain ⟨b2, cs2, e2, i2⟩ := Sl.get hy gy (by decide)
  have hw := D2 hlt hn
  obtain ⟨x0, x1, x2, rfl, rfl, g0, g1, g2⟩ := E1 i1
  obtain ⟨x0y, x1y, x2y, rfl, rfl, g0y, g1y, g2y⟩ := E1 i2
  refine Or.inl (And.intro (And.intro (by kernel_rfl) (by kernel_rfl)) ?_)
  refine And.intro b1 (Exists.intro _ (And.intro e1 (And.intro b2 (Exists.intro _ (And.intro e2 ?_)))))
  refine Exists.intro (.bool _) (And.intro (w0j _ [.int .i64 x0, .int .i64 x1, .int .i64 x2] [.int .i64 x0y, .int .i64 x1y, .int .i64 x2y] (x0, x1, x2) (x0y, x1y, x2y) (K1 g0 g1 g2) (K1 g0y g1y g2y)) ?_)
  refine And.intro (fun hc3 => ?_) (fun hc3 => ?_)
  ·refine And.intro (congrArg Value.bool ?_) rfl
   have hne : (x0, x1, x2) ≠ (x0y, x1y, x2y) := s0c hc3
   exact (decide_eq_false fun e => hne (Option.some.inj (gx.symm.trans ((congrArg (fun l : I0 => l[k]?) e).trans gy)))).symm
  ·have heq : (x0, x1, x2) = (x0y, x1y, x2y) := A09 hc3
   refine And.intro rfl (And.intro (by first | exact trivial | exact And.intro rfl trivial | exact And.intro rfl (And.intro rfl trivial) | exact And.intro rfl (And.intro rfl (And.intro rfl trivial)) | exact And.intro rfl (And.intro rfl (And.intro rfl (And.intro rfl trivial)))) (And.intro (by first | exact trivial | exact And.intro rfl trivial | exact And.intro rfl (And.intro rfl trivial) | exact And.intro rfl (And.intro rfl (And.intro rfl trivial)) | exact And.intro rfl (And.intro rfl (And.intro rfl (And.intro rfl trivial)))) (And.intro ?_ ?_)))
   ·refine ⟨k + 1, by omega, by rw [T8 gx, T8 gy, hall, heq], ?_, rfl⟩
    rw [← hw]
   ·show ((xs.length : Int) - IntKind.i64.wrap ((k : Int) + 1)).toNat < ((xs.length : Int) - (k : Int)).toNat
    omega
 ·have hk : k = xs.length := by simp at hc2; omega
  refine And.intro (congrArg Value.bool ?_) rfl
  refine (decide_eq_true ?_).symm
  subst hk
  rwa [List.take_length, hlen, List.take_length] at hall
theorem S0h (h : Hp) (cs ds : List Value) (x y : j0) (hx : S0.R h cs x) (hy : S0.R h ds y) :
  Tr Tryz.prog 27 #[.agg cs.toArray, .agg ds.toArray] h fun v h' => v = .bool (decide (x = y)) ∧ h' = h := by
 obtain ⟨x0, x1, a2, n2, c2, x2, rfl, rfl, h0, h1, h2⟩ := B0 hx
 obtain ⟨x0y, x1y, a2y, n2y, c2y, x2y, rfl, rfl, h0y, h1y, h2y⟩ := B0 hy
 refine j3 (args := [.agg #[.int .i64 x0, .int .i64 x1, .slice a2 n2 c2], .agg #[.int .i64 x0y, .int .i64 x1y, .slice a2y n2y c2y]]) (fn := Tryz.f27) rfl ?_
 refine And.intro (fun hc => ?_) (fun hc => ?_)
 ·have ne : x0 ≠ x0y := by simpa using hc
  exact And.intro (congrArg Value.bool (decide_eq_false fun e => by cases e; exact ne rfl).symm) rfl
 have q0 : x0 = x0y := by simpa using hc
 subst q0
 refine And.intro (fun hc => ?_) (fun hc => ?_)
 ·have ne : x1 ≠ x1y := by simpa using hc
  exact And.intro (congrArg Value.bool (decide_eq_false fun e => by cases e; exact ne rfl).symm) rfl
 have q1 : x1 = x1y := by simpa using hc
 subst q1
 refine Tr.val (R0h h a2 n2 c2 a2y n2y c2y x2 x2y h2 h2y) ?_
 refine And.intro (fun hc => ?_) (fun hc => ?_)
 ·have ne : x2 ≠ x2y := s0c hc
  exact And.intro (congrArg Value.bool (decide_eq_false fun e => by cases e; exact ne rfl).symm) rfl
 have q2 : x2 = x2y := A09 hc
 subst q2
 exact And.intro (congrArg Value.bool (decide_eq_true rfl).symm) rfl
theorem B0a (h : Hp) (a : Option Addr) (n c : Nat) (a' : Option Addr) (n' c' : Nat) (xs ys : D0) (hx : D1.R h [.slice a n c] xs) (hy : D1.R h [.slice a' n' c'] ys) :
  Tr Tryz.prog 39 #[.slice a n c, .slice a' n' c'] h fun v h' => v = .bool (decide (xs = ys)) ∧ h' = h := by
 obtain ⟨rfl, hn⟩ := Sl.len hx
 obtain ⟨rfl, hn'⟩ := Sl.len hy
 refine j3 (args := [.slice a xs.length c, .slice a' ys.length c']) (fn := Tryz.f39) rfl ?_
 refine And.intro (fun hc => ?_) (fun hc => ?_)
 ·refine And.intro (congrArg Value.bool ?_) rfl
  have : xs.length ≠ ys.length := by simp at hc; omega
  exact (decide_eq_false fun e => this (by rw [e])).symm
 have hlen : xs.length = ys.length := by simp at hc; omega
 refine Exists.intro { vars := [5], boxes := [], owns := [] } (Exists.intro (fun vs _ h' => ∃ k : Nat, k ≤ xs.length ∧ xs.take k = ys.take k ∧ vs = [.int .i64 k] ∧ h' = h) (Exists.intro (fun vs _ => match vs with | [.int _ j] => ((xs.length : Int) - j).toNat | _ => 0) ?_))
 refine And.intro ⟨0, by omega, by simp, rfl, rfl⟩ ?_
 rintro _ h1 ⟨k, hk, hall, ⟨⟩, rfl⟩
 refine And.intro (fun hc2 => ?_) (fun hc2 => ?_)
 ·have hlt : k < xs.length := by simpa using hc2
  obtain ⟨x, gx⟩ := N9 hlt
  obtain ⟨y, gy⟩ := N9 (l := ys) (k := k) (by omega)
  obtain ⟨b1, cs1, e1, i1⟩ := Sl.get hx gx (by decide)
  obtain ⟨b2, cs2, e2, i2⟩ := Sl.get hy gy (by decide)
  have hw := D2 hlt hn
  obtain ⟨rfl, _⟩ := i1
  obtain ⟨rfl, _⟩ := i2
  refine Or.inl (And.intro (And.intro (by kernel_rfl) (by kernel_rfl)) ?_)
  refine And.intro b1 (Exists.intro _ (And.intro e1 (And.intro b2 (Exists.intro _ (And.intro e2 ?_)))))
  refine And.intro (fun hc3 => ?_) (fun hc3 => ?_)
  ·refine And.intro (congrArg Value.bool ?_) rfl
   have hne : x ≠ y := by simpa using hc3
   exact (decide_eq_false fun e => hne (Option.some.inj (gx.symm.trans ((congrArg (fun l : D0 => l[k]?) e).trans gy)))).symm
  ·have heq : x = y := by simpa using hc3
   refine And.intro rfl (And.intro (by first | exact trivial | exact And.intro rfl trivial | exact And.intro rfl (And.intro rfl trivial) | exact And.intro rfl (And.intro rfl (And.intro rfl trivial)) | exact And.intro rfl (And.intro rfl (And.intro rfl (And.intro rfl trivial)))) (And.intro (by first | exact trivial | exact And.intro rfl trivial | exact And.intro rfl (And.intro rfl trivial) | exact And.intro rfl (And.intro rfl (And.intro rfl trivial)) | exact And.intro rfl (And.intro rfl (And.intro rfl (And.intro rfl trivial)))) (And.intro ?_ ?_)))
   ·refine ⟨k + 1, by omega, by rw [T8 gx, T8 gy, hall, heq], ?_, rfl⟩
    rw [← hw]
   ·show ((xs.length : Int) - IntKind.i64.wrap ((k : Int) + 1)).toNat < ((xs.length : Int) - (k : Int)).toNat
    omega
 ·have hk : k = xs.length := by simp at hc2; omega
  refine And.intro (congrArg Value.bool ?_) rfl
  refine (decide_eq_true ?_).symm
  subst hk
  rwa [List.take_length, hlen, List.take_length] at hall
theorem R0f (h : Hp) (a : Option Addr) (n c : Nat) (a' : Option Addr) (n' c' : Nat) (xs ys : V5) (hx : C5.R h [.slice a n c] xs) (hy : C5.R h [.slice a' n' c'] ys) :
  Tr Tryz.prog 32 #[.slice a n c, .slice a' n' c'] h fun v h' => v = .bool (decide (xs = ys)) ∧ h' = h := by
 obtain ⟨rfl, hn⟩ := Sl.len hx
 obtain ⟨rfl, hn'⟩ := Sl.len hy
 refine j3 (args := [.slice a xs.length c, .slice a' ys.length c']) (fn := Tryz.f32) rfl ?_
 refine And.intro (fun hc => ?_) (fun hc => ?_)
 ·refine And.intro (congrArg Value.bool ?_) rfl
  have : xs.length ≠ ys.length := by simp at hc; omega
  exact (decide_eq_false fun e => this (by rw [e])).symm
 have hlen : xs.length = ys.length := by simp at hc; omega
 refine Exists.intro { vars := [5], boxes := [], owns := [] } (Exists.intro (fun vs _ h' => ∃ k : Nat, k ≤ xs.length ∧ xs.take k = ys.take k ∧ vs = [.int .i64 k] ∧ h' = h) (Exists.intro (fun vs _ => match vs with | [.int _ j] => ((xs.length : Int) - j).toNat | _ => 0) ?_))
 refine And.intro ⟨0, by omega, by simp, rfl, rfl⟩ ?_
 rintro _ h1 ⟨k, hk, hall, ⟨⟩, rfl⟩
 refine And.intro (fun hc2 => ?_) (fun hc2 => ?_)
 ·have hlt : k < xs.length := by simpa using hc2
  obtain ⟨x, gx⟩ := N9 hlt
  obtain ⟨y, gy⟩ := N9 (l := ys) (k := k) (by omega)
  obtain ⟨b1, cs1, e1, i1⟩ := Sl.get hx gx (by decide)
  obtain ⟨b2, cs2, e2, i2⟩ := Sl.get hy gy (by decide)
  have hw := D2 hlt hn
  obtain ⟨x0, x1, a2, n2, c2, x2, rfl, rfl, g0, g1, g2⟩ := B0 i1
  obtain ⟨x0y, x1y, a2y, n2y, c2y, x2y, rfl, rfl, g0y, g1y, g2y⟩ := B0 i2
  refine Or.inl (And.intro (And.intro (by kernel_rfl) (by kernel_rfl)) ?_)
  refine And.intro b1 (Exists.intro _ (And.intro e1 (And.intro b2 (Exists.intro _ (And.intro e2 ?_)))))
  refine Exists.intro (.bool _) (And.intro (S0h _ [.int .i64 x0, .int .i64 x1, .slice a2 n2 c2] [.int .i64 x0y, .int .i64 x1y, .slice a2y n2y c2y] (x0, x1, x2) (x0y, x1y, x2y) (z0 g0 g1 g2) (z0 g0y g1y g2y)) ?_)
  refine And.intro (fun hc3 => ?_) (fun hc3 => ?_)
  ·refine And.intro (congrArg Value.bool ?_) rfl
   have hne : (x0, x1, x2) ≠ (x0y, x1y, x2y) := s0c hc3
   exact (decide_eq_false fun e => hne (Option.some.inj (gx.symm.trans ((congrArg (fun l : V5 => l[k]?) e).trans gy)))).symm
  ·have heq : (x0, x1, x2) = (x0y, x1y, x2y) := A09 hc3
   refine And.intro rfl (And.intro (by first | exact trivial | exact And.intro rfl trivial | exact And.intro rfl (And.intro rfl trivial) | exact And.intro rfl (And.intro rfl (And.intro rfl trivial)) | exact And.intro rfl (And.intro rfl (And.intro rfl (And.intro rfl trivial)))) (And.intro (by first | exact trivial | exact And.intro rfl trivial | exact And.intro rfl (And.intro rfl trivial) | exact And.intro rfl (And.intro rfl (And.intro rfl trivial)) | exact And.intro rfl (And.intro rfl (And.intro rfl (And.intro rfl trivial)))) (And.intro ?_ ?_)))
   ·refine ⟨k + 1, by omega, by rw [T8 gx, T8 gy, hall, heq], ?_, rfl⟩
    rw [← hw]
   ·show ((xs.length : Int) - IntKind.i64.wrap ((k : Int) + 1)).toNat < ((xs.length : Int) - (k : Int)).toNat
    omega
 ·have hk : k = xs.length := by simp at hc2; omega
  refine And.intro (congrArg Value.bool ?_) rfl
  refine (decide_eq_true ?_).symm
  subst hk
  rwa [List.take_length, hlen, List.take_length] at hall
end Go.Proofs.YtknoadmdnjaocaaGreat
namespace Go.Proofs.YtknoadmdnjaocaaGreat
open Go.H
set_option linter.unusedVariables false
set_option linter.unusedSimpArgs false
set_option maxRecDepth 10000
theorem x0j (h : Hp) (cs : List Value) (x : C0) (hx : P0.R h cs x) (hl : s0k x ≤ 1048576) :
  Tr Tryz.prog 165 #[.agg cs.toArray] h fun v h' => ∃ cs', v = .agg cs'.toArray ∧ New P0 h h' cs' x := by
 obtain ⟨x0, x1, x2, rfl, rfl, h0, h1, h2⟩ := E1 hx
 refine j3 (args := [.agg #[.int .i64 x0, .int .i64 x1, .int .i64 x2]]) (fn := Tryz.f165) rfl ?_
 exact Exists.intro _ (And.intro rfl (New.pair (New.int h0) (New.pair (New.int h1) (New.int h2))))
theorem T0h (h : Hp) (a : Option Addr) (n c : Nat) (xs : I0) (hx : J0.R h [.slice a n c] xs) (hl : k01 xs ≤ 1048576) :
  Tr Tryz.prog 79 #[.slice a n c] h fun v h' => New J0 h h' [v] xs := by
 obtain ⟨rfl, hn⟩ := Sl.len hx
 have hl0 : xs.length ≤ 1048576 := by simp only [k01] at hl; omega
 refine j3 (args := [.slice a xs.length c]) (fn := Tryz.f79) rfl ?_
 refine And.intro ?_ ?_
 ·show 0 ≤ (xs.length : Int) ∧ (xs.length : Int) ≤ xs.length ∧ (xs.length : Int) * 24 ≤ 140737488355328 ∧ (xs.length : Int) ≤ 9223372036854775807
  omega
 refine Exists.intro { vars := [4], boxes := [], owns := [0], kept := [0] } (Exists.intro (fun vs os h' => ∃ (k : Nat) (L : List (List Value)) (Bs : List (List Nat)), k ≤ xs.length ∧ vs = [.int .i64 k] ∧ os = [L01 L xs.length [.int .i64 0, .int .i64 0, .int .i64 0]] ∧ L.length = k ∧
  F3 (P0.W h') L (xs.take k) Bs ∧ Sub h h' ∧ O6 h Bs.flatten) (Exists.intro (fun vs _ => match vs with | [.int _ j] => ((xs.length : Int) - j).toNat | _ => 0) ?_))
 refine And.intro ⟨0, [], [], by omega, rfl, rfl, rfl, trivial, Sub.refl _, by simp [O6]⟩ ?_
 rintro _ _ h1 ⟨k, L, Bs, hk, ⟨⟩, ⟨⟩, hlk, hW, hsub, hfr⟩
 refine And.intro (fun hc2 => ?_) (fun hc2 => ?_)
 ·have hlt : k < xs.length := by simpa using hc2
  obtain ⟨x, gx⟩ := N9 hlt
  obtain ⟨b1, cs1, e1, i1⟩ := Sl.get (Sl.mono hsub hx) gx (by decide)
  have hw := D2 hlt hn
  obtain ⟨x0, x1, x2, rfl, rfl, g0, g1, g2⟩ := E1 i1
  refine And.intro b1 (Exists.intro _ (And.intro e1 ?_))
  refine Tr.mono (x0j h1 [.int .i64 x0, .int .i64 x1, .int .i64 x2] (x0, x1, x2) (K1 g0 g1 g2) (by simp only [s0k]; omega)) ?_
  rintro v h2 ⟨cs2, rfl, B, hB1, hB2, hB3⟩
  obtain ⟨x0z, x1z, x2z, rfl, ez, _, _, _⟩ := E1 (P0.toR hB1)
  refine And.intro ?_ ?_
  ·show 0 ≤ (k : Int) ∧ (k : Int) < ((L01 L xs.length [.int .i64 0, .int .i64 0, .int .i64 0]).length : Nat)
   rw [u06 (by omega)]; omega
  refine Exists.intro [.int .i64 0, .int .i64 0, .int .i64 0] (And.intro (h0b hlk hlt) ?_)
  refine And.intro rfl (And.intro (by first | exact trivial | exact And.intro rfl trivial | exact And.intro rfl (And.intro rfl trivial) | exact And.intro rfl (And.intro rfl (And.intro rfl trivial)) | exact And.intro rfl (And.intro rfl (And.intro rfl (And.intro rfl trivial)))) (And.intro (by first | exact trivial | exact And.intro rfl trivial | exact And.intro rfl (And.intro rfl trivial) | exact And.intro rfl (And.intro rfl (And.intro rfl trivial)) | exact And.intro rfl (And.intro rfl (And.intro rfl (And.intro rfl trivial)))) (And.intro ?_ ?_)))
  ·refine ⟨k + 1, L ++ [[.int .i64 x0z, .int .i64 x1z, .int .i64 x2z]], Bs ++ [B], by omega, by rw [← hw], ?_, by simp [hlk], ?_, hsub.trans hB3, ?_⟩
   ·show [(L01 L xs.length [.int .i64 0, .int .i64 0, .int .i64 0]).set k [.int .i64 x0z, .int .i64 x1z, .int .i64 x2z]] = _
    rw [i0b hlk hlt]
   ·rw [T8 gx]
    exact F3.snoc hB1 (O0d hW hB3)
   ·exact z09 hW hsub hfr hB2
  ·show ((xs.length : Int) - IntKind.i64.wrap ((k : Int) + 1)).toNat < ((xs.length : Int) - (k : Int)).toNat
   omega
 ·have hk : k = xs.length := by simp at hc2; omega
  intro v h' hf
  rw [j0b (by omega)] at hf
  rw [hk, List.take_length] at hW
  exact Q0.fresh (r := P0) hf hW hsub hfr
theorem U0h (h : Hp) (cs : List Value) (x : j0) (hx : S0.R h cs x) (hl : P7 x ≤ 1048576) :
  Tr Tryz.prog 25 #[.agg cs.toArray] h fun v h' => ∃ cs', v = .agg cs'.toArray ∧ New S0 h h' cs' x := by
 obtain ⟨x0, x1, a2, n2, c2, x2, rfl, rfl, h0, h1, h2⟩ := B0 hx
 simp only [P7] at hl
 refine j3 (args := [.agg #[.int .i64 x0, .int .i64 x1, .slice a2 n2 c2]]) (fn := Tryz.f25) rfl ?_
 refine Tr.mono (T0h h a2 n2 c2 x2 (Sl.mono (Sub.refl _) h2) (by omega)) ?_
 rintro v2 k2 N2
 obtain ⟨a2z, n2z, c2z, ez2⟩ := Wp.slice_cell N2.r
 cases ez2
 exact Exists.intro _ (And.intro rfl (New.pair (New.int h0) (New.pair (New.int h1) N2)))
theorem z03 (h : Hp) (a : Option Addr) (n c : Nat) (xs : V5) (hx : C5.R h [.slice a n c] xs) (hl : b9 xs ≤ 1048576) :
  Tr Tryz.prog 37 #[.slice a n c] h fun v h' => New C5 h h' [v] xs := by
 obtain ⟨rfl, hn⟩ := Sl.len hx
 have hl0 : xs.length ≤ 1048576 := by simp only [b9] at hl; omega
 refine j3 (args := [.slice a xs.length c]) (fn := Tryz.f37) rfl ?_
 refine And.intro ?_ ?_
 ·show 0 ≤ (xs.length : Int) ∧ (xs.length : Int) ≤ xs.length ∧ (xs.length : Int) * 40 ≤ 140737488355328 ∧ (xs.length : Int) ≤ 9223372036854775807
  omega
 refine Exists.intro { vars := [4], boxes := [], owns := [0], kept := [0] } (Exists.intro (fun vs os h' => ∃ (k : Nat) (L : List (List Value)) (Bs : List (List Nat)), k ≤ xs.length ∧ vs = [.int .i64 k] ∧ os = [L01 L xs.length [.int .i64 0, .int .i64 0, .slice none 0 0]] ∧ L.length = k ∧
  F3 (S0.W h') L (xs.take k) Bs ∧ Sub h h' ∧ O6 h Bs.flatten) (Exists.intro (fun vs _ => match vs with | [.int _ j] => ((xs.length : Int) - j).toNat | _ => 0) ?_))
 refine And.intro ⟨0, [], [], by omega, rfl, rfl, rfl, trivial, Sub.refl _, by simp [O6]⟩ ?_
 rintro _ _ h1 ⟨k, L, Bs, hk, ⟨⟩, ⟨⟩, hlk, hW, hsub, hfr⟩
 refine And.intro (fun hc2 => ?_) (fun hc2 => ?_)
 ·have hlt : k < xs.length := by simpa using hc2
  obtain ⟨x, gx⟩ := N9 hlt
  obtain ⟨b1, cs1, e1, i1⟩ := Sl.get (Sl.mono hsub hx) gx (by decide)
  have hw := D2 hlt hn
  obtain ⟨x0, x1, a2, n2, c2, x2, rfl, rfl, g0, g1, g2⟩ := B0 i1
  refine And.intro b1 (Exists.intro _ (And.intro e1 ?_))
  refine Tr.mono (U0h h1 [.int .i64 x0, .int .i64 x1, .slice a2 n2 c2] (x0, x1, x2) (z0 g0 g1 g2) (by first | (have := I0i (m := P7) gx; simp only [b9] at hl; omega) | (show P7 _ ≤ _; simp only [P7]; omega))) ?_
  rintro v h2 ⟨cs2, rfl, B, hB1, hB2, hB3⟩
  obtain ⟨x0z, x1z, a2z, n2z, c2z, x2z, rfl, ez, _, _, _⟩ := B0 (S0.toR hB1)
  refine And.intro ?_ ?_
  ·show 0 ≤ (k : Int) ∧ (k : Int) < ((L01 L xs.length [.int .i64 0, .int .i64 0, .slice none 0 0]).length : Nat)
   rw [u06 (by omega)]; omega
  refine Exists.intro [.int .i64 0, .int .i64 0, .slice none 0 0] (And.intro (h0b hlk hlt) ?_)
  refine And.intro rfl (And.intro (by first | exact trivial | exact And.intro rfl trivial | exact And.intro rfl (And.intro rfl trivial) | exact And.intro rfl (And.intro rfl (And.intro rfl trivial)) | exact And.intro rfl (And.intro rfl (And.intro rfl (And.intro rfl trivial)))) (And.intro (by first | exact trivial | exact And.intro rfl trivial | exact And.intro rfl (And.intro rfl trivial) | exact And.intro rfl (And.intro rfl (And.intro rfl trivial)) | exact And.intro rfl (And.intro rfl (And.intro rfl (And.intro rfl trivial)))) (And.intro ?_ ?_)))
  ·refine ⟨k + 1, L ++ [[.int .i64 x0z, .int .i64 x1z, .slice a2z n2z c2z]], Bs ++ [B], by omega, by rw [← hw], ?_, by simp [hlk], ?_, hsub.trans hB3, ?_⟩
   ·show [(L01 L xs.length [.int .i64 0, .int .i64 0, .slice none 0 0]).set k [.int .i64 x0z, .int .i64 x1z, .slice a2z n2z c2z]] = _
    rw [i0b hlk hlt]
   ·rw [T8 gx]
    exact F3.snoc hB1 (O0d hW hB3)
   ·exact z09 hW hsub hfr hB2
  ·show ((xs.length : Int) - IntKind.i64.wrap ((k : Int) + 1)).toNat < ((xs.length : Int) - (k : Int)).toNat
   omega
 ·have hk : k = xs.length := by simp at hc2; omega
  intro v h' hf
  rw [j0b (by omega)] at hf
  rw [hk, List.take_length] at hW
  exact Q0.fresh (r := S0) hf hW hsub hfr
end Go.Proofs.YtknoadmdnjaocaaGreat
namespace Go.Proofs.YtknoadmdnjaocaaGreat
open Go.H
set_option linter.unusedVariables false
set_option linter.unusedSimpArgs false
set_option maxRecDepth 10000
theorem P0e (h : Hp) (a : Option Addr) (n c : Nat) (xs : I0) (B : List Nat) (k : Int) (hx : J0.W h [.slice a n c] xs B) (hB : B.Nodup) (hk : 0 ≤ k ∧ k + (j04 xs : Nat) ≤ 4611686018427387904) :
  Tr Tryz.prog 86 #[.slice a n c, .int .i64 k] h fun v h' => v = .int .i64 (k + (j04 xs : Nat)) ∧ J0.W h' [.slice a n c] (p03 xs k) B ∧ ∀ y, y ∉ B → h' y = h y := by
 obtain ⟨rfl, hn⟩ := Sl.len (J0.toR hx)
 refine j3 (args := [.slice a xs.length c, .int .i64 k]) (fn := Tryz.f86) rfl ?_
 refine Exists.intro { vars := [1, 5], boxes := [], owns := [] } (Exists.intro (fun vs _ h' => ∃ (j : Nat) (kk : Int), kk = k + (c5 p7 (xs.take j) : Nat) ∧ j ≤ xs.length ∧ vs = [.int .i64 kk, .int .i64 j] ∧ J0.W h' [.slice a xs.length c] (m00 j01 p7 xs k j) B ∧ ∀ y, y ∉ B → h' y = h y) (Exists.intro (fun vs _ => match vs with | [_, .int _ j] => ((xs.length : Int) - j).toNat | _ => 0) ?_))
 refine And.intro ⟨0, k, by simp [c5], by omega, rfl, by rw [r07]; exact hx, fun _ _ => rfl⟩ ?_
 rintro _ _ h1 ⟨j, kk, hkk, hj, ⟨⟩, W0, F0⟩
 refine And.intro (fun hc2 => ?_) (fun hc2 => ?_)
 ·have hlt : j < xs.length := by simpa using hc2
  obtain ⟨x, gx⟩ := N9 hlt
  have G0 := E09 (mk := j01) (c := p7) (k := k) gx
  have hs1 : c5 p7 (xs.take (j + 1)) = c5 p7 (xs.take j) + p7 x := N02 gx
  have hs2 := O02 p7 xs (j + 1)
  have hw := D2 hlt hn
  have hkx : 0 ≤ kk ∧ kk + (p7 x : Nat) ≤ 4611686018427387904 := by
   have : (j04 xs : Int) = (c5 p7 xs : Nat) := rfl
   omega
  obtain ⟨x0, x1, x2⟩ := x
  simp only [p7] at hkx
  obtain ⟨b0, cs0, Bi0, bb0, of0, cur0, ty0, ea0, e0, w0, hb0, hin0, hbB0, hbn0, hsub0, hnd0, upd0, st0⟩ := Wp.at W0 hB G0 (by decide)
  cases ea0
  obtain ⟨x0q0, x1q0, x2q0, rfl, ex0, rfl, g0q0, g1q0, g2q0⟩ := t07 w0
  cases ex0
  refine And.intro b0 ?_
  refine n9.mk (Int.natCast_nonneg j) hb0 (hin0 0 (by decide)) (by rw [Int.toNat_natCast]; rfl) trivial ?_
  have W1 : J0.W (h1.set bb0 (.cells (cur0.setIfInBounds (of0 + (j * P0.sz + 0)) (.int .i64 (kk))) ty0 (0, 0))) [.slice (some ⟨bb0, of0, none⟩) xs.length c] ((m00 j01 p7 xs k j).set j (kk, x1, x2)) B := st0 0 (.int .i64 (kk)) (kk, x1, x2) (by decide) fun h' hf => o03 (t0h (by  omega) (by  omega)) g1q0 g2q0
  have F1 : ∀ y, y ∉ B → (h1.set bb0 (.cells (cur0.setIfInBounds (of0 + (j * P0.sz + 0)) (.int .i64 (kk))) ty0 (0, 0))) y = h y := fun y hy => (Hp.set_other _ _ fun e => hy (by rw [e]; exact hbB0)).trans (F0 y hy)
  generalize (h1.set bb0 (.cells (cur0.setIfInBounds (of0 + (j * P0.sz + 0)) (.int .i64 (kk))) ty0 (0, 0))) = kst0 at W1 F1 ⊢
  have ek1 : IntKind.i64.wrap (kk + 1) = kk + (1) := by rw [w64 (by  omega) (by  omega)] <;> omega
  have G1 : ((m00 j01 p7 xs k j).set j (kk, x1, x2))[j]? = some (kk, x1, x2) := by rw [List.getElem?_set_self (by rw [i02]; exact hlt)]
  obtain ⟨b1, cs1, Bi1, bb1, of1, cur1, ty1, ea1, e1, w1, hb1, hin1, hbB1, hbn1, hsub1, hnd1, upd1, st1⟩ := Wp.at W1 hB G1 (by decide)
  cases ea1
  obtain ⟨x0q1, x1q1, x2q1, rfl, ex1, rfl, g0q1, g1q1, g2q1⟩ := t07 w1
  cases ex1
  refine And.intro b1 ?_
  refine n9.mk (Int.natCast_nonneg j) hb1 (hin1 1 (by decide)) (by rw [Int.toNat_natCast]; rfl) trivial ?_
  have W2 : J0.W (kst0.set bb0 (.cells (cur1.setIfInBounds (of0 + (j * P0.sz + 1)) (.int .i64 (IntKind.i64.wrap (kk + 1)))) ty1 (0, 0))) [.slice (some ⟨bb0, of0, none⟩) xs.length c] ((m00 j01 p7 xs k j).set j (kk, IntKind.i64.wrap (kk + 1), x2)) B := by have := st1 1 (.int .i64 (IntKind.i64.wrap (kk + 1))) (kk, IntKind.i64.wrap (kk + 1), x2) (by decide) fun h' hf => o03 g0q1 (t0h (by rw [ek1]; omega) (by rw [ek1]; omega)) g2q1; rwa [List.set_set] at this
  have F2 : ∀ y, y ∉ B → (kst0.set bb0 (.cells (cur1.setIfInBounds (of0 + (j * P0.sz + 1)) (.int .i64 (IntKind.i64.wrap (kk + 1)))) ty1 (0, 0))) y = h y := fun y hy => (Hp.set_other _ _ fun e => hy (by rw [e]; exact hbB1)).trans (F1 y hy)
  generalize (kst0.set bb0 (.cells (cur1.setIfInBounds (of0 + (j * P0.sz + 1)) (.int .i64 (IntKind.i64.wrap (kk + 1)))) ty1 (0, 0))) = kst1 at W2 F2 ⊢
  have ek2 : IntKind.i64.wrap (IntKind.i64.wrap (kk + 1) + 1) = kk + (1 + 1) := by rw [w64 (by rw [ek1]; omega) (by rw [ek1]; omega)] <;> rw [ek1] <;> omega
  have G2 : ((m00 j01 p7 xs k j).set j (kk, IntKind.i64.wrap (kk + 1), x2))[j]? = some (kk, IntKind.i64.wrap (kk + 1), x2) := by rw [List.getElem?_set_self (by rw [i02]; exact hlt)]
  obtain ⟨b2, cs2, Bi2, bb2, of2, cur2, ty2, ea2, e2, w2, hb2, hin2, hbB2, hbn2, hsub2, hnd2, upd2, st2⟩ := Wp.at W2 hB G2 (by decide)
  cases ea2
  obtain ⟨x0q2, x1q2, x2q2, rfl, ex2, rfl, g0q2, g1q2, g2q2⟩ := t07 w2
  cases ex2
  refine And.intro b2 ?_
  refine n9.mk (Int.natCast_nonneg j) hb2 (hin2 2 (by decide)) (by rw [Int.toNat_natCast]; rfl) trivial ?_
  have W3 : J0.W (kst1.set bb0 (.cells (cur2.setIfInBounds (of0 + (j * P0.sz + 2)) (.int .i64 (IntKind.i64.wrap (IntKind.i64.wrap (kk + 1) + 1)))) ty2 (0, 0))) [.slice (some ⟨bb0, of0, none⟩) xs.length c] ((m00 j01 p7 xs k j).set j (kk, IntKind.i64.wrap (kk + 1), IntKind.i64.wrap (IntKind.i64.wrap (kk + 1) + 1))) B := by have := st2 2 (.int .i64 (IntKind.i64.wrap (IntKind.i64.wrap (kk + 1) + 1))) (kk, IntKind.i64.wrap (kk + 1), IntKind.i64.wrap (IntKind.i64.wrap (kk + 1) + 1)) (by decide) fun h' hf => o03 g0q2 g1q2 (t0h (by rw [ek2]; omega) (by rw [ek2]; omega)); rwa [List.set_set] at this
  have F3 : ∀ y, y ∉ B → (kst1.set bb0 (.cells (cur2.setIfInBounds (of0 + (j * P0.sz + 2)) (.int .i64 (IntKind.i64.wrap (IntKind.i64.wrap (kk + 1) + 1)))) ty2 (0, 0))) y = h y := fun y hy => (Hp.set_other _ _ fun e => hy (by rw [e]; exact hbB2)).trans (F2 y hy)
  generalize (kst1.set bb0 (.cells (cur2.setIfInBounds (of0 + (j * P0.sz + 2)) (.int .i64 (IntKind.i64.wrap (IntKind.i64.wrap (kk + 1) + 1)))) ty2 (0, 0))) = kst2 at W3 F3 ⊢
  have ek3 : IntKind.i64.wrap (IntKind.i64.wrap (IntKind.i64.wrap (kk + 1) + 1) + 1) = kk + (1 + 1 + 1) := by rw [w64 (by rw [ek2]; omega) (by rw [ek2]; omega)] <;> rw [ek2] <;> omega
  have em : (kk, IntKind.i64.wrap (kk + 1), IntKind.i64.wrap (IntKind.i64.wrap (kk + 1) + 1)) = j01 (x0, x1, x2) kk := by
   simp only [j01, p7]
   exact (congr (congrArg Prod.mk rfl) (congr (congrArg Prod.mk (by rw [ek1] <;> first | rfl | omega | (simp; omega))) (by rw [ek2] <;> first | rfl | omega | (simp; omega))))
  have eL : (m00 j01 p7 xs k j).set j (kk, IntKind.i64.wrap (kk + 1), IntKind.i64.wrap (IntKind.i64.wrap (kk + 1) + 1)) = m00 j01 p7 xs k (j + 1) := by rw [em]; rw [hkk]; exact F09 gx
  rw [eL] at W3
  refine And.intro rfl (And.intro (by first | exact trivial | exact And.intro rfl trivial | exact And.intro rfl (And.intro rfl trivial) | exact And.intro rfl (And.intro rfl (And.intro rfl trivial)) | exact And.intro rfl (And.intro rfl (And.intro rfl (And.intro rfl trivial)))) (And.intro (by first | exact trivial | exact And.intro rfl trivial | exact And.intro rfl (And.intro rfl trivial) | exact And.intro rfl (And.intro rfl (And.intro rfl trivial)) | exact And.intro rfl (And.intro rfl (And.intro rfl (And.intro rfl trivial)))) (And.intro ?_ ?_)))
  ·refine ⟨j + 1, IntKind.i64.wrap (IntKind.i64.wrap (IntKind.i64.wrap (kk + 1) + 1) + 1), ?_, by omega, by rw [← hw], W3, F3⟩
   rw [ek3]; rw [hs1]; simp only [p7]; omega
  ·show ((xs.length : Int) - IntKind.i64.wrap ((j : Int) + 1)).toNat < ((xs.length : Int) - (j : Int)).toNat
   omega
 ·have hj' : j = xs.length := by simp at hc2; omega
  subst hj'
  rw [List.take_length] at hkk
  rw [D09] at W0
  exact And.intro (congrArg (Value.int .i64) hkk) (And.intro W0 F0)
theorem S0f (h : Hp) (a : Option Addr) (n c : Nat) (xs : D0) (B : List Nat) (k : Int) (hx : D1.W h [.slice a n c] xs B) (hB : B.Nodup) (hk : 0 ≤ k ∧ k + (j05 xs : Nat) ≤ 4611686018427387904) :
  Tr Tryz.prog 40 #[.slice a n c, .int .i64 k] h fun v h' => v = .int .i64 (k + (j05 xs : Nat)) ∧ D1.W h' [.slice a n c] (v0c xs k) B ∧ ∀ y, y ∉ B → h' y = h y := by
 obtain ⟨rfl, hn⟩ := Sl.len (D1.toR hx)
 refine j3 (args := [.slice a xs.length c, .int .i64 k]) (fn := Tryz.f40) rfl ?_
 refine Exists.intro { vars := [1, 5], boxes := [], owns := [] } (Exists.intro (fun vs _ h' => ∃ (j : Nat) (kk : Int), kk = k + (c5 (fun _ => 1) (xs.take j) : Nat) ∧ j ≤ xs.length ∧ vs = [.int .i64 kk, .int .i64 j] ∧ D1.W h' [.slice a xs.length c] (m00 (fun _ k => k) (fun _ => 1) xs k j) B ∧ ∀ y, y ∉ B → h' y = h y) (Exists.intro (fun vs _ => match vs with | [_, .int _ j] => ((xs.length : Int) - j).toNat | _ => 0) ?_))
 refine And.intro ⟨0, k, by simp [c5], by omega, rfl, by rw [r07]; exact hx, fun _ _ => rfl⟩ ?_
 rintro _ _ h1 ⟨j, kk, hkk, hj, ⟨⟩, W0, F0⟩
 refine And.intro (fun hc2 => ?_) (fun hc2 => ?_)
 ·have hlt : j < xs.length := by simpa using hc2
  obtain ⟨x, gx⟩ := N9 hlt
  have G0 := E09 (mk := (fun _ k => k)) (c := (fun _ => 1)) (k := k) gx
  have hs1 : c5 (fun _ => 1) (xs.take (j + 1)) = c5 (fun _ => 1) (xs.take j) + 1 := N02 gx
  have hs2 := O02 (fun _ => 1) xs (j + 1)
  have hw := D2 hlt hn
  have hkx : 0 ≤ kk ∧ kk + (1 : Nat) ≤ 4611686018427387904 := by
   have : (j05 xs : Int) = (c5 (fun _ => 1) xs : Nat) := rfl
   omega
  obtain ⟨b0, cs0, Bi0, bb0, of0, cur0, ty0, ea0, e0, w0, hb0, hin0, hbB0, hbn0, hsub0, hnd0, upd0, st0⟩ := Wp.at W0 hB G0 (by decide)
  cases ea0
  obtain ⟨⟨rfl, _⟩, rfl⟩ := w0
  refine And.intro b0 ?_
  refine n9.mk (Int.natCast_nonneg j) hb0 (hin0 0 (by decide)) (by rw [Int.toNat_natCast]; rfl) trivial ?_
  have W1 : D1.W (h1.set bb0 (.cells (cur0.setIfInBounds (of0 + (j * Wp.int.sz + 0)) (.int .i64 (kk))) ty0 (0, 0))) [.slice (some ⟨bb0, of0, none⟩) xs.length c] ((m00 (fun _ k => k) (fun _ => 1) xs k j).set j (kk)) B := st0 0 (.int .i64 (kk)) (kk) (by decide) fun h' hf => ⟨⟨rfl, t0h (by omega) (by omega)⟩, rfl⟩
  have F1 : ∀ y, y ∉ B → (h1.set bb0 (.cells (cur0.setIfInBounds (of0 + (j * Wp.int.sz + 0)) (.int .i64 (kk))) ty0 (0, 0))) y = h y := fun y hy => (Hp.set_other _ _ fun e => hy (by rw [e]; exact hbB0)).trans (F0 y hy)
  generalize (h1.set bb0 (.cells (cur0.setIfInBounds (of0 + (j * Wp.int.sz + 0)) (.int .i64 (kk))) ty0 (0, 0))) = kst0 at W1 F1 ⊢
  have ek1 : IntKind.i64.wrap (kk + 1) = kk + (1) := by rw [w64 (by  omega) (by  omega)] <;> omega
  have em : kk = (fun _ k => k) x kk := rfl
  have eL : (m00 (fun _ k => k) (fun _ => 1) xs k j).set j (kk) = m00 (fun _ k => k) (fun _ => 1) xs k (j + 1) := by rw [hkk]; exact F09 gx
  rw [eL] at W1
  refine And.intro rfl (And.intro (by first | exact trivial | exact And.intro rfl trivial | exact And.intro rfl (And.intro rfl trivial) | exact And.intro rfl (And.intro rfl (And.intro rfl trivial)) | exact And.intro rfl (And.intro rfl (And.intro rfl (And.intro rfl trivial)))) (And.intro (by first | exact trivial | exact And.intro rfl trivial | exact And.intro rfl (And.intro rfl trivial) | exact And.intro rfl (And.intro rfl (And.intro rfl trivial)) | exact And.intro rfl (And.intro rfl (And.intro rfl (And.intro rfl trivial)))) (And.intro ?_ ?_)))
  ·refine ⟨j + 1, IntKind.i64.wrap (kk + 1), ?_, by omega, by rw [← hw], W1, F1⟩
   rw [ek1]; rw [hs1]; omega
  ·show ((xs.length : Int) - IntKind.i64.wrap ((j : Int) + 1)).toNat < ((xs.length : Int) - (j : Int)).toNat
   omega
 ·have hj' : j = xs.length := by simp at hc2; omega
  subst hj'
  rw [List.take_length] at hkk
  rw [D09] at W0
  exact And.intro (congrArg (Value.int .i64) hkk) (And.intro W0 F0)
theorem W0c (h : Hp) (a : Option Addr) (n c : Nat) (xs : V5) (B : List Nat) (k : Int) (hx : C5.W h [.slice a n c] xs B) (hB : B.Nodup) (hk : 0 ≤ k ∧ k + (P08 xs : Nat) ≤ 4611686018427387904) :
  Tr Tryz.prog 33 #[.slice a n c, .int .i64 k] h fun v h' => v = .int .i64 (k + (P08 xs : Nat)) ∧ C5.W h' [.slice a n c] (L0i xs k) B ∧ ∀ y, y ∉ B → h' y = h y := by
 obtain ⟨rfl, hn⟩ := Sl.len (C5.toR hx)
 refine j3 (args := [.slice a xs.length c, .int .i64 k]) (fn := Tryz.f33) rfl ?_
 refine Exists.intro { vars := [1, 5], boxes := [], owns := [] } (Exists.intro (fun vs _ h' => ∃ (j : Nat) (kk : Int), kk = k + (c5 S5 (xs.take j) : Nat) ∧ j ≤ xs.length ∧ vs = [.int .i64 kk, .int .i64 j] ∧ C5.W h' [.slice a xs.length c] (m00 f00 S5 xs k j) B ∧ ∀ y, y ∉ B → h' y = h y) (Exists.intro (fun vs _ => match vs with | [_, .int _ j] => ((xs.length : Int) - j).toNat | _ => 0) ?_))
 refine And.intro ⟨0, k, by simp [c5], by omega, rfl, by rw [r07]; exact hx, fun _ _ => rfl⟩ ?_
 rintro _ _ h1 ⟨j, kk, hkk, hj, ⟨⟩, W0, F0⟩
 refine And.intro (fun hc2 => ?_) (fun hc2 => ?_)
 ·have hlt : j < xs.length := by simpa using hc2
  obtain ⟨x, gx⟩ := N9 hlt
  have G0 := E09 (mk := f00) (c := S5) (k := k) gx
  have hs1 : c5 S5 (xs.take (j + 1)) = c5 S5 (xs.take j) + S5 x := N02 gx
  have hs2 := O02 S5 xs (j + 1)
  have hw := D2 hlt hn
  have hkx : 0 ≤ kk ∧ kk + (S5 x : Nat) ≤ 4611686018427387904 := by
   have : (P08 xs : Int) = (c5 S5 xs : Nat) := rfl
   omega
  obtain ⟨x0, x1, x2⟩ := x
  simp only [S5] at hkx
  obtain ⟨b0, cs0, Bi0, bb0, of0, cur0, ty0, ea0, e0, w0, hb0, hin0, hbB0, hbn0, hsub0, hnd0, upd0, st0⟩ := Wp.at W0 hB G0 (by decide)
  cases ea0
  obtain ⟨x0q0, x1q0, a2q0, n2q0, c2q0, x2q0, B2q0, rfl, ex0, rfl, g0q0, g1q0, g2q0⟩ := F05 w0
  cases ex0
  refine And.intro b0 ?_
  refine n9.mk (Int.natCast_nonneg j) hb0 (hin0 0 (by decide)) (by rw [Int.toNat_natCast]; rfl) trivial ?_
  have W1 : C5.W (h1.set bb0 (.cells (cur0.setIfInBounds (of0 + (j * S0.sz + 0)) (.int .i64 (kk))) ty0 (0, 0))) [.slice (some ⟨bb0, of0, none⟩) xs.length c] ((m00 f00 S5 xs k j).set j (kk, x1, x2)) B := st0 0 (.int .i64 (kk)) (kk, x1, x2) (by decide) fun h' hf => k04 (t0h (by  omega) (by  omega)) g1q0 (J0.frame g2q0 fun y hy => hf y (by simp [hy]))
  have F1 : ∀ y, y ∉ B → (h1.set bb0 (.cells (cur0.setIfInBounds (of0 + (j * S0.sz + 0)) (.int .i64 (kk))) ty0 (0, 0))) y = h y := fun y hy => (Hp.set_other _ _ fun e => hy (by rw [e]; exact hbB0)).trans (F0 y hy)
  generalize (h1.set bb0 (.cells (cur0.setIfInBounds (of0 + (j * S0.sz + 0)) (.int .i64 (kk))) ty0 (0, 0))) = kst0 at W1 F1 ⊢
  have ek1 : IntKind.i64.wrap (kk + 1) = kk + (1) := by rw [w64 (by  omega) (by  omega)] <;> omega
  have G1 : ((m00 f00 S5 xs k j).set j (kk, x1, x2))[j]? = some (kk, x1, x2) := by rw [List.getElem?_set_self (by rw [i02]; exact hlt)]
  obtain ⟨b1, cs1, Bi1, bb1, of1, cur1, ty1, ea1, e1, w1, hb1, hin1, hbB1, hbn1, hsub1, hnd1, upd1, st1⟩ := Wp.at W1 hB G1 (by decide)
  cases ea1
  obtain ⟨x0q1, x1q1, a2q1, n2q1, c2q1, x2q1, B2q1, rfl, ex1, rfl, g0q1, g1q1, g2q1⟩ := F05 w1
  cases ex1
  refine And.intro b1 ?_
  refine n9.mk (Int.natCast_nonneg j) hb1 (hin1 1 (by decide)) (by rw [Int.toNat_natCast]; rfl) trivial ?_
  have W2 : C5.W (kst0.set bb0 (.cells (cur1.setIfInBounds (of0 + (j * S0.sz + 1)) (.int .i64 (IntKind.i64.wrap (kk + 1)))) ty1 (0, 0))) [.slice (some ⟨bb0, of0, none⟩) xs.length c] ((m00 f00 S5 xs k j).set j (kk, IntKind.i64.wrap (kk + 1), x2)) B := by have := st1 1 (.int .i64 (IntKind.i64.wrap (kk + 1))) (kk, IntKind.i64.wrap (kk + 1), x2) (by decide) fun h' hf => k04 g0q1 (t0h (by rw [ek1]; omega) (by rw [ek1]; omega)) (J0.frame g2q1 fun y hy => hf y (by simp [hy])); rwa [List.set_set] at this
  have F2 : ∀ y, y ∉ B → (kst0.set bb0 (.cells (cur1.setIfInBounds (of0 + (j * S0.sz + 1)) (.int .i64 (IntKind.i64.wrap (kk + 1)))) ty1 (0, 0))) y = h y := fun y hy => (Hp.set_other _ _ fun e => hy (by rw [e]; exact hbB1)).trans (F1 y hy)
  generalize (kst0.set bb0 (.cells (cur1.setIfInBounds (of0 + (j * S0.sz + 1)) (.int .i64 (IntKind.i64.wrap (kk + 1)))) ty1 (0, 0))) = kst1 at W2 F2 ⊢
  have ek2 : IntKind.i64.wrap (IntKind.i64.wrap (kk + 1) + 1) = kk + (1 + 1) := by rw [w64 (by rw [ek1]; omega) (by rw [ek1]; omega)] <;> rw [ek1] <;> omega
  have G2 : ((m00 f00 S5 xs k j).set j (kk, IntKind.i64.wrap (kk + 1), x2))[j]? = some (kk, IntKind.i64.wrap (kk + 1), x2) := by rw [List.getElem?_set_self (by rw [i02]; exact hlt)]
  obtain ⟨b2, cs2, Bi2, bb2, of2, cur2, ty2, ea2, e2, w2, hb2, hin2, hbB2, hbn2, hsub2, hnd2, upd2, st2⟩ := Wp.at W2 hB G2 (by decide)
  cases ea2
  obtain ⟨x0q2, x1q2, a2q2, n2q2, c2q2, x2q2, B2q2, rfl, ex2, rfl, g0q2, g1q2, g2q2⟩ := F05 w2
  cases ex2
  refine And.intro b2 (Exists.intro _ (And.intro e2 ?_))
  have hn2 : Bi2.Nodup := by first | exact hnd2 | (have := hnd2; simp only [List.nil_append, List.append_nil, List.nodup_append] at this; grind)
  refine Tr.mono (P0e _ a2q2 n2q2 c2q2 (x2) Bi2 (IntKind.i64.wrap (IntKind.i64.wrap (kk + 1) + 1)) g2q2 hn2 ⟨by rw [ek2]; omega, by rw [ek2]; omega⟩) ?_
  rintro v2 h2m ⟨rfl, wm2, fm2⟩
  have W3 : C5.W h2m [.slice (some ⟨bb0, of0, none⟩) xs.length c] ((m00 f00 S5 xs k j).set j (kk, IntKind.i64.wrap (kk + 1), (p03 x2 (IntKind.i64.wrap (IntKind.i64.wrap (kk + 1) + 1))))) B := by have := upd2 h2m (kk, IntKind.i64.wrap (kk + 1), (p03 x2 (IntKind.i64.wrap (IntKind.i64.wrap (kk + 1) + 1)))) (fun y hy => fm2 y fun hy2 => hy (by simp [hy2])) (k04 g0q2 g1q2 wm2); rwa [List.set_set] at this
  have F3 : ∀ y, y ∉ B → h2m y = h y := fun y hy => (fm2 y fun hy2 => hy (hsub2 y (by simp [hy2]))).trans (F2 y hy)
  have ek3 : (IntKind.i64.wrap (IntKind.i64.wrap (kk + 1) + 1) + (j04 x2 : Nat) : Int) = kk + (1 + 1 + (j04 x2 : Nat)) := by rw [ek2]; omega
  have em : (kk, IntKind.i64.wrap (kk + 1), (p03 x2 (IntKind.i64.wrap (IntKind.i64.wrap (kk + 1) + 1)))) = f00 (x0, x1, x2) kk := by
   simp only [f00, S5]
   exact (congr (congrArg Prod.mk rfl) (congr (congrArg Prod.mk (by rw [ek1] <;> first | rfl | omega | (simp; omega))) (congrArg (p03 x2) (by rw [ek2] <;> first | rfl | omega | (simp; omega)))))
  have eL : (m00 f00 S5 xs k j).set j (kk, IntKind.i64.wrap (kk + 1), (p03 x2 (IntKind.i64.wrap (IntKind.i64.wrap (kk + 1) + 1)))) = m00 f00 S5 xs k (j + 1) := by rw [em]; rw [hkk]; exact F09 gx
  rw [eL] at W3
  refine And.intro rfl (And.intro (by first | exact trivial | exact And.intro rfl trivial | exact And.intro rfl (And.intro rfl trivial) | exact And.intro rfl (And.intro rfl (And.intro rfl trivial)) | exact And.intro rfl (And.intro rfl (And.intro rfl (And.intro rfl trivial)))) (And.intro (by first | exact trivial | exact And.intro rfl trivial | exact And.intro rfl (And.intro rfl trivial) | exact And.intro rfl (And.intro rfl (And.intro rfl trivial)) | exact And.intro rfl (And.intro rfl (And.intro rfl (And.intro rfl trivial)))) (And.intro ?_ ?_)))
  ·refine ⟨j + 1, IntKind.i64.wrap (IntKind.i64.wrap (kk + 1) + 1) + (j04 x2 : Nat), ?_, by omega, by rw [← hw], W3, F3⟩
   rw [ek3]; rw [hs1]; simp only [S5]; omega
  ·show ((xs.length : Int) - IntKind.i64.wrap ((j : Int) + 1)).toNat < ((xs.length : Int) - (j : Int)).toNat
   omega
 ·have hj' : j = xs.length := by simp at hc2; omega
  subst hj'
  rw [List.take_length] at hkk
  rw [D09] at W0
  exact And.intro (congrArg (Value.int .i64) hkk) (And.intro W0 F0)
end Go.Proofs.YtknoadmdnjaocaaGreat
namespace Go.Proofs.YtknoadmdnjaocaaGreat
open Go.H
set_option linter.unusedVariables false
set_option linter.unusedSimpArgs false
set_option maxRecDepth 10000
theorem C0a (h : Hp) (a : Option Addr) (n c : Nat) (xs : D0) (k : Int) (hx : D1.R h [.slice a n c] (v0c xs k)) (hk : 0 ≤ k ∧ k + (j05 xs : Nat) ≤ 4611686018427387904) :
  Tr Tryz.prog 41 #[.slice a n c, .int .i64 k] h fun v h' => v = .int .i64 (k + (j05 xs : Nat)) ∧ h' = h := by
 obtain ⟨en, hn⟩ := Sl.len hx
 rw [show (v0c xs k).length = xs.length from l00 _ _ _ _] at en
 subst en
 refine j3 (args := [.slice a xs.length c, .int .i64 k]) (fn := Tryz.f41) rfl ?_
 refine Exists.intro { vars := [1, 5], boxes := [], owns := [] } (Exists.intro (fun vs _ h' => ∃ (j : Nat) (kk : Int), kk = k + (c5 (fun _ => 1) (xs.take j) : Nat) ∧ j ≤ xs.length ∧ vs = [.int .i64 kk, .int .i64 j] ∧ h' = h) (Exists.intro (fun vs _ => match vs with | [_, .int _ j] => ((xs.length : Int) - j).toNat | _ => 0) ?_))
 refine And.intro ⟨0, k, by simp [c5], by omega, rfl, rfl⟩ ?_
 rintro _ _ h1 ⟨j, kk, hkk, hj, ⟨⟩, rfl⟩
 refine And.intro (fun hc2 => ?_) (fun hc2 => ?_)
 ·have hlt : j < xs.length := by simpa using hc2
  obtain ⟨x, gx⟩ := N9 hlt
  have hs1 : c5 (fun _ => 1) (xs.take (j + 1)) = c5 (fun _ => 1) (xs.take j) + 1 := N02 gx
  have hs2 := O02 (fun _ => 1) xs (j + 1)
  have hw := D2 hlt hn
  have hkx : 0 ≤ kk ∧ kk + (1 : Nat) ≤ 4611686018427387904 := by
   have : (j05 xs : Int) = (c5 (fun _ => 1) xs : Nat) := rfl
   omega
  have gm : (v0c xs k)[j]? = some ((fun _ k => k) x kk) := by rw [hkk]; exact s0g gx
  obtain ⟨b1, cs1, e1, i1⟩ := Sl.get hx gm (by decide)
  obtain ⟨rfl, _⟩ := i1
  refine And.intro b1 (Exists.intro _ (And.intro e1 ?_))
  refine And.intro (fun hc => ?_) (fun hc => ?_)
  ·exact ((bne_iff_ne.1 hc) (by first | rfl | omega | (simp; omega))).elim
  clear hc
  have ek1 : IntKind.i64.wrap (kk + 1) = kk + (1) := by rw [w64 (by  omega) (by  omega)] <;> omega
  refine And.intro rfl (And.intro (by first | exact trivial | exact And.intro rfl trivial | exact And.intro rfl (And.intro rfl trivial) | exact And.intro rfl (And.intro rfl (And.intro rfl trivial)) | exact And.intro rfl (And.intro rfl (And.intro rfl (And.intro rfl trivial)))) (And.intro (by first | exact trivial | exact And.intro rfl trivial | exact And.intro rfl (And.intro rfl trivial) | exact And.intro rfl (And.intro rfl (And.intro rfl trivial)) | exact And.intro rfl (And.intro rfl (And.intro rfl (And.intro rfl trivial)))) (And.intro ?_ ?_)))
  ·refine ⟨j + 1, IntKind.i64.wrap (kk + 1), ?_, by omega, by rw [← hw], rfl⟩
   rw [ek1]; rw [hs1]; omega
  ·show ((xs.length : Int) - IntKind.i64.wrap ((j : Int) + 1)).toNat < ((xs.length : Int) - (j : Int)).toNat
   omega
 ·have hj' : j = xs.length := by simp at hc2; omega
  subst hj'
  rw [List.take_length] at hkk
  exact And.intro (congrArg (Value.int .i64) hkk) rfl
end Go.Proofs.YtknoadmdnjaocaaGreat
