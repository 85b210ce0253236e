/- Texts of the claim, joined: The data types of the laws, as lists and tuples; ; What the laws' own helpers do: sizes; What the laws' own helpers do: equality; What the laws' own helpers do: copies; What markText does; What the laws' own helpers do: marks; What the laws' own helpers do: marks that are still there. -/
import Derived.Test.YtfdlgbfeceodeaaGreatHE
import Derived.Test.YtfdlgbfeceodeaaGreatChecked
namespace Go.Proofs.YtfdlgbfeceodeaaGreat
open Go.H
set_option linter.unusedVariables false
set_option linter.unusedSimpArgs false
set_option maxRecDepth 10000
def G06 : Nat → Nat → List UInt8 → List UInt8
 | 0, _, acc => acc
 | f + 1, n, acc => if n = 0 then acc else G06 f (n / 10) (UInt8.ofNat (48 + n % 10) :: acc)
theorem W09 : ∀ (f n : Nat) (acc : List UInt8), (G06 f n acc).length ≤ f + acc.length
 | 0, n, acc => by simp [G06]
 | f + 1, n, acc => by
  simp only [G06]
  split
  ·omega
  ·have := W09 f (n / 10) (UInt8.ofNat (48 + n % 10) :: acc)
   simp only [List.length_cons] at this
   omega
theorem m0e {x : Int} (h1 : -9223372036854775808 ≤ x) (h2 : x ≤ 9223372036854775807) : J0 x := ⟨h1, h2⟩
def B7 (k : Int) : ByteArray := if k ≤ 0 then ⟨#[109, 48]⟩ else ⟨(109 :: G06 20 k.toNat []).toArray⟩
theorem Y0a (k : Int) : (B7 k).size ≤ 9223372036854775807 := by
 unfold B7
 split
 ·decide
 ·have := W09 20 k.toNat []
  show (109 :: G06 20 k.toNat []).toArray.size ≤ _
  simp only [List.size_toArray, List.length_cons]
  simp only [List.length_nil] at this
  omega
abbrev C0 : Type := Int × Int × Int
abbrev M0 : Wp C0 := Wp.pair Wp.int (Wp.pair Wp.int Wp.int)
instance e0h : DecidableEq C0 := (@instDecidableEqProd _ _ (inferInstance : DecidableEq Int) (@instDecidableEqProd _ _ (inferInstance : DecidableEq Int) (inferInstance : DecidableEq Int)))
def Q0f (x : C0) : Nat := 0
def Y3 (x : C0) : Nat := 1 + 1 + 1
def w9 (x : C0) (k : Int) : C0 := (k, (k + (1 : Nat)), (k + (1 + 1 : Nat)))
theorem Z0 {h : Hp} {cs : List Value} {x : C0} (hx : M0.R h cs x) : ∃ (x0 : Int) (x1 : Int) (x2 : Int), cs = [.int .i64 x0, .int .i64 x1, .int .i64 x2] ∧ x = (x0, x1, x2) ∧ J0 x0 ∧ J0 x1 ∧ J0 x2 := by
 obtain ⟨x0, x1, x2⟩ := x
 obtain ⟨_, _, rfl, ⟨rfl, h0⟩, ⟨_, _, rfl, ⟨rfl, h1⟩, ⟨rfl, h2⟩⟩⟩ := hx
 exact ⟨x0, x1, x2, rfl, rfl, h0, h1, h2⟩
theorem I1 {h : Hp} {x0 : Int} {x1 : Int} {x2 : Int} (h0 : J0 x0) (h1 : J0 x1) (h2 : J0 x2) : M0.R h [.int .i64 x0, .int .i64 x1, .int .i64 x2] (x0, x1, x2) :=
 ⟨[.int .i64 x0], [.int .i64 x1, .int .i64 x2], rfl, ⟨rfl, h0⟩, ⟨[.int .i64 x1], [.int .i64 x2], rfl, ⟨rfl, h1⟩, ⟨rfl, h2⟩⟩⟩
theorem i05 {h : Hp} {cs : List Value} {x : C0} {B : List Nat} (hx : M0.W h cs x B) : ∃ (x0 : Int) (x1 : Int) (x2 : Int), cs = [.int .i64 x0, .int .i64 x1, .int .i64 x2] ∧ x = (x0, x1, x2) ∧ B = ([] ++ ([] ++ [])) ∧ J0 x0 ∧ J0 x1 ∧ J0 x2 := by
 obtain ⟨x0, x1, x2⟩ := x
 obtain ⟨_, _, _, _, rfl, rfl, ⟨⟨rfl, h0⟩, rfl⟩, ⟨_, _, _, _, rfl, rfl, ⟨⟨rfl, h1⟩, rfl⟩, ⟨⟨rfl, h2⟩, rfl⟩⟩⟩ := hx
 exact ⟨x0, x1, x2, rfl, rfl, rfl, h0, h1, h2⟩
theorem U01 {h : Hp} {x0 : Int} {x1 : Int} {x2 : Int} (h0 : J0 x0) (h1 : J0 x1) (h2 : J0 x2) : M0.W h [.int .i64 x0, .int .i64 x1, .int .i64 x2] (x0, x1, x2) ([] ++ ([] ++ [])) :=
 ⟨[.int .i64 x0], [.int .i64 x1, .int .i64 x2], [], ([] ++ []), rfl, rfl, ⟨⟨rfl, h0⟩, rfl⟩, ⟨[.int .i64 x1], [.int .i64 x2], [], [], rfl, rfl, ⟨⟨rfl, h1⟩, rfl⟩, ⟨⟨rfl, h2⟩, rfl⟩⟩⟩
abbrev B0 : Type := List C0
abbrev I0 : Wp B0 := Wp.slice M0
instance q0g : DecidableEq B0 := inferInstanceAs (DecidableEq (List C0))
def b00 (x : B0) : Nat := x.length
def U8 (x : B0) : Nat := M3 Y3 x
def Q8 (x : B0) (k : Int) : B0 := mkL w9 Y3 x k
abbrev l0 : Type := Int × Int × B0
abbrev A2 : Wp l0 := Wp.pair Wp.int (Wp.pair Wp.int I0)
instance r0g : DecidableEq l0 := (@instDecidableEqProd _ _ (inferInstance : DecidableEq Int) (@instDecidableEqProd _ _ (inferInstance : DecidableEq Int) q0g))
def V8 (x : l0) : Nat := b00 x.2.2
def k00 (x : l0) : Nat := 1 + 1 + U8 x.2.2
def Q08 (x : l0) (k : Int) : l0 := (k, (k + (1 : Nat)), Q8 x.2.2 (k + (1 + 1 : Nat)))
theorem H0 {h : Hp} {cs : List Value} {x : l0} (hx : A2.R h cs x) : ∃ (x0 : Int) (x1 : Int) (a2 : Option Addr) (n2 c2 : Nat) (x2 : B0), cs = [.int .i64 x0, .int .i64 x1, .slice a2 n2 c2] ∧ x = (x0, x1, x2) ∧ J0 x0 ∧ J0 x1 ∧ I0.R h [.slice a2 n2 c2] x2 := by
 obtain ⟨x0, x1, x2⟩ := x
 obtain ⟨_, _, rfl, ⟨rfl, h0⟩, ⟨_, _, rfl, ⟨rfl, h1⟩, h2⟩⟩ := hx
 obtain ⟨a2, n2, c2, rfl⟩ := Wp.slice_cell h2
 exact ⟨x0, x1, a2, n2, c2, x2, rfl, rfl, h0, h1, h2⟩
theorem z0 {h : Hp} {x0 : Int} {x1 : Int} {a2 : Option Addr} {n2 c2 : Nat} {x2 : B0} (h0 : J0 x0) (h1 : J0 x1) (h2 : I0.R h [.slice a2 n2 c2] x2) : A2.R h [.int .i64 x0, .int .i64 x1, .slice a2 n2 c2] (x0, x1, x2) :=
 ⟨[.int .i64 x0], [.int .i64 x1, .slice a2 n2 c2], rfl, ⟨rfl, h0⟩, ⟨[.int .i64 x1], [.slice a2 n2 c2], rfl, ⟨rfl, h1⟩, h2⟩⟩
abbrev D0 : Type := List Int
abbrev Q4 : Wp D0 := Wp.slice Wp.int
instance f0h : DecidableEq D0 := inferInstanceAs (DecidableEq (List Int))
abbrev R08 : Type := List D0
abbrev s0g : Wp R08 := Wp.slice Q4
instance a0h : DecidableEq R08 := inferInstanceAs (DecidableEq (List D0))
abbrev d5 : Type := ByteArray × l0
abbrev H1 : Wp d5 := Wp.pair Wp.str A2
instance b0h : DecidableEq d5 := (@instDecidableEqProd _ _ (inferInstance : DecidableEq ByteArray) r0g)
def Z5 (x : d5) : Nat := x.1.size + V8 x.2
def Y1 (x : d5) : Nat := 1 + k00 x.2
def X6 (x : d5) (k : Int) : d5 := (B7 k, Q08 x.2 (k + (1 : Nat)))
theorem J3 {h : Hp} {cs : List Value} {x : d5} (hx : H1.R h cs x) : ∃ (x0 : ByteArray) (x1_0 : Int) (x1_1 : Int) (a1_2 : Option Addr) (n1_2 c1_2 : Nat) (x1_2 : B0), cs = [.string x0, .int .i64 x1_0, .int .i64 x1_1, .slice a1_2 n1_2 c1_2] ∧ x = (x0, (x1_0, x1_1, x1_2)) ∧ x0.size ≤ 9223372036854775807 ∧ J0 x1_0 ∧ J0 x1_1 ∧ I0.R h [.slice a1_2 n1_2 c1_2] x1_2 := by
 obtain ⟨x0, ⟨x1_0, x1_1, x1_2⟩⟩ := x
 obtain ⟨_, _, rfl, ⟨rfl, h0⟩, ⟨_, _, rfl, ⟨rfl, h1_0⟩, ⟨_, _, rfl, ⟨rfl, h1_1⟩, h1_2⟩⟩⟩ := hx
 obtain ⟨a1_2, n1_2, c1_2, rfl⟩ := Wp.slice_cell h1_2
 exact ⟨x0, x1_0, x1_1, a1_2, n1_2, c1_2, x1_2, rfl, rfl, h0, h1_0, h1_1, h1_2⟩
theorem l6 {h : Hp} {x0 : ByteArray} {x1_0 : Int} {x1_1 : Int} {a1_2 : Option Addr} {n1_2 c1_2 : Nat} {x1_2 : B0} (h0 : x0.size ≤ 9223372036854775807) (h1_0 : J0 x1_0) (h1_1 : J0 x1_1) (h1_2 : I0.R h [.slice a1_2 n1_2 c1_2] x1_2) : H1.R h [.string x0, .int .i64 x1_0, .int .i64 x1_1, .slice a1_2 n1_2 c1_2] (x0, (x1_0, x1_1, x1_2)) :=
 ⟨[.string x0], [.int .i64 x1_0, .int .i64 x1_1, .slice a1_2 n1_2 c1_2], rfl, ⟨rfl, h0⟩, ⟨[.int .i64 x1_0], [.int .i64 x1_1, .slice a1_2 n1_2 c1_2], rfl, ⟨rfl, h1_0⟩, ⟨[.int .i64 x1_1], [.slice a1_2 n1_2 c1_2], rfl, ⟨rfl, h1_1⟩, h1_2⟩⟩⟩
theorem V01 {h : Hp} {cs : List Value} {x : d5} {B : List Nat} (hx : H1.W h cs x B) : ∃ (x0 : ByteArray) (x1_0 : Int) (x1_1 : Int) (a1_2 : Option Addr) (n1_2 c1_2 : Nat) (x1_2 : B0) (B1_2 : List Nat), cs = [.string x0, .int .i64 x1_0, .int .i64 x1_1, .slice a1_2 n1_2 c1_2] ∧ x = (x0, (x1_0, x1_1, x1_2)) ∧ B = ([] ++ ([] ++ ([] ++ B1_2))) ∧ x0.size ≤ 9223372036854775807 ∧ J0 x1_0 ∧ J0 x1_1 ∧ I0.W h [.slice a1_2 n1_2 c1_2] x1_2 B1_2 := by
 obtain ⟨x0, ⟨x1_0, x1_1, x1_2⟩⟩ := x
 obtain ⟨_, _, _, _, rfl, rfl, ⟨⟨rfl, h0⟩, rfl⟩, ⟨_, _, _, _, rfl, rfl, ⟨⟨rfl, h1_0⟩, rfl⟩, ⟨_, _, _, _, rfl, rfl, ⟨⟨rfl, h1_1⟩, rfl⟩, h1_2⟩⟩⟩ := hx
 obtain ⟨a1_2, n1_2, c1_2, rfl⟩ := Wp.slice_cell (I0.toR h1_2)
 exact ⟨x0, x1_0, x1_1, a1_2, n1_2, c1_2, x1_2, _, rfl, rfl, rfl, h0, h1_0, h1_1, h1_2⟩
theorem P00 {h : Hp} {x0 : ByteArray} {x1_0 : Int} {x1_1 : Int} {a1_2 : Option Addr} {n1_2 c1_2 : Nat} {x1_2 : B0} {B1_2 : List Nat} (h0 : x0.size ≤ 9223372036854775807) (h1_0 : J0 x1_0) (h1_1 : J0 x1_1) (h1_2 : I0.W h [.slice a1_2 n1_2 c1_2] x1_2 B1_2) : H1.W h [.string x0, .int .i64 x1_0, .int .i64 x1_1, .slice a1_2 n1_2 c1_2] (x0, (x1_0, x1_1, x1_2)) ([] ++ ([] ++ ([] ++ B1_2))) :=
 ⟨[.string x0], [.int .i64 x1_0, .int .i64 x1_1, .slice a1_2 n1_2 c1_2], [], ([] ++ ([] ++ B1_2)), rfl, rfl, ⟨⟨rfl, h0⟩, rfl⟩, ⟨[.int .i64 x1_0], [.int .i64 x1_1, .slice a1_2 n1_2 c1_2], [], ([] ++ B1_2), rfl, rfl, ⟨⟨rfl, h1_0⟩, rfl⟩, ⟨[.int .i64 x1_1], [.slice a1_2 n1_2 c1_2], [], B1_2, rfl, rfl, ⟨⟨rfl, h1_1⟩, rfl⟩, h1_2⟩⟩⟩
abbrev V0 : Type := List d5
abbrev U2 : Wp V0 := Wp.slice H1
instance n0f : DecidableEq V0 := inferInstanceAs (DecidableEq (List d5))
def B8 (x : V0) : Nat := x.length + M3 Z5 x
def O9 (x : V0) : Nat := M3 Y1 x
def B00 (x : V0) (k : Int) : V0 := mkL X6 Y1 x k
abbrev O0 : Type := Int × V0
abbrev E1 : Wp O0 := Wp.pair Wp.int U2
instance U0g : DecidableEq O0 := (@instDecidableEqProd _ _ (inferInstance : DecidableEq Int) n0f)
def K6 (x : O0) : Nat := B8 x.2
def U4 (x : O0) : Nat := O9 x.2
def y01 (x : O0) (k : Int) : O0 := (x.1, B00 x.2 k)
theorem z2 {h : Hp} {cs : List Value} {x : O0} (hx : E1.R h cs x) : ∃ (x0 : Int) (a1 : Option Addr) (n1 c1 : Nat) (x1 : V0), cs = [.int .i64 x0, .slice a1 n1 c1] ∧ x = (x0, x1) ∧ J0 x0 ∧ U2.R h [.slice a1 n1 c1] x1 := by
 obtain ⟨x0, x1⟩ := x
 obtain ⟨_, _, rfl, ⟨rfl, h0⟩, h1⟩ := hx
 obtain ⟨a1, n1, c1, rfl⟩ := Wp.slice_cell h1
 exact ⟨x0, a1, n1, c1, x1, rfl, rfl, h0, h1⟩
theorem Z3 {h : Hp} {x0 : Int} {a1 : Option Addr} {n1 c1 : Nat} {x1 : V0} (h0 : J0 x0) (h1 : U2.R h [.slice a1 n1 c1] x1) : E1.R h [.int .i64 x0, .slice a1 n1 c1] (x0, x1) :=
 ⟨[.int .i64 x0], [.slice a1 n1 c1], rfl, ⟨rfl, h0⟩, h1⟩
theorem S08 {h : Hp} {cs : List Value} {x : O0} {B : List Nat} (hx : E1.W h cs x B) : ∃ (x0 : Int) (a1 : Option Addr) (n1 c1 : Nat) (x1 : V0) (B1 : List Nat), cs = [.int .i64 x0, .slice a1 n1 c1] ∧ x = (x0, x1) ∧ B = ([] ++ B1) ∧ J0 x0 ∧ U2.W h [.slice a1 n1 c1] x1 B1 := by
 obtain ⟨x0, x1⟩ := x
 obtain ⟨_, _, _, _, rfl, rfl, ⟨⟨rfl, h0⟩, rfl⟩, h1⟩ := hx
 obtain ⟨a1, n1, c1, rfl⟩ := Wp.slice_cell (U2.toR h1)
 exact ⟨x0, a1, n1, c1, x1, _, rfl, rfl, rfl, h0, h1⟩
theorem o0f (x : C0) : Y3 x ≤ 3 := by
 simp only [Y3]
 omega
theorem p0f (x : B0) : U8 x ≤ 16 * b00 x := U09 (c := Y3) (fun x => by have := o0f x; omega) x
theorem n0e (x : l0) : k00 x ≤ 2 + 16 * V8 x := by
 have := p0f x.2.2
 simp only [k00, V8]
 omega
theorem o0e (x : d5) : Y1 x ≤ 3 + 16 * Z5 x := by
 have := n0e x.2
 simp only [Y1, Z5]
 omega
theorem X09 (x : V0) : O9 x ≤ 16 * B8 x := S0b (c := Y1) (m := Z5) (fun x => by have := o0e x; omega) x
theorem Z0c (x : O0) : U4 x ≤ 16 * K6 x := by
 have := X09 x.2
 simp only [U4, K6]
 omega
end Go.Proofs.YtfdlgbfeceodeaaGreat
namespace Go.Proofs.YtfdlgbfeceodeaaGreat
open Go.H
set_option linter.unusedVariables false
set_option linter.unusedSimpArgs false
set_option maxRecDepth 10000
open Go.H
theorem Z0a (h : Hp) : ∃ cs, M0.R h cs (0, 0, 0) := ⟨_, I1 (by decide) (by decide) (by decide)⟩
theorem X0b (h : Hp) : ∃ cs, H1.R h cs (⟨#[]⟩, (0, 0, [])) := ⟨_, l6 (by decide) (by decide) (by decide) (T0g M0 h)⟩
end Go.Proofs.YtfdlgbfeceodeaaGreat
namespace Go.Proofs.YtfdlgbfeceodeaaGreat
open Go.H
set_option linter.unusedVariables false
set_option linter.unusedSimpArgs false
set_option maxRecDepth 10000
theorem o0d (h : Hp) (a : Option Addr) (n c : Nat) (xs : B0) (left : Int) (hx : I0.R h [.slice a n c] xs) (hl : 0 ≤ left ∧ left ≤ 1048576) :
  Tr Tryz.prog 78 #[.slice a n c, .int .i64 left] h fun v h' => v = .int .i64 (szR left (b00 xs)) ∧ h' = h := by
 obtain ⟨rfl, hn⟩ := Sl.len hx
 have hw : IntKind.i64.wrap (left - (xs.length : Int)) = left - xs.length := w64 (by omega) (by omega)
 refine B3 (args := [.slice a xs.length c, .int .i64 left]) (fn := Tryz.f78) rfl ?_
 refine And.intro (fun hc => ?_) (fun hc => ?_)
 ·refine And.intro ?_ rfl
  simp [hw] at hc
  rw [b00, W0a (by omega)]
  rfl
 ·refine And.intro ?_ rfl
  simp [hw] at hc
  rw [b00, X0a (by omega)]
  exact congrArg (Value.int .i64) hw
theorem p0d (h : Hp) (cs : List Value) (x : l0) (left : Int) (hx : A2.R h cs x) (hl : 0 ≤ left ∧ left ≤ 1048576) :
  Tr Tryz.prog 21 #[.agg cs.toArray, .int .i64 left] h fun v h' => v = .int .i64 (szR left (V8 x)) ∧ h' = h := by
 obtain ⟨x0, x1, a2, n2, c2, x2, rfl, rfl, h0, h1, h2⟩ := H0 hx
 refine B3 (args := [.agg #[.int .i64 x0, .int .i64 x1, .slice a2 n2 c2], .int .i64 left]) (fn := Tryz.f21) rfl ?_
 refine Tr.val (o0d h a2 n2 c2 x2 (left) h2 hl) ?_
 refine And.intro (fun hc => ?_) (fun hc => ?_)
 ·refine And.intro ?_ rfl
  rw [V8, s04 (left := left) (a := ((b00 x2 : Nat) : Int)) (by simpa using hc) hl.1 (by simp only []; omega)]
  rfl
 have q0 : 0 ≤ szR left ((b00 x2 : Nat) : Int) := by simpa using hc
 have hl0 : 0 ≤ szR left ((b00 x2 : Nat) : Int) ∧ szR left ((b00 x2 : Nat) : Int) ≤ 1048576 := by
  have := g05 q0
  omega
 exact And.intro rfl rfl
theorem q0d (h : Hp) (cs : List Value) (x : d5) (left : Int) (hx : H1.R h cs x) (hl : 0 ≤ left ∧ left ≤ 1048576) :
  Tr Tryz.prog 132 #[.agg cs.toArray, .int .i64 left] h fun v h' => v = .int .i64 (szR left (Z5 x)) ∧ h' = h := by
 obtain ⟨x0, x1_0, x1_1, a1_2, n1_2, c1_2, x1_2, rfl, rfl, h0, h1_0, h1_1, h1_2⟩ := J3 hx
 refine B3 (args := [.agg #[.string x0, .int .i64 x1_0, .int .i64 x1_1, .slice a1_2 n1_2 c1_2], .int .i64 left]) (fn := Tryz.f132) rfl ?_
 have hw0 : IntKind.i64.wrap (left - (x0.size : Int)) = left - x0.size := w64 (by omega) (by omega)
 refine And.intro (fun hc => ?_) (fun hc => ?_)
 ·simp [hw0] at hc
  refine And.intro ?_ rfl
  rw [Z5, W0a (by simp only []; omega)]
  rfl
 simp [hw0] at hc
 have st0 : szR left ((x0.size : Nat) : Int) = left - x0.size := X0a (by omega)
 have q0 : 0 ≤ szR left ((x0.size : Nat) : Int) := by rw [st0]; omega
 have st0 : szR left ((x0.size : Nat) : Int) = IntKind.i64.wrap (left - (x0.size : Int)) := by rw [hw0]; exact st0
 have hl0 : 0 ≤ IntKind.i64.wrap (left - (x0.size : Int)) ∧ IntKind.i64.wrap (left - (x0.size : Int)) ≤ 1048576 := by
  rw [← st0]
  have := g05 q0
  omega
 refine Tr.val (p0d h [.int .i64 x1_0, .int .i64 x1_1, .slice a1_2 n1_2 c1_2] (x1_0, x1_1, x1_2) (IntKind.i64.wrap (left - (x0.size : Int))) (z0 h1_0 h1_1 h1_2) hl0) ?_
 refine And.intro (fun hc => ?_) (fun hc => ?_)
 ·refine And.intro ?_ rfl
  have hc' : szR (IntKind.i64.wrap (left - (x0.size : Int))) ((V8 (x1_0, x1_1, x1_2) : Nat) : Int) < 0 := by simpa using hc
  rw [← st0, N08 q0 (by omega) (by omega)] at hc'
  rw [Z5, s04 hc' hl.1 (by simp only []; omega)]
  rfl
 have hc' : 0 ≤ szR (IntKind.i64.wrap (left - (x0.size : Int))) ((V8 (x1_0, x1_1, x1_2) : Nat) : Int) := by simpa using hc
 have st1 : szR left ((x0.size + V8 (x1_0, x1_1, x1_2) : Nat) : Int) = szR (IntKind.i64.wrap (left - (x0.size : Int))) ((V8 (x1_0, x1_1, x1_2) : Nat) : Int) := by rw [← st0, N08 q0 (by omega) (by omega)]; congr 1
 have q1 : 0 ≤ szR left ((x0.size + V8 (x1_0, x1_1, x1_2) : Nat) : Int) := by rw [st1]; exact hc'
 clear hc'
 have hl1 : 0 ≤ szR (IntKind.i64.wrap (left - (x0.size : Int))) ((V8 (x1_0, x1_1, x1_2) : Nat) : Int) ∧ szR (IntKind.i64.wrap (left - (x0.size : Int))) ((V8 (x1_0, x1_1, x1_2) : Nat) : Int) ≤ 1048576 := by
  rw [← st1]
  have := g05 q1
  omega
 exact And.intro (congrArg (Value.int .i64) (st1.symm.trans (by rw [Z5]))) rfl
theorem s0b (h : Hp) (a : Option Addr) (n c : Nat) (xs : V0) (left : Int) (hx : U2.R h [.slice a n c] xs) (hl : 0 ≤ left ∧ left ≤ 1048576) :
  Tr Tryz.prog 67 #[.slice a n c, .int .i64 left] h fun v h' => v = .int .i64 (szR left (B8 xs)) ∧ h' = h := by
 obtain ⟨rfl, hn⟩ := Sl.len hx
 have hw : IntKind.i64.wrap (left - (xs.length : Int)) = left - xs.length := w64 (by omega) (by omega)
 refine B3 (args := [.slice a xs.length c, .int .i64 left]) (fn := Tryz.f67) rfl ?_
 refine And.intro (fun hc => ?_) (fun hc => ?_)
 ·refine And.intro ?_ rfl
  simp [hw] at hc
  rw [B8, W0a (by omega)]
  rfl
 simp [hw] at hc
 refine Exists.intro { vars := [1, 5], boxes := [], owns := [] } (Exists.intro (fun vs _ h' => ∃ k : Nat, k ≤ xs.length ∧ 0 ≤ szR left ((xs.length + M3 Z5 (xs.take k) : Nat) : Int) ∧ vs = [.int .i64 (szR left ((xs.length + M3 Z5 (xs.take k) : Nat) : Int)), .int .i64 k] ∧ h' = h) (Exists.intro (fun vs _ => match vs with | [_, .int _ j] => ((xs.length : Int) - j).toNat | _ => 0) ?_))
 have h0 : szR left ((xs.length + M3 Z5 (xs.take 0) : Nat) : Int) = left - xs.length := by rw [X0a (by simp [M3]; omega)]; simp [M3]
 refine And.intro ⟨0, by omega, by omega, by rw [h0]; exact congrArg (fun x => [Value.int .i64 x, Value.int .i64 0]) hw, rfl⟩ ?_
 rintro _ _ h1 ⟨k, hk, hpos, ⟨⟩, rfl⟩
 obtain ⟨q1, q2⟩ := g05 hpos
 refine And.intro (fun hc2 => ?_) (fun hc2 => ?_)
 ·have hlt : k < xs.length := by simpa using hc2
  obtain ⟨x, hgx⟩ := r9 hlt
  obtain ⟨b1, cs1, e1, i1⟩ := Sl.get hx hgx (by decide)
  have hw2 := Q2 hlt hn
  obtain ⟨x0, x1_0, x1_1, a1_2, n1_2, c1_2, x1_2, rfl, rfl, g0, g1_0, g1_1, g1_2⟩ := J3 i1
  refine And.intro b1 (Exists.intro _ (And.intro e1 ?_))
  refine Tr.val (q0d _ [.string x0, .int .i64 x1_0, .int .i64 x1_1, .slice a1_2 n1_2 c1_2] (x0, (x1_0, x1_1, x1_2)) _ (l6 g0 g1_0 g1_1 g1_2) ⟨by omega, by omega⟩) ?_
  have hstep : szR (szR left ((xs.length + M3 Z5 (xs.take k) : Nat) : Int)) (Z5 (x0, (x1_0, x1_1, x1_2)) : Nat) = szR left ((xs.length + M3 Z5 (xs.take (k + 1)) : Nat) : Int) := by
   rw [N08 hpos (by omega) (by omega), t01 hgx]
   congr 1
   omega
  refine And.intro (fun hc3 => ?_) (fun hc3 => ?_)
  ·refine And.intro ?_ rfl
   rw [hstep] at hc3
   have hneg2 : szR left ((xs.length + M3 Z5 (xs.take (k + 1)) : Nat) : Int) < 0 := by simpa using hc3
   have := u01 Z5 xs (k + 1)
   rw [B8, s04 hneg2 hl.1 (by omega)]
   rfl
  ·rw [hstep] at hc3
   have hpos2 : 0 ≤ szR left ((xs.length + M3 Z5 (xs.take (k + 1)) : Nat) : Int) := by simpa using hc3
   refine And.intro rfl (And.intro (by first | exact trivial | exact And.intro rfl trivial | exact And.intro rfl (And.intro rfl trivial) | exact And.intro rfl (And.intro rfl (And.intro rfl trivial)) | exact And.intro rfl (And.intro rfl (And.intro rfl (And.intro rfl trivial)))) (And.intro (by first | exact trivial | exact And.intro rfl trivial | exact And.intro rfl (And.intro rfl trivial) | exact And.intro rfl (And.intro rfl (And.intro rfl trivial)) | exact And.intro rfl (And.intro rfl (And.intro rfl (And.intro rfl trivial)))) (And.intro ?_ ?_)))
   ·refine ⟨k + 1, by omega, hpos2, ?_, rfl⟩
    rw [← hw2, ← hstep]
   ·show ((xs.length : Int) - IntKind.i64.wrap ((k : Int) + 1)).toNat < ((xs.length : Int) - (k : Int)).toNat
    omega
 ·have hk : k = xs.length := by simp at hc2; omega
  subst hk
  refine And.intro ?_ rfl
  rw [List.take_length]
  rfl
theorem x0a (h : Hp) (cs : List Value) (x : O0) (left : Int) (hx : E1.R h cs x) (hl : 0 ≤ left ∧ left ≤ 1048576) :
  Tr Tryz.prog 14 #[.agg cs.toArray, .int .i64 left] h fun v h' => v = .int .i64 (szR left (K6 x)) ∧ h' = h := by
 obtain ⟨x0, a1, n1, c1, x1, rfl, rfl, h0, h1⟩ := z2 hx
 refine B3 (args := [.agg #[.int .i64 x0, .slice a1 n1 c1], .int .i64 left]) (fn := Tryz.f14) rfl ?_
 refine Tr.val (s0b h a1 n1 c1 x1 (left) h1 hl) ?_
 refine And.intro (fun hc => ?_) (fun hc => ?_)
 ·refine And.intro ?_ rfl
  rw [K6, s04 (left := left) (a := ((B8 x1 : Nat) : Int)) (by simpa using hc) hl.1 (by simp only []; omega)]
  rfl
 have q0 : 0 ≤ szR left ((B8 x1 : Nat) : Int) := by simpa using hc
 have hl0 : 0 ≤ szR left ((B8 x1 : Nat) : Int) ∧ szR left ((B8 x1 : Nat) : Int) ≤ 1048576 := by
  have := g05 q0
  omega
 exact And.intro rfl rfl
end Go.Proofs.YtfdlgbfeceodeaaGreat
namespace Go.Proofs.YtfdlgbfeceodeaaGreat
open Go.H
set_option linter.unusedVariables false
set_option linter.unusedSimpArgs false
set_option maxRecDepth 10000
theorem R0e (h : Hp) (cs ds : List Value) (x y : C0) (hx : M0.R h cs x) (hy : M0.R h ds y) :
  Tr Tryz.prog 140 #[.agg cs.toArray, .agg ds.toArray] h fun v h' => v = .bool (decide (x = y)) ∧ h' = h := by
 obtain ⟨x0, x1, x2, rfl, rfl, h0, h1, h2⟩ := Z0 hx
 obtain ⟨x0y, x1y, x2y, rfl, rfl, h0y, h1y, h2y⟩ := Z0 hy
 refine B3 (args := [.agg #[.int .i64 x0, .int .i64 x1, .int .i64 x2], .agg #[.int .i64 x0y, .int .i64 x1y, .int .i64 x2y]]) (fn := Tryz.f140) rfl ?_
 refine And.intro (fun hc => ?_) (fun hc => ?_)
 ·have ne : x0 ≠ x0y := by simpa using hc
  exact And.intro (congrArg Value.bool (decide_eq_false fun e => by cases e; exact ne rfl).symm) rfl
 have q0 : x0 = x0y := by simpa using hc
 subst q0
 refine And.intro (fun hc => ?_) (fun hc => ?_)
 ·have ne : x1 ≠ x1y := by simpa using hc
  exact And.intro (congrArg Value.bool (decide_eq_false fun e => by cases e; exact ne rfl).symm) rfl
 have q1 : x1 = x1y := by simpa using hc
 subst q1
 refine And.intro (fun hc => ?_) (fun hc => ?_)
 ·have ne : x2 ≠ x2y := by simpa using hc
  exact And.intro (congrArg Value.bool (decide_eq_false fun e => by cases e; exact ne rfl).symm) rfl
 have q2 : x2 = x2y := by simpa using hc
 subst q2
 exact And.intro (congrArg Value.bool (decide_eq_true rfl).symm) rfl
theorem r0d (h : Hp) (a : Option Addr) (n c : Nat) (a' : Option Addr) (n' c' : Nat) (xs ys : B0) (hx : I0.R h [.slice a n c] xs) (hy : I0.R h [.slice a' n' c'] ys) :
  Tr Tryz.prog 85 #[.slice a n c, .slice a' n' c'] h fun v h' => v = .bool (decide (xs = ys)) ∧ h' = h := by
 obtain ⟨rfl, hn⟩ := Sl.len hx
 obtain ⟨rfl, hn'⟩ := Sl.len hy
 refine B3 (args := [.slice a xs.length c, .slice a' ys.length c']) (fn := Tryz.f85) rfl ?_
 refine And.intro (fun hc => ?_) (fun hc => ?_)
 ·refine And.intro (congrArg Value.bool ?_) rfl
  have : xs.length ≠ ys.length := by simp at hc; omega
  exact (decide_eq_false fun e => this (by rw [e])).symm
 have hlen : xs.length = ys.length := by simp at hc; omega
 refine Exists.intro { vars := [5], boxes := [], owns := [] } (Exists.intro (fun vs _ h' => ∃ k : Nat, k ≤ xs.length ∧ xs.take k = ys.take k ∧ vs = [.int .i64 k] ∧ h' = h) (Exists.intro (fun vs _ => match vs with | [.int _ j] => ((xs.length : Int) - j).toNat | _ => 0) ?_))
 refine And.intro ⟨0, by omega, by simp, rfl, rfl⟩ ?_
 rintro _ h1 ⟨k, hk, hall, ⟨⟩, rfl⟩
 refine And.intro (fun hc2 => ?_) (fun hc2 => ?_)
 ·have hlt : k < xs.length := by simpa using hc2
  obtain ⟨x, gx⟩ := r9 hlt
  obtain ⟨y, gy⟩ := r9 (l := ys) (k := k) (by omega)
  obtain ⟨b1, cs1, e1, i1⟩ := Sl.get hx gx (by decide)
  obtain ⟨b2, cs2, e2, i2⟩ := Sl.get hy gy (by decide)
  have hw := Q2 hlt hn
  obtain ⟨x0, x1, x2, rfl, rfl, g0, g1, g2⟩ := Z0 i1
  obtain ⟨x0y, x1y, x2y, rfl, rfl, g0y, g1y, g2y⟩ := Z0 i2
  refine Or.inl (And.intro (And.intro (by kernel_rfl) (by kernel_rfl)) ?_)
  refine And.intro b1 (Exists.intro _ (And.intro e1 (And.intro b2 (Exists.intro _ (And.intro e2 ?_)))))
  refine Exists.intro (.bool _) (And.intro (R0e _ [.int .i64 x0, .int .i64 x1, .int .i64 x2] [.int .i64 x0y, .int .i64 x1y, .int .i64 x2y] (x0, x1, x2) (x0y, x1y, x2y) (I1 g0 g1 g2) (I1 g0y g1y g2y)) ?_)
  refine And.intro (fun hc3 => ?_) (fun hc3 => ?_)
  ·refine And.intro (congrArg Value.bool ?_) rfl
   have hne : (x0, x1, x2) ≠ (x0y, x1y, x2y) := t04 hc3
   exact (decide_eq_false fun e => hne (Option.some.inj (gx.symm.trans ((congrArg (fun l : B0 => l[k]?) e).trans gy)))).symm
  ·have heq : (x0, x1, x2) = (x0y, x1y, x2y) := I02 hc3
   refine And.intro rfl (And.intro (by first | exact trivial | exact And.intro rfl trivial | exact And.intro rfl (And.intro rfl trivial) | exact And.intro rfl (And.intro rfl (And.intro rfl trivial)) | exact And.intro rfl (And.intro rfl (And.intro rfl (And.intro rfl trivial)))) (And.intro (by first | exact trivial | exact And.intro rfl trivial | exact And.intro rfl (And.intro rfl trivial) | exact And.intro rfl (And.intro rfl (And.intro rfl trivial)) | exact And.intro rfl (And.intro rfl (And.intro rfl (And.intro rfl trivial)))) (And.intro ?_ ?_)))
   ·refine ⟨k + 1, by omega, by rw [h9 gx, h9 gy, hall, heq], ?_, rfl⟩
    rw [← hw]
   ·show ((xs.length : Int) - IntKind.i64.wrap ((k : Int) + 1)).toNat < ((xs.length : Int) - (k : Int)).toNat
    omega
 ·have hk : k = xs.length := by simp at hc2; omega
  refine And.intro (congrArg Value.bool ?_) rfl
  refine (decide_eq_true ?_).symm
  subst hk
  rwa [List.take_length, hlen, List.take_length] at hall
theorem s0d (h : Hp) (cs ds : List Value) (x y : l0) (hx : A2.R h cs x) (hy : A2.R h ds y) :
  Tr Tryz.prog 25 #[.agg cs.toArray, .agg ds.toArray] h fun v h' => v = .bool (decide (x = y)) ∧ h' = h := by
 obtain ⟨x0, x1, a2, n2, c2, x2, rfl, rfl, h0, h1, h2⟩ := H0 hx
 obtain ⟨x0y, x1y, a2y, n2y, c2y, x2y, rfl, rfl, h0y, h1y, h2y⟩ := H0 hy
 refine B3 (args := [.agg #[.int .i64 x0, .int .i64 x1, .slice a2 n2 c2], .agg #[.int .i64 x0y, .int .i64 x1y, .slice a2y n2y c2y]]) (fn := Tryz.f25) rfl ?_
 refine And.intro (fun hc => ?_) (fun hc => ?_)
 ·have ne : x0 ≠ x0y := by simpa using hc
  exact And.intro (congrArg Value.bool (decide_eq_false fun e => by cases e; exact ne rfl).symm) rfl
 have q0 : x0 = x0y := by simpa using hc
 subst q0
 refine And.intro (fun hc => ?_) (fun hc => ?_)
 ·have ne : x1 ≠ x1y := by simpa using hc
  exact And.intro (congrArg Value.bool (decide_eq_false fun e => by cases e; exact ne rfl).symm) rfl
 have q1 : x1 = x1y := by simpa using hc
 subst q1
 refine Tr.val (r0d h a2 n2 c2 a2y n2y c2y x2 x2y h2 h2y) ?_
 refine And.intro (fun hc => ?_) (fun hc => ?_)
 ·have ne : x2 ≠ x2y := t04 hc
  exact And.intro (congrArg Value.bool (decide_eq_false fun e => by cases e; exact ne rfl).symm) rfl
 have q2 : x2 = x2y := I02 hc
 subst q2
 exact And.intro (congrArg Value.bool (decide_eq_true rfl).symm) rfl
theorem t0d (h : Hp) (cs ds : List Value) (x y : d5) (hx : H1.R h cs x) (hy : H1.R h ds y) :
  Tr Tryz.prog 134 #[.agg cs.toArray, .agg ds.toArray] h fun v h' => v = .bool (decide (x = y)) ∧ h' = h := by
 obtain ⟨x0, x1_0, x1_1, a1_2, n1_2, c1_2, x1_2, rfl, rfl, h0, h1_0, h1_1, h1_2⟩ := J3 hx
 obtain ⟨x0y, x1_0y, x1_1y, a1_2y, n1_2y, c1_2y, x1_2y, rfl, rfl, h0y, h1_0y, h1_1y, h1_2y⟩ := J3 hy
 refine B3 (args := [.agg #[.string x0, .int .i64 x1_0, .int .i64 x1_1, .slice a1_2 n1_2 c1_2], .agg #[.string x0y, .int .i64 x1_0y, .int .i64 x1_1y, .slice a1_2y n1_2y c1_2y]]) (fn := Tryz.f134) rfl ?_
 refine And.intro (fun hc => ?_) (fun hc => ?_)
 ·have ne : x0 ≠ x0y := O0f hc
  exact And.intro (congrArg Value.bool (decide_eq_false fun e => by cases e; exact ne rfl).symm) rfl
 have q0 : x0 = x0y := S0g hc
 subst q0
 refine Tr.val (s0d h [.int .i64 x1_0, .int .i64 x1_1, .slice a1_2 n1_2 c1_2] [.int .i64 x1_0y, .int .i64 x1_1y, .slice a1_2y n1_2y c1_2y] (x1_0, x1_1, x1_2) (x1_0y, x1_1y, x1_2y) (z0 h1_0 h1_1 h1_2) (z0 h1_0y h1_1y h1_2y)) ?_
 refine And.intro (fun hc => ?_) (fun hc => ?_)
 ·have ne : (x1_0, x1_1, x1_2) ≠ (x1_0y, x1_1y, x1_2y) := t04 hc
  exact And.intro (congrArg Value.bool (decide_eq_false fun e => by cases e; exact ne rfl).symm) rfl
 have q1 : (x1_0, x1_1, x1_2) = (x1_0y, x1_1y, x1_2y) := I02 hc
 cases q1
 exact And.intro (congrArg Value.bool (decide_eq_true rfl).symm) rfl
theorem t0b (h : Hp) (a : Option Addr) (n c : Nat) (a' : Option Addr) (n' c' : Nat) (xs ys : V0) (hx : U2.R h [.slice a n c] xs) (hy : U2.R h [.slice a' n' c'] ys) :
  Tr Tryz.prog 75 #[.slice a n c, .slice a' n' c'] h fun v h' => v = .bool (decide (xs = ys)) ∧ h' = h := by
 obtain ⟨rfl, hn⟩ := Sl.len hx
 obtain ⟨rfl, hn'⟩ := Sl.len hy
 refine B3 (args := [.slice a xs.length c, .slice a' ys.length c']) (fn := Tryz.f75) rfl ?_
 refine And.intro (fun hc => ?_) (fun hc => ?_)
 ·refine And.intro (congrArg Value.bool ?_) rfl
  have : xs.length ≠ ys.length := by simp at hc; omega
  exact (decide_eq_false fun e => this (by rw [e])).symm
 have hlen : xs.length = ys.length := by simp at hc; omega
 refine Exists.intro { vars := [5], boxes := [], owns := [] } (Exists.intro (fun vs _ h' => ∃ k : Nat, k ≤ xs.length ∧ xs.take k = ys.take k ∧ vs = [.int .i64 k] ∧ h' = h) (Exists.intro (fun vs _ => match vs with | [.int _ j] => ((xs.length : Int) - j).toNat | _ => 0) ?_))
 refine And.intro ⟨0, by omega, by simp, rfl, rfl⟩ ?_
 rintro _ h1 ⟨k, hk, hall, ⟨⟩, rfl⟩
 refine And.intro (fun hc2 => ?_) (fun hc2 => ?_)
 ·have hlt : k < xs.length := by simpa using hc2
  obtain ⟨x, gx⟩ := r9 hlt
  obtain ⟨y, gy⟩ := r9 (l := ys) (k := k) (by omega)
  obtain ⟨b1, cs1, e1, i1⟩ := Sl.get hx gx (by decide)
  obtain ⟨b2, cs2, e2, i2⟩ := Sl.get hy gy (by decide)
  have hw := Q2 hlt hn
  obtain ⟨x0, x1_0, x1_1, a1_2, n1_2, c1_2, x1_2, rfl, rfl, g0, g1_0, g1_1, g1_2⟩ := J3 i1
  obtain ⟨x0y, x1_0y, x1_1y, a1_2y, n1_2y, c1_2y, x1_2y, rfl, rfl, g0y, g1_0y, g1_1y, g1_2y⟩ := J3 i2
  refine Or.inl (And.intro (And.intro (by kernel_rfl) (by kernel_rfl)) ?_)
  refine And.intro b1 (Exists.intro _ (And.intro e1 (And.intro b2 (Exists.intro _ (And.intro e2 ?_)))))
  refine Exists.intro (.bool _) (And.intro (t0d _ [.string x0, .int .i64 x1_0, .int .i64 x1_1, .slice a1_2 n1_2 c1_2] [.string x0y, .int .i64 x1_0y, .int .i64 x1_1y, .slice a1_2y n1_2y c1_2y] (x0, (x1_0, x1_1, x1_2)) (x0y, (x1_0y, x1_1y, x1_2y)) (l6 g0 g1_0 g1_1 g1_2) (l6 g0y g1_0y g1_1y g1_2y)) ?_)
  refine And.intro (fun hc3 => ?_) (fun hc3 => ?_)
  ·refine And.intro (congrArg Value.bool ?_) rfl
   have hne : (x0, (x1_0, x1_1, x1_2)) ≠ (x0y, (x1_0y, x1_1y, x1_2y)) := t04 hc3
   exact (decide_eq_false fun e => hne (Option.some.inj (gx.symm.trans ((congrArg (fun l : V0 => l[k]?) e).trans gy)))).symm
  ·have heq : (x0, (x1_0, x1_1, x1_2)) = (x0y, (x1_0y, x1_1y, x1_2y)) := I02 hc3
   refine And.intro rfl (And.intro (by first | exact trivial | exact And.intro rfl trivial | exact And.intro rfl (And.intro rfl trivial) | exact And.intro rfl (And.intro rfl (And.intro rfl trivial)) | exact And.intro rfl (And.intro rfl (And.intro rfl (And.intro rfl trivial)))) (And.intro (by first | exact trivial | exact And.intro rfl trivial | exact And.intro rfl (And.intro rfl trivial) | exact And.intro rfl (And.intro rfl (And.intro rfl trivial)) | exact And.intro rfl (And.intro rfl (And.intro rfl (And.intro rfl trivial)))) (And.intro ?_ ?_)))
   ·refine ⟨k + 1, by omega, by rw [h9 gx, h9 gy, hall, heq], ?_, rfl⟩
    rw [← hw]
   ·show ((xs.length : Int) - IntKind.i64.wrap ((k : Int) + 1)).toNat < ((xs.length : Int) - (k : Int)).toNat
    omega
 ·have hk : k = xs.length := by simp at hc2; omega
  refine And.intro (congrArg Value.bool ?_) rfl
  refine (decide_eq_true ?_).symm
  subst hk
  rwa [List.take_length, hlen, List.take_length] at hall
theorem U00 (h : Hp) (cs ds : List Value) (x y : O0) (hx : E1.R h cs x) (hy : E1.R h ds y) :
  Tr Tryz.prog 18 #[.agg cs.toArray, .agg ds.toArray] h fun v h' => v = .bool (decide (x = y)) ∧ h' = h := by
 obtain ⟨x0, a1, n1, c1, x1, rfl, rfl, h0, h1⟩ := z2 hx
 obtain ⟨x0y, a1y, n1y, c1y, x1y, rfl, rfl, h0y, h1y⟩ := z2 hy
 refine B3 (args := [.agg #[.int .i64 x0, .slice a1 n1 c1], .agg #[.int .i64 x0y, .slice a1y n1y c1y]]) (fn := Tryz.f18) rfl ?_
 refine And.intro (fun hc => ?_) (fun hc => ?_)
 ·have ne : x0 ≠ x0y := by simpa using hc
  exact And.intro (congrArg Value.bool (decide_eq_false fun e => by cases e; exact ne rfl).symm) rfl
 have q0 : x0 = x0y := by simpa using hc
 subst q0
 refine Tr.val (t0b h a1 n1 c1 a1y n1y c1y x1 x1y h1 h1y) ?_
 refine And.intro (fun hc => ?_) (fun hc => ?_)
 ·have ne : x1 ≠ x1y := t04 hc
  exact And.intro (congrArg Value.bool (decide_eq_false fun e => by cases e; exact ne rfl).symm) rfl
 have q1 : x1 = x1y := I02 hc
 subst q1
 exact And.intro (congrArg Value.bool (decide_eq_true rfl).symm) rfl
end Go.Proofs.YtfdlgbfeceodeaaGreat
namespace Go.Proofs.YtfdlgbfeceodeaaGreat
open Go.H
set_option linter.unusedVariables false
set_option linter.unusedSimpArgs false
set_option maxRecDepth 10000
theorem S0e (h : Hp) (cs : List Value) (x : C0) (hx : M0.R h cs x) (hl : Q0f x ≤ 1048576) :
  Tr Tryz.prog 136 #[.agg cs.toArray] h fun v h' => ∃ cs', v = .agg cs'.toArray ∧ New M0 h h' cs' x := by
 obtain ⟨x0, x1, x2, rfl, rfl, h0, h1, h2⟩ := Z0 hx
 refine B3 (args := [.agg #[.int .i64 x0, .int .i64 x1, .int .i64 x2]]) (fn := Tryz.f136) rfl ?_
 exact Exists.intro _ (And.intro rfl (New.pair (New.int h0) (New.pair (New.int h1) (New.int h2))))
theorem u0d (h : Hp) (a : Option Addr) (n c : Nat) (xs : B0) (hx : I0.R h [.slice a n c] xs) (hl : b00 xs ≤ 1048576) :
  Tr Tryz.prog 81 #[.slice a n c] h fun v h' => New I0 h h' [v] xs := by
 obtain ⟨rfl, hn⟩ := Sl.len hx
 have hl0 : xs.length ≤ 1048576 := by simp only [b00] at hl; omega
 refine B3 (args := [.slice a xs.length c]) (fn := Tryz.f81) rfl ?_
 refine And.intro ?_ ?_
 ·show 0 ≤ (xs.length : Int) ∧ (xs.length : Int) ≤ xs.length ∧ (xs.length : Int) * 24 ≤ 140737488355328 ∧ (xs.length : Int) ≤ 9223372036854775807
  omega
 refine Exists.intro { vars := [4], boxes := [], owns := [0], kept := [0] } (Exists.intro (fun vs os h' => ∃ (k : Nat) (L : List (List Value)) (Bs : List (List Nat)), k ≤ xs.length ∧ vs = [.int .i64 k] ∧ os = [A00 L xs.length [.int .i64 0, .int .i64 0, .int .i64 0]] ∧ L.length = k ∧
  F3 (M0.W h') L (xs.take k) Bs ∧ Sub h h' ∧ G5 h Bs.flatten) (Exists.intro (fun vs _ => match vs with | [.int _ j] => ((xs.length : Int) - j).toNat | _ => 0) ?_))
 refine And.intro ⟨0, [], [], by omega, rfl, rfl, rfl, trivial, Sub.refl _, by simp [G5]⟩ ?_
 rintro _ _ h1 ⟨k, L, Bs, hk, ⟨⟩, ⟨⟩, hlk, hW, hsub, hfr⟩
 refine And.intro (fun hc2 => ?_) (fun hc2 => ?_)
 ·have hlt : k < xs.length := by simpa using hc2
  obtain ⟨x, gx⟩ := r9 hlt
  obtain ⟨b1, cs1, e1, i1⟩ := Sl.get (Sl.mono hsub hx) gx (by decide)
  have hw := Q2 hlt hn
  obtain ⟨x0, x1, x2, rfl, rfl, g0, g1, g2⟩ := Z0 i1
  refine And.intro b1 (Exists.intro _ (And.intro e1 ?_))
  refine Tr.mono (S0e h1 [.int .i64 x0, .int .i64 x1, .int .i64 x2] (x0, x1, x2) (I1 g0 g1 g2) (by simp only [Q0f]; omega)) ?_
  rintro v h2 ⟨cs2, rfl, B, hB1, hB2, hB3⟩
  obtain ⟨x0z, x1z, x2z, rfl, ez, _, _, _⟩ := Z0 (M0.toR hB1)
  refine And.intro ?_ ?_
  ·show 0 ≤ (k : Int) ∧ (k : Int) < ((A00 L xs.length [.int .i64 0, .int .i64 0, .int .i64 0]).length : Nat)
   rw [r04 (by omega)]; omega
  refine Exists.intro [.int .i64 0, .int .i64 0, .int .i64 0] (And.intro (Q07 hlk hlt) ?_)
  refine And.intro rfl (And.intro (by first | exact trivial | exact And.intro rfl trivial | exact And.intro rfl (And.intro rfl trivial) | exact And.intro rfl (And.intro rfl (And.intro rfl trivial)) | exact And.intro rfl (And.intro rfl (And.intro rfl (And.intro rfl trivial)))) (And.intro (by first | exact trivial | exact And.intro rfl trivial | exact And.intro rfl (And.intro rfl trivial) | exact And.intro rfl (And.intro rfl (And.intro rfl trivial)) | exact And.intro rfl (And.intro rfl (And.intro rfl (And.intro rfl trivial)))) (And.intro ?_ ?_)))
  ·refine ⟨k + 1, L ++ [[.int .i64 x0z, .int .i64 x1z, .int .i64 x2z]], Bs ++ [B], by omega, by rw [← hw], ?_, by simp [hlk], ?_, hsub.trans hB3, ?_⟩
   ·show [(A00 L xs.length [.int .i64 0, .int .i64 0, .int .i64 0]).set k [.int .i64 x0z, .int .i64 x1z, .int .i64 x2z]] = _
    rw [R07 hlk hlt]
   ·rw [h9 gx]
    exact F3.snoc hB1 (T07 hW hB3)
   ·exact J03 hW hsub hfr hB2
  ·show ((xs.length : Int) - IntKind.i64.wrap ((k : Int) + 1)).toNat < ((xs.length : Int) - (k : Int)).toNat
   omega
 ·have hk : k = xs.length := by simp at hc2; omega
  intro v h' hf
  rw [S07 (by omega)] at hf
  rw [hk, List.take_length] at hW
  exact P0.fresh (r := M0) hf hW hsub hfr
theorem v0d (h : Hp) (cs : List Value) (x : l0) (hx : A2.R h cs x) (hl : V8 x ≤ 1048576) :
  Tr Tryz.prog 23 #[.agg cs.toArray] h fun v h' => ∃ cs', v = .agg cs'.toArray ∧ New A2 h h' cs' x := by
 obtain ⟨x0, x1, a2, n2, c2, x2, rfl, rfl, h0, h1, h2⟩ := H0 hx
 simp only [V8] at hl
 refine B3 (args := [.agg #[.int .i64 x0, .int .i64 x1, .slice a2 n2 c2]]) (fn := Tryz.f23) rfl ?_
 refine Tr.mono (u0d h a2 n2 c2 x2 (Sl.mono (Sub.refl _) h2) (by omega)) ?_
 rintro v2 k2 N2
 obtain ⟨a2z, n2z, c2z, ez2⟩ := Wp.slice_cell N2.r
 cases ez2
 exact Exists.intro _ (And.intro rfl (New.pair (New.int h0) (New.pair (New.int h1) N2)))
theorem w0d (h : Hp) (cs : List Value) (x : d5) (hx : H1.R h cs x) (hl : Z5 x ≤ 1048576) :
  Tr Tryz.prog 133 #[.agg cs.toArray] h fun v h' => ∃ cs', v = .agg cs'.toArray ∧ New H1 h h' cs' x := by
 obtain ⟨x0, x1_0, x1_1, a1_2, n1_2, c1_2, x1_2, rfl, rfl, h0, h1_0, h1_1, h1_2⟩ := J3 hx
 simp only [Z5] at hl
 refine B3 (args := [.agg #[.string x0, .int .i64 x1_0, .int .i64 x1_1, .slice a1_2 n1_2 c1_2]]) (fn := Tryz.f133) rfl ?_
 refine Tr.mono (v0d h [.int .i64 x1_0, .int .i64 x1_1, .slice a1_2 n1_2 c1_2] (x1_0, x1_1, x1_2) (A2.mono (Sub.refl _) (z0 h1_0 h1_1 h1_2)) (by omega)) ?_
 rintro v1 k1 ⟨cs1, rfl, N1⟩
 obtain ⟨x1_0z, x1_1z, a1_2z, n1_2z, c1_2z, x1_2z, rfl, ez1, _, _, _⟩ := H0 N1.r
 exact Exists.intro _ (And.intro rfl (New.pair (New.str h0) N1))
theorem u0b (h : Hp) (a : Option Addr) (n c : Nat) (xs : V0) (hx : U2.R h [.slice a n c] xs) (hl : B8 xs ≤ 1048576) :
  Tr Tryz.prog 71 #[.slice a n c] h fun v h' => New U2 h h' [v] xs := by
 obtain ⟨rfl, hn⟩ := Sl.len hx
 have hl0 : xs.length ≤ 1048576 := by simp only [B8] at hl; omega
 refine B3 (args := [.slice a xs.length c]) (fn := Tryz.f71) rfl ?_
 refine And.intro ?_ ?_
 ·show 0 ≤ (xs.length : Int) ∧ (xs.length : Int) ≤ xs.length ∧ (xs.length : Int) * 56 ≤ 140737488355328 ∧ (xs.length : Int) ≤ 9223372036854775807
  omega
 refine Exists.intro { vars := [4], boxes := [], owns := [0], kept := [0] } (Exists.intro (fun vs os h' => ∃ (k : Nat) (L : List (List Value)) (Bs : List (List Nat)), k ≤ xs.length ∧ vs = [.int .i64 k] ∧ os = [A00 L xs.length [.string ⟨#[]⟩, .int .i64 0, .int .i64 0, .slice none 0 0]] ∧ L.length = k ∧
  F3 (H1.W h') L (xs.take k) Bs ∧ Sub h h' ∧ G5 h Bs.flatten) (Exists.intro (fun vs _ => match vs with | [.int _ j] => ((xs.length : Int) - j).toNat | _ => 0) ?_))
 refine And.intro ⟨0, [], [], by omega, rfl, rfl, rfl, trivial, Sub.refl _, by simp [G5]⟩ ?_
 rintro _ _ h1 ⟨k, L, Bs, hk, ⟨⟩, ⟨⟩, hlk, hW, hsub, hfr⟩
 refine And.intro (fun hc2 => ?_) (fun hc2 => ?_)
 ·have hlt : k < xs.length := by simpa using hc2
  obtain ⟨x, gx⟩ := r9 hlt
  obtain ⟨b1, cs1, e1, i1⟩ := Sl.get (Sl.mono hsub hx) gx (by decide)
  have hw := Q2 hlt hn
  obtain ⟨x0, x1_0, x1_1, a1_2, n1_2, c1_2, x1_2, rfl, rfl, g0, g1_0, g1_1, g1_2⟩ := J3 i1
  refine And.intro b1 (Exists.intro _ (And.intro e1 ?_))
  refine Tr.mono (w0d h1 [.string x0, .int .i64 x1_0, .int .i64 x1_1, .slice a1_2 n1_2 c1_2] (x0, (x1_0, x1_1, x1_2)) (l6 g0 g1_0 g1_1 g1_2) (by first | (have := k0e (m := Z5) gx; simp only [B8] at hl; omega) | (show Z5 _ ≤ _; simp only [Z5]; omega))) ?_
  rintro v h2 ⟨cs2, rfl, B, hB1, hB2, hB3⟩
  obtain ⟨x0z, x1_0z, x1_1z, a1_2z, n1_2z, c1_2z, x1_2z, rfl, ez, _, _, _, _⟩ := J3 (H1.toR hB1)
  refine And.intro ?_ ?_
  ·show 0 ≤ (k : Int) ∧ (k : Int) < ((A00 L xs.length [.string ⟨#[]⟩, .int .i64 0, .int .i64 0, .slice none 0 0]).length : Nat)
   rw [r04 (by omega)]; omega
  refine Exists.intro [.string ⟨#[]⟩, .int .i64 0, .int .i64 0, .slice none 0 0] (And.intro (Q07 hlk hlt) ?_)
  refine And.intro rfl (And.intro (by first | exact trivial | exact And.intro rfl trivial | exact And.intro rfl (And.intro rfl trivial) | exact And.intro rfl (And.intro rfl (And.intro rfl trivial)) | exact And.intro rfl (And.intro rfl (And.intro rfl (And.intro rfl trivial)))) (And.intro (by first | exact trivial | exact And.intro rfl trivial | exact And.intro rfl (And.intro rfl trivial) | exact And.intro rfl (And.intro rfl (And.intro rfl trivial)) | exact And.intro rfl (And.intro rfl (And.intro rfl (And.intro rfl trivial)))) (And.intro ?_ ?_)))
  ·refine ⟨k + 1, L ++ [[.string x0z, .int .i64 x1_0z, .int .i64 x1_1z, .slice a1_2z n1_2z c1_2z]], Bs ++ [B], by omega, by rw [← hw], ?_, by simp [hlk], ?_, hsub.trans hB3, ?_⟩
   ·show [(A00 L xs.length [.string ⟨#[]⟩, .int .i64 0, .int .i64 0, .slice none 0 0]).set k [.string x0z, .int .i64 x1_0z, .int .i64 x1_1z, .slice a1_2z n1_2z c1_2z]] = _
    rw [R07 hlk hlt]
   ·rw [h9 gx]
    exact F3.snoc hB1 (T07 hW hB3)
   ·exact J03 hW hsub hfr hB2
  ·show ((xs.length : Int) - IntKind.i64.wrap ((k : Int) + 1)).toNat < ((xs.length : Int) - (k : Int)).toNat
   omega
 ·have hk : k = xs.length := by simp at hc2; omega
  intro v h' hf
  rw [S07 (by omega)] at hf
  rw [hk, List.take_length] at hW
  exact P0.fresh (r := H1) hf hW hsub hfr
theorem V00 (h : Hp) (cs : List Value) (x : O0) (hx : E1.R h cs x) (hl : K6 x ≤ 1048576) :
  Tr Tryz.prog 16 #[.agg cs.toArray] h fun v h' => ∃ cs', v = .agg cs'.toArray ∧ New E1 h h' cs' x := by
 obtain ⟨x0, a1, n1, c1, x1, rfl, rfl, h0, h1⟩ := z2 hx
 simp only [K6] at hl
 refine B3 (args := [.agg #[.int .i64 x0, .slice a1 n1 c1]]) (fn := Tryz.f16) rfl ?_
 refine Tr.mono (u0b h a1 n1 c1 x1 (Sl.mono (Sub.refl _) h1) (by omega)) ?_
 rintro v1 k1 N1
 obtain ⟨a1z, n1z, c1z, ez1⟩ := Wp.slice_cell N1.r
 cases ez1
 exact Exists.intro _ (And.intro rfl (New.pair (New.int h0) N1))
end Go.Proofs.YtfdlgbfeceodeaaGreat
namespace Go.Proofs.YtfdlgbfeceodeaaGreat
open Go.H
set_option linter.unusedVariables false
set_option maxRecDepth 10000
theorem x0d (n : Nat) (acc : List UInt8) : ∀ f, n = 0 → G06 f n acc = acc
 | 0, _ => rfl
 | f + 1, h => by simp [G06, h]
theorem p07 (h : Hp) (k : Int) (hk : 0 ≤ k ∧ k ≤ 4611686018427387904) :
  Tr Tryz.prog 118 #[.int .i64 k] h fun v h' => v = .string (B7 k) ∧ h' = h := by
 refine Tr.forget ?_
 refine B3 (args := [.int .i64 k]) (fn := Tryz.f118) rfl ?_
 refine And.intro (fun hc => ?_) (fun hc => ?_)
 ·have : k = 0 := by simp at hc; omega
  subst this
  exact And.intro rfl (Sub.refl _)
 have hk0 : 0 < k := by simp at hc; omega
 refine Exists.intro { vars := [0, 3], boxes := [], owns := [] } (Exists.intro (fun vs _ h' => ∃ (m f : Nat) (acc : List UInt8), m ≤ 4611686018427387904 ∧ m < 10 ^ f ∧ f ≤ 20 ∧ G06 f m acc = G06 20 k.toNat [] ∧ acc.length ≤ 20 - f ∧ vs = [.int .i64 m, .string ⟨acc.toArray⟩] ∧ Sub h h') (Exists.intro (fun vs _ => match vs with | [.int _ j, _] => j.toNat | _ => 0) ?_))
 refine And.intro ⟨k.toNat, 20, [], by omega, by omega, by omega, rfl, by simp, by rw [show ((k.toNat : Nat) : Int) = k from by omega], Sub.refl _⟩ ?_
 rintro _ _ h1 ⟨m, f, acc, hmb, hm, hf, hd, hl, ⟨⟩, hs⟩
 refine And.intro (fun hc2 => ?_) (fun hc2 => ?_)
 ·have hm0 : m ≠ 0 := by rintro rfl; simp at hc2
  refine And.intro (by decide) ?_
  refine Exists.intro [_] (And.intro rfl ?_)
  have hX : IntKind.u8.wrap (IntKind.i64.wrap (48 + (m : Int).tmod 10)) = ((48 + m % 10 : Nat) : Int) := by
   rw [show (10 : Int) = ((10 : Nat) : Int) from rfl, ← Int.ofNat_tmod]
   simp [IntKind.wrap, IntKind.signed, IntKind.bits]
   omega
  have hS : strOfNums [IntKind.u8.wrap (IntKind.i64.wrap (48 + (m : Int).tmod 10))] ++ ⟨acc.toArray⟩ = ⟨(UInt8.ofNat (48 + m % 10) :: acc).toArray⟩ := by
   rw [hX, show strOfNums [((48 + m % 10 : Nat) : Int)] = ⟨#[UInt8.ofNat (48 + m % 10)]⟩ from by simp only [strOfNums, List.map_cons, List.map_nil, Int.toNat_natCast]]
   generalize UInt8.ofNat (48 + m % 10) = d
   apply ByteArray.ext
   rw [ByteArray.data_append]
   simp
  obtain ⟨f, rfl⟩ : ∃ f', f = f' + 1 := by
   cases f with
   | zero => simp at hm; omega
   | succ f => exact ⟨f, rfl⟩
  have hq : (m : Int).tdiv 10 = ((m / 10 : Nat) : Int) := by rw [show (10 : Int) = ((10 : Nat) : Int) from rfl, ← Int.ofNat_tdiv]
  refine And.intro ?_ ?_
  ·show (strOfNums _).size + acc.toArray.size ≤ 9223372036854775807
   simp only [strOfNums_size, List.size_toArray, List.length_singleton]
   omega
  have hw : IntKind.i64.wrap ((m : Int).tdiv 10) = ((m / 10 : Nat) : Int) := by rw [hq]; exact w64 (by omega) (by omega)
  refine And.intro (by decide) ?_
  refine And.intro rfl (And.intro (by first | exact trivial | exact And.intro rfl trivial | exact And.intro rfl (And.intro rfl trivial) | exact And.intro rfl (And.intro rfl (And.intro rfl trivial)) | exact And.intro rfl (And.intro rfl (And.intro rfl (And.intro rfl trivial)))) (And.intro (by first | exact trivial | exact And.intro rfl trivial | exact And.intro rfl (And.intro rfl trivial) | exact And.intro rfl (And.intro rfl (And.intro rfl trivial)) | exact And.intro rfl (And.intro rfl (And.intro rfl (And.intro rfl trivial)))) (And.intro ?_ ?_)))
  ·refine ⟨m / 10, f, UInt8.ofNat (48 + m % 10) :: acc, by omega, ?_, by omega, ?_, by simp; omega, ?_, hs⟩
   ·rw [Nat.pow_succ] at hm
    omega
   ·rw [← hd]
    simp only [G06, if_neg hm0]
   ·rw [← hw, ← hS]
  ·show (IntKind.i64.wrap ((m : Int).tdiv 10)).toNat < ((m : Int)).toNat
   rw [hw]
   omega
 ·have hm0 : m = 0 := by simp at hc2; omega
  refine And.intro ?_ ?_
  ·show 1 + acc.toArray.size ≤ 9223372036854775807
   simp only [List.size_toArray]
   omega
  refine And.intro (congrArg Value.string ?_) hs
  rw [x0d m acc f hm0] at hd
  unfold B7
  rw [if_neg (by omega), ← hd]
  apply ByteArray.ext
  simp
end Go.Proofs.YtfdlgbfeceodeaaGreat
namespace Go.Proofs.YtfdlgbfeceodeaaGreat
open Go.H
set_option linter.unusedVariables false
set_option linter.unusedSimpArgs false
set_option maxRecDepth 10000
theorem y0a (h : Hp) (a : Option Addr) (n c : Nat) (xs : B0) (B : List Nat) (k : Int) (hx : I0.W h [.slice a n c] xs B) (hB : B.Nodup) (hk : 0 ≤ k ∧ k + (U8 xs : Nat) ≤ 4611686018427387904) :
  Tr Tryz.prog 86 #[.slice a n c, .int .i64 k] h fun v h' => v = .int .i64 (k + (U8 xs : Nat)) ∧ I0.W h' [.slice a n c] (Q8 xs k) B ∧ ∀ y, y ∉ B → h' y = h y := by
 obtain ⟨rfl, hn⟩ := Sl.len (I0.toR hx)
 refine B3 (args := [.slice a xs.length c, .int .i64 k]) (fn := Tryz.f86) rfl ?_
 refine Exists.intro { vars := [1, 5], boxes := [], owns := [] } (Exists.intro (fun vs _ h' => ∃ (j : Nat) (kk : Int), kk = k + (M3 Y3 (xs.take j) : Nat) ∧ j ≤ xs.length ∧ vs = [.int .i64 kk, .int .i64 j] ∧ I0.W h' [.slice a xs.length c] (t9 w9 Y3 xs k j) B ∧ ∀ y, y ∉ B → h' y = h y) (Exists.intro (fun vs _ => match vs with | [_, .int _ j] => ((xs.length : Int) - j).toNat | _ => 0) ?_))
 refine And.intro ⟨0, k, by simp [M3], by omega, rfl, by rw [U07]; exact hx, fun _ _ => rfl⟩ ?_
 rintro _ _ h1 ⟨j, kk, hkk, hj, ⟨⟩, W0, F0⟩
 refine And.intro (fun hc2 => ?_) (fun hc2 => ?_)
 ·have hlt : j < xs.length := by simpa using hc2
  obtain ⟨x, gx⟩ := r9 hlt
  have G0 := R09 (mk := w9) (c := Y3) (k := k) gx
  have hs1 : M3 Y3 (xs.take (j + 1)) = M3 Y3 (xs.take j) + Y3 x := t01 gx
  have hs2 := u01 Y3 xs (j + 1)
  have hw := Q2 hlt hn
  have hkx : 0 ≤ kk ∧ kk + (Y3 x : Nat) ≤ 4611686018427387904 := by
   have : (U8 xs : Int) = (M3 Y3 xs : Nat) := rfl
   omega
  obtain ⟨x0, x1, x2⟩ := x
  simp only [Y3] at hkx
  obtain ⟨b0, cs0, Bi0, bb0, of0, cur0, ty0, ea0, e0, w0, hb0, hin0, hbB0, hbn0, hsub0, hnd0, upd0, st0⟩ := Wp.at W0 hB G0 (by decide)
  cases ea0
  obtain ⟨x0q0, x1q0, x2q0, rfl, ex0, rfl, g0q0, g1q0, g2q0⟩ := i05 w0
  cases ex0
  refine And.intro b0 ?_
  refine Z7.mk (Int.natCast_nonneg j) hb0 (hin0 0 (by decide)) (by rw [Int.toNat_natCast]; rfl) trivial ?_
  have W1 : I0.W (h1.set bb0 (.cells (cur0.setIfInBounds (of0 + (j * M0.sz + 0)) (.int .i64 (kk))) ty0 (0, 0))) [.slice (some ⟨bb0, of0, none⟩) xs.length c] ((t9 w9 Y3 xs k j).set j (kk, x1, x2)) B := st0 0 (.int .i64 (kk)) (kk, x1, x2) (by decide) fun h' hf => U01 (m0e (by  omega) (by  omega)) g1q0 g2q0
  have F1 : ∀ y, y ∉ B → (h1.set bb0 (.cells (cur0.setIfInBounds (of0 + (j * M0.sz + 0)) (.int .i64 (kk))) ty0 (0, 0))) y = h y := fun y hy => (Hp.set_other _ _ fun e => hy (by rw [e]; exact hbB0)).trans (F0 y hy)
  generalize (h1.set bb0 (.cells (cur0.setIfInBounds (of0 + (j * M0.sz + 0)) (.int .i64 (kk))) ty0 (0, 0))) = kst0 at W1 F1 ⊢
  have ek1 : IntKind.i64.wrap (kk + 1) = kk + (1) := by rw [w64 (by  omega) (by  omega)] <;> omega
  have G1 : ((t9 w9 Y3 xs k j).set j (kk, x1, x2))[j]? = some (kk, x1, x2) := by rw [List.getElem?_set_self (by rw [Z9]; exact hlt)]
  obtain ⟨b1, cs1, Bi1, bb1, of1, cur1, ty1, ea1, e1, w1, hb1, hin1, hbB1, hbn1, hsub1, hnd1, upd1, st1⟩ := Wp.at W1 hB G1 (by decide)
  cases ea1
  obtain ⟨x0q1, x1q1, x2q1, rfl, ex1, rfl, g0q1, g1q1, g2q1⟩ := i05 w1
  cases ex1
  refine And.intro b1 ?_
  refine Z7.mk (Int.natCast_nonneg j) hb1 (hin1 1 (by decide)) (by rw [Int.toNat_natCast]; rfl) trivial ?_
  have W2 : I0.W (kst0.set bb0 (.cells (cur1.setIfInBounds (of0 + (j * M0.sz + 1)) (.int .i64 (IntKind.i64.wrap (kk + 1)))) ty1 (0, 0))) [.slice (some ⟨bb0, of0, none⟩) xs.length c] ((t9 w9 Y3 xs k j).set j (kk, IntKind.i64.wrap (kk + 1), x2)) B := by have := st1 1 (.int .i64 (IntKind.i64.wrap (kk + 1))) (kk, IntKind.i64.wrap (kk + 1), x2) (by decide) fun h' hf => U01 g0q1 (m0e (by rw [ek1]; omega) (by rw [ek1]; omega)) g2q1; rwa [List.set_set] at this
  have F2 : ∀ y, y ∉ B → (kst0.set bb0 (.cells (cur1.setIfInBounds (of0 + (j * M0.sz + 1)) (.int .i64 (IntKind.i64.wrap (kk + 1)))) ty1 (0, 0))) y = h y := fun y hy => (Hp.set_other _ _ fun e => hy (by rw [e]; exact hbB1)).trans (F1 y hy)
  generalize (kst0.set bb0 (.cells (cur1.setIfInBounds (of0 + (j * M0.sz + 1)) (.int .i64 (IntKind.i64.wrap (kk + 1)))) ty1 (0, 0))) = kst1 at W2 F2 ⊢
  have ek2 : IntKind.i64.wrap (IntKind.i64.wrap (kk + 1) + 1) = kk + (1 + 1) := by rw [w64 (by rw [ek1]; omega) (by rw [ek1]; omega)] <;> rw [ek1] <;> omega
  have G2 : ((t9 w9 Y3 xs k j).set j (kk, IntKind.i64.wrap (kk + 1), x2))[j]? = some (kk, IntKind.i64.wrap (kk + 1), x2) := by rw [List.getElem?_set_self (by rw [Z9]; exact hlt)]
  obtain ⟨b2, cs2, Bi2, bb2, of2, cur2, ty2, ea2, e2, w2, hb2, hin2, hbB2, hbn2, hsub2, hnd2, upd2, st2⟩ := Wp.at W2 hB G2 (by decide)
  cases ea2
  obtain ⟨x0q2, x1q2, x2q2, rfl, ex2, rfl, g0q2, g1q2, g2q2⟩ := i05 w2
  cases ex2
  refine And.intro b2 ?_
  refine Z7.mk (Int.natCast_nonneg j) hb2 (hin2 2 (by decide)) (by rw [Int.toNat_natCast]; rfl) trivial ?_
  have W3 : I0.W (kst1.set bb0 (.cells (cur2.setIfInBounds (of0 + (j * M0.sz + 2)) (.int .i64 (IntKind.i64.wrap (IntKind.i64.wrap (kk + 1) + 1)))) ty2 (0, 0))) [.slice (some ⟨bb0, of0, none⟩) xs.length c] ((t9 w9 Y3 xs k j).set j (kk, IntKind.i64.wrap (kk + 1), IntKind.i64.wrap (IntKind.i64.wrap (kk + 1) + 1))) B := by have := st2 2 (.int .i64 (IntKind.i64.wrap (IntKind.i64.wrap (kk + 1) + 1))) (kk, IntKind.i64.wrap (kk + 1), IntKind.i64.wrap (IntKind.i64.wrap (kk + 1) + 1)) (by decide) fun h' hf => U01 g0q2 g1q2 (m0e (by rw [ek2]; omega) (by rw [ek2]; omega)); rwa [List.set_set] at this
  have F3 : ∀ y, y ∉ B → (kst1.set bb0 (.cells (cur2.setIfInBounds (of0 + (j * M0.sz + 2)) (.int .i64 (IntKind.i64.wrap (IntKind.i64.wrap (kk + 1) + 1)))) ty2 (0, 0))) y = h y := fun y hy => (Hp.set_other _ _ fun e => hy (by rw [e]; exact hbB2)).trans (F2 y hy)
  generalize (kst1.set bb0 (.cells (cur2.setIfInBounds (of0 + (j * M0.sz + 2)) (.int .i64 (IntKind.i64.wrap (IntKind.i64.wrap (kk + 1) + 1)))) ty2 (0, 0))) = kst2 at W3 F3 ⊢
  have ek3 : IntKind.i64.wrap (IntKind.i64.wrap (IntKind.i64.wrap (kk + 1) + 1) + 1) = kk + (1 + 1 + 1) := by rw [w64 (by rw [ek2]; omega) (by rw [ek2]; omega)] <;> rw [ek2] <;> omega
  have em : (kk, IntKind.i64.wrap (kk + 1), IntKind.i64.wrap (IntKind.i64.wrap (kk + 1) + 1)) = w9 (x0, x1, x2) kk := by
   simp only [w9, Y3]
   exact (congr (congrArg Prod.mk rfl) (congr (congrArg Prod.mk (by rw [ek1] <;> first | rfl | omega | (simp; omega))) (by rw [ek2] <;> first | rfl | omega | (simp; omega))))
  have eL : (t9 w9 Y3 xs k j).set j (kk, IntKind.i64.wrap (kk + 1), IntKind.i64.wrap (IntKind.i64.wrap (kk + 1) + 1)) = t9 w9 Y3 xs k (j + 1) := by rw [em]; rw [hkk]; exact S09 gx
  rw [eL] at W3
  refine And.intro rfl (And.intro (by first | exact trivial | exact And.intro rfl trivial | exact And.intro rfl (And.intro rfl trivial) | exact And.intro rfl (And.intro rfl (And.intro rfl trivial)) | exact And.intro rfl (And.intro rfl (And.intro rfl (And.intro rfl trivial)))) (And.intro (by first | exact trivial | exact And.intro rfl trivial | exact And.intro rfl (And.intro rfl trivial) | exact And.intro rfl (And.intro rfl (And.intro rfl trivial)) | exact And.intro rfl (And.intro rfl (And.intro rfl (And.intro rfl trivial)))) (And.intro ?_ ?_)))
  ·refine ⟨j + 1, IntKind.i64.wrap (IntKind.i64.wrap (IntKind.i64.wrap (kk + 1) + 1) + 1), ?_, by omega, by rw [← hw], W3, F3⟩
   rw [ek3]; rw [hs1]; simp only [Y3]; omega
  ·show ((xs.length : Int) - IntKind.i64.wrap ((j : Int) + 1)).toNat < ((xs.length : Int) - (j : Int)).toNat
   omega
 ·have hj' : j = xs.length := by simp at hc2; omega
  subst hj'
  rw [List.take_length] at hkk
  rw [Q09] at W0
  exact And.intro (congrArg (Value.int .i64) hkk) (And.intro W0 F0)
theorem i09 (h : Hp) (a : Option Addr) (n c : Nat) (xs : V0) (B : List Nat) (k : Int) (hx : U2.W h [.slice a n c] xs B) (hB : B.Nodup) (hk : 0 ≤ k ∧ k + (O9 xs : Nat) ≤ 4611686018427387904) :
  Tr Tryz.prog 76 #[.slice a n c, .int .i64 k] h fun v h' => v = .int .i64 (k + (O9 xs : Nat)) ∧ U2.W h' [.slice a n c] (B00 xs k) B ∧ ∀ y, y ∉ B → h' y = h y := by
 obtain ⟨rfl, hn⟩ := Sl.len (U2.toR hx)
 refine B3 (args := [.slice a xs.length c, .int .i64 k]) (fn := Tryz.f76) rfl ?_
 refine Exists.intro { vars := [1, 5], boxes := [], owns := [] } (Exists.intro (fun vs _ h' => ∃ (j : Nat) (kk : Int), kk = k + (M3 Y1 (xs.take j) : Nat) ∧ j ≤ xs.length ∧ vs = [.int .i64 kk, .int .i64 j] ∧ U2.W h' [.slice a xs.length c] (t9 X6 Y1 xs k j) B ∧ ∀ y, y ∉ B → h' y = h y) (Exists.intro (fun vs _ => match vs with | [_, .int _ j] => ((xs.length : Int) - j).toNat | _ => 0) ?_))
 refine And.intro ⟨0, k, by simp [M3], by omega, rfl, by rw [U07]; exact hx, fun _ _ => rfl⟩ ?_
 rintro _ _ h1 ⟨j, kk, hkk, hj, ⟨⟩, W0, F0⟩
 refine And.intro (fun hc2 => ?_) (fun hc2 => ?_)
 ·have hlt : j < xs.length := by simpa using hc2
  obtain ⟨x, gx⟩ := r9 hlt
  have G0 := R09 (mk := X6) (c := Y1) (k := k) gx
  have hs1 : M3 Y1 (xs.take (j + 1)) = M3 Y1 (xs.take j) + Y1 x := t01 gx
  have hs2 := u01 Y1 xs (j + 1)
  have hw := Q2 hlt hn
  have hkx : 0 ≤ kk ∧ kk + (Y1 x : Nat) ≤ 4611686018427387904 := by
   have : (O9 xs : Int) = (M3 Y1 xs : Nat) := rfl
   omega
  obtain ⟨x0, ⟨x1_0, x1_1, x1_2⟩⟩ := x
  simp only [Y1, k00] at hkx
  obtain ⟨b0, cs0, Bi0, bb0, of0, cur0, ty0, ea0, e0, w0, hb0, hin0, hbB0, hbn0, hsub0, hnd0, upd0, st0⟩ := Wp.at W0 hB G0 (by decide)
  cases ea0
  obtain ⟨x0q0, x1_0q0, x1_1q0, a1_2q0, n1_2q0, c1_2q0, x1_2q0, B1_2q0, rfl, ex0, rfl, g0q0, g1_0q0, g1_1q0, g1_2q0⟩ := V01 w0
  cases ex0
  refine Tr.val (p07 _ (kk) ⟨by omega, by omega⟩) ?_
  refine And.intro b0 ?_
  refine Z7.mk (Int.natCast_nonneg j) hb0 (hin0 0 (by decide)) (by rw [Int.toNat_natCast]; rfl) trivial ?_
  have W1 : U2.W (h1.set bb0 (.cells (cur0.setIfInBounds (of0 + (j * H1.sz + 0)) (.string (B7 (kk)))) ty0 (0, 0))) [.slice (some ⟨bb0, of0, none⟩) xs.length c] ((t9 X6 Y1 xs k j).set j (B7 (kk), (x1_0, x1_1, x1_2))) B := st0 0 (.string (B7 (kk))) (B7 (kk), (x1_0, x1_1, x1_2)) (by decide) fun h' hf => P00 (Y0a _) g1_0q0 g1_1q0 (I0.frame g1_2q0 fun y hy => hf y (by simp [hy]))
  have F1 : ∀ y, y ∉ B → (h1.set bb0 (.cells (cur0.setIfInBounds (of0 + (j * H1.sz + 0)) (.string (B7 (kk)))) ty0 (0, 0))) y = h y := fun y hy => (Hp.set_other _ _ fun e => hy (by rw [e]; exact hbB0)).trans (F0 y hy)
  generalize (h1.set bb0 (.cells (cur0.setIfInBounds (of0 + (j * H1.sz + 0)) (.string (B7 (kk)))) ty0 (0, 0))) = kst0 at W1 F1 ⊢
  have ek1 : IntKind.i64.wrap (kk + 1) = kk + (1) := by rw [w64 (by  omega) (by  omega)] <;> omega
  have G1 : ((t9 X6 Y1 xs k j).set j (B7 (kk), (x1_0, x1_1, x1_2)))[j]? = some (B7 (kk), (x1_0, x1_1, x1_2)) := by rw [List.getElem?_set_self (by rw [Z9]; exact hlt)]
  obtain ⟨b1, cs1, Bi1, bb1, of1, cur1, ty1, ea1, e1, w1, hb1, hin1, hbB1, hbn1, hsub1, hnd1, upd1, st1⟩ := Wp.at W1 hB G1 (by decide)
  cases ea1
  obtain ⟨x0q1, x1_0q1, x1_1q1, a1_2q1, n1_2q1, c1_2q1, x1_2q1, B1_2q1, rfl, ex1, rfl, g0q1, g1_0q1, g1_1q1, g1_2q1⟩ := V01 w1
  cases ex1
  refine And.intro b1 ?_
  refine Z7.mk (Int.natCast_nonneg j) hb1 (hin1 1 (by decide)) (by rw [Int.toNat_natCast]; rfl) trivial ?_
  have W2 : U2.W (kst0.set bb0 (.cells (cur1.setIfInBounds (of0 + (j * H1.sz + 1)) (.int .i64 (IntKind.i64.wrap (kk + 1)))) ty1 (0, 0))) [.slice (some ⟨bb0, of0, none⟩) xs.length c] ((t9 X6 Y1 xs k j).set j (B7 (kk), (IntKind.i64.wrap (kk + 1), x1_1, x1_2))) B := by have := st1 1 (.int .i64 (IntKind.i64.wrap (kk + 1))) (B7 (kk), (IntKind.i64.wrap (kk + 1), x1_1, x1_2)) (by decide) fun h' hf => P00 g0q1 (m0e (by rw [ek1]; omega) (by rw [ek1]; omega)) g1_1q1 (I0.frame g1_2q1 fun y hy => hf y (by simp [hy])); rwa [List.set_set] at this
  have F2 : ∀ y, y ∉ B → (kst0.set bb0 (.cells (cur1.setIfInBounds (of0 + (j * H1.sz + 1)) (.int .i64 (IntKind.i64.wrap (kk + 1)))) ty1 (0, 0))) y = h y := fun y hy => (Hp.set_other _ _ fun e => hy (by rw [e]; exact hbB1)).trans (F1 y hy)
  generalize (kst0.set bb0 (.cells (cur1.setIfInBounds (of0 + (j * H1.sz + 1)) (.int .i64 (IntKind.i64.wrap (kk + 1)))) ty1 (0, 0))) = kst1 at W2 F2 ⊢
  have ek2 : IntKind.i64.wrap (IntKind.i64.wrap (kk + 1) + 1) = kk + (1 + 1) := by rw [w64 (by rw [ek1]; omega) (by rw [ek1]; omega)] <;> rw [ek1] <;> omega
  have G2 : ((t9 X6 Y1 xs k j).set j (B7 (kk), (IntKind.i64.wrap (kk + 1), x1_1, x1_2)))[j]? = some (B7 (kk), (IntKind.i64.wrap (kk + 1), x1_1, x1_2)) := by rw [List.getElem?_set_self (by rw [Z9]; exact hlt)]
  obtain ⟨b2, cs2, Bi2, bb2, of2, cur2, ty2, ea2, e2, w2, hb2, hin2, hbB2, hbn2, hsub2, hnd2, upd2, st2⟩ := Wp.at W2 hB G2 (by decide)
  cases ea2
  obtain ⟨x0q2, x1_0q2, x1_1q2, a1_2q2, n1_2q2, c1_2q2, x1_2q2, B1_2q2, rfl, ex2, rfl, g0q2, g1_0q2, g1_1q2, g1_2q2⟩ := V01 w2
  cases ex2
  refine And.intro b2 ?_
  refine Z7.mk (Int.natCast_nonneg j) hb2 (hin2 2 (by decide)) (by rw [Int.toNat_natCast]; rfl) trivial ?_
  have W3 : U2.W (kst1.set bb0 (.cells (cur2.setIfInBounds (of0 + (j * H1.sz + 2)) (.int .i64 (IntKind.i64.wrap (IntKind.i64.wrap (kk + 1) + 1)))) ty2 (0, 0))) [.slice (some ⟨bb0, of0, none⟩) xs.length c] ((t9 X6 Y1 xs k j).set j (B7 (kk), (IntKind.i64.wrap (kk + 1), IntKind.i64.wrap (IntKind.i64.wrap (kk + 1) + 1), x1_2))) B := by have := st2 2 (.int .i64 (IntKind.i64.wrap (IntKind.i64.wrap (kk + 1) + 1))) (B7 (kk), (IntKind.i64.wrap (kk + 1), IntKind.i64.wrap (IntKind.i64.wrap (kk + 1) + 1), x1_2)) (by decide) fun h' hf => P00 g0q2 g1_0q2 (m0e (by rw [ek2]; omega) (by rw [ek2]; omega)) (I0.frame g1_2q2 fun y hy => hf y (by simp [hy])); rwa [List.set_set] at this
  have F3 : ∀ y, y ∉ B → (kst1.set bb0 (.cells (cur2.setIfInBounds (of0 + (j * H1.sz + 2)) (.int .i64 (IntKind.i64.wrap (IntKind.i64.wrap (kk + 1) + 1)))) ty2 (0, 0))) y = h y := fun y hy => (Hp.set_other _ _ fun e => hy (by rw [e]; exact hbB2)).trans (F2 y hy)
  generalize (kst1.set bb0 (.cells (cur2.setIfInBounds (of0 + (j * H1.sz + 2)) (.int .i64 (IntKind.i64.wrap (IntKind.i64.wrap (kk + 1) + 1)))) ty2 (0, 0))) = kst2 at W3 F3 ⊢
  have ek3 : IntKind.i64.wrap (IntKind.i64.wrap (IntKind.i64.wrap (kk + 1) + 1) + 1) = kk + (1 + 1 + 1) := by rw [w64 (by rw [ek2]; omega) (by rw [ek2]; omega)] <;> rw [ek2] <;> omega
  have G3 : ((t9 X6 Y1 xs k j).set j (B7 (kk), (IntKind.i64.wrap (kk + 1), IntKind.i64.wrap (IntKind.i64.wrap (kk + 1) + 1), x1_2)))[j]? = some (B7 (kk), (IntKind.i64.wrap (kk + 1), IntKind.i64.wrap (IntKind.i64.wrap (kk + 1) + 1), x1_2)) := by rw [List.getElem?_set_self (by rw [Z9]; exact hlt)]
  obtain ⟨b3, cs3, Bi3, bb3, of3, cur3, ty3, ea3, e3, w3, hb3, hin3, hbB3, hbn3, hsub3, hnd3, upd3, st3⟩ := Wp.at W3 hB G3 (by decide)
  cases ea3
  obtain ⟨x0q3, x1_0q3, x1_1q3, a1_2q3, n1_2q3, c1_2q3, x1_2q3, B1_2q3, rfl, ex3, rfl, g0q3, g1_0q3, g1_1q3, g1_2q3⟩ := V01 w3
  cases ex3
  refine And.intro b3 (Exists.intro _ (And.intro e3 ?_))
  have hn3 : Bi3.Nodup := by first | exact hnd3 | (have := hnd3; simp only [List.nil_append, List.append_nil, List.nodup_append] at this; grind)
  refine Tr.mono (y0a _ a1_2q3 n1_2q3 c1_2q3 (x1_2) Bi3 (IntKind.i64.wrap (IntKind.i64.wrap (IntKind.i64.wrap (kk + 1) + 1) + 1)) g1_2q3 hn3 ⟨by rw [ek3]; omega, by rw [ek3]; omega⟩) ?_
  rintro v3 h3m ⟨rfl, wm3, fm3⟩
  have W4 : U2.W h3m [.slice (some ⟨bb0, of0, none⟩) xs.length c] ((t9 X6 Y1 xs k j).set j (B7 (kk), (IntKind.i64.wrap (kk + 1), IntKind.i64.wrap (IntKind.i64.wrap (kk + 1) + 1), (Q8 x1_2 (IntKind.i64.wrap (IntKind.i64.wrap (IntKind.i64.wrap (kk + 1) + 1) + 1)))))) B := by have := upd3 h3m (B7 (kk), (IntKind.i64.wrap (kk + 1), IntKind.i64.wrap (IntKind.i64.wrap (kk + 1) + 1), (Q8 x1_2 (IntKind.i64.wrap (IntKind.i64.wrap (IntKind.i64.wrap (kk + 1) + 1) + 1))))) (fun y hy => fm3 y fun hy2 => hy (by simp [hy2])) (P00 g0q3 g1_0q3 g1_1q3 wm3); rwa [List.set_set] at this
  have F4 : ∀ y, y ∉ B → h3m y = h y := fun y hy => (fm3 y fun hy2 => hy (hsub3 y (by simp [hy2]))).trans (F3 y hy)
  have ek4 : (IntKind.i64.wrap (IntKind.i64.wrap (IntKind.i64.wrap (kk + 1) + 1) + 1) + (U8 x1_2 : Nat) : Int) = kk + (1 + 1 + 1 + (U8 x1_2 : Nat)) := by rw [ek3]; omega
  have em : (B7 (kk), (IntKind.i64.wrap (kk + 1), IntKind.i64.wrap (IntKind.i64.wrap (kk + 1) + 1), (Q8 x1_2 (IntKind.i64.wrap (IntKind.i64.wrap (IntKind.i64.wrap (kk + 1) + 1) + 1))))) = X6 (x0, (x1_0, x1_1, x1_2)) kk := by
   simp only [X6, Y1, Q08, k00]
   exact (congr (congrArg Prod.mk rfl) (congr (congrArg Prod.mk (by rw [ek1] <;> first | rfl | omega | (simp; omega))) (congr (congrArg Prod.mk (by rw [ek2] <;> first | rfl | omega | (simp; omega))) (congrArg (Q8 x1_2) (by rw [ek3] <;> first | rfl | omega | (simp; omega))))))
  have eL : (t9 X6 Y1 xs k j).set j (B7 (kk), (IntKind.i64.wrap (kk + 1), IntKind.i64.wrap (IntKind.i64.wrap (kk + 1) + 1), (Q8 x1_2 (IntKind.i64.wrap (IntKind.i64.wrap (IntKind.i64.wrap (kk + 1) + 1) + 1))))) = t9 X6 Y1 xs k (j + 1) := by rw [em]; rw [hkk]; exact S09 gx
  rw [eL] at W4
  refine And.intro rfl (And.intro (by first | exact trivial | exact And.intro rfl trivial | exact And.intro rfl (And.intro rfl trivial) | exact And.intro rfl (And.intro rfl (And.intro rfl trivial)) | exact And.intro rfl (And.intro rfl (And.intro rfl (And.intro rfl trivial)))) (And.intro (by first | exact trivial | exact And.intro rfl trivial | exact And.intro rfl (And.intro rfl trivial) | exact And.intro rfl (And.intro rfl (And.intro rfl trivial)) | exact And.intro rfl (And.intro rfl (And.intro rfl (And.intro rfl trivial)))) (And.intro ?_ ?_)))
  ·refine ⟨j + 1, IntKind.i64.wrap (IntKind.i64.wrap (IntKind.i64.wrap (kk + 1) + 1) + 1) + (U8 x1_2 : Nat), ?_, by omega, by rw [← hw], W4, F4⟩
   rw [ek4]; rw [hs1]; simp only [Y1, k00]; omega
  ·show ((xs.length : Int) - IntKind.i64.wrap ((j : Int) + 1)).toNat < ((xs.length : Int) - (j : Int)).toNat
   omega
 ·have hj' : j = xs.length := by simp at hc2; omega
  subst hj'
  rw [List.take_length] at hkk
  rw [Q09] at W0
  exact And.intro (congrArg (Value.int .i64) hkk) (And.intro W0 F0)
theorem w03 (h : Hp) (cs : List Value) (x : O0) (B : List Nat) (k : Int) (hx : E1.W h cs x B) (hB : B.Nodup) (hk : 0 ≤ k ∧ k + (U4 x : Nat) ≤ 4611686018427387904) :
  Tr Tryz.prog 19 #[.agg cs.toArray, .int .i64 k] h fun v h' => v = .int .i64 (k + (U4 x : Nat)) ∧ E1.W h' cs (y01 x k) B ∧ ∀ y, y ∉ B → h' y = h y := by
 obtain ⟨x0, a1, n1, c1, x1, B1, rfl, rfl, rfl, h0, h1⟩ := S08 hx
 simp only [U4] at hk
 refine B3 (args := [.agg #[.int .i64 x0, .slice a1 n1 c1], .int .i64 k]) (fn := Tryz.f19) rfl ?_
 have hn1 : B.Nodup := by first | exact hB | (have := hB; simp only [List.nil_append, List.append_nil, List.nodup_append] at this; grind)
 refine Tr.mono (i09 _ a1 n1 c1 x1 B (k) h1 hn1 ⟨by omega, by omega⟩) ?_
 rintro v1 h1m ⟨rfl, wm1, fm1⟩
 have eK : (k + (O9 x1 : Nat) : Int) = k + (U4 (x0, x1) : Nat) := by simp only [U4] <;> omega
 have WW : E1.W h1m [.int .i64 x0, .slice a1 n1 c1] (x0, B00 x1 (k)) (B) := ⟨[.int .i64 x0], [.slice a1 n1 c1], [], B, rfl, rfl, ⟨⟨rfl, h0⟩, rfl⟩, wm1⟩
 have em : (x0, B00 x1 (k)) = y01 (x0, x1) k := by
  unfold y01
  exact (congr (congrArg Prod.mk rfl) rfl)
 rw [em] at WW
 exact And.intro (congrArg (Value.int .i64) eK) (And.intro WW (fun y hy => fm1 y (fun hy2 => hy (by first | exact hy2 | (simp only [List.nil_append, List.append_nil, List.mem_append, List.not_mem_nil, false_or, or_false] at hy2 ⊢; grind)))))
end Go.Proofs.YtfdlgbfeceodeaaGreat
namespace Go.Proofs.YtfdlgbfeceodeaaGreat
open Go.H
set_option linter.unusedVariables false
set_option linter.unusedSimpArgs false
set_option maxRecDepth 10000
theorem z0a (h : Hp) (a : Option Addr) (n c : Nat) (xs : B0) (k : Int) (hx : I0.R h [.slice a n c] (Q8 xs k)) (hk : 0 ≤ k ∧ k + (U8 xs : Nat) ≤ 4611686018427387904) :
  Tr Tryz.prog 104 #[.slice a n c, .int .i64 k] h fun v h' => v = .int .i64 (k + (U8 xs : Nat)) ∧ h' = h := by
 obtain ⟨en, hn⟩ := Sl.len hx
 rw [show (Q8 xs k).length = xs.length from h8 _ _ _ _] at en
 subst en
 refine B3 (args := [.slice a xs.length c, .int .i64 k]) (fn := Tryz.f104) rfl ?_
 refine Exists.intro { vars := [1, 5], boxes := [], owns := [] } (Exists.intro (fun vs _ h' => ∃ (j : Nat) (kk : Int), kk = k + (M3 Y3 (xs.take j) : Nat) ∧ j ≤ xs.length ∧ vs = [.int .i64 kk, .int .i64 j] ∧ h' = h) (Exists.intro (fun vs _ => match vs with | [_, .int _ j] => ((xs.length : Int) - j).toNat | _ => 0) ?_))
 refine And.intro ⟨0, k, by simp [M3], by omega, rfl, rfl⟩ ?_
 rintro _ _ h1 ⟨j, kk, hkk, hj, ⟨⟩, rfl⟩
 refine And.intro (fun hc2 => ?_) (fun hc2 => ?_)
 ·have hlt : j < xs.length := by simpa using hc2
  obtain ⟨x, gx⟩ := r9 hlt
  have hs1 : M3 Y3 (xs.take (j + 1)) = M3 Y3 (xs.take j) + Y3 x := t01 gx
  have hs2 := u01 Y3 xs (j + 1)
  have hw := Q2 hlt hn
  have hkx : 0 ≤ kk ∧ kk + (Y3 x : Nat) ≤ 4611686018427387904 := by
   have : (U8 xs : Int) = (M3 Y3 xs : Nat) := rfl
   omega
  have gm : (Q8 xs k)[j]? = some (w9 x kk) := by rw [hkk]; exact O08 gx
  obtain ⟨b1, cs1, e1, i1⟩ := Sl.get hx gm (by decide)
  obtain ⟨x0, x1, x2⟩ := x
  simp only [Y3] at hkx
  obtain ⟨x0q, x1q, x2q, rfl, ex, g0, g1, g2⟩ := Z0 i1
  simp only [w9, Y3, Prod.mk.injEq] at ex
  obtain ⟨rfl, rfl, rfl⟩ := ex
  refine And.intro b1 (Exists.intro _ (And.intro e1 ?_))
  refine And.intro (fun hc => ?_) (fun hc => ?_)
  ·exact ((bne_iff_ne.1 hc) (by first | rfl | omega | (simp; omega))).elim
  clear hc
  have ek1 : IntKind.i64.wrap (kk + 1) = kk + (1) := by rw [w64 (by  omega) (by  omega)] <;> omega
  refine And.intro b1 (Exists.intro _ (And.intro e1 ?_))
  refine And.intro (fun hc => ?_) (fun hc => ?_)
  ·exact ((bne_iff_ne.1 hc) (by rw [ek1]; first | rfl | omega | (simp; omega))).elim
  clear hc
  have ek2 : IntKind.i64.wrap (IntKind.i64.wrap (kk + 1) + 1) = kk + (1 + 1) := by rw [w64 (by rw [ek1];  omega) (by rw [ek1];  omega)] <;> rw [ek1] <;> omega
  refine And.intro b1 (Exists.intro _ (And.intro e1 ?_))
  refine And.intro (fun hc => ?_) (fun hc => ?_)
  ·exact ((bne_iff_ne.1 hc) (by rw [ek2]; first | rfl | omega | (simp; omega))).elim
  clear hc
  have ek3 : IntKind.i64.wrap (IntKind.i64.wrap (IntKind.i64.wrap (kk + 1) + 1) + 1) = kk + (1 + 1 + 1) := by rw [w64 (by rw [ek2];  omega) (by rw [ek2];  omega)] <;> rw [ek2] <;> omega
  refine And.intro rfl (And.intro (by first | exact trivial | exact And.intro rfl trivial | exact And.intro rfl (And.intro rfl trivial) | exact And.intro rfl (And.intro rfl (And.intro rfl trivial)) | exact And.intro rfl (And.intro rfl (And.intro rfl (And.intro rfl trivial)))) (And.intro (by first | exact trivial | exact And.intro rfl trivial | exact And.intro rfl (And.intro rfl trivial) | exact And.intro rfl (And.intro rfl (And.intro rfl trivial)) | exact And.intro rfl (And.intro rfl (And.intro rfl (And.intro rfl trivial)))) (And.intro ?_ ?_)))
  ·refine ⟨j + 1, IntKind.i64.wrap (IntKind.i64.wrap (IntKind.i64.wrap (kk + 1) + 1) + 1), ?_, by omega, by rw [← hw], rfl⟩
   rw [ek3]; rw [hs1]; simp only [Y3]; omega
  ·show ((xs.length : Int) - IntKind.i64.wrap ((j : Int) + 1)).toNat < ((xs.length : Int) - (j : Int)).toNat
   omega
 ·have hj' : j = xs.length := by simp at hc2; omega
  subst hj'
  rw [List.take_length] at hkk
  exact And.intro (congrArg (Value.int .i64) hkk) rfl
theorem j09 (h : Hp) (a : Option Addr) (n c : Nat) (xs : V0) (k : Int) (hx : U2.R h [.slice a n c] (B00 xs k)) (hk : 0 ≤ k ∧ k + (O9 xs : Nat) ≤ 4611686018427387904) :
  Tr Tryz.prog 77 #[.slice a n c, .int .i64 k] h fun v h' => v = .int .i64 (k + (O9 xs : Nat)) ∧ h' = h := by
 obtain ⟨en, hn⟩ := Sl.len hx
 rw [show (B00 xs k).length = xs.length from h8 _ _ _ _] at en
 subst en
 refine B3 (args := [.slice a xs.length c, .int .i64 k]) (fn := Tryz.f77) rfl ?_
 refine Exists.intro { vars := [1, 5], boxes := [], owns := [] } (Exists.intro (fun vs _ h' => ∃ (j : Nat) (kk : Int), kk = k + (M3 Y1 (xs.take j) : Nat) ∧ j ≤ xs.length ∧ vs = [.int .i64 kk, .int .i64 j] ∧ h' = h) (Exists.intro (fun vs _ => match vs with | [_, .int _ j] => ((xs.length : Int) - j).toNat | _ => 0) ?_))
 refine And.intro ⟨0, k, by simp [M3], by omega, rfl, rfl⟩ ?_
 rintro _ _ h1 ⟨j, kk, hkk, hj, ⟨⟩, rfl⟩
 refine And.intro (fun hc2 => ?_) (fun hc2 => ?_)
 ·have hlt : j < xs.length := by simpa using hc2
  obtain ⟨x, gx⟩ := r9 hlt
  have hs1 : M3 Y1 (xs.take (j + 1)) = M3 Y1 (xs.take j) + Y1 x := t01 gx
  have hs2 := u01 Y1 xs (j + 1)
  have hw := Q2 hlt hn
  have hkx : 0 ≤ kk ∧ kk + (Y1 x : Nat) ≤ 4611686018427387904 := by
   have : (O9 xs : Int) = (M3 Y1 xs : Nat) := rfl
   omega
  have gm : (B00 xs k)[j]? = some (X6 x kk) := by rw [hkk]; exact O08 gx
  obtain ⟨b1, cs1, e1, i1⟩ := Sl.get hx gm (by decide)
  obtain ⟨x0, ⟨x1_0, x1_1, x1_2⟩⟩ := x
  simp only [Y1, k00] at hkx
  obtain ⟨x0q, x1_0q, x1_1q, a1_2q, n1_2q, c1_2q, x1_2q, rfl, ex, g0, g1_0, g1_1, g1_2⟩ := J3 i1
  simp only [X6, Y1, Q08, k00, Prod.mk.injEq] at ex
  obtain ⟨rfl, ⟨rfl, rfl, rfl⟩⟩ := ex
  refine Or.inl (And.intro (And.intro (by kernel_rfl) (by kernel_rfl)) ?_)
  refine And.intro b1 (Exists.intro _ (And.intro e1 ?_))
  refine Exists.intro (.string _) (And.intro (p07 _ (kk) ⟨by omega, by omega⟩) ?_)
  refine And.intro (fun hc => ?_) (fun hc => ?_)
  ·exact ((O0f hc) (congrArg B7 (by first | rfl | omega | (simp; omega)))).elim
  clear hc
  have ek1 : IntKind.i64.wrap (kk + 1) = kk + (1) := by rw [w64 (by  omega) (by  omega)] <;> omega
  refine And.intro b1 (Exists.intro _ (And.intro e1 ?_))
  refine And.intro (fun hc => ?_) (fun hc => ?_)
  ·exact ((bne_iff_ne.1 hc) (by rw [ek1]; first | rfl | omega | (simp; omega))).elim
  clear hc
  have ek2 : IntKind.i64.wrap (IntKind.i64.wrap (kk + 1) + 1) = kk + (1 + 1) := by rw [w64 (by rw [ek1];  omega) (by rw [ek1];  omega)] <;> rw [ek1] <;> omega
  refine And.intro b1 (Exists.intro _ (And.intro e1 ?_))
  refine And.intro (fun hc => ?_) (fun hc => ?_)
  ·exact ((bne_iff_ne.1 hc) (by rw [ek2]; first | rfl | omega | (simp; omega))).elim
  clear hc
  have ek3 : IntKind.i64.wrap (IntKind.i64.wrap (IntKind.i64.wrap (kk + 1) + 1) + 1) = kk + (1 + 1 + 1) := by rw [w64 (by rw [ek2];  omega) (by rw [ek2];  omega)] <;> rw [ek2] <;> omega
  refine And.intro b1 (Exists.intro _ (And.intro e1 ?_))
  have gk3 : I0.R h1 [.slice a1_2q n1_2q c1_2q] (Q8 x1_2 (IntKind.i64.wrap (IntKind.i64.wrap (IntKind.i64.wrap (kk + 1) + 1) + 1))) := R0g (P := fun z => I0.R h1 [.slice a1_2q n1_2q c1_2q] (Q8 x1_2 z)) g1_2 (by rw [ek3]; first | rfl | omega | (simp; omega))
  refine Tr.val (z0a _ a1_2q n1_2q c1_2q x1_2 (IntKind.i64.wrap (IntKind.i64.wrap (IntKind.i64.wrap (kk + 1) + 1) + 1)) gk3 ⟨by rw [ek3]; omega, by rw [ek3]; omega⟩) ?_
  refine And.intro (fun hc => ?_) (fun hc => ?_)
  ·have : (IntKind.i64.wrap (IntKind.i64.wrap (IntKind.i64.wrap (kk + 1) + 1) + 1) + (U8 x1_2 : Nat) : Int) < 0 := by simpa only [decide_eq_true_eq] using hc
   exact absurd this (by rw [ek3]; omega)
  clear hc
  have ek4 : (IntKind.i64.wrap (IntKind.i64.wrap (IntKind.i64.wrap (kk + 1) + 1) + 1) + (U8 x1_2 : Nat) : Int) = kk + (1 + 1 + 1 + (U8 x1_2 : Nat)) := by rw [ek3]; omega
  refine And.intro rfl (And.intro (by first | exact trivial | exact And.intro rfl trivial | exact And.intro rfl (And.intro rfl trivial) | exact And.intro rfl (And.intro rfl (And.intro rfl trivial)) | exact And.intro rfl (And.intro rfl (And.intro rfl (And.intro rfl trivial)))) (And.intro (by first | exact trivial | exact And.intro rfl trivial | exact And.intro rfl (And.intro rfl trivial) | exact And.intro rfl (And.intro rfl (And.intro rfl trivial)) | exact And.intro rfl (And.intro rfl (And.intro rfl (And.intro rfl trivial)))) (And.intro ?_ ?_)))
  ·refine ⟨j + 1, IntKind.i64.wrap (IntKind.i64.wrap (IntKind.i64.wrap (kk + 1) + 1) + 1) + (U8 x1_2 : Nat), ?_, by omega, by rw [← hw], rfl⟩
   rw [ek4]; rw [hs1]; simp only [Y1, k00]; omega
  ·show ((xs.length : Int) - IntKind.i64.wrap ((j : Int) + 1)).toNat < ((xs.length : Int) - (j : Int)).toNat
   omega
 ·have hj' : j = xs.length := by simp at hc2; omega
  subst hj'
  rw [List.take_length] at hkk
  exact And.intro (congrArg (Value.int .i64) hkk) rfl
theorem x03 (h : Hp) (cs : List Value) (x : O0) (k : Int) (hx : E1.R h cs (y01 x k)) (hk : 0 ≤ k ∧ k + (U4 x : Nat) ≤ 4611686018427387904) :
  Tr Tryz.prog 20 #[.agg cs.toArray, .int .i64 k] h fun v h' => v = .int .i64 (k + (U4 x : Nat)) ∧ h' = h := by
 obtain ⟨x0, x1⟩ := x
 obtain ⟨x0q, a1q, n1q, c1q, x1q, rfl, ex, g0, g1⟩ := z2 hx
 simp only [y01, U4, Prod.mk.injEq] at ex
 obtain ⟨rfl, rfl⟩ := ex
 simp only [U4] at hk
 refine B3 (args := [.agg #[.int .i64 x0, .slice a1q n1q c1q], .int .i64 k]) (fn := Tryz.f20) rfl ?_
 refine Tr.val (j09 _ a1q n1q c1q x1 (k) (by have gg := g1; first | exact gg | (rwa [show k + (((0 : Nat) : Int)) = k from by omega] at gg)) ⟨by omega, by omega⟩) ?_
 refine And.intro (fun hc => ?_) (fun hc => ?_)
 ·have : (k + (O9 x1 : Nat) : Int) < 0 := by simpa only [decide_eq_true_eq] using hc
  exact absurd this (by omega)
 clear hc
 exact And.intro (congrArg (Value.int .i64) (by simp only [U4] <;> omega)) rfl
end Go.Proofs.YtfdlgbfeceodeaaGreat
