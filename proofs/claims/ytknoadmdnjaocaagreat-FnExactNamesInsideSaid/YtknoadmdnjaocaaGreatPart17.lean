/- Texts of the claim, joined: The data types of the laws, as lists and tuples; ; What the laws' own helpers do: sizes; What the laws' own helpers do: equality; What the laws' own helpers do: copies; What markText does; What the laws' own helpers do: marks; What the laws' own helpers do: marks that are still there. -/
import Derived.Test.YtknoadmdnjaocaaGreatHE
import Derived.Test.YtknoadmdnjaocaaGreatChecked
namespace Go.Proofs.YtknoadmdnjaocaaGreat
open Go.H
set_option linter.unusedVariables false
set_option linter.unusedSimpArgs false
set_option maxRecDepth 10000
def q09 : Nat → Nat → List UInt8 → List UInt8
 | 0, _, acc => acc
 | f + 1, n, acc => if n = 0 then acc else q09 f (n / 10) (UInt8.ofNat (48 + n % 10) :: acc)
theorem v0d : ∀ (f n : Nat) (acc : List UInt8), (q09 f n acc).length ≤ f + acc.length
 | 0, n, acc => by simp [q09]
 | f + 1, n, acc => by
  simp only [q09]
  split
  ·omega
  ·have := v0d f (n / 10) (UInt8.ofNat (48 + n % 10) :: acc)
   simp only [List.length_cons] at this
   omega
theorem E0i {x : Int} (h1 : -9223372036854775808 ≤ x) (h2 : x ≤ 9223372036854775807) : P0 x := ⟨h1, h2⟩
def A5 (k : Int) : ByteArray := if k ≤ 0 then ⟨#[109, 48]⟩ else ⟨(109 :: q09 20 k.toNat []).toArray⟩
theorem r09 (k : Int) : (A5 k).size ≤ 9223372036854775807 := by
 unfold A5
 split
 ·decide
 ·have := v0d 20 k.toNat []
  show (109 :: q09 20 k.toNat []).toArray.size ≤ _
  simp only [List.size_toArray, List.length_cons]
  simp only [List.length_nil] at this
  omega
abbrev B0 : Type := Int × Int × Int
abbrev N0 : Wp B0 := Wp.pair Wp.int (Wp.pair Wp.int Wp.int)
instance Y0l : DecidableEq B0 := (@instDecidableEqProd _ _ (inferInstance : DecidableEq Int) (@instDecidableEqProd _ _ (inferInstance : DecidableEq Int) (inferInstance : DecidableEq Int)))
def A0k (x : B0) : Nat := 0
def V6 (x : B0) : Nat := 1 + 1 + 1
def b01 (x : B0) (k : Int) : B0 := (k, (k + (1 : Nat)), (k + (1 + 1 : Nat)))
theorem H1 {h : Hp} {cs : List Value} {x : B0} (hx : N0.R h cs x) : ∃ (x0 : Int) (x1 : Int) (x2 : Int), cs = [.int .i64 x0, .int .i64 x1, .int .i64 x2] ∧ x = (x0, x1, x2) ∧ P0 x0 ∧ P0 x1 ∧ P0 x2 := by
 obtain ⟨x0, x1, x2⟩ := x
 obtain ⟨_, _, rfl, ⟨rfl, h0⟩, ⟨_, _, rfl, ⟨rfl, h1⟩, ⟨rfl, h2⟩⟩⟩ := hx
 exact ⟨x0, x1, x2, rfl, rfl, h0, h1, h2⟩
theorem D1 {h : Hp} {x0 : Int} {x1 : Int} {x2 : Int} (h0 : P0 x0) (h1 : P0 x1) (h2 : P0 x2) : N0.R h [.int .i64 x0, .int .i64 x1, .int .i64 x2] (x0, x1, x2) :=
 ⟨[.int .i64 x0], [.int .i64 x1, .int .i64 x2], rfl, ⟨rfl, h0⟩, ⟨[.int .i64 x1], [.int .i64 x2], rfl, ⟨rfl, h1⟩, ⟨rfl, h2⟩⟩⟩
theorem v07 {h : Hp} {cs : List Value} {x : B0} {B : List Nat} (hx : N0.W h cs x B) : ∃ (x0 : Int) (x1 : Int) (x2 : Int), cs = [.int .i64 x0, .int .i64 x1, .int .i64 x2] ∧ x = (x0, x1, x2) ∧ B = ([] ++ ([] ++ [])) ∧ P0 x0 ∧ P0 x1 ∧ P0 x2 := by
 obtain ⟨x0, x1, x2⟩ := x
 obtain ⟨_, _, _, _, rfl, rfl, ⟨⟨rfl, h0⟩, rfl⟩, ⟨_, _, _, _, rfl, rfl, ⟨⟨rfl, h1⟩, rfl⟩, ⟨⟨rfl, h2⟩, rfl⟩⟩⟩ := hx
 exact ⟨x0, x1, x2, rfl, rfl, rfl, h0, h1, h2⟩
theorem n03 {h : Hp} {x0 : Int} {x1 : Int} {x2 : Int} (h0 : P0 x0) (h1 : P0 x1) (h2 : P0 x2) : N0.W h [.int .i64 x0, .int .i64 x1, .int .i64 x2] (x0, x1, x2) ([] ++ ([] ++ [])) :=
 ⟨[.int .i64 x0], [.int .i64 x1, .int .i64 x2], [], ([] ++ []), rfl, rfl, ⟨⟨rfl, h0⟩, rfl⟩, ⟨[.int .i64 x1], [.int .i64 x2], [], [], rfl, rfl, ⟨⟨rfl, h1⟩, rfl⟩, ⟨⟨rfl, h2⟩, rfl⟩⟩⟩
abbrev D0 : Type := List B0
abbrev O0 : Wp D0 := Wp.slice N0
instance c0l : DecidableEq D0 := inferInstanceAs (DecidableEq (List B0))
def c01 (x : D0) : Nat := x.length
def j04 (x : D0) : Nat := Y4 V6 x
def o03 (x : D0) (k : Int) : D0 := mkL b01 V6 x k
abbrev j0 : Type := Int × Int × D0
abbrev P1 : Wp j0 := Wp.pair Wp.int (Wp.pair Wp.int O0)
instance d0l : DecidableEq j0 := (@instDecidableEqProd _ _ (inferInstance : DecidableEq Int) (@instDecidableEqProd _ _ (inferInstance : DecidableEq Int) c0l))
def R9 (x : j0) : Nat := c01 x.2.2
def K04 (x : j0) : Nat := 1 + 1 + j04 x.2.2
def a0g (x : j0) (k : Int) : j0 := (k, (k + (1 : Nat)), o03 x.2.2 (k + (1 + 1 : Nat)))
theorem K0 {h : Hp} {cs : List Value} {x : j0} (hx : P1.R h cs x) : ∃ (x0 : Int) (x1 : Int) (a2 : Option Addr) (n2 c2 : Nat) (x2 : D0), cs = [.int .i64 x0, .int .i64 x1, .slice a2 n2 c2] ∧ x = (x0, x1, x2) ∧ P0 x0 ∧ P0 x1 ∧ O0.R h [.slice a2 n2 c2] x2 := by
 obtain ⟨x0, x1, x2⟩ := x
 obtain ⟨_, _, rfl, ⟨rfl, h0⟩, ⟨_, _, rfl, ⟨rfl, h1⟩, h2⟩⟩ := hx
 obtain ⟨a2, n2, c2, rfl⟩ := Wp.slice_cell h2
 exact ⟨x0, x1, a2, n2, c2, x2, rfl, rfl, h0, h1, h2⟩
theorem z0 {h : Hp} {x0 : Int} {x1 : Int} {a2 : Option Addr} {n2 c2 : Nat} {x2 : D0} (h0 : P0 x0) (h1 : P0 x1) (h2 : O0.R h [.slice a2 n2 c2] x2) : P1.R h [.int .i64 x0, .int .i64 x1, .slice a2 n2 c2] (x0, x1, x2) :=
 ⟨[.int .i64 x0], [.int .i64 x1, .slice a2 n2 c2], rfl, ⟨rfl, h0⟩, ⟨[.int .i64 x1], [.slice a2 n2 c2], rfl, ⟨rfl, h1⟩, h2⟩⟩
abbrev J0 : Type := List Int
abbrev O1 : Wp J0 := Wp.slice Wp.int
instance Z0l : DecidableEq J0 := inferInstanceAs (DecidableEq (List Int))
abbrev W7 : Type := List J0
abbrev S9 : Wp W7 := Wp.slice O1
instance U0l : DecidableEq W7 := inferInstanceAs (DecidableEq (List J0))
abbrev T9 : Type := ByteArray × j0
abbrev M4 : Wp T9 := Wp.pair Wp.str P1
instance V0l : DecidableEq T9 := (@instDecidableEqProd _ _ (inferInstance : DecidableEq ByteArray) d0l)
def W6 (x : T9) : Nat := x.1.size + R9 x.2
def d5 (x : T9) : Nat := 1 + K04 x.2
def Q8 (x : T9) (k : Int) : T9 := (A5 k, a0g x.2 (k + (1 : Nat)))
theorem L4 {h : Hp} {cs : List Value} {x : T9} (hx : M4.R h cs x) : ∃ (x0 : ByteArray) (x1_0 : Int) (x1_1 : Int) (a1_2 : Option Addr) (n1_2 c1_2 : Nat) (x1_2 : D0), cs = [.string x0, .int .i64 x1_0, .int .i64 x1_1, .slice a1_2 n1_2 c1_2] ∧ x = (x0, (x1_0, x1_1, x1_2)) ∧ x0.size ≤ 9223372036854775807 ∧ P0 x1_0 ∧ P0 x1_1 ∧ O0.R h [.slice a1_2 n1_2 c1_2] x1_2 := by
 obtain ⟨x0, ⟨x1_0, x1_1, x1_2⟩⟩ := x
 obtain ⟨_, _, rfl, ⟨rfl, h0⟩, ⟨_, _, rfl, ⟨rfl, h1_0⟩, ⟨_, _, rfl, ⟨rfl, h1_1⟩, h1_2⟩⟩⟩ := hx
 obtain ⟨a1_2, n1_2, c1_2, rfl⟩ := Wp.slice_cell h1_2
 exact ⟨x0, x1_0, x1_1, a1_2, n1_2, c1_2, x1_2, rfl, rfl, h0, h1_0, h1_1, h1_2⟩
theorem M01 {h : Hp} {x0 : ByteArray} {x1_0 : Int} {x1_1 : Int} {a1_2 : Option Addr} {n1_2 c1_2 : Nat} {x1_2 : D0} (h0 : x0.size ≤ 9223372036854775807) (h1_0 : P0 x1_0) (h1_1 : P0 x1_1) (h1_2 : O0.R h [.slice a1_2 n1_2 c1_2] x1_2) : M4.R h [.string x0, .int .i64 x1_0, .int .i64 x1_1, .slice a1_2 n1_2 c1_2] (x0, (x1_0, x1_1, x1_2)) :=
 ⟨[.string x0], [.int .i64 x1_0, .int .i64 x1_1, .slice a1_2 n1_2 c1_2], rfl, ⟨rfl, h0⟩, ⟨[.int .i64 x1_0], [.int .i64 x1_1, .slice a1_2 n1_2 c1_2], rfl, ⟨rfl, h1_0⟩, ⟨[.int .i64 x1_1], [.slice a1_2 n1_2 c1_2], rfl, ⟨rfl, h1_1⟩, h1_2⟩⟩⟩
theorem p03 {h : Hp} {cs : List Value} {x : T9} {B : List Nat} (hx : M4.W h cs x B) : ∃ (x0 : ByteArray) (x1_0 : Int) (x1_1 : Int) (a1_2 : Option Addr) (n1_2 c1_2 : Nat) (x1_2 : D0) (B1_2 : List Nat), cs = [.string x0, .int .i64 x1_0, .int .i64 x1_1, .slice a1_2 n1_2 c1_2] ∧ x = (x0, (x1_0, x1_1, x1_2)) ∧ B = ([] ++ ([] ++ ([] ++ B1_2))) ∧ x0.size ≤ 9223372036854775807 ∧ P0 x1_0 ∧ P0 x1_1 ∧ O0.W h [.slice a1_2 n1_2 c1_2] x1_2 B1_2 := by
 obtain ⟨x0, ⟨x1_0, x1_1, x1_2⟩⟩ := x
 obtain ⟨_, _, _, _, rfl, rfl, ⟨⟨rfl, h0⟩, rfl⟩, ⟨_, _, _, _, rfl, rfl, ⟨⟨rfl, h1_0⟩, rfl⟩, ⟨_, _, _, _, rfl, rfl, ⟨⟨rfl, h1_1⟩, rfl⟩, h1_2⟩⟩⟩ := hx
 obtain ⟨a1_2, n1_2, c1_2, rfl⟩ := Wp.slice_cell (O0.toR h1_2)
 exact ⟨x0, x1_0, x1_1, a1_2, n1_2, c1_2, x1_2, _, rfl, rfl, rfl, h0, h1_0, h1_1, h1_2⟩
theorem g02 {h : Hp} {x0 : ByteArray} {x1_0 : Int} {x1_1 : Int} {a1_2 : Option Addr} {n1_2 c1_2 : Nat} {x1_2 : D0} {B1_2 : List Nat} (h0 : x0.size ≤ 9223372036854775807) (h1_0 : P0 x1_0) (h1_1 : P0 x1_1) (h1_2 : O0.W h [.slice a1_2 n1_2 c1_2] x1_2 B1_2) : M4.W h [.string x0, .int .i64 x1_0, .int .i64 x1_1, .slice a1_2 n1_2 c1_2] (x0, (x1_0, x1_1, x1_2)) ([] ++ ([] ++ ([] ++ B1_2))) :=
 ⟨[.string x0], [.int .i64 x1_0, .int .i64 x1_1, .slice a1_2 n1_2 c1_2], [], ([] ++ ([] ++ B1_2)), rfl, rfl, ⟨⟨rfl, h0⟩, rfl⟩, ⟨[.int .i64 x1_0], [.int .i64 x1_1, .slice a1_2 n1_2 c1_2], [], ([] ++ B1_2), rfl, rfl, ⟨⟨rfl, h1_0⟩, rfl⟩, ⟨[.int .i64 x1_1], [.slice a1_2 n1_2 c1_2], [], B1_2, rfl, rfl, ⟨⟨rfl, h1_1⟩, rfl⟩, h1_2⟩⟩⟩
abbrev n3 : Type := List T9
abbrev A4 : Wp n3 := Wp.slice M4
instance X0j : DecidableEq n3 := inferInstanceAs (DecidableEq (List T9))
def h9 (x : n3) : Nat := x.length + Y4 W6 x
def L04 (x : n3) : Nat := Y4 d5 x
def z06 (x : n3) (k : Int) : n3 := mkL Q8 d5 x k
abbrev L1 : Type := Int × n3
abbrev I3 : Wp L1 := Wp.pair Wp.int A4
instance H0l : DecidableEq L1 := (@instDecidableEqProd _ _ (inferInstance : DecidableEq Int) X0j)
def Y7 (x : L1) : Nat := h9 x.2
def C00 (x : L1) : Nat := L04 x.2
def w07 (x : L1) (k : Int) : L1 := (x.1, z06 x.2 k)
theorem H4 {h : Hp} {cs : List Value} {x : L1} (hx : I3.R h cs x) : ∃ (x0 : Int) (a1 : Option Addr) (n1 c1 : Nat) (x1 : n3), cs = [.int .i64 x0, .slice a1 n1 c1] ∧ x = (x0, x1) ∧ P0 x0 ∧ A4.R h [.slice a1 n1 c1] x1 := by
 obtain ⟨x0, x1⟩ := x
 obtain ⟨_, _, rfl, ⟨rfl, h0⟩, h1⟩ := hx
 obtain ⟨a1, n1, c1, rfl⟩ := Wp.slice_cell h1
 exact ⟨x0, a1, n1, c1, x1, rfl, rfl, h0, h1⟩
theorem t6 {h : Hp} {x0 : Int} {a1 : Option Addr} {n1 c1 : Nat} {x1 : n3} (h0 : P0 x0) (h1 : A4.R h [.slice a1 n1 c1] x1) : I3.R h [.int .i64 x0, .slice a1 n1 c1] (x0, x1) :=
 ⟨[.int .i64 x0], [.slice a1 n1 c1], rfl, ⟨rfl, h0⟩, h1⟩
theorem i0c {h : Hp} {cs : List Value} {x : L1} {B : List Nat} (hx : I3.W h cs x B) : ∃ (x0 : Int) (a1 : Option Addr) (n1 c1 : Nat) (x1 : n3) (B1 : List Nat), cs = [.int .i64 x0, .slice a1 n1 c1] ∧ x = (x0, x1) ∧ B = ([] ++ B1) ∧ P0 x0 ∧ A4.W h [.slice a1 n1 c1] x1 B1 := by
 obtain ⟨x0, x1⟩ := x
 obtain ⟨_, _, _, _, rfl, rfl, ⟨⟨rfl, h0⟩, rfl⟩, h1⟩ := hx
 obtain ⟨a1, n1, c1, rfl⟩ := Wp.slice_cell (A4.toR h1)
 exact ⟨x0, a1, n1, c1, x1, _, rfl, rfl, rfl, h0, h1⟩
abbrev j00 : Type := List ByteArray
abbrev I6 : Wp j00 := Wp.slice Wp.str
instance I0l : DecidableEq j00 := inferInstanceAs (DecidableEq (List ByteArray))
def z9 (x : j00) : Nat := Y4 (fun _ => 1) x
def M04 (x : j00) (k : Int) : j00 := mkL (fun _ k => A5 k) (fun _ => 1) x k
theorem Y0j (x : B0) : V6 x ≤ 3 := by
 simp only [V6]
 omega
theorem Z0j (x : D0) : j04 x ≤ 16 * c01 x := t0d (c := V6) (fun x => by have := Y0j x; omega) x
theorem F0i (x : j0) : K04 x ≤ 2 + 16 * R9 x := by
 have := Z0j x.2.2
 simp only [K04, R9]
 omega
theorem G0i (x : T9) : d5 x ≤ 3 + 16 * W6 x := by
 have := F0i x.2
 simp only [d5, W6]
 omega
theorem H0i (x : n3) : L04 x ≤ 16 * h9 x := X0f (c := d5) (m := W6) (fun x => by have := G0i x; omega) x
theorem i0h (x : L1) : C00 x ≤ 16 * Y7 x := by
 have := H0i x.2
 simp only [C00, Y7]
 omega
end Go.Proofs.YtknoadmdnjaocaaGreat
namespace Go.Proofs.YtknoadmdnjaocaaGreat
open Go.H
set_option linter.unusedVariables false
set_option linter.unusedSimpArgs false
set_option maxRecDepth 10000
open Go.H
theorem S0e (h : Hp) : ∃ cs, N0.R h cs (0, 0, 0) := ⟨_, D1 (by decide) (by decide) (by decide)⟩
theorem b0g (h : Hp) : ∃ cs, M4.R h cs (⟨#[]⟩, (0, 0, [])) := ⟨_, M01 (by decide) (by decide) (by decide) (b0l N0 h)⟩
end Go.Proofs.YtknoadmdnjaocaaGreat
namespace Go.Proofs.YtknoadmdnjaocaaGreat
open Go.H
set_option linter.unusedVariables false
set_option linter.unusedSimpArgs false
set_option maxRecDepth 10000
theorem I0h (h : Hp) (a : Option Addr) (n c : Nat) (xs : D0) (left : Int) (hx : O0.R h [.slice a n c] xs) (hl : 0 ≤ left ∧ left ≤ 1048576) :
  Tr Tryz.prog 74 #[.slice a n c, .int .i64 left] h fun v h' => v = .int .i64 (szR left (c01 xs)) ∧ h' = h := by
 obtain ⟨rfl, hn⟩ := Sl.len hx
 have hw : IntKind.i64.wrap (left - (xs.length : Int)) = left - xs.length := w64 (by omega) (by omega)
 refine A3 (args := [.slice a xs.length c, .int .i64 left]) (fn := Tryz.f74) rfl ?_
 refine And.intro (fun hc => ?_) (fun hc => ?_)
 ·refine And.intro ?_ rfl
  simp [hw] at hc
  rw [c01, P0e (by omega)]
  rfl
 ·refine And.intro ?_ rfl
  simp [hw] at hc
  rw [c01, Q0e (by omega)]
  exact congrArg (Value.int .i64) hw
theorem J0h (h : Hp) (cs : List Value) (x : j0) (left : Int) (hx : P1.R h cs x) (hl : 0 ≤ left ∧ left ≤ 1048576) :
  Tr Tryz.prog 23 #[.agg cs.toArray, .int .i64 left] h fun v h' => v = .int .i64 (szR left (R9 x)) ∧ h' = h := by
 obtain ⟨x0, x1, a2, n2, c2, x2, rfl, rfl, h0, h1, h2⟩ := K0 hx
 refine A3 (args := [.agg #[.int .i64 x0, .int .i64 x1, .slice a2 n2 c2], .int .i64 left]) (fn := Tryz.f23) rfl ?_
 refine Tr.val (I0h h a2 n2 c2 x2 (left) h2 hl) ?_
 refine And.intro (fun hc => ?_) (fun hc => ?_)
 ·refine And.intro ?_ rfl
  rw [R9, x06 (left := left) (a := ((c01 x2 : Nat) : Int)) (by simpa using hc) hl.1 (by simp only []; omega)]
  rfl
 have q0 : 0 ≤ szR left ((c01 x2 : Nat) : Int) := by simpa using hc
 have hl0 : 0 ≤ szR left ((c01 x2 : Nat) : Int) ∧ szR left ((c01 x2 : Nat) : Int) ≤ 1048576 := by
  have := s07 q0
  omega
 exact And.intro rfl rfl
theorem K0h (h : Hp) (cs : List Value) (x : T9) (left : Int) (hx : M4.R h cs x) (hl : 0 ≤ left ∧ left ≤ 1048576) :
  Tr Tryz.prog 157 #[.agg cs.toArray, .int .i64 left] h fun v h' => v = .int .i64 (szR left (W6 x)) ∧ h' = h := by
 obtain ⟨x0, x1_0, x1_1, a1_2, n1_2, c1_2, x1_2, rfl, rfl, h0, h1_0, h1_1, h1_2⟩ := L4 hx
 refine A3 (args := [.agg #[.string x0, .int .i64 x1_0, .int .i64 x1_1, .slice a1_2 n1_2 c1_2], .int .i64 left]) (fn := Tryz.f157) rfl ?_
 have hw0 : IntKind.i64.wrap (left - (x0.size : Int)) = left - x0.size := w64 (by omega) (by omega)
 refine And.intro (fun hc => ?_) (fun hc => ?_)
 ·simp [hw0] at hc
  refine And.intro ?_ rfl
  rw [W6, P0e (by simp only []; omega)]
  rfl
 simp [hw0] at hc
 have st0 : szR left ((x0.size : Nat) : Int) = left - x0.size := Q0e (by omega)
 have q0 : 0 ≤ szR left ((x0.size : Nat) : Int) := by rw [st0]; omega
 have st0 : szR left ((x0.size : Nat) : Int) = IntKind.i64.wrap (left - (x0.size : Int)) := by rw [hw0]; exact st0
 have hl0 : 0 ≤ IntKind.i64.wrap (left - (x0.size : Int)) ∧ IntKind.i64.wrap (left - (x0.size : Int)) ≤ 1048576 := by
  rw [← st0]
  have := s07 q0
  omega
 refine Tr.val (J0h h [.int .i64 x1_0, .int .i64 x1_1, .slice a1_2 n1_2 c1_2] (x1_0, x1_1, x1_2) (IntKind.i64.wrap (left - (x0.size : Int))) (z0 h1_0 h1_1 h1_2) hl0) ?_
 refine And.intro (fun hc => ?_) (fun hc => ?_)
 ·refine And.intro ?_ rfl
  have hc' : szR (IntKind.i64.wrap (left - (x0.size : Int))) ((R9 (x1_0, x1_1, x1_2) : Nat) : Int) < 0 := by simpa using hc
  rw [← st0, f0c q0 (by omega) (by omega)] at hc'
  rw [W6, x06 hc' hl.1 (by simp only []; omega)]
  rfl
 have hc' : 0 ≤ szR (IntKind.i64.wrap (left - (x0.size : Int))) ((R9 (x1_0, x1_1, x1_2) : Nat) : Int) := by simpa using hc
 have st1 : szR left ((x0.size + R9 (x1_0, x1_1, x1_2) : Nat) : Int) = szR (IntKind.i64.wrap (left - (x0.size : Int))) ((R9 (x1_0, x1_1, x1_2) : Nat) : Int) := by rw [← st0, f0c q0 (by omega) (by omega)]; congr 1
 have q1 : 0 ≤ szR left ((x0.size + R9 (x1_0, x1_1, x1_2) : Nat) : Int) := by rw [st1]; exact hc'
 clear hc'
 have hl1 : 0 ≤ szR (IntKind.i64.wrap (left - (x0.size : Int))) ((R9 (x1_0, x1_1, x1_2) : Nat) : Int) ∧ szR (IntKind.i64.wrap (left - (x0.size : Int))) ((R9 (x1_0, x1_1, x1_2) : Nat) : Int) ≤ 1048576 := by
  rw [← st1]
  have := s07 q1
  omega
 exact And.intro (congrArg (Value.int .i64) (st1.symm.trans (by rw [W6]))) rfl
theorem v0f (h : Hp) (a : Option Addr) (n c : Nat) (xs : n3) (left : Int) (hx : A4.R h [.slice a n c] xs) (hl : 0 ≤ left ∧ left ≤ 1048576) :
  Tr Tryz.prog 63 #[.slice a n c, .int .i64 left] h fun v h' => v = .int .i64 (szR left (h9 xs)) ∧ h' = h := by
 obtain ⟨rfl, hn⟩ := Sl.len hx
 have hw : IntKind.i64.wrap (left - (xs.length : Int)) = left - xs.length := w64 (by omega) (by omega)
 refine A3 (args := [.slice a xs.length c, .int .i64 left]) (fn := Tryz.f63) rfl ?_
 refine And.intro (fun hc => ?_) (fun hc => ?_)
 ·refine And.intro ?_ rfl
  simp [hw] at hc
  rw [h9, P0e (by omega)]
  rfl
 simp [hw] at hc
 refine Exists.intro { vars := [1, 5], boxes := [], owns := [] } (Exists.intro (fun vs _ h' => ∃ k : Nat, k ≤ xs.length ∧ 0 ≤ szR left ((xs.length + Y4 W6 (xs.take k) : Nat) : Int) ∧ vs = [.int .i64 (szR left ((xs.length + Y4 W6 (xs.take k) : Nat) : Int)), .int .i64 k] ∧ h' = h) (Exists.intro (fun vs _ => match vs with | [_, .int _ j] => ((xs.length : Int) - j).toNat | _ => 0) ?_))
 have h0 : szR left ((xs.length + Y4 W6 (xs.take 0) : Nat) : Int) = left - xs.length := by rw [Q0e (by simp [Y4]; omega)]; simp [Y4]
 refine And.intro ⟨0, by omega, by omega, by rw [h0]; exact congrArg (fun x => [Value.int .i64 x, Value.int .i64 0]) hw, rfl⟩ ?_
 rintro _ _ h1 ⟨k, hk, hpos, ⟨⟩, rfl⟩
 obtain ⟨q1, q2⟩ := s07 hpos
 refine And.intro (fun hc2 => ?_) (fun hc2 => ?_)
 ·have hlt : k < xs.length := by simpa using hc2
  obtain ⟨x, hgx⟩ := g9 hlt
  obtain ⟨b1, cs1, e1, i1⟩ := Sl.get hx hgx (by decide)
  have hw2 := L2 hlt hn
  obtain ⟨x0, x1_0, x1_1, a1_2, n1_2, c1_2, x1_2, rfl, rfl, g0, g1_0, g1_1, g1_2⟩ := L4 i1
  refine And.intro b1 (Exists.intro _ (And.intro e1 ?_))
  refine Tr.val (K0h _ [.string x0, .int .i64 x1_0, .int .i64 x1_1, .slice a1_2 n1_2 c1_2] (x0, (x1_0, x1_1, x1_2)) _ (M01 g0 g1_0 g1_1 g1_2) ⟨by omega, by omega⟩) ?_
  have hstep : szR (szR left ((xs.length + Y4 W6 (xs.take k) : Nat) : Int)) (W6 (x0, (x1_0, x1_1, x1_2)) : Nat) = szR left ((xs.length + Y4 W6 (xs.take (k + 1)) : Nat) : Int) := by
   rw [f0c hpos (by omega) (by omega), L02 hgx]
   congr 1
   omega
  refine And.intro (fun hc3 => ?_) (fun hc3 => ?_)
  ·refine And.intro ?_ rfl
   rw [hstep] at hc3
   have hneg2 : szR left ((xs.length + Y4 W6 (xs.take (k + 1)) : Nat) : Int) < 0 := by simpa using hc3
   have := M02 W6 xs (k + 1)
   rw [h9, x06 hneg2 hl.1 (by omega)]
   rfl
  ·rw [hstep] at hc3
   have hpos2 : 0 ≤ szR left ((xs.length + Y4 W6 (xs.take (k + 1)) : Nat) : Int) := by simpa using hc3
   refine And.intro rfl (And.intro (by first | exact trivial | exact And.intro rfl trivial | exact And.intro rfl (And.intro rfl trivial) | exact And.intro rfl (And.intro rfl (And.intro rfl trivial)) | exact And.intro rfl (And.intro rfl (And.intro rfl (And.intro rfl trivial)))) (And.intro (by first | exact trivial | exact And.intro rfl trivial | exact And.intro rfl (And.intro rfl trivial) | exact And.intro rfl (And.intro rfl (And.intro rfl trivial)) | exact And.intro rfl (And.intro rfl (And.intro rfl (And.intro rfl trivial)))) (And.intro ?_ ?_)))
   ·refine ⟨k + 1, by omega, hpos2, ?_, rfl⟩
    rw [← hw2, ← hstep]
   ·show ((xs.length : Int) - IntKind.i64.wrap ((k : Int) + 1)).toNat < ((xs.length : Int) - (k : Int)).toNat
    omega
 ·have hk : k = xs.length := by simp at hc2; omega
  subst hk
  refine And.intro ?_ rfl
  rw [List.take_length]
  rfl
theorem o0e (h : Hp) (cs : List Value) (x : L1) (left : Int) (hx : I3.R h cs x) (hl : 0 ≤ left ∧ left ≤ 1048576) :
  Tr Tryz.prog 14 #[.agg cs.toArray, .int .i64 left] h fun v h' => v = .int .i64 (szR left (Y7 x)) ∧ h' = h := by
 obtain ⟨x0, a1, n1, c1, x1, rfl, rfl, h0, h1⟩ := H4 hx
 refine A3 (args := [.agg #[.int .i64 x0, .slice a1 n1 c1], .int .i64 left]) (fn := Tryz.f14) rfl ?_
 refine Tr.val (v0f h a1 n1 c1 x1 (left) h1 hl) ?_
 refine And.intro (fun hc => ?_) (fun hc => ?_)
 ·refine And.intro ?_ rfl
  rw [Y7, x06 (left := left) (a := ((h9 x1 : Nat) : Int)) (by simpa using hc) hl.1 (by simp only []; omega)]
  rfl
 have q0 : 0 ≤ szR left ((h9 x1 : Nat) : Int) := by simpa using hc
 have hl0 : 0 ≤ szR left ((h9 x1 : Nat) : Int) ∧ szR left ((h9 x1 : Nat) : Int) ≤ 1048576 := by
  have := s07 q0
  omega
 exact And.intro rfl rfl
end Go.Proofs.YtknoadmdnjaocaaGreat
namespace Go.Proofs.YtknoadmdnjaocaaGreat
open Go.H
set_option linter.unusedVariables false
set_option linter.unusedSimpArgs false
set_option maxRecDepth 10000
theorem z0j (h : Hp) (cs ds : List Value) (x y : B0) (hx : N0.R h cs x) (hy : N0.R h ds y) :
  Tr Tryz.prog 170 #[.agg cs.toArray, .agg ds.toArray] h fun v h' => v = .bool (decide (x = y)) ∧ h' = h := by
 obtain ⟨x0, x1, x2, rfl, rfl, h0, h1, h2⟩ := H1 hx
 obtain ⟨x0y, x1y, x2y, rfl, rfl, h0y, h1y, h2y⟩ := H1 hy
 refine A3 (args := [.agg #[.int .i64 x0, .int .i64 x1, .int .i64 x2], .agg #[.int .i64 x0y, .int .i64 x1y, .int .i64 x2y]]) (fn := Tryz.f170) rfl ?_
 refine And.intro (fun hc => ?_) (fun hc => ?_)
 ·have ne : x0 ≠ x0y := by simpa using hc
  exact And.intro (congrArg Value.bool (decide_eq_false fun e => by cases e; exact ne rfl).symm) rfl
 have q0 : x0 = x0y := by simpa using hc
 subst q0
 refine And.intro (fun hc => ?_) (fun hc => ?_)
 ·have ne : x1 ≠ x1y := by simpa using hc
  exact And.intro (congrArg Value.bool (decide_eq_false fun e => by cases e; exact ne rfl).symm) rfl
 have q1 : x1 = x1y := by simpa using hc
 subst q1
 refine And.intro (fun hc => ?_) (fun hc => ?_)
 ·have ne : x2 ≠ x2y := by simpa using hc
  exact And.intro (congrArg Value.bool (decide_eq_false fun e => by cases e; exact ne rfl).symm) rfl
 have q2 : x2 = x2y := by simpa using hc
 subst q2
 exact And.intro (congrArg Value.bool (decide_eq_true rfl).symm) rfl
theorem L0h (h : Hp) (a : Option Addr) (n c : Nat) (a' : Option Addr) (n' c' : Nat) (xs ys : D0) (hx : O0.R h [.slice a n c] xs) (hy : O0.R h [.slice a' n' c'] ys) :
  Tr Tryz.prog 85 #[.slice a n c, .slice a' n' c'] h fun v h' => v = .bool (decide (xs = ys)) ∧ h' = h := by
 obtain ⟨rfl, hn⟩ := Sl.len hx
 obtain ⟨rfl, hn'⟩ := Sl.len hy
 refine A3 (args := [.slice a xs.length c, .slice a' ys.length c']) (fn := Tryz.f85) rfl ?_
 refine And.intro (fun hc => ?_) (fun hc => ?_)
 ·refine And.intro (congrArg Value.bool ?_) rfl
  have : xs.length ≠ ys.length := by simp at hc; omega
  exact (decide_eq_false fun e => this (by rw [e])).symm
 have hlen : xs.length = ys.length := by simp at hc; omega
 refine Exists.intro { vars := [5], boxes := [], owns := [] } (Exists.intro (fun vs _ h' => ∃ k : Nat, k ≤ xs.length ∧ xs.take k = ys.take k ∧ vs = [.int .i64 k] ∧ h' = h) (Exists.intro (fun vs _ => match vs with | [.int _ j] => ((xs.length : Int) - j).toNat | _ => 0) ?_))
 refine And.intro ⟨0, by omega, by simp, rfl, rfl⟩ ?_
 rintro _ h1 ⟨k, hk, hall, ⟨⟩, rfl⟩
 refine And.intro (fun hc2 => ?_) (fun hc2 => ?_)
 ·have hlt : k < xs.length := by simpa using hc2
  obtain ⟨x, gx⟩ := g9 hlt
  obtain ⟨y, gy⟩ := g9 (l := ys) (k := k) (by omega)
  obtain ⟨b1, cs1, e1, i1⟩ := Sl.get hx gx (by decide)
  obtain ⟨b2, cs2, e2, i2⟩ := Sl.get hy gy (by decide)
  have hw := L2 hlt hn
  obtain ⟨x0, x1, x2, rfl, rfl, g0, g1, g2⟩ := H1 i1
  obtain ⟨x0y, x1y, x2y, rfl, rfl, g0y, g1y, g2y⟩ := H1 i2
  refine Or.inl (And.intro (And.intro (by kernel_rfl) (by kernel_rfl)) ?_)
  refine And.intro b1 (Exists.intro _ (And.intro e1 (And.intro b2 (Exists.intro _ (And.intro e2 ?_)))))
  refine Exists.intro (.bool _) (And.intro (z0j _ [.int .i64 x0, .int .i64 x1, .int .i64 x2] [.int .i64 x0y, .int .i64 x1y, .int .i64 x2y] (x0, x1, x2) (x0y, x1y, x2y) (D1 g0 g1 g2) (D1 g0y g1y g2y)) ?_)
  refine And.intro (fun hc3 => ?_) (fun hc3 => ?_)
  ·refine And.intro (congrArg Value.bool ?_) rfl
   have hne : (x0, x1, x2) ≠ (x0y, x1y, x2y) := y06 hc3
   exact (decide_eq_false fun e => hne (Option.some.inj (gx.symm.trans ((congrArg (fun l : D0 => l[k]?) e).trans gy)))).symm
  ·have heq : (x0, x1, x2) = (x0y, x1y, x2y) := f04 hc3
   refine And.intro rfl (And.intro (by first | exact trivial | exact And.intro rfl trivial | exact And.intro rfl (And.intro rfl trivial) | exact And.intro rfl (And.intro rfl (And.intro rfl trivial)) | exact And.intro rfl (And.intro rfl (And.intro rfl (And.intro rfl trivial)))) (And.intro (by first | exact trivial | exact And.intro rfl trivial | exact And.intro rfl (And.intro rfl trivial) | exact And.intro rfl (And.intro rfl (And.intro rfl trivial)) | exact And.intro rfl (And.intro rfl (And.intro rfl (And.intro rfl trivial)))) (And.intro ?_ ?_)))
   ·refine ⟨k + 1, by omega, by rw [G8 gx, G8 gy, hall, heq], ?_, rfl⟩
    rw [← hw]
   ·show ((xs.length : Int) - IntKind.i64.wrap ((k : Int) + 1)).toNat < ((xs.length : Int) - (k : Int)).toNat
    omega
 ·have hk : k = xs.length := by simp at hc2; omega
  refine And.intro (congrArg Value.bool ?_) rfl
  refine (decide_eq_true ?_).symm
  subst hk
  rwa [List.take_length, hlen, List.take_length] at hall
theorem M0h (h : Hp) (cs ds : List Value) (x y : j0) (hx : P1.R h cs x) (hy : P1.R h ds y) :
  Tr Tryz.prog 27 #[.agg cs.toArray, .agg ds.toArray] h fun v h' => v = .bool (decide (x = y)) ∧ h' = h := by
 obtain ⟨x0, x1, a2, n2, c2, x2, rfl, rfl, h0, h1, h2⟩ := K0 hx
 obtain ⟨x0y, x1y, a2y, n2y, c2y, x2y, rfl, rfl, h0y, h1y, h2y⟩ := K0 hy
 refine A3 (args := [.agg #[.int .i64 x0, .int .i64 x1, .slice a2 n2 c2], .agg #[.int .i64 x0y, .int .i64 x1y, .slice a2y n2y c2y]]) (fn := Tryz.f27) rfl ?_
 refine And.intro (fun hc => ?_) (fun hc => ?_)
 ·have ne : x0 ≠ x0y := by simpa using hc
  exact And.intro (congrArg Value.bool (decide_eq_false fun e => by cases e; exact ne rfl).symm) rfl
 have q0 : x0 = x0y := by simpa using hc
 subst q0
 refine And.intro (fun hc => ?_) (fun hc => ?_)
 ·have ne : x1 ≠ x1y := by simpa using hc
  exact And.intro (congrArg Value.bool (decide_eq_false fun e => by cases e; exact ne rfl).symm) rfl
 have q1 : x1 = x1y := by simpa using hc
 subst q1
 refine Tr.val (L0h h a2 n2 c2 a2y n2y c2y x2 x2y h2 h2y) ?_
 refine And.intro (fun hc => ?_) (fun hc => ?_)
 ·have ne : x2 ≠ x2y := y06 hc
  exact And.intro (congrArg Value.bool (decide_eq_false fun e => by cases e; exact ne rfl).symm) rfl
 have q2 : x2 = x2y := f04 hc
 subst q2
 exact And.intro (congrArg Value.bool (decide_eq_true rfl).symm) rfl
theorem N0h (h : Hp) (cs ds : List Value) (x y : T9) (hx : M4.R h cs x) (hy : M4.R h ds y) :
  Tr Tryz.prog 163 #[.agg cs.toArray, .agg ds.toArray] h fun v h' => v = .bool (decide (x = y)) ∧ h' = h := by
 obtain ⟨x0, x1_0, x1_1, a1_2, n1_2, c1_2, x1_2, rfl, rfl, h0, h1_0, h1_1, h1_2⟩ := L4 hx
 obtain ⟨x0y, x1_0y, x1_1y, a1_2y, n1_2y, c1_2y, x1_2y, rfl, rfl, h0y, h1_0y, h1_1y, h1_2y⟩ := L4 hy
 refine A3 (args := [.agg #[.string x0, .int .i64 x1_0, .int .i64 x1_1, .slice a1_2 n1_2 c1_2], .agg #[.string x0y, .int .i64 x1_0y, .int .i64 x1_1y, .slice a1_2y n1_2y c1_2y]]) (fn := Tryz.f163) rfl ?_
 refine And.intro (fun hc => ?_) (fun hc => ?_)
 ·have ne : x0 ≠ x0y := B0i hc
  exact And.intro (congrArg Value.bool (decide_eq_false fun e => by cases e; exact ne rfl).symm) rfl
 have q0 : x0 = x0y := y0k hc
 subst q0
 refine Tr.val (M0h h [.int .i64 x1_0, .int .i64 x1_1, .slice a1_2 n1_2 c1_2] [.int .i64 x1_0y, .int .i64 x1_1y, .slice a1_2y n1_2y c1_2y] (x1_0, x1_1, x1_2) (x1_0y, x1_1y, x1_2y) (z0 h1_0 h1_1 h1_2) (z0 h1_0y h1_1y h1_2y)) ?_
 refine And.intro (fun hc => ?_) (fun hc => ?_)
 ·have ne : (x1_0, x1_1, x1_2) ≠ (x1_0y, x1_1y, x1_2y) := y06 hc
  exact And.intro (congrArg Value.bool (decide_eq_false fun e => by cases e; exact ne rfl).symm) rfl
 have q1 : (x1_0, x1_1, x1_2) = (x1_0y, x1_1y, x1_2y) := f04 hc
 cases q1
 exact And.intro (congrArg Value.bool (decide_eq_true rfl).symm) rfl
theorem w0f (h : Hp) (a : Option Addr) (n c : Nat) (a' : Option Addr) (n' c' : Nat) (xs ys : n3) (hx : A4.R h [.slice a n c] xs) (hy : A4.R h [.slice a' n' c'] ys) :
  Tr Tryz.prog 71 #[.slice a n c, .slice a' n' c'] h fun v h' => v = .bool (decide (xs = ys)) ∧ h' = h := by
 obtain ⟨rfl, hn⟩ := Sl.len hx
 obtain ⟨rfl, hn'⟩ := Sl.len hy
 refine A3 (args := [.slice a xs.length c, .slice a' ys.length c']) (fn := Tryz.f71) rfl ?_
 refine And.intro (fun hc => ?_) (fun hc => ?_)
 ·refine And.intro (congrArg Value.bool ?_) rfl
  have : xs.length ≠ ys.length := by simp at hc; omega
  exact (decide_eq_false fun e => this (by rw [e])).symm
 have hlen : xs.length = ys.length := by simp at hc; omega
 refine Exists.intro { vars := [5], boxes := [], owns := [] } (Exists.intro (fun vs _ h' => ∃ k : Nat, k ≤ xs.length ∧ xs.take k = ys.take k ∧ vs = [.int .i64 k] ∧ h' = h) (Exists.intro (fun vs _ => match vs with | [.int _ j] => ((xs.length : Int) - j).toNat | _ => 0) ?_))
 refine And.intro ⟨0, by omega, by simp, rfl, rfl⟩ ?_
 rintro _ h1 ⟨k, hk, hall, ⟨⟩, rfl⟩
 refine And.intro (fun hc2 => ?_) (fun hc2 => ?_)
 ·have hlt : k < xs.length := by simpa using hc2
  obtain ⟨x, gx⟩ := g9 hlt
  obtain ⟨y, gy⟩ := g9 (l := ys) (k := k) (by omega)
  obtain ⟨b1, cs1, e1, i1⟩ := Sl.get hx gx (by decide)
  obtain ⟨b2, cs2, e2, i2⟩ := Sl.get hy gy (by decide)
  have hw := L2 hlt hn
  obtain ⟨x0, x1_0, x1_1, a1_2, n1_2, c1_2, x1_2, rfl, rfl, g0, g1_0, g1_1, g1_2⟩ := L4 i1
  obtain ⟨x0y, x1_0y, x1_1y, a1_2y, n1_2y, c1_2y, x1_2y, rfl, rfl, g0y, g1_0y, g1_1y, g1_2y⟩ := L4 i2
  refine Or.inl (And.intro (And.intro (by kernel_rfl) (by kernel_rfl)) ?_)
  refine And.intro b1 (Exists.intro _ (And.intro e1 (And.intro b2 (Exists.intro _ (And.intro e2 ?_)))))
  refine Exists.intro (.bool _) (And.intro (N0h _ [.string x0, .int .i64 x1_0, .int .i64 x1_1, .slice a1_2 n1_2 c1_2] [.string x0y, .int .i64 x1_0y, .int .i64 x1_1y, .slice a1_2y n1_2y c1_2y] (x0, (x1_0, x1_1, x1_2)) (x0y, (x1_0y, x1_1y, x1_2y)) (M01 g0 g1_0 g1_1 g1_2) (M01 g0y g1_0y g1_1y g1_2y)) ?_)
  refine And.intro (fun hc3 => ?_) (fun hc3 => ?_)
  ·refine And.intro (congrArg Value.bool ?_) rfl
   have hne : (x0, (x1_0, x1_1, x1_2)) ≠ (x0y, (x1_0y, x1_1y, x1_2y)) := y06 hc3
   exact (decide_eq_false fun e => hne (Option.some.inj (gx.symm.trans ((congrArg (fun l : n3 => l[k]?) e).trans gy)))).symm
  ·have heq : (x0, (x1_0, x1_1, x1_2)) = (x0y, (x1_0y, x1_1y, x1_2y)) := f04 hc3
   refine And.intro rfl (And.intro (by first | exact trivial | exact And.intro rfl trivial | exact And.intro rfl (And.intro rfl trivial) | exact And.intro rfl (And.intro rfl (And.intro rfl trivial)) | exact And.intro rfl (And.intro rfl (And.intro rfl (And.intro rfl trivial)))) (And.intro (by first | exact trivial | exact And.intro rfl trivial | exact And.intro rfl (And.intro rfl trivial) | exact And.intro rfl (And.intro rfl (And.intro rfl trivial)) | exact And.intro rfl (And.intro rfl (And.intro rfl (And.intro rfl trivial)))) (And.intro ?_ ?_)))
   ·refine ⟨k + 1, by omega, by rw [G8 gx, G8 gy, hall, heq], ?_, rfl⟩
    rw [← hw]
   ·show ((xs.length : Int) - IntKind.i64.wrap ((k : Int) + 1)).toNat < ((xs.length : Int) - (k : Int)).toNat
    omega
 ·have hk : k = xs.length := by simp at hc2; omega
  refine And.intro (congrArg Value.bool ?_) rfl
  refine (decide_eq_true ?_).symm
  subst hk
  rwa [List.take_length, hlen, List.take_length] at hall
theorem p0e (h : Hp) (cs ds : List Value) (x y : L1) (hx : I3.R h cs x) (hy : I3.R h ds y) :
  Tr Tryz.prog 19 #[.agg cs.toArray, .agg ds.toArray] h fun v h' => v = .bool (decide (x = y)) ∧ h' = h := by
 obtain ⟨x0, a1, n1, c1, x1, rfl, rfl, h0, h1⟩ := H4 hx
 obtain ⟨x0y, a1y, n1y, c1y, x1y, rfl, rfl, h0y, h1y⟩ := H4 hy
 refine A3 (args := [.agg #[.int .i64 x0, .slice a1 n1 c1], .agg #[.int .i64 x0y, .slice a1y n1y c1y]]) (fn := Tryz.f19) rfl ?_
 refine And.intro (fun hc => ?_) (fun hc => ?_)
 ·have ne : x0 ≠ x0y := by simpa using hc
  exact And.intro (congrArg Value.bool (decide_eq_false fun e => by cases e; exact ne rfl).symm) rfl
 have q0 : x0 = x0y := by simpa using hc
 subst q0
 refine Tr.val (w0f h a1 n1 c1 a1y n1y c1y x1 x1y h1 h1y) ?_
 refine And.intro (fun hc => ?_) (fun hc => ?_)
 ·have ne : x1 ≠ x1y := y06 hc
  exact And.intro (congrArg Value.bool (decide_eq_false fun e => by cases e; exact ne rfl).symm) rfl
 have q1 : x1 = x1y := f04 hc
 subst q1
 exact And.intro (congrArg Value.bool (decide_eq_true rfl).symm) rfl
theorem y04 (h : Hp) (a : Option Addr) (n c : Nat) (a' : Option Addr) (n' c' : Nat) (xs ys : j00) (hx : I6.R h [.slice a n c] xs) (hy : I6.R h [.slice a' n' c'] ys) :
  Tr Tryz.prog 18 #[.slice a n c, .slice a' n' c'] h fun v h' => v = .bool (decide (xs = ys)) ∧ h' = h := by
 obtain ⟨rfl, hn⟩ := Sl.len hx
 obtain ⟨rfl, hn'⟩ := Sl.len hy
 refine A3 (args := [.slice a xs.length c, .slice a' ys.length c']) (fn := Tryz.f18) rfl ?_
 refine And.intro (fun hc => ?_) (fun hc => ?_)
 ·refine And.intro (congrArg Value.bool ?_) rfl
  have : xs.length ≠ ys.length := by simp at hc; omega
  exact (decide_eq_false fun e => this (by rw [e])).symm
 have hlen : xs.length = ys.length := by simp at hc; omega
 refine Exists.intro { vars := [5], boxes := [], owns := [] } (Exists.intro (fun vs _ h' => ∃ k : Nat, k ≤ xs.length ∧ xs.take k = ys.take k ∧ vs = [.int .i64 k] ∧ h' = h) (Exists.intro (fun vs _ => match vs with | [.int _ j] => ((xs.length : Int) - j).toNat | _ => 0) ?_))
 refine And.intro ⟨0, by omega, by simp, rfl, rfl⟩ ?_
 rintro _ h1 ⟨k, hk, hall, ⟨⟩, rfl⟩
 refine And.intro (fun hc2 => ?_) (fun hc2 => ?_)
 ·have hlt : k < xs.length := by simpa using hc2
  obtain ⟨x, gx⟩ := g9 hlt
  obtain ⟨y, gy⟩ := g9 (l := ys) (k := k) (by omega)
  obtain ⟨b1, cs1, e1, i1⟩ := Sl.get hx gx (by decide)
  obtain ⟨b2, cs2, e2, i2⟩ := Sl.get hy gy (by decide)
  have hw := L2 hlt hn
  obtain ⟨rfl, _⟩ := i1
  obtain ⟨rfl, _⟩ := i2
  refine Or.inl (And.intro (And.intro (by kernel_rfl) (by kernel_rfl)) ?_)
  refine And.intro b1 (Exists.intro _ (And.intro e1 (And.intro b2 (Exists.intro _ (And.intro e2 ?_)))))
  refine And.intro (fun hc3 => ?_) (fun hc3 => ?_)
  ·refine And.intro (congrArg Value.bool ?_) rfl
   have hne : x ≠ y := B0i hc3
   exact (decide_eq_false fun e => hne (Option.some.inj (gx.symm.trans ((congrArg (fun l : j00 => l[k]?) e).trans gy)))).symm
  ·have heq : x = y := y0k hc3
   refine And.intro rfl (And.intro (by first | exact trivial | exact And.intro rfl trivial | exact And.intro rfl (And.intro rfl trivial) | exact And.intro rfl (And.intro rfl (And.intro rfl trivial)) | exact And.intro rfl (And.intro rfl (And.intro rfl (And.intro rfl trivial)))) (And.intro (by first | exact trivial | exact And.intro rfl trivial | exact And.intro rfl (And.intro rfl trivial) | exact And.intro rfl (And.intro rfl (And.intro rfl trivial)) | exact And.intro rfl (And.intro rfl (And.intro rfl (And.intro rfl trivial)))) (And.intro ?_ ?_)))
   ·refine ⟨k + 1, by omega, by rw [G8 gx, G8 gy, hall, heq], ?_, rfl⟩
    rw [← hw]
   ·show ((xs.length : Int) - IntKind.i64.wrap ((k : Int) + 1)).toNat < ((xs.length : Int) - (k : Int)).toNat
    omega
 ·have hk : k = xs.length := by simp at hc2; omega
  refine And.intro (congrArg Value.bool ?_) rfl
  refine (decide_eq_true ?_).symm
  subst hk
  rwa [List.take_length, hlen, List.take_length] at hall
end Go.Proofs.YtknoadmdnjaocaaGreat
namespace Go.Proofs.YtknoadmdnjaocaaGreat
open Go.H
set_option linter.unusedVariables false
set_option linter.unusedSimpArgs false
set_option maxRecDepth 10000
theorem A0j (h : Hp) (cs : List Value) (x : B0) (hx : N0.R h cs x) (hl : A0k x ≤ 1048576) :
  Tr Tryz.prog 165 #[.agg cs.toArray] h fun v h' => ∃ cs', v = .agg cs'.toArray ∧ New N0 h h' cs' x := by
 obtain ⟨x0, x1, x2, rfl, rfl, h0, h1, h2⟩ := H1 hx
 refine A3 (args := [.agg #[.int .i64 x0, .int .i64 x1, .int .i64 x2]]) (fn := Tryz.f165) rfl ?_
 exact Exists.intro _ (And.intro rfl (New.pair (New.int h0) (New.pair (New.int h1) (New.int h2))))
theorem O0h (h : Hp) (a : Option Addr) (n c : Nat) (xs : D0) (hx : O0.R h [.slice a n c] xs) (hl : c01 xs ≤ 1048576) :
  Tr Tryz.prog 79 #[.slice a n c] h fun v h' => New O0 h h' [v] xs := by
 obtain ⟨rfl, hn⟩ := Sl.len hx
 have hl0 : xs.length ≤ 1048576 := by simp only [c01] at hl; omega
 refine A3 (args := [.slice a xs.length c]) (fn := Tryz.f79) rfl ?_
 refine And.intro ?_ ?_
 ·show 0 ≤ (xs.length : Int) ∧ (xs.length : Int) ≤ xs.length ∧ (xs.length : Int) * 24 ≤ 140737488355328 ∧ (xs.length : Int) ≤ 9223372036854775807
  omega
 refine Exists.intro { vars := [4], boxes := [], owns := [0], kept := [0] } (Exists.intro (fun vs os h' => ∃ (k : Nat) (L : List (List Value)) (Bs : List (List Nat)), k ≤ xs.length ∧ vs = [.int .i64 k] ∧ os = [L01 L xs.length [.int .i64 0, .int .i64 0, .int .i64 0]] ∧ L.length = k ∧
  F3 (N0.W h') L (xs.take k) Bs ∧ Sub h h' ∧ R6 h Bs.flatten) (Exists.intro (fun vs _ => match vs with | [.int _ j] => ((xs.length : Int) - j).toNat | _ => 0) ?_))
 refine And.intro ⟨0, [], [], by omega, rfl, rfl, rfl, trivial, Sub.refl _, by simp [R6]⟩ ?_
 rintro _ _ h1 ⟨k, L, Bs, hk, ⟨⟩, ⟨⟩, hlk, hW, hsub, hfr⟩
 refine And.intro (fun hc2 => ?_) (fun hc2 => ?_)
 ·have hlt : k < xs.length := by simpa using hc2
  obtain ⟨x, gx⟩ := g9 hlt
  obtain ⟨b1, cs1, e1, i1⟩ := Sl.get (Sl.mono hsub hx) gx (by decide)
  have hw := L2 hlt hn
  obtain ⟨x0, x1, x2, rfl, rfl, g0, g1, g2⟩ := H1 i1
  refine And.intro b1 (Exists.intro _ (And.intro e1 ?_))
  refine Tr.mono (A0j h1 [.int .i64 x0, .int .i64 x1, .int .i64 x2] (x0, x1, x2) (D1 g0 g1 g2) (by simp only [A0k]; omega)) ?_
  rintro v h2 ⟨cs2, rfl, B, hB1, hB2, hB3⟩
  obtain ⟨x0z, x1z, x2z, rfl, ez, _, _, _⟩ := H1 (N0.toR hB1)
  refine And.intro ?_ ?_
  ·show 0 ≤ (k : Int) ∧ (k : Int) < ((L01 L xs.length [.int .i64 0, .int .i64 0, .int .i64 0]).length : Nat)
   rw [w06 (by omega)]; omega
  refine Exists.intro [.int .i64 0, .int .i64 0, .int .i64 0] (And.intro (V0a hlk hlt) ?_)
  refine And.intro rfl (And.intro (by first | exact trivial | exact And.intro rfl trivial | exact And.intro rfl (And.intro rfl trivial) | exact And.intro rfl (And.intro rfl (And.intro rfl trivial)) | exact And.intro rfl (And.intro rfl (And.intro rfl (And.intro rfl trivial)))) (And.intro (by first | exact trivial | exact And.intro rfl trivial | exact And.intro rfl (And.intro rfl trivial) | exact And.intro rfl (And.intro rfl (And.intro rfl trivial)) | exact And.intro rfl (And.intro rfl (And.intro rfl (And.intro rfl trivial)))) (And.intro ?_ ?_)))
  ·refine ⟨k + 1, L ++ [[.int .i64 x0z, .int .i64 x1z, .int .i64 x2z]], Bs ++ [B], by omega, by rw [← hw], ?_, by simp [hlk], ?_, hsub.trans hB3, ?_⟩
   ·show [(L01 L xs.length [.int .i64 0, .int .i64 0, .int .i64 0]).set k [.int .i64 x0z, .int .i64 x1z, .int .i64 x2z]] = _
    rw [W0a hlk hlt]
   ·rw [G8 gx]
    exact F3.snoc hB1 (r0d hW hB3)
   ·exact k09 hW hsub hfr hB2
  ·show ((xs.length : Int) - IntKind.i64.wrap ((k : Int) + 1)).toNat < ((xs.length : Int) - (k : Int)).toNat
   omega
 ·have hk : k = xs.length := by simp at hc2; omega
  intro v h' hf
  rw [X0a (by omega)] at hf
  rw [hk, List.take_length] at hW
  exact S0.fresh (r := N0) hf hW hsub hfr
theorem P0h (h : Hp) (cs : List Value) (x : j0) (hx : P1.R h cs x) (hl : R9 x ≤ 1048576) :
  Tr Tryz.prog 25 #[.agg cs.toArray] h fun v h' => ∃ cs', v = .agg cs'.toArray ∧ New P1 h h' cs' x := by
 obtain ⟨x0, x1, a2, n2, c2, x2, rfl, rfl, h0, h1, h2⟩ := K0 hx
 simp only [R9] at hl
 refine A3 (args := [.agg #[.int .i64 x0, .int .i64 x1, .slice a2 n2 c2]]) (fn := Tryz.f25) rfl ?_
 refine Tr.mono (O0h h a2 n2 c2 x2 (Sl.mono (Sub.refl _) h2) (by omega)) ?_
 rintro v2 k2 N2
 obtain ⟨a2z, n2z, c2z, ez2⟩ := Wp.slice_cell N2.r
 cases ez2
 exact Exists.intro _ (And.intro rfl (New.pair (New.int h0) (New.pair (New.int h1) N2)))
theorem Q0h (h : Hp) (cs : List Value) (x : T9) (hx : M4.R h cs x) (hl : W6 x ≤ 1048576) :
  Tr Tryz.prog 161 #[.agg cs.toArray] h fun v h' => ∃ cs', v = .agg cs'.toArray ∧ New M4 h h' cs' x := by
 obtain ⟨x0, x1_0, x1_1, a1_2, n1_2, c1_2, x1_2, rfl, rfl, h0, h1_0, h1_1, h1_2⟩ := L4 hx
 simp only [W6] at hl
 refine A3 (args := [.agg #[.string x0, .int .i64 x1_0, .int .i64 x1_1, .slice a1_2 n1_2 c1_2]]) (fn := Tryz.f161) rfl ?_
 refine Tr.mono (P0h h [.int .i64 x1_0, .int .i64 x1_1, .slice a1_2 n1_2 c1_2] (x1_0, x1_1, x1_2) (P1.mono (Sub.refl _) (z0 h1_0 h1_1 h1_2)) (by omega)) ?_
 rintro v1 k1 ⟨cs1, rfl, N1⟩
 obtain ⟨x1_0z, x1_1z, a1_2z, n1_2z, c1_2z, x1_2z, rfl, ez1, _, _, _⟩ := K0 N1.r
 exact Exists.intro _ (And.intro rfl (New.pair (New.str h0) N1))
theorem x0f (h : Hp) (a : Option Addr) (n c : Nat) (xs : n3) (hx : A4.R h [.slice a n c] xs) (hl : h9 xs ≤ 1048576) :
  Tr Tryz.prog 67 #[.slice a n c] h fun v h' => New A4 h h' [v] xs := by
 obtain ⟨rfl, hn⟩ := Sl.len hx
 have hl0 : xs.length ≤ 1048576 := by simp only [h9] at hl; omega
 refine A3 (args := [.slice a xs.length c]) (fn := Tryz.f67) rfl ?_
 refine And.intro ?_ ?_
 ·show 0 ≤ (xs.length : Int) ∧ (xs.length : Int) ≤ xs.length ∧ (xs.length : Int) * 56 ≤ 140737488355328 ∧ (xs.length : Int) ≤ 9223372036854775807
  omega
 refine Exists.intro { vars := [4], boxes := [], owns := [0], kept := [0] } (Exists.intro (fun vs os h' => ∃ (k : Nat) (L : List (List Value)) (Bs : List (List Nat)), k ≤ xs.length ∧ vs = [.int .i64 k] ∧ os = [L01 L xs.length [.string ⟨#[]⟩, .int .i64 0, .int .i64 0, .slice none 0 0]] ∧ L.length = k ∧
  F3 (M4.W h') L (xs.take k) Bs ∧ Sub h h' ∧ R6 h Bs.flatten) (Exists.intro (fun vs _ => match vs with | [.int _ j] => ((xs.length : Int) - j).toNat | _ => 0) ?_))
 refine And.intro ⟨0, [], [], by omega, rfl, rfl, rfl, trivial, Sub.refl _, by simp [R6]⟩ ?_
 rintro _ _ h1 ⟨k, L, Bs, hk, ⟨⟩, ⟨⟩, hlk, hW, hsub, hfr⟩
 refine And.intro (fun hc2 => ?_) (fun hc2 => ?_)
 ·have hlt : k < xs.length := by simpa using hc2
  obtain ⟨x, gx⟩ := g9 hlt
  obtain ⟨b1, cs1, e1, i1⟩ := Sl.get (Sl.mono hsub hx) gx (by decide)
  have hw := L2 hlt hn
  obtain ⟨x0, x1_0, x1_1, a1_2, n1_2, c1_2, x1_2, rfl, rfl, g0, g1_0, g1_1, g1_2⟩ := L4 i1
  refine And.intro b1 (Exists.intro _ (And.intro e1 ?_))
  refine Tr.mono (Q0h h1 [.string x0, .int .i64 x1_0, .int .i64 x1_1, .slice a1_2 n1_2 c1_2] (x0, (x1_0, x1_1, x1_2)) (M01 g0 g1_0 g1_1 g1_2) (by first | (have := C0i (m := W6) gx; simp only [h9] at hl; omega) | (show W6 _ ≤ _; simp only [W6]; omega))) ?_
  rintro v h2 ⟨cs2, rfl, B, hB1, hB2, hB3⟩
  obtain ⟨x0z, x1_0z, x1_1z, a1_2z, n1_2z, c1_2z, x1_2z, rfl, ez, _, _, _, _⟩ := L4 (M4.toR hB1)
  refine And.intro ?_ ?_
  ·show 0 ≤ (k : Int) ∧ (k : Int) < ((L01 L xs.length [.string ⟨#[]⟩, .int .i64 0, .int .i64 0, .slice none 0 0]).length : Nat)
   rw [w06 (by omega)]; omega
  refine Exists.intro [.string ⟨#[]⟩, .int .i64 0, .int .i64 0, .slice none 0 0] (And.intro (V0a hlk hlt) ?_)
  refine And.intro rfl (And.intro (by first | exact trivial | exact And.intro rfl trivial | exact And.intro rfl (And.intro rfl trivial) | exact And.intro rfl (And.intro rfl (And.intro rfl trivial)) | exact And.intro rfl (And.intro rfl (And.intro rfl (And.intro rfl trivial)))) (And.intro (by first | exact trivial | exact And.intro rfl trivial | exact And.intro rfl (And.intro rfl trivial) | exact And.intro rfl (And.intro rfl (And.intro rfl trivial)) | exact And.intro rfl (And.intro rfl (And.intro rfl (And.intro rfl trivial)))) (And.intro ?_ ?_)))
  ·refine ⟨k + 1, L ++ [[.string x0z, .int .i64 x1_0z, .int .i64 x1_1z, .slice a1_2z n1_2z c1_2z]], Bs ++ [B], by omega, by rw [← hw], ?_, by simp [hlk], ?_, hsub.trans hB3, ?_⟩
   ·show [(L01 L xs.length [.string ⟨#[]⟩, .int .i64 0, .int .i64 0, .slice none 0 0]).set k [.string x0z, .int .i64 x1_0z, .int .i64 x1_1z, .slice a1_2z n1_2z c1_2z]] = _
    rw [W0a hlk hlt]
   ·rw [G8 gx]
    exact F3.snoc hB1 (r0d hW hB3)
   ·exact k09 hW hsub hfr hB2
  ·show ((xs.length : Int) - IntKind.i64.wrap ((k : Int) + 1)).toNat < ((xs.length : Int) - (k : Int)).toNat
   omega
 ·have hk : k = xs.length := by simp at hc2; omega
  intro v h' hf
  rw [X0a (by omega)] at hf
  rw [hk, List.take_length] at hW
  exact S0.fresh (r := M4) hf hW hsub hfr
theorem l02 (h : Hp) (cs : List Value) (x : L1) (hx : I3.R h cs x) (hl : Y7 x ≤ 1048576) :
  Tr Tryz.prog 16 #[.agg cs.toArray] h fun v h' => ∃ cs', v = .agg cs'.toArray ∧ New I3 h h' cs' x := by
 obtain ⟨x0, a1, n1, c1, x1, rfl, rfl, h0, h1⟩ := H4 hx
 simp only [Y7] at hl
 refine A3 (args := [.agg #[.int .i64 x0, .slice a1 n1 c1]]) (fn := Tryz.f16) rfl ?_
 refine Tr.mono (x0f h a1 n1 c1 x1 (Sl.mono (Sub.refl _) h1) (by omega)) ?_
 rintro v1 k1 N1
 obtain ⟨a1z, n1z, c1z, ez1⟩ := Wp.slice_cell N1.r
 cases ez1
 exact Exists.intro _ (And.intro rfl (New.pair (New.int h0) N1))
end Go.Proofs.YtknoadmdnjaocaaGreat
namespace Go.Proofs.YtknoadmdnjaocaaGreat
open Go.H
set_option linter.unusedVariables false
set_option maxRecDepth 10000
theorem R0h (n : Nat) (acc : List UInt8) : ∀ f, n = 0 → q09 f n acc = acc
 | 0, _ => rfl
 | f + 1, h => by simp [q09, h]
theorem S05 (h : Hp) (k : Int) (hk : 0 ≤ k ∧ k ≤ 4611686018427387904) :
  Tr Tryz.prog 73 #[.int .i64 k] h fun v h' => v = .string (A5 k) ∧ h' = h := by
 refine Tr.forget ?_
 refine A3 (args := [.int .i64 k]) (fn := Tryz.f73) rfl ?_
 refine And.intro (fun hc => ?_) (fun hc => ?_)
 ·have : k = 0 := by simp at hc; omega
  subst this
  exact And.intro rfl (Sub.refl _)
 have hk0 : 0 < k := by simp at hc; omega
 refine Exists.intro { vars := [0, 3], boxes := [], owns := [] } (Exists.intro (fun vs _ h' => ∃ (m f : Nat) (acc : List UInt8), m ≤ 4611686018427387904 ∧ m < 10 ^ f ∧ f ≤ 20 ∧ q09 f m acc = q09 20 k.toNat [] ∧ acc.length ≤ 20 - f ∧ vs = [.int .i64 m, .string ⟨acc.toArray⟩] ∧ Sub h h') (Exists.intro (fun vs _ => match vs with | [.int _ j, _] => j.toNat | _ => 0) ?_))
 refine And.intro ⟨k.toNat, 20, [], by omega, by omega, by omega, rfl, by simp, by rw [show ((k.toNat : Nat) : Int) = k from by omega], Sub.refl _⟩ ?_
 rintro _ _ h1 ⟨m, f, acc, hmb, hm, hf, hd, hl, ⟨⟩, hs⟩
 refine And.intro (fun hc2 => ?_) (fun hc2 => ?_)
 ·have hm0 : m ≠ 0 := by rintro rfl; simp at hc2
  refine And.intro (by decide) ?_
  refine Exists.intro [_] (And.intro rfl ?_)
  have hX : IntKind.u8.wrap (IntKind.i64.wrap (48 + (m : Int).tmod 10)) = ((48 + m % 10 : Nat) : Int) := by
   rw [show (10 : Int) = ((10 : Nat) : Int) from rfl, ← Int.ofNat_tmod]
   simp [IntKind.wrap, IntKind.signed, IntKind.bits]
   omega
  have hS : strOfNums [IntKind.u8.wrap (IntKind.i64.wrap (48 + (m : Int).tmod 10))] ++ ⟨acc.toArray⟩ = ⟨(UInt8.ofNat (48 + m % 10) :: acc).toArray⟩ := by
   rw [hX, show strOfNums [((48 + m % 10 : Nat) : Int)] = ⟨#[UInt8.ofNat (48 + m % 10)]⟩ from by simp only [strOfNums, List.map_cons, List.map_nil, Int.toNat_natCast]]
   generalize UInt8.ofNat (48 + m % 10) = d
   apply ByteArray.ext
   rw [ByteArray.data_append]
   simp
  obtain ⟨f, rfl⟩ : ∃ f', f = f' + 1 := by
   cases f with
   | zero => simp at hm; omega
   | succ f => exact ⟨f, rfl⟩
  have hq : (m : Int).tdiv 10 = ((m / 10 : Nat) : Int) := by rw [show (10 : Int) = ((10 : Nat) : Int) from rfl, ← Int.ofNat_tdiv]
  refine And.intro ?_ ?_
  ·show (strOfNums _).size + acc.toArray.size ≤ 9223372036854775807
   simp only [strOfNums_size, List.size_toArray, List.length_singleton]
   omega
  have hw : IntKind.i64.wrap ((m : Int).tdiv 10) = ((m / 10 : Nat) : Int) := by rw [hq]; exact w64 (by omega) (by omega)
  refine And.intro (by decide) ?_
  refine And.intro rfl (And.intro (by first | exact trivial | exact And.intro rfl trivial | exact And.intro rfl (And.intro rfl trivial) | exact And.intro rfl (And.intro rfl (And.intro rfl trivial)) | exact And.intro rfl (And.intro rfl (And.intro rfl (And.intro rfl trivial)))) (And.intro (by first | exact trivial | exact And.intro rfl trivial | exact And.intro rfl (And.intro rfl trivial) | exact And.intro rfl (And.intro rfl (And.intro rfl trivial)) | exact And.intro rfl (And.intro rfl (And.intro rfl (And.intro rfl trivial)))) (And.intro ?_ ?_)))
  ·refine ⟨m / 10, f, UInt8.ofNat (48 + m % 10) :: acc, by omega, ?_, by omega, ?_, by simp; omega, ?_, hs⟩
   ·rw [Nat.pow_succ] at hm
    omega
   ·rw [← hd]
    simp only [q09, if_neg hm0]
   ·rw [← hw, ← hS]
  ·show (IntKind.i64.wrap ((m : Int).tdiv 10)).toNat < ((m : Int)).toNat
   rw [hw]
   omega
 ·have hm0 : m = 0 := by simp at hc2; omega
  refine And.intro ?_ ?_
  ·show 1 + acc.toArray.size ≤ 9223372036854775807
   simp only [List.size_toArray]
   omega
  refine And.intro (congrArg Value.string ?_) hs
  rw [R0h m acc f hm0] at hd
  unfold A5
  rw [if_neg (by omega), ← hd]
  apply ByteArray.ext
  simp
end Go.Proofs.YtknoadmdnjaocaaGreat
namespace Go.Proofs.YtknoadmdnjaocaaGreat
open Go.H
set_option linter.unusedVariables false
set_option linter.unusedSimpArgs false
set_option maxRecDepth 10000
theorem q0e (h : Hp) (a : Option Addr) (n c : Nat) (xs : D0) (B : List Nat) (k : Int) (hx : O0.W h [.slice a n c] xs B) (hB : B.Nodup) (hk : 0 ≤ k ∧ k + (j04 xs : Nat) ≤ 4611686018427387904) :
  Tr Tryz.prog 86 #[.slice a n c, .int .i64 k] h fun v h' => v = .int .i64 (k + (j04 xs : Nat)) ∧ O0.W h' [.slice a n c] (o03 xs k) B ∧ ∀ y, y ∉ B → h' y = h y := by
 obtain ⟨rfl, hn⟩ := Sl.len (O0.toR hx)
 refine A3 (args := [.slice a xs.length c, .int .i64 k]) (fn := Tryz.f86) rfl ?_
 refine Exists.intro { vars := [1, 5], boxes := [], owns := [] } (Exists.intro (fun vs _ h' => ∃ (j : Nat) (kk : Int), kk = k + (Y4 V6 (xs.take j) : Nat) ∧ j ≤ xs.length ∧ vs = [.int .i64 kk, .int .i64 j] ∧ O0.W h' [.slice a xs.length c] (t9 b01 V6 xs k j) B ∧ ∀ y, y ∉ B → h' y = h y) (Exists.intro (fun vs _ => match vs with | [_, .int _ j] => ((xs.length : Int) - j).toNat | _ => 0) ?_))
 refine And.intro ⟨0, k, by simp [Y4], by omega, rfl, by rw [t07]; exact hx, fun _ _ => rfl⟩ ?_
 rintro _ _ h1 ⟨j, kk, hkk, hj, ⟨⟩, W0, F0⟩
 refine And.intro (fun hc2 => ?_) (fun hc2 => ?_)
 ·have hlt : j < xs.length := by simpa using hc2
  obtain ⟨x, gx⟩ := g9 hlt
  have G0 := o09 (mk := b01) (c := V6) (k := k) gx
  have hs1 : Y4 V6 (xs.take (j + 1)) = Y4 V6 (xs.take j) + V6 x := L02 gx
  have hs2 := M02 V6 xs (j + 1)
  have hw := L2 hlt hn
  have hkx : 0 ≤ kk ∧ kk + (V6 x : Nat) ≤ 4611686018427387904 := by
   have : (j04 xs : Int) = (Y4 V6 xs : Nat) := rfl
   omega
  obtain ⟨x0, x1, x2⟩ := x
  simp only [V6] at hkx
  obtain ⟨b0, cs0, Bi0, bb0, of0, cur0, ty0, ea0, e0, w0, hb0, hin0, hbB0, hbn0, hsub0, hnd0, upd0, st0⟩ := Wp.at W0 hB G0 (by decide)
  cases ea0
  obtain ⟨x0q0, x1q0, x2q0, rfl, ex0, rfl, g0q0, g1q0, g2q0⟩ := v07 w0
  cases ex0
  refine And.intro b0 ?_
  refine z8.mk (Int.natCast_nonneg j) hb0 (hin0 0 (by decide)) (by rw [Int.toNat_natCast]; rfl) trivial ?_
  have W1 : O0.W (h1.set bb0 (.cells (cur0.setIfInBounds (of0 + (j * N0.sz + 0)) (.int .i64 (kk))) ty0 (0, 0))) [.slice (some ⟨bb0, of0, none⟩) xs.length c] ((t9 b01 V6 xs k j).set j (kk, x1, x2)) B := st0 0 (.int .i64 (kk)) (kk, x1, x2) (by decide) fun h' hf => n03 (E0i (by  omega) (by  omega)) g1q0 g2q0
  have F1 : ∀ y, y ∉ B → (h1.set bb0 (.cells (cur0.setIfInBounds (of0 + (j * N0.sz + 0)) (.int .i64 (kk))) ty0 (0, 0))) y = h y := fun y hy => (Hp.set_other _ _ fun e => hy (by rw [e]; exact hbB0)).trans (F0 y hy)
  generalize (h1.set bb0 (.cells (cur0.setIfInBounds (of0 + (j * N0.sz + 0)) (.int .i64 (kk))) ty0 (0, 0))) = kst0 at W1 F1 ⊢
  have ek1 : IntKind.i64.wrap (kk + 1) = kk + (1) := by rw [w64 (by  omega) (by  omega)] <;> omega
  have G1 : ((t9 b01 V6 xs k j).set j (kk, x1, x2))[j]? = some (kk, x1, x2) := by rw [List.getElem?_set_self (by rw [V00]; exact hlt)]
  obtain ⟨b1, cs1, Bi1, bb1, of1, cur1, ty1, ea1, e1, w1, hb1, hin1, hbB1, hbn1, hsub1, hnd1, upd1, st1⟩ := Wp.at W1 hB G1 (by decide)
  cases ea1
  obtain ⟨x0q1, x1q1, x2q1, rfl, ex1, rfl, g0q1, g1q1, g2q1⟩ := v07 w1
  cases ex1
  refine And.intro b1 ?_
  refine z8.mk (Int.natCast_nonneg j) hb1 (hin1 1 (by decide)) (by rw [Int.toNat_natCast]; rfl) trivial ?_
  have W2 : O0.W (kst0.set bb0 (.cells (cur1.setIfInBounds (of0 + (j * N0.sz + 1)) (.int .i64 (IntKind.i64.wrap (kk + 1)))) ty1 (0, 0))) [.slice (some ⟨bb0, of0, none⟩) xs.length c] ((t9 b01 V6 xs k j).set j (kk, IntKind.i64.wrap (kk + 1), x2)) B := by have := st1 1 (.int .i64 (IntKind.i64.wrap (kk + 1))) (kk, IntKind.i64.wrap (kk + 1), x2) (by decide) fun h' hf => n03 g0q1 (E0i (by rw [ek1]; omega) (by rw [ek1]; omega)) g2q1; rwa [List.set_set] at this
  have F2 : ∀ y, y ∉ B → (kst0.set bb0 (.cells (cur1.setIfInBounds (of0 + (j * N0.sz + 1)) (.int .i64 (IntKind.i64.wrap (kk + 1)))) ty1 (0, 0))) y = h y := fun y hy => (Hp.set_other _ _ fun e => hy (by rw [e]; exact hbB1)).trans (F1 y hy)
  generalize (kst0.set bb0 (.cells (cur1.setIfInBounds (of0 + (j * N0.sz + 1)) (.int .i64 (IntKind.i64.wrap (kk + 1)))) ty1 (0, 0))) = kst1 at W2 F2 ⊢
  have ek2 : IntKind.i64.wrap (IntKind.i64.wrap (kk + 1) + 1) = kk + (1 + 1) := by rw [w64 (by rw [ek1]; omega) (by rw [ek1]; omega)] <;> rw [ek1] <;> omega
  have G2 : ((t9 b01 V6 xs k j).set j (kk, IntKind.i64.wrap (kk + 1), x2))[j]? = some (kk, IntKind.i64.wrap (kk + 1), x2) := by rw [List.getElem?_set_self (by rw [V00]; exact hlt)]
  obtain ⟨b2, cs2, Bi2, bb2, of2, cur2, ty2, ea2, e2, w2, hb2, hin2, hbB2, hbn2, hsub2, hnd2, upd2, st2⟩ := Wp.at W2 hB G2 (by decide)
  cases ea2
  obtain ⟨x0q2, x1q2, x2q2, rfl, ex2, rfl, g0q2, g1q2, g2q2⟩ := v07 w2
  cases ex2
  refine And.intro b2 ?_
  refine z8.mk (Int.natCast_nonneg j) hb2 (hin2 2 (by decide)) (by rw [Int.toNat_natCast]; rfl) trivial ?_
  have W3 : O0.W (kst1.set bb0 (.cells (cur2.setIfInBounds (of0 + (j * N0.sz + 2)) (.int .i64 (IntKind.i64.wrap (IntKind.i64.wrap (kk + 1) + 1)))) ty2 (0, 0))) [.slice (some ⟨bb0, of0, none⟩) xs.length c] ((t9 b01 V6 xs k j).set j (kk, IntKind.i64.wrap (kk + 1), IntKind.i64.wrap (IntKind.i64.wrap (kk + 1) + 1))) B := by have := st2 2 (.int .i64 (IntKind.i64.wrap (IntKind.i64.wrap (kk + 1) + 1))) (kk, IntKind.i64.wrap (kk + 1), IntKind.i64.wrap (IntKind.i64.wrap (kk + 1) + 1)) (by decide) fun h' hf => n03 g0q2 g1q2 (E0i (by rw [ek2]; omega) (by rw [ek2]; omega)); rwa [List.set_set] at this
  have F3 : ∀ y, y ∉ B → (kst1.set bb0 (.cells (cur2.setIfInBounds (of0 + (j * N0.sz + 2)) (.int .i64 (IntKind.i64.wrap (IntKind.i64.wrap (kk + 1) + 1)))) ty2 (0, 0))) y = h y := fun y hy => (Hp.set_other _ _ fun e => hy (by rw [e]; exact hbB2)).trans (F2 y hy)
  generalize (kst1.set bb0 (.cells (cur2.setIfInBounds (of0 + (j * N0.sz + 2)) (.int .i64 (IntKind.i64.wrap (IntKind.i64.wrap (kk + 1) + 1)))) ty2 (0, 0))) = kst2 at W3 F3 ⊢
  have ek3 : IntKind.i64.wrap (IntKind.i64.wrap (IntKind.i64.wrap (kk + 1) + 1) + 1) = kk + (1 + 1 + 1) := by rw [w64 (by rw [ek2]; omega) (by rw [ek2]; omega)] <;> rw [ek2] <;> omega
  have em : (kk, IntKind.i64.wrap (kk + 1), IntKind.i64.wrap (IntKind.i64.wrap (kk + 1) + 1)) = b01 (x0, x1, x2) kk := by
   simp only [b01, V6]
   exact (congr (congrArg Prod.mk rfl) (congr (congrArg Prod.mk (by rw [ek1] <;> first | rfl | omega | (simp; omega))) (by rw [ek2] <;> first | rfl | omega | (simp; omega))))
  have eL : (t9 b01 V6 xs k j).set j (kk, IntKind.i64.wrap (kk + 1), IntKind.i64.wrap (IntKind.i64.wrap (kk + 1) + 1)) = t9 b01 V6 xs k (j + 1) := by rw [em]; rw [hkk]; exact p09 gx
  rw [eL] at W3
  refine And.intro rfl (And.intro (by first | exact trivial | exact And.intro rfl trivial | exact And.intro rfl (And.intro rfl trivial) | exact And.intro rfl (And.intro rfl (And.intro rfl trivial)) | exact And.intro rfl (And.intro rfl (And.intro rfl (And.intro rfl trivial)))) (And.intro (by first | exact trivial | exact And.intro rfl trivial | exact And.intro rfl (And.intro rfl trivial) | exact And.intro rfl (And.intro rfl (And.intro rfl trivial)) | exact And.intro rfl (And.intro rfl (And.intro rfl (And.intro rfl trivial)))) (And.intro ?_ ?_)))
  ·refine ⟨j + 1, IntKind.i64.wrap (IntKind.i64.wrap (IntKind.i64.wrap (kk + 1) + 1) + 1), ?_, by omega, by rw [← hw], W3, F3⟩
   rw [ek3]; rw [hs1]; simp only [V6]; omega
  ·show ((xs.length : Int) - IntKind.i64.wrap ((j : Int) + 1)).toNat < ((xs.length : Int) - (j : Int)).toNat
   omega
 ·have hj' : j = xs.length := by simp at hc2; omega
  subst hj'
  rw [List.take_length] at hkk
  rw [n09] at W0
  exact And.intro (congrArg (Value.int .i64) hkk) (And.intro W0 F0)
theorem C0c (h : Hp) (a : Option Addr) (n c : Nat) (xs : n3) (B : List Nat) (k : Int) (hx : A4.W h [.slice a n c] xs B) (hB : B.Nodup) (hk : 0 ≤ k ∧ k + (L04 xs : Nat) ≤ 4611686018427387904) :
  Tr Tryz.prog 72 #[.slice a n c, .int .i64 k] h fun v h' => v = .int .i64 (k + (L04 xs : Nat)) ∧ A4.W h' [.slice a n c] (z06 xs k) B ∧ ∀ y, y ∉ B → h' y = h y := by
 obtain ⟨rfl, hn⟩ := Sl.len (A4.toR hx)
 refine A3 (args := [.slice a xs.length c, .int .i64 k]) (fn := Tryz.f72) rfl ?_
 refine Exists.intro { vars := [1, 5], boxes := [], owns := [] } (Exists.intro (fun vs _ h' => ∃ (j : Nat) (kk : Int), kk = k + (Y4 d5 (xs.take j) : Nat) ∧ j ≤ xs.length ∧ vs = [.int .i64 kk, .int .i64 j] ∧ A4.W h' [.slice a xs.length c] (t9 Q8 d5 xs k j) B ∧ ∀ y, y ∉ B → h' y = h y) (Exists.intro (fun vs _ => match vs with | [_, .int _ j] => ((xs.length : Int) - j).toNat | _ => 0) ?_))
 refine And.intro ⟨0, k, by simp [Y4], by omega, rfl, by rw [t07]; exact hx, fun _ _ => rfl⟩ ?_
 rintro _ _ h1 ⟨j, kk, hkk, hj, ⟨⟩, W0, F0⟩
 refine And.intro (fun hc2 => ?_) (fun hc2 => ?_)
 ·have hlt : j < xs.length := by simpa using hc2
  obtain ⟨x, gx⟩ := g9 hlt
  have G0 := o09 (mk := Q8) (c := d5) (k := k) gx
  have hs1 : Y4 d5 (xs.take (j + 1)) = Y4 d5 (xs.take j) + d5 x := L02 gx
  have hs2 := M02 d5 xs (j + 1)
  have hw := L2 hlt hn
  have hkx : 0 ≤ kk ∧ kk + (d5 x : Nat) ≤ 4611686018427387904 := by
   have : (L04 xs : Int) = (Y4 d5 xs : Nat) := rfl
   omega
  obtain ⟨x0, ⟨x1_0, x1_1, x1_2⟩⟩ := x
  simp only [d5, K04] at hkx
  obtain ⟨b0, cs0, Bi0, bb0, of0, cur0, ty0, ea0, e0, w0, hb0, hin0, hbB0, hbn0, hsub0, hnd0, upd0, st0⟩ := Wp.at W0 hB G0 (by decide)
  cases ea0
  obtain ⟨x0q0, x1_0q0, x1_1q0, a1_2q0, n1_2q0, c1_2q0, x1_2q0, B1_2q0, rfl, ex0, rfl, g0q0, g1_0q0, g1_1q0, g1_2q0⟩ := p03 w0
  cases ex0
  refine Tr.val (S05 _ (kk) ⟨by omega, by omega⟩) ?_
  refine And.intro b0 ?_
  refine z8.mk (Int.natCast_nonneg j) hb0 (hin0 0 (by decide)) (by rw [Int.toNat_natCast]; rfl) trivial ?_
  have W1 : A4.W (h1.set bb0 (.cells (cur0.setIfInBounds (of0 + (j * M4.sz + 0)) (.string (A5 (kk)))) ty0 (0, 0))) [.slice (some ⟨bb0, of0, none⟩) xs.length c] ((t9 Q8 d5 xs k j).set j (A5 (kk), (x1_0, x1_1, x1_2))) B := st0 0 (.string (A5 (kk))) (A5 (kk), (x1_0, x1_1, x1_2)) (by decide) fun h' hf => g02 (r09 _) g1_0q0 g1_1q0 (O0.frame g1_2q0 fun y hy => hf y (by simp [hy]))
  have F1 : ∀ y, y ∉ B → (h1.set bb0 (.cells (cur0.setIfInBounds (of0 + (j * M4.sz + 0)) (.string (A5 (kk)))) ty0 (0, 0))) y = h y := fun y hy => (Hp.set_other _ _ fun e => hy (by rw [e]; exact hbB0)).trans (F0 y hy)
  generalize (h1.set bb0 (.cells (cur0.setIfInBounds (of0 + (j * M4.sz + 0)) (.string (A5 (kk)))) ty0 (0, 0))) = kst0 at W1 F1 ⊢
  have ek1 : IntKind.i64.wrap (kk + 1) = kk + (1) := by rw [w64 (by  omega) (by  omega)] <;> omega
  have G1 : ((t9 Q8 d5 xs k j).set j (A5 (kk), (x1_0, x1_1, x1_2)))[j]? = some (A5 (kk), (x1_0, x1_1, x1_2)) := by rw [List.getElem?_set_self (by rw [V00]; exact hlt)]
  obtain ⟨b1, cs1, Bi1, bb1, of1, cur1, ty1, ea1, e1, w1, hb1, hin1, hbB1, hbn1, hsub1, hnd1, upd1, st1⟩ := Wp.at W1 hB G1 (by decide)
  cases ea1
  obtain ⟨x0q1, x1_0q1, x1_1q1, a1_2q1, n1_2q1, c1_2q1, x1_2q1, B1_2q1, rfl, ex1, rfl, g0q1, g1_0q1, g1_1q1, g1_2q1⟩ := p03 w1
  cases ex1
  refine And.intro b1 ?_
  refine z8.mk (Int.natCast_nonneg j) hb1 (hin1 1 (by decide)) (by rw [Int.toNat_natCast]; rfl) trivial ?_
  have W2 : A4.W (kst0.set bb0 (.cells (cur1.setIfInBounds (of0 + (j * M4.sz + 1)) (.int .i64 (IntKind.i64.wrap (kk + 1)))) ty1 (0, 0))) [.slice (some ⟨bb0, of0, none⟩) xs.length c] ((t9 Q8 d5 xs k j).set j (A5 (kk), (IntKind.i64.wrap (kk + 1), x1_1, x1_2))) B := by have := st1 1 (.int .i64 (IntKind.i64.wrap (kk + 1))) (A5 (kk), (IntKind.i64.wrap (kk + 1), x1_1, x1_2)) (by decide) fun h' hf => g02 g0q1 (E0i (by rw [ek1]; omega) (by rw [ek1]; omega)) g1_1q1 (O0.frame g1_2q1 fun y hy => hf y (by simp [hy])); rwa [List.set_set] at this
  have F2 : ∀ y, y ∉ B → (kst0.set bb0 (.cells (cur1.setIfInBounds (of0 + (j * M4.sz + 1)) (.int .i64 (IntKind.i64.wrap (kk + 1)))) ty1 (0, 0))) y = h y := fun y hy => (Hp.set_other _ _ fun e => hy (by rw [e]; exact hbB1)).trans (F1 y hy)
  generalize (kst0.set bb0 (.cells (cur1.setIfInBounds (of0 + (j * M4.sz + 1)) (.int .i64 (IntKind.i64.wrap (kk + 1)))) ty1 (0, 0))) = kst1 at W2 F2 ⊢
  have ek2 : IntKind.i64.wrap (IntKind.i64.wrap (kk + 1) + 1) = kk + (1 + 1) := by rw [w64 (by rw [ek1]; omega) (by rw [ek1]; omega)] <;> rw [ek1] <;> omega
  have G2 : ((t9 Q8 d5 xs k j).set j (A5 (kk), (IntKind.i64.wrap (kk + 1), x1_1, x1_2)))[j]? = some (A5 (kk), (IntKind.i64.wrap (kk + 1), x1_1, x1_2)) := by rw [List.getElem?_set_self (by rw [V00]; exact hlt)]
  obtain ⟨b2, cs2, Bi2, bb2, of2, cur2, ty2, ea2, e2, w2, hb2, hin2, hbB2, hbn2, hsub2, hnd2, upd2, st2⟩ := Wp.at W2 hB G2 (by decide)
  cases ea2
  obtain ⟨x0q2, x1_0q2, x1_1q2, a1_2q2, n1_2q2, c1_2q2, x1_2q2, B1_2q2, rfl, ex2, rfl, g0q2, g1_0q2, g1_1q2, g1_2q2⟩ := p03 w2
  cases ex2
  refine And.intro b2 ?_
  refine z8.mk (Int.natCast_nonneg j) hb2 (hin2 2 (by decide)) (by rw [Int.toNat_natCast]; rfl) trivial ?_
  have W3 : A4.W (kst1.set bb0 (.cells (cur2.setIfInBounds (of0 + (j * M4.sz + 2)) (.int .i64 (IntKind.i64.wrap (IntKind.i64.wrap (kk + 1) + 1)))) ty2 (0, 0))) [.slice (some ⟨bb0, of0, none⟩) xs.length c] ((t9 Q8 d5 xs k j).set j (A5 (kk), (IntKind.i64.wrap (kk + 1), IntKind.i64.wrap (IntKind.i64.wrap (kk + 1) + 1), x1_2))) B := by have := st2 2 (.int .i64 (IntKind.i64.wrap (IntKind.i64.wrap (kk + 1) + 1))) (A5 (kk), (IntKind.i64.wrap (kk + 1), IntKind.i64.wrap (IntKind.i64.wrap (kk + 1) + 1), x1_2)) (by decide) fun h' hf => g02 g0q2 g1_0q2 (E0i (by rw [ek2]; omega) (by rw [ek2]; omega)) (O0.frame g1_2q2 fun y hy => hf y (by simp [hy])); rwa [List.set_set] at this
  have F3 : ∀ y, y ∉ B → (kst1.set bb0 (.cells (cur2.setIfInBounds (of0 + (j * M4.sz + 2)) (.int .i64 (IntKind.i64.wrap (IntKind.i64.wrap (kk + 1) + 1)))) ty2 (0, 0))) y = h y := fun y hy => (Hp.set_other _ _ fun e => hy (by rw [e]; exact hbB2)).trans (F2 y hy)
  generalize (kst1.set bb0 (.cells (cur2.setIfInBounds (of0 + (j * M4.sz + 2)) (.int .i64 (IntKind.i64.wrap (IntKind.i64.wrap (kk + 1) + 1)))) ty2 (0, 0))) = kst2 at W3 F3 ⊢
  have ek3 : IntKind.i64.wrap (IntKind.i64.wrap (IntKind.i64.wrap (kk + 1) + 1) + 1) = kk + (1 + 1 + 1) := by rw [w64 (by rw [ek2]; omega) (by rw [ek2]; omega)] <;> rw [ek2] <;> omega
  have G3 : ((t9 Q8 d5 xs k j).set j (A5 (kk), (IntKind.i64.wrap (kk + 1), IntKind.i64.wrap (IntKind.i64.wrap (kk + 1) + 1), x1_2)))[j]? = some (A5 (kk), (IntKind.i64.wrap (kk + 1), IntKind.i64.wrap (IntKind.i64.wrap (kk + 1) + 1), x1_2)) := by rw [List.getElem?_set_self (by rw [V00]; exact hlt)]
  obtain ⟨b3, cs3, Bi3, bb3, of3, cur3, ty3, ea3, e3, w3, hb3, hin3, hbB3, hbn3, hsub3, hnd3, upd3, st3⟩ := Wp.at W3 hB G3 (by decide)
  cases ea3
  obtain ⟨x0q3, x1_0q3, x1_1q3, a1_2q3, n1_2q3, c1_2q3, x1_2q3, B1_2q3, rfl, ex3, rfl, g0q3, g1_0q3, g1_1q3, g1_2q3⟩ := p03 w3
  cases ex3
  refine And.intro b3 (Exists.intro _ (And.intro e3 ?_))
  have hn3 : Bi3.Nodup := by first | exact hnd3 | (have := hnd3; simp only [List.nil_append, List.append_nil, List.nodup_append] at this; grind)
  refine Tr.mono (q0e _ a1_2q3 n1_2q3 c1_2q3 (x1_2) Bi3 (IntKind.i64.wrap (IntKind.i64.wrap (IntKind.i64.wrap (kk + 1) + 1) + 1)) g1_2q3 hn3 ⟨by rw [ek3]; omega, by rw [ek3]; omega⟩) ?_
  rintro v3 h3m ⟨rfl, wm3, fm3⟩
  have W4 : A4.W h3m [.slice (some ⟨bb0, of0, none⟩) xs.length c] ((t9 Q8 d5 xs k j).set j (A5 (kk), (IntKind.i64.wrap (kk + 1), IntKind.i64.wrap (IntKind.i64.wrap (kk + 1) + 1), (o03 x1_2 (IntKind.i64.wrap (IntKind.i64.wrap (IntKind.i64.wrap (kk + 1) + 1) + 1)))))) B := by have := upd3 h3m (A5 (kk), (IntKind.i64.wrap (kk + 1), IntKind.i64.wrap (IntKind.i64.wrap (kk + 1) + 1), (o03 x1_2 (IntKind.i64.wrap (IntKind.i64.wrap (IntKind.i64.wrap (kk + 1) + 1) + 1))))) (fun y hy => fm3 y fun hy2 => hy (by simp [hy2])) (g02 g0q3 g1_0q3 g1_1q3 wm3); rwa [List.set_set] at this
  have F4 : ∀ y, y ∉ B → h3m y = h y := fun y hy => (fm3 y fun hy2 => hy (hsub3 y (by simp [hy2]))).trans (F3 y hy)
  have ek4 : (IntKind.i64.wrap (IntKind.i64.wrap (IntKind.i64.wrap (kk + 1) + 1) + 1) + (j04 x1_2 : Nat) : Int) = kk + (1 + 1 + 1 + (j04 x1_2 : Nat)) := by rw [ek3]; omega
  have em : (A5 (kk), (IntKind.i64.wrap (kk + 1), IntKind.i64.wrap (IntKind.i64.wrap (kk + 1) + 1), (o03 x1_2 (IntKind.i64.wrap (IntKind.i64.wrap (IntKind.i64.wrap (kk + 1) + 1) + 1))))) = Q8 (x0, (x1_0, x1_1, x1_2)) kk := by
   simp only [Q8, d5, a0g, K04]
   exact (congr (congrArg Prod.mk rfl) (congr (congrArg Prod.mk (by rw [ek1] <;> first | rfl | omega | (simp; omega))) (congr (congrArg Prod.mk (by rw [ek2] <;> first | rfl | omega | (simp; omega))) (congrArg (o03 x1_2) (by rw [ek3] <;> first | rfl | omega | (simp; omega))))))
  have eL : (t9 Q8 d5 xs k j).set j (A5 (kk), (IntKind.i64.wrap (kk + 1), IntKind.i64.wrap (IntKind.i64.wrap (kk + 1) + 1), (o03 x1_2 (IntKind.i64.wrap (IntKind.i64.wrap (IntKind.i64.wrap (kk + 1) + 1) + 1))))) = t9 Q8 d5 xs k (j + 1) := by rw [em]; rw [hkk]; exact p09 gx
  rw [eL] at W4
  refine And.intro rfl (And.intro (by first | exact trivial | exact And.intro rfl trivial | exact And.intro rfl (And.intro rfl trivial) | exact And.intro rfl (And.intro rfl (And.intro rfl trivial)) | exact And.intro rfl (And.intro rfl (And.intro rfl (And.intro rfl trivial)))) (And.intro (by first | exact trivial | exact And.intro rfl trivial | exact And.intro rfl (And.intro rfl trivial) | exact And.intro rfl (And.intro rfl (And.intro rfl trivial)) | exact And.intro rfl (And.intro rfl (And.intro rfl (And.intro rfl trivial)))) (And.intro ?_ ?_)))
  ·refine ⟨j + 1, IntKind.i64.wrap (IntKind.i64.wrap (IntKind.i64.wrap (kk + 1) + 1) + 1) + (j04 x1_2 : Nat), ?_, by omega, by rw [← hw], W4, F4⟩
   rw [ek4]; rw [hs1]; simp only [d5, K04]; omega
  ·show ((xs.length : Int) - IntKind.i64.wrap ((j : Int) + 1)).toNat < ((xs.length : Int) - (j : Int)).toNat
   omega
 ·have hj' : j = xs.length := by simp at hc2; omega
  subst hj'
  rw [List.take_length] at hkk
  rw [n09] at W0
  exact And.intro (congrArg (Value.int .i64) hkk) (And.intro W0 F0)
theorem B0a (h : Hp) (cs : List Value) (x : L1) (B : List Nat) (k : Int) (hx : I3.W h cs x B) (hB : B.Nodup) (hk : 0 ≤ k ∧ k + (C00 x : Nat) ≤ 4611686018427387904) :
  Tr Tryz.prog 20 #[.agg cs.toArray, .int .i64 k] h fun v h' => v = .int .i64 (k + (C00 x : Nat)) ∧ I3.W h' cs (w07 x k) B ∧ ∀ y, y ∉ B → h' y = h y := by
 obtain ⟨x0, a1, n1, c1, x1, B1, rfl, rfl, rfl, h0, h1⟩ := i0c hx
 simp only [C00] at hk
 refine A3 (args := [.agg #[.int .i64 x0, .slice a1 n1 c1], .int .i64 k]) (fn := Tryz.f20) rfl ?_
 have hn1 : B.Nodup := by first | exact hB | (have := hB; simp only [List.nil_append, List.append_nil, List.nodup_append] at this; grind)
 refine Tr.mono (C0c _ a1 n1 c1 x1 B (k) h1 hn1 ⟨by omega, by omega⟩) ?_
 rintro v1 h1m ⟨rfl, wm1, fm1⟩
 have eK : (k + (L04 x1 : Nat) : Int) = k + (C00 (x0, x1) : Nat) := by simp only [C00] <;> omega
 have WW : I3.W h1m [.int .i64 x0, .slice a1 n1 c1] (x0, z06 x1 (k)) (B) := ⟨[.int .i64 x0], [.slice a1 n1 c1], [], B, rfl, rfl, ⟨⟨rfl, h0⟩, rfl⟩, wm1⟩
 have em : (x0, z06 x1 (k)) = w07 (x0, x1) k := by
  unfold w07
  exact (congr (congrArg Prod.mk rfl) rfl)
 rw [em] at WW
 exact And.intro (congrArg (Value.int .i64) eK) (And.intro WW (fun y hy => fm1 y (fun hy2 => hy (by first | exact hy2 | (simp only [List.nil_append, List.append_nil, List.mem_append, List.not_mem_nil, false_or, or_false] at hy2 ⊢; grind)))))
theorem C0a (h : Hp) (a : Option Addr) (n c : Nat) (xs : j00) (B : List Nat) (k : Int) (hx : I6.W h [.slice a n c] xs B) (hB : B.Nodup) (hk : 0 ≤ k ∧ k + (z9 xs : Nat) ≤ 4611686018427387904) :
  Tr Tryz.prog 21 #[.slice a n c, .int .i64 k] h fun v h' => v = .int .i64 (k + (z9 xs : Nat)) ∧ I6.W h' [.slice a n c] (M04 xs k) B ∧ ∀ y, y ∉ B → h' y = h y := by
 obtain ⟨rfl, hn⟩ := Sl.len (I6.toR hx)
 refine A3 (args := [.slice a xs.length c, .int .i64 k]) (fn := Tryz.f21) rfl ?_
 refine Exists.intro { vars := [1, 5], boxes := [], owns := [] } (Exists.intro (fun vs _ h' => ∃ (j : Nat) (kk : Int), kk = k + (Y4 (fun _ => 1) (xs.take j) : Nat) ∧ j ≤ xs.length ∧ vs = [.int .i64 kk, .int .i64 j] ∧ I6.W h' [.slice a xs.length c] (t9 (fun _ k => A5 k) (fun _ => 1) xs k j) B ∧ ∀ y, y ∉ B → h' y = h y) (Exists.intro (fun vs _ => match vs with | [_, .int _ j] => ((xs.length : Int) - j).toNat | _ => 0) ?_))
 refine And.intro ⟨0, k, by simp [Y4], by omega, rfl, by rw [t07]; exact hx, fun _ _ => rfl⟩ ?_
 rintro _ _ h1 ⟨j, kk, hkk, hj, ⟨⟩, W0, F0⟩
 refine And.intro (fun hc2 => ?_) (fun hc2 => ?_)
 ·have hlt : j < xs.length := by simpa using hc2
  obtain ⟨x, gx⟩ := g9 hlt
  have G0 := o09 (mk := (fun _ k => A5 k)) (c := (fun _ => 1)) (k := k) gx
  have hs1 : Y4 (fun _ => 1) (xs.take (j + 1)) = Y4 (fun _ => 1) (xs.take j) + 1 := L02 gx
  have hs2 := M02 (fun _ => 1) xs (j + 1)
  have hw := L2 hlt hn
  have hkx : 0 ≤ kk ∧ kk + (1 : Nat) ≤ 4611686018427387904 := by
   have : (z9 xs : Int) = (Y4 (fun _ => 1) xs : Nat) := rfl
   omega
  obtain ⟨b0, cs0, Bi0, bb0, of0, cur0, ty0, ea0, e0, w0, hb0, hin0, hbB0, hbn0, hsub0, hnd0, upd0, st0⟩ := Wp.at W0 hB G0 (by decide)
  cases ea0
  obtain ⟨⟨rfl, _⟩, rfl⟩ := w0
  refine Tr.val (S05 _ (kk) ⟨by omega, by omega⟩) ?_
  refine And.intro b0 ?_
  refine z8.mk (Int.natCast_nonneg j) hb0 (hin0 0 (by decide)) (by rw [Int.toNat_natCast]; rfl) trivial ?_
  have W1 : I6.W (h1.set bb0 (.cells (cur0.setIfInBounds (of0 + (j * Wp.str.sz + 0)) (.string (A5 (kk)))) ty0 (0, 0))) [.slice (some ⟨bb0, of0, none⟩) xs.length c] ((t9 (fun _ k => A5 k) (fun _ => 1) xs k j).set j (A5 (kk))) B := st0 0 (.string (A5 (kk))) (A5 (kk)) (by decide) fun h' hf => ⟨⟨rfl, r09 _⟩, rfl⟩
  have F1 : ∀ y, y ∉ B → (h1.set bb0 (.cells (cur0.setIfInBounds (of0 + (j * Wp.str.sz + 0)) (.string (A5 (kk)))) ty0 (0, 0))) y = h y := fun y hy => (Hp.set_other _ _ fun e => hy (by rw [e]; exact hbB0)).trans (F0 y hy)
  generalize (h1.set bb0 (.cells (cur0.setIfInBounds (of0 + (j * Wp.str.sz + 0)) (.string (A5 (kk)))) ty0 (0, 0))) = kst0 at W1 F1 ⊢
  have ek1 : IntKind.i64.wrap (kk + 1) = kk + (1) := by rw [w64 (by  omega) (by  omega)] <;> omega
  have em : (A5 (kk)) = (fun _ k => A5 k) x kk := rfl
  have eL : (t9 (fun _ k => A5 k) (fun _ => 1) xs k j).set j (A5 (kk)) = t9 (fun _ k => A5 k) (fun _ => 1) xs k (j + 1) := by rw [hkk]; exact p09 gx
  rw [eL] at W1
  refine And.intro rfl (And.intro (by first | exact trivial | exact And.intro rfl trivial | exact And.intro rfl (And.intro rfl trivial) | exact And.intro rfl (And.intro rfl (And.intro rfl trivial)) | exact And.intro rfl (And.intro rfl (And.intro rfl (And.intro rfl trivial)))) (And.intro (by first | exact trivial | exact And.intro rfl trivial | exact And.intro rfl (And.intro rfl trivial) | exact And.intro rfl (And.intro rfl (And.intro rfl trivial)) | exact And.intro rfl (And.intro rfl (And.intro rfl (And.intro rfl trivial)))) (And.intro ?_ ?_)))
  ·refine ⟨j + 1, IntKind.i64.wrap (kk + 1), ?_, by omega, by rw [← hw], W1, F1⟩
   rw [ek1]; rw [hs1]; omega
  ·show ((xs.length : Int) - IntKind.i64.wrap ((j : Int) + 1)).toNat < ((xs.length : Int) - (j : Int)).toNat
   omega
 ·have hj' : j = xs.length := by simp at hc2; omega
  subst hj'
  rw [List.take_length] at hkk
  rw [n09] at W0
  exact And.intro (congrArg (Value.int .i64) hkk) (And.intro W0 F0)
end Go.Proofs.YtknoadmdnjaocaaGreat
namespace Go.Proofs.YtknoadmdnjaocaaGreat
open Go.H
set_option linter.unusedVariables false
set_option linter.unusedSimpArgs false
set_option maxRecDepth 10000
theorem p05 (h : Hp) (a : Option Addr) (n c : Nat) (xs : j00) (k : Int) (hx : I6.R h [.slice a n c] (M04 xs k)) (hk : 0 ≤ k ∧ k + (z9 xs : Nat) ≤ 4611686018427387904) :
  Tr Tryz.prog 22 #[.slice a n c, .int .i64 k] h fun v h' => v = .int .i64 (k + (z9 xs : Nat)) ∧ h' = h := by
 obtain ⟨en, hn⟩ := Sl.len hx
 rw [show (M04 xs k).length = xs.length from Q9 _ _ _ _] at en
 subst en
 refine A3 (args := [.slice a xs.length c, .int .i64 k]) (fn := Tryz.f22) rfl ?_
 refine Exists.intro { vars := [1, 5], boxes := [], owns := [] } (Exists.intro (fun vs _ h' => ∃ (j : Nat) (kk : Int), kk = k + (Y4 (fun _ => 1) (xs.take j) : Nat) ∧ j ≤ xs.length ∧ vs = [.int .i64 kk, .int .i64 j] ∧ h' = h) (Exists.intro (fun vs _ => match vs with | [_, .int _ j] => ((xs.length : Int) - j).toNat | _ => 0) ?_))
 refine And.intro ⟨0, k, by simp [Y4], by omega, rfl, rfl⟩ ?_
 rintro _ _ h1 ⟨j, kk, hkk, hj, ⟨⟩, rfl⟩
 refine And.intro (fun hc2 => ?_) (fun hc2 => ?_)
 ·have hlt : j < xs.length := by simpa using hc2
  obtain ⟨x, gx⟩ := g9 hlt
  have hs1 : Y4 (fun _ => 1) (xs.take (j + 1)) = Y4 (fun _ => 1) (xs.take j) + 1 := L02 gx
  have hs2 := M02 (fun _ => 1) xs (j + 1)
  have hw := L2 hlt hn
  have hkx : 0 ≤ kk ∧ kk + (1 : Nat) ≤ 4611686018427387904 := by
   have : (z9 xs : Int) = (Y4 (fun _ => 1) xs : Nat) := rfl
   omega
  have gm : (M04 xs k)[j]? = some ((fun _ k => A5 k) x kk) := by rw [hkk]; exact W0f gx
  obtain ⟨b1, cs1, e1, i1⟩ := Sl.get hx gm (by decide)
  obtain ⟨rfl, _⟩ := i1
  refine Or.inl (And.intro (And.intro (by kernel_rfl) (by kernel_rfl)) ?_)
  refine And.intro b1 (Exists.intro _ (And.intro e1 ?_))
  refine Exists.intro (.string _) (And.intro (S05 _ (kk) ⟨by omega, by omega⟩) ?_)
  refine And.intro (fun hc => ?_) (fun hc => ?_)
  ·exact ((B0i hc) (congrArg A5 (by first | rfl | omega | (simp; omega)))).elim
  clear hc
  have ek1 : IntKind.i64.wrap (kk + 1) = kk + (1) := by rw [w64 (by  omega) (by  omega)] <;> omega
  refine And.intro rfl (And.intro (by first | exact trivial | exact And.intro rfl trivial | exact And.intro rfl (And.intro rfl trivial) | exact And.intro rfl (And.intro rfl (And.intro rfl trivial)) | exact And.intro rfl (And.intro rfl (And.intro rfl (And.intro rfl trivial)))) (And.intro (by first | exact trivial | exact And.intro rfl trivial | exact And.intro rfl (And.intro rfl trivial) | exact And.intro rfl (And.intro rfl (And.intro rfl trivial)) | exact And.intro rfl (And.intro rfl (And.intro rfl (And.intro rfl trivial)))) (And.intro ?_ ?_)))
  ·refine ⟨j + 1, IntKind.i64.wrap (kk + 1), ?_, by omega, by rw [← hw], rfl⟩
   rw [ek1]; rw [hs1]; omega
  ·show ((xs.length : Int) - IntKind.i64.wrap ((j : Int) + 1)).toNat < ((xs.length : Int) - (j : Int)).toNat
   omega
 ·have hj' : j = xs.length := by simp at hc2; omega
  subst hj'
  rw [List.take_length] at hkk
  exact And.intro (congrArg (Value.int .i64) hkk) rfl
end Go.Proofs.YtknoadmdnjaocaaGreat
