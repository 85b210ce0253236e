/- Texts of the claim, joined: The data types of the laws, as lists and tuples; ; What the laws' own helpers do: sizes; What the laws' own helpers do: equality; What the laws' own helpers do: copies; What the laws' own helpers do: marks; What the laws' own helpers do: marks that are still there. -/
import Derived.Test.YtfdlgbfeceodeaaGreatHE
import Derived.Test.YtfdlgbfeceodeaaGreatChecked
namespace Go.Proofs.YtfdlgbfeceodeaaGreat
open Go.H
set_option linter.unusedVariables false
set_option linter.unusedSimpArgs false
set_option maxRecDepth 10000
theorem R0g {x : Int} (h1 : -9223372036854775808 ≤ x) (h2 : x ≤ 9223372036854775807) : J0 x := ⟨h1, h2⟩
abbrev D0 : Type := Int × Int × Int
abbrev N0 : Wp D0 := Wp.pair Wp.int (Wp.pair Wp.int Wp.int)
instance z0i : DecidableEq D0 := (@instDecidableEqProd _ _ (inferInstance : DecidableEq Int) (@instDecidableEqProd _ _ (inferInstance : DecidableEq Int) (inferInstance : DecidableEq Int)))
def l0h (x : D0) : Nat := 0
def I4 (x : D0) : Nat := 1 + 1 + 1
def A00 (x : D0) (k : Int) : D0 := (k, (k + (1 : Nat)), (k + (1 + 1 : Nat)))
theorem V0 {h : Hp} {cs : List Value} {x : D0} (hx : N0.R h cs x) : ∃ (x0 : Int) (x1 : Int) (x2 : Int), cs = [.int .i64 x0, .int .i64 x1, .int .i64 x2] ∧ x = (x0, x1, x2) ∧ J0 x0 ∧ J0 x1 ∧ J0 x2 := by
 obtain ⟨x0, x1, x2⟩ := x
 obtain ⟨_, _, rfl, ⟨rfl, h0⟩, ⟨_, _, rfl, ⟨rfl, h1⟩, ⟨rfl, h2⟩⟩⟩ := hx
 exact ⟨x0, x1, x2, rfl, rfl, h0, h1, h2⟩
theorem O0 {h : Hp} {x0 : Int} {x1 : Int} {x2 : Int} (h0 : J0 x0) (h1 : J0 x1) (h2 : J0 x2) : N0.R h [.int .i64 x0, .int .i64 x1, .int .i64 x2] (x0, x1, x2) :=
 ⟨[.int .i64 x0], [.int .i64 x1, .int .i64 x2], rfl, ⟨rfl, h0⟩, ⟨[.int .i64 x1], [.int .i64 x2], rfl, ⟨rfl, h1⟩, ⟨rfl, h2⟩⟩⟩
theorem c07 {h : Hp} {cs : List Value} {x : D0} {B : List Nat} (hx : N0.W h cs x B) : ∃ (x0 : Int) (x1 : Int) (x2 : Int), cs = [.int .i64 x0, .int .i64 x1, .int .i64 x2] ∧ x = (x0, x1, x2) ∧ B = ([] ++ ([] ++ [])) ∧ J0 x0 ∧ J0 x1 ∧ J0 x2 := by
 obtain ⟨x0, x1, x2⟩ := x
 obtain ⟨_, _, _, _, rfl, rfl, ⟨⟨rfl, h0⟩, rfl⟩, ⟨_, _, _, _, rfl, rfl, ⟨⟨rfl, h1⟩, rfl⟩, ⟨⟨rfl, h2⟩, rfl⟩⟩⟩ := hx
 exact ⟨x0, x1, x2, rfl, rfl, rfl, h0, h1, h2⟩
theorem q03 {h : Hp} {x0 : Int} {x1 : Int} {x2 : Int} (h0 : J0 x0) (h1 : J0 x1) (h2 : J0 x2) : N0.W h [.int .i64 x0, .int .i64 x1, .int .i64 x2] (x0, x1, x2) ([] ++ ([] ++ [])) :=
 ⟨[.int .i64 x0], [.int .i64 x1, .int .i64 x2], [], ([] ++ []), rfl, rfl, ⟨⟨rfl, h0⟩, rfl⟩, ⟨[.int .i64 x1], [.int .i64 x2], [], [], rfl, rfl, ⟨⟨rfl, h1⟩, rfl⟩, ⟨⟨rfl, h2⟩, rfl⟩⟩⟩
abbrev C0 : Type := List D0
abbrev K0 : Wp C0 := Wp.slice N0
instance H0h : DecidableEq C0 := inferInstanceAs (DecidableEq (List D0))
def m01 (x : C0) : Nat := x.length
def A02 (x : C0) : Nat := d5 I4 x
def r03 (x : C0) (k : Int) : C0 := mkL A00 I4 x k
abbrev l0 : Type := Int × Int × C0
abbrev P0 : Wp l0 := Wp.pair Wp.int (Wp.pair Wp.int K0)
instance I0h : DecidableEq l0 := (@instDecidableEqProd _ _ (inferInstance : DecidableEq Int) (@instDecidableEqProd _ _ (inferInstance : DecidableEq Int) H0h))
def j00 (x : l0) : Nat := m01 x.2.2
def G8 (x : l0) : Nat := A02 x.2.2
def a06 (x : l0) (k : Int) : l0 := (x.1, x.2.1, r03 x.2.2 k)
theorem B0 {h : Hp} {cs : List Value} {x : l0} (hx : P0.R h cs x) : ∃ (x0 : Int) (x1 : Int) (a2 : Option Addr) (n2 c2 : Nat) (x2 : C0), cs = [.int .i64 x0, .int .i64 x1, .slice a2 n2 c2] ∧ x = (x0, x1, x2) ∧ J0 x0 ∧ J0 x1 ∧ K0.R h [.slice a2 n2 c2] x2 := by
 obtain ⟨x0, x1, x2⟩ := x
 obtain ⟨_, _, rfl, ⟨rfl, h0⟩, ⟨_, _, rfl, ⟨rfl, h1⟩, h2⟩⟩ := hx
 obtain ⟨a2, n2, c2, rfl⟩ := Wp.slice_cell h2
 exact ⟨x0, x1, a2, n2, c2, x2, rfl, rfl, h0, h1, h2⟩
theorem z0 {h : Hp} {x0 : Int} {x1 : Int} {a2 : Option Addr} {n2 c2 : Nat} {x2 : C0} (h0 : J0 x0) (h1 : J0 x1) (h2 : K0.R h [.slice a2 n2 c2] x2) : P0.R h [.int .i64 x0, .int .i64 x1, .slice a2 n2 c2] (x0, x1, x2) :=
 ⟨[.int .i64 x0], [.int .i64 x1, .slice a2 n2 c2], rfl, ⟨rfl, h0⟩, ⟨[.int .i64 x1], [.slice a2 n2 c2], rfl, ⟨rfl, h1⟩, h2⟩⟩
theorem D0d {h : Hp} {cs : List Value} {x : l0} {B : List Nat} (hx : P0.W h cs x B) : ∃ (x0 : Int) (x1 : Int) (a2 : Option Addr) (n2 c2 : Nat) (x2 : C0) (B2 : List Nat), cs = [.int .i64 x0, .int .i64 x1, .slice a2 n2 c2] ∧ x = (x0, x1, x2) ∧ B = ([] ++ ([] ++ B2)) ∧ J0 x0 ∧ J0 x1 ∧ K0.W h [.slice a2 n2 c2] x2 B2 := by
 obtain ⟨x0, x1, x2⟩ := x
 obtain ⟨_, _, _, _, rfl, rfl, ⟨⟨rfl, h0⟩, rfl⟩, ⟨_, _, _, _, rfl, rfl, ⟨⟨rfl, h1⟩, rfl⟩, h2⟩⟩ := hx
 obtain ⟨a2, n2, c2, rfl⟩ := Wp.slice_cell (K0.toR h2)
 exact ⟨x0, x1, a2, n2, c2, x2, _, rfl, rfl, rfl, h0, h1, h2⟩
abbrev Y2 : Type := Int × Int
abbrev G3 : Wp Y2 := Wp.pair Wp.int Wp.int
instance A0i : DecidableEq Y2 := (@instDecidableEqProd _ _ (inferInstance : DecidableEq Int) (inferInstance : DecidableEq Int))
theorem B00 {h : Hp} {cs : List Value} {x : Y2} (hx : G3.R h cs x) : ∃ (x0 : Int) (x1 : Int), cs = [.int .i64 x0, .int .i64 x1] ∧ x = (x0, x1) ∧ J0 x0 ∧ J0 x1 := by
 obtain ⟨x0, x1⟩ := x
 obtain ⟨_, _, rfl, ⟨rfl, h0⟩, ⟨rfl, h1⟩⟩ := hx
 exact ⟨x0, x1, rfl, rfl, h0, h1⟩
theorem M1 {h : Hp} {x0 : Int} {x1 : Int} (h0 : J0 x0) (h1 : J0 x1) : G3.R h [.int .i64 x0, .int .i64 x1] (x0, x1) :=
 ⟨[.int .i64 x0], [.int .i64 x1], rfl, ⟨rfl, h0⟩, ⟨rfl, h1⟩⟩
abbrev U1 : Type := List Int
abbrev O2 : Wp U1 := Wp.slice Wp.int
instance B0i : DecidableEq U1 := inferInstanceAs (DecidableEq (List Int))
def p00 (x : U1) : Nat := x.length
def R9 (x : U1) : Nat := d5 (fun _ => 1) x
def n01 (x : U1) (k : Int) : U1 := mkL (fun _ k => k) (fun _ => 1) x k
abbrev l3 : Type := List U1
abbrev i5 : Wp l3 := Wp.slice O2
instance J0h : DecidableEq l3 := inferInstanceAs (DecidableEq (List U1))
def Q00 (x : l3) : Nat := x.length + d5 p00 x
def d07 (x : l3) : Nat := d5 R9 x
def j08 (x : l3) (k : Int) : l3 := mkL n01 R9 x k
abbrev M0 : Type := Int × l3
abbrev S0 : Wp M0 := Wp.pair Wp.int i5
instance t0g : DecidableEq M0 := (@instDecidableEqProd _ _ (inferInstance : DecidableEq Int) J0h)
def D3 (x : M0) : Nat := Q00 x.2
def C6 (x : M0) : Nat := d07 x.2
def O01 (x : M0) (k : Int) : M0 := (x.1, j08 x.2 k)
theorem D2 {h : Hp} {cs : List Value} {x : M0} (hx : S0.R h cs x) : ∃ (x0 : Int) (a1 : Option Addr) (n1 c1 : Nat) (x1 : l3), cs = [.int .i64 x0, .slice a1 n1 c1] ∧ x = (x0, x1) ∧ J0 x0 ∧ i5.R h [.slice a1 n1 c1] x1 := by
 obtain ⟨x0, x1⟩ := x
 obtain ⟨_, _, rfl, ⟨rfl, h0⟩, h1⟩ := hx
 obtain ⟨a1, n1, c1, rfl⟩ := Wp.slice_cell h1
 exact ⟨x0, a1, n1, c1, x1, rfl, rfl, h0, h1⟩
theorem n3 {h : Hp} {x0 : Int} {a1 : Option Addr} {n1 c1 : Nat} {x1 : l3} (h0 : J0 x0) (h1 : i5.R h [.slice a1 n1 c1] x1) : S0.R h [.int .i64 x0, .slice a1 n1 c1] (x0, x1) :=
 ⟨[.int .i64 x0], [.slice a1 n1 c1], rfl, ⟨rfl, h0⟩, h1⟩
theorem b06 {h : Hp} {cs : List Value} {x : M0} {B : List Nat} (hx : S0.W h cs x B) : ∃ (x0 : Int) (a1 : Option Addr) (n1 c1 : Nat) (x1 : l3) (B1 : List Nat), cs = [.int .i64 x0, .slice a1 n1 c1] ∧ x = (x0, x1) ∧ B = ([] ++ B1) ∧ J0 x0 ∧ i5.W h [.slice a1 n1 c1] x1 B1 := by
 obtain ⟨x0, x1⟩ := x
 obtain ⟨_, _, _, _, rfl, rfl, ⟨⟨rfl, h0⟩, rfl⟩, h1⟩ := hx
 obtain ⟨a1, n1, c1, rfl⟩ := Wp.slice_cell (i5.toR h1)
 exact ⟨x0, a1, n1, c1, x1, _, rfl, rfl, rfl, h0, h1⟩
abbrev E0d : Type := ByteArray × l0
instance w0i : DecidableEq E0d := (@instDecidableEqProd _ _ (inferInstance : DecidableEq ByteArray) I0h)
abbrev k08 : Type := List E0d
instance p0i : DecidableEq k08 := inferInstanceAs (DecidableEq (List E0d))
abbrev D6 : Type := List Y2
abbrev A0b : Wp D6 := Wp.slice G3
instance x0i : DecidableEq D6 := inferInstanceAs (DecidableEq (List Y2))
theorem S0g (x : D0) : I4 x ≤ 3 := by
 simp only [I4]
 omega
theorem T0g (x : C0) : A02 x ≤ 16 * m01 x := g09 (c := I4) (fun x => by have := S0g x; omega) x
theorem r0e (x : l0) : G8 x ≤ 16 * j00 x := by
 have := T0g x.2.2
 simp only [G8, j00]
 omega
theorem K0h (x : U1) : R9 x ≤ 16 * p00 x := g09 (c := (fun _ => 1)) (fun x => by omega) x
theorem U0g (x : l3) : d07 x ≤ 16 * Q00 x := p0e (c := R9) (m := p00) (fun x => by have := K0h x; omega) x
theorem i09 (x : M0) : C6 x ≤ 16 * D3 x := by
 have := U0g x.2
 simp only [C6, D3]
 omega
end Go.Proofs.YtfdlgbfeceodeaaGreat
namespace Go.Proofs.YtfdlgbfeceodeaaGreat
open Go.H
set_option linter.unusedVariables false
set_option linter.unusedSimpArgs false
set_option maxRecDepth 10000
open Go.H
theorem F0d (h : Hp) : ∃ cs, N0.R h cs (0, 0, 0) := ⟨_, O0 (by decide) (by decide) (by decide)⟩
end Go.Proofs.YtfdlgbfeceodeaaGreat
namespace Go.Proofs.YtfdlgbfeceodeaaGreat
open Go.H
set_option linter.unusedVariables false
set_option linter.unusedSimpArgs false
set_option maxRecDepth 10000
theorem l0f (h : Hp) (a : Option Addr) (n c : Nat) (xs : C0) (left : Int) (hx : K0.R h [.slice a n c] xs) (hl : 0 ≤ left ∧ left ≤ 1048576) :
  Tr Tryz.prog 78 #[.slice a n c, .int .i64 left] h fun v h' => v = .int .i64 (szR left (m01 xs)) ∧ h' = h := by
 obtain ⟨rfl, hn⟩ := Sl.len hx
 have hw : IntKind.i64.wrap (left - (xs.length : Int)) = left - xs.length := w64 (by omega) (by omega)
 refine c3 (args := [.slice a xs.length c, .int .i64 left]) (fn := Tryz.f78) rfl ?_
 refine And.intro (fun hc => ?_) (fun hc => ?_)
 ·refine And.intro ?_ rfl
  simp [hw] at hc
  rw [m01, B0d (by omega)]
  rfl
 ·refine And.intro ?_ rfl
  simp [hw] at hc
  rw [m01, C0d (by omega)]
  exact congrArg (Value.int .i64) hw
theorem m0f (h : Hp) (cs : List Value) (x : l0) (left : Int) (hx : P0.R h cs x) (hl : 0 ≤ left ∧ left ≤ 1048576) :
  Tr Tryz.prog 21 #[.agg cs.toArray, .int .i64 left] h fun v h' => v = .int .i64 (szR left (j00 x)) ∧ h' = h := by
 obtain ⟨x0, x1, a2, n2, c2, x2, rfl, rfl, h0, h1, h2⟩ := B0 hx
 refine c3 (args := [.agg #[.int .i64 x0, .int .i64 x1, .slice a2 n2 c2], .int .i64 left]) (fn := Tryz.f21) rfl ?_
 refine Tr.val (l0f h a2 n2 c2 x2 (left) h2 hl) ?_
 refine And.intro (fun hc => ?_) (fun hc => ?_)
 ·refine And.intro ?_ rfl
  rw [j00, Z08 (left := left) (a := ((m01 x2 : Nat) : Int)) (by simpa using hc) hl.1 (by simp only []; omega)]
  rfl
 have q0 : 0 ≤ szR left ((m01 x2 : Nat) : Int) := by simpa using hc
 have hl0 : 0 ≤ szR left ((m01 x2 : Nat) : Int) ∧ szR left ((m01 x2 : Nat) : Int) ≤ 1048576 := by
  have := Y08 q0
  omega
 exact And.intro rfl rfl
theorem o0g (h : Hp) (a : Option Addr) (n c : Nat) (xs : U1) (left : Int) (hx : O2.R h [.slice a n c] xs) (hl : 0 ≤ left ∧ left ≤ 1048576) :
  Tr Tryz.prog 123 #[.slice a n c, .int .i64 left] h fun v h' => v = .int .i64 (szR left (p00 xs)) ∧ h' = h := by
 obtain ⟨rfl, hn⟩ := Sl.len hx
 have hw : IntKind.i64.wrap (left - (xs.length : Int)) = left - xs.length := w64 (by omega) (by omega)
 refine c3 (args := [.slice a xs.length c, .int .i64 left]) (fn := Tryz.f123) rfl ?_
 refine And.intro (fun hc => ?_) (fun hc => ?_)
 ·refine And.intro ?_ rfl
  simp [hw] at hc
  rw [p00, B0d (by omega)]
  rfl
 ·refine And.intro ?_ rfl
  simp [hw] at hc
  rw [p00, C0d (by omega)]
  exact congrArg (Value.int .i64) hw
theorem n0f (h : Hp) (a : Option Addr) (n c : Nat) (xs : l3) (left : Int) (hx : i5.R h [.slice a n c] xs) (hl : 0 ≤ left ∧ left ≤ 1048576) :
  Tr Tryz.prog 56 #[.slice a n c, .int .i64 left] h fun v h' => v = .int .i64 (szR left (Q00 xs)) ∧ h' = h := by
 obtain ⟨rfl, hn⟩ := Sl.len hx
 have hw : IntKind.i64.wrap (left - (xs.length : Int)) = left - xs.length := w64 (by omega) (by omega)
 refine c3 (args := [.slice a xs.length c, .int .i64 left]) (fn := Tryz.f56) rfl ?_
 refine And.intro (fun hc => ?_) (fun hc => ?_)
 ·refine And.intro ?_ rfl
  simp [hw] at hc
  rw [Q00, B0d (by omega)]
  rfl
 simp [hw] at hc
 refine Exists.intro { vars := [1, 5], boxes := [], owns := [] } (Exists.intro (fun vs _ h' => ∃ k : Nat, k ≤ xs.length ∧ 0 ≤ szR left ((xs.length + d5 p00 (xs.take k) : Nat) : Int) ∧ vs = [.int .i64 (szR left ((xs.length + d5 p00 (xs.take k) : Nat) : Int)), .int .i64 k] ∧ h' = h) (Exists.intro (fun vs _ => match vs with | [_, .int _ j] => ((xs.length : Int) - j).toNat | _ => 0) ?_))
 have h0 : szR left ((xs.length + d5 p00 (xs.take 0) : Nat) : Int) = left - xs.length := by rw [C0d (by simp [d5]; omega)]; simp [d5]
 refine And.intro ⟨0, by omega, by omega, by rw [h0]; exact congrArg (fun x => [Value.int .i64 x, Value.int .i64 0]) hw, rfl⟩ ?_
 rintro _ _ h1 ⟨k, hk, hpos, ⟨⟩, rfl⟩
 obtain ⟨q1, q2⟩ := Y08 hpos
 refine And.intro (fun hc2 => ?_) (fun hc2 => ?_)
 ·have hlt : k < xs.length := by simpa using hc2
  obtain ⟨x, hgx⟩ := o9 hlt
  obtain ⟨b1, cs1, e1, i1⟩ := Sl.get hx hgx (by decide)
  have hw2 := X2 hlt hn
  obtain ⟨a1, n1, c1, rfl⟩ := Wp.slice_cell i1
  refine And.intro b1 (Exists.intro _ (And.intro e1 ?_))
  refine Tr.val (o0g _ a1 n1 c1 x _ i1 ⟨by omega, by omega⟩) ?_
  have hstep : szR (szR left ((xs.length + d5 p00 (xs.take k) : Nat) : Int)) (p00 x : Nat) = szR left ((xs.length + d5 p00 (xs.take (k + 1)) : Nat) : Int) := by
   rw [P0g hpos (by omega) (by omega), S02 hgx]
   congr 1
   omega
  refine And.intro (fun hc3 => ?_) (fun hc3 => ?_)
  ·refine And.intro ?_ rfl
   rw [hstep] at hc3
   have hneg2 : szR left ((xs.length + d5 p00 (xs.take (k + 1)) : Nat) : Int) < 0 := by simpa using hc3
   have := T02 p00 xs (k + 1)
   rw [Q00, Z08 hneg2 hl.1 (by omega)]
   rfl
  ·rw [hstep] at hc3
   have hpos2 : 0 ≤ szR left ((xs.length + d5 p00 (xs.take (k + 1)) : Nat) : Int) := by simpa using hc3
   refine And.intro rfl (And.intro (by first | exact trivial | exact And.intro rfl trivial | exact And.intro rfl (And.intro rfl trivial) | exact And.intro rfl (And.intro rfl (And.intro rfl trivial)) | exact And.intro rfl (And.intro rfl (And.intro rfl (And.intro rfl trivial)))) (And.intro (by first | exact trivial | exact And.intro rfl trivial | exact And.intro rfl (And.intro rfl trivial) | exact And.intro rfl (And.intro rfl (And.intro rfl trivial)) | exact And.intro rfl (And.intro rfl (And.intro rfl (And.intro rfl trivial)))) (And.intro ?_ ?_)))
   ·refine ⟨k + 1, by omega, hpos2, ?_, rfl⟩
    rw [← hw2, ← hstep]
   ·show ((xs.length : Int) - IntKind.i64.wrap ((k : Int) + 1)).toNat < ((xs.length : Int) - (k : Int)).toNat
    omega
 ·have hk : k = xs.length := by simp at hc2; omega
  subst hk
  refine And.intro ?_ rfl
  rw [List.take_length]
  rfl
theorem w07 (h : Hp) (cs : List Value) (x : M0) (left : Int) (hx : S0.R h cs x) (hl : 0 ≤ left ∧ left ≤ 1048576) :
  Tr Tryz.prog 27 #[.agg cs.toArray, .int .i64 left] h fun v h' => v = .int .i64 (szR left (D3 x)) ∧ h' = h := by
 obtain ⟨x0, a1, n1, c1, x1, rfl, rfl, h0, h1⟩ := D2 hx
 refine c3 (args := [.agg #[.int .i64 x0, .slice a1 n1 c1], .int .i64 left]) (fn := Tryz.f27) rfl ?_
 refine Tr.val (n0f h a1 n1 c1 x1 (left) h1 hl) ?_
 refine And.intro (fun hc => ?_) (fun hc => ?_)
 ·refine And.intro ?_ rfl
  rw [D3, Z08 (left := left) (a := ((Q00 x1 : Nat) : Int)) (by simpa using hc) hl.1 (by simp only []; omega)]
  rfl
 have q0 : 0 ≤ szR left ((Q00 x1 : Nat) : Int) := by simpa using hc
 have hl0 : 0 ≤ szR left ((Q00 x1 : Nat) : Int) ∧ szR left ((Q00 x1 : Nat) : Int) ≤ 1048576 := by
  have := Y08 q0
  omega
 exact And.intro rfl rfl
end Go.Proofs.YtfdlgbfeceodeaaGreat
namespace Go.Proofs.YtfdlgbfeceodeaaGreat
open Go.H
set_option linter.unusedVariables false
set_option linter.unusedSimpArgs false
set_option maxRecDepth 10000
theorem p0g (h : Hp) (cs ds : List Value) (x y : D0) (hx : N0.R h cs x) (hy : N0.R h ds y) :
  Tr Tryz.prog 140 #[.agg cs.toArray, .agg ds.toArray] h fun v h' => v = .bool (decide (x = y)) ∧ h' = h := by
 obtain ⟨x0, x1, x2, rfl, rfl, h0, h1, h2⟩ := V0 hx
 obtain ⟨x0y, x1y, x2y, rfl, rfl, h0y, h1y, h2y⟩ := V0 hy
 refine c3 (args := [.agg #[.int .i64 x0, .int .i64 x1, .int .i64 x2], .agg #[.int .i64 x0y, .int .i64 x1y, .int .i64 x2y]]) (fn := Tryz.f140) rfl ?_
 refine And.intro (fun hc => ?_) (fun hc => ?_)
 ·have ne : x0 ≠ x0y := by simpa using hc
  exact And.intro (congrArg Value.bool (decide_eq_false fun e => by cases e; exact ne rfl).symm) rfl
 have q0 : x0 = x0y := by simpa using hc
 subst q0
 refine And.intro (fun hc => ?_) (fun hc => ?_)
 ·have ne : x1 ≠ x1y := by simpa using hc
  exact And.intro (congrArg Value.bool (decide_eq_false fun e => by cases e; exact ne rfl).symm) rfl
 have q1 : x1 = x1y := by simpa using hc
 subst q1
 refine And.intro (fun hc => ?_) (fun hc => ?_)
 ·have ne : x2 ≠ x2y := by simpa using hc
  exact And.intro (congrArg Value.bool (decide_eq_false fun e => by cases e; exact ne rfl).symm) rfl
 have q2 : x2 = x2y := by simpa using hc
 subst q2
 exact And.intro (congrArg Value.bool (decide_eq_true rfl).symm) rfl
theorem o0f (h : Hp) (a : Option Addr) (n c : Nat) (a' : Option Addr) (n' c' : Nat) (xs ys : C0) (hx : K0.R h [.slice a n c] xs) (hy : K0.R h [.slice a' n' c'] ys) :
  Tr Tryz.prog 85 #[.slice a n c, .slice a' n' c'] h fun v h' => v = .bool (decide (xs = ys)) ∧ h' = h := by
 obtain ⟨rfl, hn⟩ := Sl.len hx
 obtain ⟨rfl, hn'⟩ := Sl.len hy
 refine c3 (args := [.slice a xs.length c, .slice a' ys.length c']) (fn := Tryz.f85) rfl ?_
 refine And.intro (fun hc => ?_) (fun hc => ?_)
 ·refine And.intro (congrArg Value.bool ?_) rfl
  have : xs.length ≠ ys.length := by simp at hc; omega
  exact (decide_eq_false fun e => this (by rw [e])).symm
 have hlen : xs.length = ys.length := by simp at hc; omega
 refine Exists.intro { vars := [5], boxes := [], owns := [] } (Exists.intro (fun vs _ h' => ∃ k : Nat, k ≤ xs.length ∧ xs.take k = ys.take k ∧ vs = [.int .i64 k] ∧ h' = h) (Exists.intro (fun vs _ => match vs with | [.int _ j] => ((xs.length : Int) - j).toNat | _ => 0) ?_))
 refine And.intro ⟨0, by omega, by simp, rfl, rfl⟩ ?_
 rintro _ h1 ⟨k, hk, hall, ⟨⟩, rfl⟩
 refine And.intro (fun hc2 => ?_) (fun hc2 => ?_)
 ·have hlt : k < xs.length := by simpa using hc2
  obtain ⟨x, gx⟩ := o9 hlt
  obtain ⟨y, gy⟩ := o9 (l := ys) (k := k) (by omega)
  obtain ⟨b1, cs1, e1, i1⟩ := Sl.get hx gx (by decide)
  obtain ⟨b2, cs2, e2, i2⟩ := Sl.get hy gy (by decide)
  have hw := X2 hlt hn
  obtain ⟨x0, x1, x2, rfl, rfl, g0, g1, g2⟩ := V0 i1
  obtain ⟨x0y, x1y, x2y, rfl, rfl, g0y, g1y, g2y⟩ := V0 i2
  refine Or.inl (And.intro (And.intro (by kernel_rfl) (by kernel_rfl)) ?_)
  refine And.intro b1 (Exists.intro _ (And.intro e1 (And.intro b2 (Exists.intro _ (And.intro e2 ?_)))))
  refine Exists.intro (.bool _) (And.intro (p0g _ [.int .i64 x0, .int .i64 x1, .int .i64 x2] [.int .i64 x0y, .int .i64 x1y, .int .i64 x2y] (x0, x1, x2) (x0y, x1y, x2y) (O0 g0 g1 g2) (O0 g0y g1y g2y)) ?_)
  refine And.intro (fun hc3 => ?_) (fun hc3 => ?_)
  ·refine And.intro (congrArg Value.bool ?_) rfl
   have hne : (x0, x1, x2) ≠ (x0y, x1y, x2y) := h08 hc3
   exact (decide_eq_false fun e => hne (Option.some.inj (gx.symm.trans ((congrArg (fun l : C0 => l[k]?) e).trans gy)))).symm
  ·have heq : (x0, x1, x2) = (x0y, x1y, x2y) := Y05 hc3
   refine And.intro rfl (And.intro (by first | exact trivial | exact And.intro rfl trivial | exact And.intro rfl (And.intro rfl trivial) | exact And.intro rfl (And.intro rfl (And.intro rfl trivial)) | exact And.intro rfl (And.intro rfl (And.intro rfl (And.intro rfl trivial)))) (And.intro (by first | exact trivial | exact And.intro rfl trivial | exact And.intro rfl (And.intro rfl trivial) | exact And.intro rfl (And.intro rfl (And.intro rfl trivial)) | exact And.intro rfl (And.intro rfl (And.intro rfl (And.intro rfl trivial)))) (And.intro ?_ ?_)))
   ·refine ⟨k + 1, by omega, by rw [f8 gx, f8 gy, hall, heq], ?_, rfl⟩
    rw [← hw]
   ·show ((xs.length : Int) - IntKind.i64.wrap ((k : Int) + 1)).toNat < ((xs.length : Int) - (k : Int)).toNat
    omega
 ·have hk : k = xs.length := by simp at hc2; omega
  refine And.intro (congrArg Value.bool ?_) rfl
  refine (decide_eq_true ?_).symm
  subst hk
  rwa [List.take_length, hlen, List.take_length] at hall
theorem A04 (h : Hp) (cs ds : List Value) (x y : l0) (hx : P0.R h cs x) (hy : P0.R h ds y) :
  Tr Tryz.prog 25 #[.agg cs.toArray, .agg ds.toArray] h fun v h' => v = .bool (decide (x = y)) ∧ h' = h := by
 obtain ⟨x0, x1, a2, n2, c2, x2, rfl, rfl, h0, h1, h2⟩ := B0 hx
 obtain ⟨x0y, x1y, a2y, n2y, c2y, x2y, rfl, rfl, h0y, h1y, h2y⟩ := B0 hy
 refine c3 (args := [.agg #[.int .i64 x0, .int .i64 x1, .slice a2 n2 c2], .agg #[.int .i64 x0y, .int .i64 x1y, .slice a2y n2y c2y]]) (fn := Tryz.f25) rfl ?_
 refine And.intro (fun hc => ?_) (fun hc => ?_)
 ·have ne : x0 ≠ x0y := by simpa using hc
  exact And.intro (congrArg Value.bool (decide_eq_false fun e => by cases e; exact ne rfl).symm) rfl
 have q0 : x0 = x0y := by simpa using hc
 subst q0
 refine And.intro (fun hc => ?_) (fun hc => ?_)
 ·have ne : x1 ≠ x1y := by simpa using hc
  exact And.intro (congrArg Value.bool (decide_eq_false fun e => by cases e; exact ne rfl).symm) rfl
 have q1 : x1 = x1y := by simpa using hc
 subst q1
 refine Tr.val (o0f h a2 n2 c2 a2y n2y c2y x2 x2y h2 h2y) ?_
 refine And.intro (fun hc => ?_) (fun hc => ?_)
 ·have ne : x2 ≠ x2y := h08 hc
  exact And.intro (congrArg Value.bool (decide_eq_false fun e => by cases e; exact ne rfl).symm) rfl
 have q2 : x2 = x2y := Y05 hc
 subst q2
 exact And.intro (congrArg Value.bool (decide_eq_true rfl).symm) rfl
theorem q0g (h : Hp) (a : Option Addr) (n c : Nat) (a' : Option Addr) (n' c' : Nat) (xs ys : U1) (hx : O2.R h [.slice a n c] xs) (hy : O2.R h [.slice a' n' c'] ys) :
  Tr Tryz.prog 48 #[.slice a n c, .slice a' n' c'] h fun v h' => v = .bool (decide (xs = ys)) ∧ h' = h := by
 obtain ⟨rfl, hn⟩ := Sl.len hx
 obtain ⟨rfl, hn'⟩ := Sl.len hy
 refine c3 (args := [.slice a xs.length c, .slice a' ys.length c']) (fn := Tryz.f48) rfl ?_
 refine And.intro (fun hc => ?_) (fun hc => ?_)
 ·refine And.intro (congrArg Value.bool ?_) rfl
  have : xs.length ≠ ys.length := by simp at hc; omega
  exact (decide_eq_false fun e => this (by rw [e])).symm
 have hlen : xs.length = ys.length := by simp at hc; omega
 refine Exists.intro { vars := [5], boxes := [], owns := [] } (Exists.intro (fun vs _ h' => ∃ k : Nat, k ≤ xs.length ∧ xs.take k = ys.take k ∧ vs = [.int .i64 k] ∧ h' = h) (Exists.intro (fun vs _ => match vs with | [.int _ j] => ((xs.length : Int) - j).toNat | _ => 0) ?_))
 refine And.intro ⟨0, by omega, by simp, rfl, rfl⟩ ?_
 rintro _ h1 ⟨k, hk, hall, ⟨⟩, rfl⟩
 refine And.intro (fun hc2 => ?_) (fun hc2 => ?_)
 ·have hlt : k < xs.length := by simpa using hc2
  obtain ⟨x, gx⟩ := o9 hlt
  obtain ⟨y, gy⟩ := o9 (l := ys) (k := k) (by omega)
  obtain ⟨b1, cs1, e1, i1⟩ := Sl.get hx gx (by decide)
  obtain ⟨b2, cs2, e2, i2⟩ := Sl.get hy gy (by decide)
  have hw := X2 hlt hn
  obtain ⟨rfl, _⟩ := i1
  obtain ⟨rfl, _⟩ := i2
  refine Or.inl (And.intro (And.intro (by kernel_rfl) (by kernel_rfl)) ?_)
  refine And.intro b1 (Exists.intro _ (And.intro e1 (And.intro b2 (Exists.intro _ (And.intro e2 ?_)))))
  refine And.intro (fun hc3 => ?_) (fun hc3 => ?_)
  ·refine And.intro (congrArg Value.bool ?_) rfl
   have hne : x ≠ y := by simpa using hc3
   exact (decide_eq_false fun e => hne (Option.some.inj (gx.symm.trans ((congrArg (fun l : U1 => l[k]?) e).trans gy)))).symm
  ·have heq : x = y := by simpa using hc3
   refine And.intro rfl (And.intro (by first | exact trivial | exact And.intro rfl trivial | exact And.intro rfl (And.intro rfl trivial) | exact And.intro rfl (And.intro rfl (And.intro rfl trivial)) | exact And.intro rfl (And.intro rfl (And.intro rfl (And.intro rfl trivial)))) (And.intro (by first | exact trivial | exact And.intro rfl trivial | exact And.intro rfl (And.intro rfl trivial) | exact And.intro rfl (And.intro rfl (And.intro rfl trivial)) | exact And.intro rfl (And.intro rfl (And.intro rfl (And.intro rfl trivial)))) (And.intro ?_ ?_)))
   ·refine ⟨k + 1, by omega, by rw [f8 gx, f8 gy, hall, heq], ?_, rfl⟩
    rw [← hw]
   ·show ((xs.length : Int) - IntKind.i64.wrap ((k : Int) + 1)).toNat < ((xs.length : Int) - (k : Int)).toNat
    omega
 ·have hk : k = xs.length := by simp at hc2; omega
  refine And.intro (congrArg Value.bool ?_) rfl
  refine (decide_eq_true ?_).symm
  subst hk
  rwa [List.take_length, hlen, List.take_length] at hall
theorem p0f (h : Hp) (a : Option Addr) (n c : Nat) (a' : Option Addr) (n' c' : Nat) (xs ys : l3) (hx : i5.R h [.slice a n c] xs) (hy : i5.R h [.slice a' n' c'] ys) :
  Tr Tryz.prog 53 #[.slice a n c, .slice a' n' c'] h fun v h' => v = .bool (decide (xs = ys)) ∧ h' = h := by
 obtain ⟨rfl, hn⟩ := Sl.len hx
 obtain ⟨rfl, hn'⟩ := Sl.len hy
 refine c3 (args := [.slice a xs.length c, .slice a' ys.length c']) (fn := Tryz.f53) rfl ?_
 refine And.intro (fun hc => ?_) (fun hc => ?_)
 ·refine And.intro (congrArg Value.bool ?_) rfl
  have : xs.length ≠ ys.length := by simp at hc; omega
  exact (decide_eq_false fun e => this (by rw [e])).symm
 have hlen : xs.length = ys.length := by simp at hc; omega
 refine Exists.intro { vars := [5], boxes := [], owns := [] } (Exists.intro (fun vs _ h' => ∃ k : Nat, k ≤ xs.length ∧ xs.take k = ys.take k ∧ vs = [.int .i64 k] ∧ h' = h) (Exists.intro (fun vs _ => match vs with | [.int _ j] => ((xs.length : Int) - j).toNat | _ => 0) ?_))
 refine And.intro ⟨0, by omega, by simp, rfl, rfl⟩ ?_
 rintro _ h1 ⟨k, hk, hall, ⟨⟩, rfl⟩
 refine And.intro (fun hc2 => ?_) (fun hc2 => ?_)
 ·have hlt : k < xs.length := by simpa using hc2
  obtain ⟨x, gx⟩ := o9 hlt
  obtain ⟨y, gy⟩ := o9 (l := ys) (k := k) (by omega)
  obtain ⟨b1, cs1, e1, i1⟩ := Sl.get hx gx (by decide)
  obtain ⟨b2, cs2, e2, i2⟩ := Sl.get hy gy (by decide)
  have hw := X2 hlt hn
  obtain ⟨a1, n1, c1, rfl⟩ := Wp.slice_cell i1
  obtain ⟨a2, n2, c2, rfl⟩ := Wp.slice_cell i2
  refine Or.inl (And.intro (And.intro (by kernel_rfl) (by kernel_rfl)) ?_)
  refine And.intro b1 (Exists.intro _ (And.intro e1 (And.intro b2 (Exists.intro _ (And.intro e2 ?_)))))
  refine Exists.intro (.bool _) (And.intro (q0g _ _ _ _ _ _ _ x y i1 i2) ?_)
  refine And.intro (fun hc3 => ?_) (fun hc3 => ?_)
  ·refine And.intro (congrArg Value.bool ?_) rfl
   have hne : x ≠ y := h08 hc3
   exact (decide_eq_false fun e => hne (Option.some.inj (gx.symm.trans ((congrArg (fun l : l3 => l[k]?) e).trans gy)))).symm
  ·have heq : x = y := Y05 hc3
   refine And.intro rfl (And.intro (by first | exact trivial | exact And.intro rfl trivial | exact And.intro rfl (And.intro rfl trivial) | exact And.intro rfl (And.intro rfl (And.intro rfl trivial)) | exact And.intro rfl (And.intro rfl (And.intro rfl (And.intro rfl trivial)))) (And.intro (by first | exact trivial | exact And.intro rfl trivial | exact And.intro rfl (And.intro rfl trivial) | exact And.intro rfl (And.intro rfl (And.intro rfl trivial)) | exact And.intro rfl (And.intro rfl (And.intro rfl (And.intro rfl trivial)))) (And.intro ?_ ?_)))
   ·refine ⟨k + 1, by omega, by rw [f8 gx, f8 gy, hall, heq], ?_, rfl⟩
    rw [← hw]
   ·show ((xs.length : Int) - IntKind.i64.wrap ((k : Int) + 1)).toNat < ((xs.length : Int) - (k : Int)).toNat
    omega
 ·have hk : k = xs.length := by simp at hc2; omega
  refine And.intro (congrArg Value.bool ?_) rfl
  refine (decide_eq_true ?_).symm
  subst hk
  rwa [List.take_length, hlen, List.take_length] at hall
theorem x07 (h : Hp) (cs ds : List Value) (x y : M0) (hx : S0.R h cs x) (hy : S0.R h ds y) :
  Tr Tryz.prog 31 #[.agg cs.toArray, .agg ds.toArray] h fun v h' => v = .bool (decide (x = y)) ∧ h' = h := by
 obtain ⟨x0, a1, n1, c1, x1, rfl, rfl, h0, h1⟩ := D2 hx
 obtain ⟨x0y, a1y, n1y, c1y, x1y, rfl, rfl, h0y, h1y⟩ := D2 hy
 refine c3 (args := [.agg #[.int .i64 x0, .slice a1 n1 c1], .agg #[.int .i64 x0y, .slice a1y n1y c1y]]) (fn := Tryz.f31) rfl ?_
 refine And.intro (fun hc => ?_) (fun hc => ?_)
 ·have ne : x0 ≠ x0y := by simpa using hc
  exact And.intro (congrArg Value.bool (decide_eq_false fun e => by cases e; exact ne rfl).symm) rfl
 have q0 : x0 = x0y := by simpa using hc
 subst q0
 refine Tr.val (p0f h a1 n1 c1 a1y n1y c1y x1 x1y h1 h1y) ?_
 refine And.intro (fun hc => ?_) (fun hc => ?_)
 ·have ne : x1 ≠ x1y := h08 hc
  exact And.intro (congrArg Value.bool (decide_eq_false fun e => by cases e; exact ne rfl).symm) rfl
 have q1 : x1 = x1y := Y05 hc
 subst q1
 exact And.intro (congrArg Value.bool (decide_eq_true rfl).symm) rfl
end Go.Proofs.YtfdlgbfeceodeaaGreat
namespace Go.Proofs.YtfdlgbfeceodeaaGreat
open Go.H
set_option linter.unusedVariables false
set_option linter.unusedSimpArgs false
set_option maxRecDepth 10000
theorem r0g (h : Hp) (cs : List Value) (x : D0) (hx : N0.R h cs x) (hl : l0h x ≤ 1048576) :
  Tr Tryz.prog 136 #[.agg cs.toArray] h fun v h' => ∃ cs', v = .agg cs'.toArray ∧ New N0 h h' cs' x := by
 obtain ⟨x0, x1, x2, rfl, rfl, h0, h1, h2⟩ := V0 hx
 refine c3 (args := [.agg #[.int .i64 x0, .int .i64 x1, .int .i64 x2]]) (fn := Tryz.f136) rfl ?_
 exact Exists.intro _ (And.intro rfl (New.pair (New.int h0) (New.pair (New.int h1) (New.int h2))))
theorem q0f (h : Hp) (a : Option Addr) (n c : Nat) (xs : C0) (hx : K0.R h [.slice a n c] xs) (hl : m01 xs ≤ 1048576) :
  Tr Tryz.prog 81 #[.slice a n c] h fun v h' => New K0 h h' [v] xs := by
 obtain ⟨rfl, hn⟩ := Sl.len hx
 have hl0 : xs.length ≤ 1048576 := by simp only [m01] at hl; omega
 refine c3 (args := [.slice a xs.length c]) (fn := Tryz.f81) rfl ?_
 refine And.intro ?_ ?_
 ·show 0 ≤ (xs.length : Int) ∧ (xs.length : Int) ≤ xs.length ∧ (xs.length : Int) * 24 ≤ 140737488355328 ∧ (xs.length : Int) ≤ 9223372036854775807
  omega
 refine Exists.intro { vars := [4], boxes := [], owns := [0], kept := [0] } (Exists.intro (fun vs os h' => ∃ (k : Nat) (L : List (List Value)) (Bs : List (List Nat)), k ≤ xs.length ∧ vs = [.int .i64 k] ∧ os = [F00 L xs.length [.int .i64 0, .int .i64 0, .int .i64 0]] ∧ L.length = k ∧
  F3 (N0.W h') L (xs.take k) Bs ∧ Sub h h' ∧ R5 h Bs.flatten) (Exists.intro (fun vs _ => match vs with | [.int _ j] => ((xs.length : Int) - j).toNat | _ => 0) ?_))
 refine And.intro ⟨0, [], [], by omega, rfl, rfl, rfl, trivial, Sub.refl _, by simp [R5]⟩ ?_
 rintro _ _ h1 ⟨k, L, Bs, hk, ⟨⟩, ⟨⟩, hlk, hW, hsub, hfr⟩
 refine And.intro (fun hc2 => ?_) (fun hc2 => ?_)
 ·have hlt : k < xs.length := by simpa using hc2
  obtain ⟨x, gx⟩ := o9 hlt
  obtain ⟨b1, cs1, e1, i1⟩ := Sl.get (Sl.mono hsub hx) gx (by decide)
  have hw := X2 hlt hn
  obtain ⟨x0, x1, x2, rfl, rfl, g0, g1, g2⟩ := V0 i1
  refine And.intro b1 (Exists.intro _ (And.intro e1 ?_))
  refine Tr.mono (r0g h1 [.int .i64 x0, .int .i64 x1, .int .i64 x2] (x0, x1, x2) (O0 g0 g1 g2) (by simp only [l0h]; omega)) ?_
  rintro v h2 ⟨cs2, rfl, B, hB1, hB2, hB3⟩
  obtain ⟨x0z, x1z, x2z, rfl, ez, _, _, _⟩ := V0 (N0.toR hB1)
  refine And.intro ?_ ?_
  ·show 0 ≤ (k : Int) ∧ (k : Int) < ((F00 L xs.length [.int .i64 0, .int .i64 0, .int .i64 0]).length : Nat)
   rw [o03 (by omega)]; omega
  refine Exists.intro [.int .i64 0, .int .i64 0, .int .i64 0] (And.intro (X06 hlk hlt) ?_)
  refine And.intro rfl (And.intro (by first | exact trivial | exact And.intro rfl trivial | exact And.intro rfl (And.intro rfl trivial) | exact And.intro rfl (And.intro rfl (And.intro rfl trivial)) | exact And.intro rfl (And.intro rfl (And.intro rfl (And.intro rfl trivial)))) (And.intro (by first | exact trivial | exact And.intro rfl trivial | exact And.intro rfl (And.intro rfl trivial) | exact And.intro rfl (And.intro rfl (And.intro rfl trivial)) | exact And.intro rfl (And.intro rfl (And.intro rfl (And.intro rfl trivial)))) (And.intro ?_ ?_)))
  ·refine ⟨k + 1, L ++ [[.int .i64 x0z, .int .i64 x1z, .int .i64 x2z]], Bs ++ [B], by omega, by rw [← hw], ?_, by simp [hlk], ?_, hsub.trans hB3, ?_⟩
   ·show [(F00 L xs.length [.int .i64 0, .int .i64 0, .int .i64 0]).set k [.int .i64 x0z, .int .i64 x1z, .int .i64 x2z]] = _
    rw [Y06 hlk hlt]
   ·rw [f8 gx]
    exact F3.snoc hB1 (F0a hW hB3)
   ·exact l05 hW hsub hfr hB2
  ·show ((xs.length : Int) - IntKind.i64.wrap ((k : Int) + 1)).toNat < ((xs.length : Int) - (k : Int)).toNat
   omega
 ·have hk : k = xs.length := by simp at hc2; omega
  intro v h' hf
  rw [Z06 (by omega)] at hf
  rw [hk, List.take_length] at hW
  exact E1.fresh (r := N0) hf hW hsub hfr
theorem B04 (h : Hp) (cs : List Value) (x : l0) (hx : P0.R h cs x) (hl : j00 x ≤ 1048576) :
  Tr Tryz.prog 23 #[.agg cs.toArray] h fun v h' => ∃ cs', v = .agg cs'.toArray ∧ New P0 h h' cs' x := by
 obtain ⟨x0, x1, a2, n2, c2, x2, rfl, rfl, h0, h1, h2⟩ := B0 hx
 simp only [j00] at hl
 refine c3 (args := [.agg #[.int .i64 x0, .int .i64 x1, .slice a2 n2 c2]]) (fn := Tryz.f23) rfl ?_
 refine Tr.mono (q0f h a2 n2 c2 x2 (Sl.mono (Sub.refl _) h2) (by omega)) ?_
 rintro v2 k2 N2
 obtain ⟨a2z, n2z, c2z, ez2⟩ := Wp.slice_cell N2.r
 cases ez2
 exact Exists.intro _ (And.intro rfl (New.pair (New.int h0) (New.pair (New.int h1) N2)))
theorem s0g (h : Hp) (a : Option Addr) (n c : Nat) (xs : U1) (hx : O2.R h [.slice a n c] xs) (hl : p00 xs ≤ 1048576) :
  Tr Tryz.prog 63 #[.slice a n c] h fun v h' => New O2 h h' [v] xs := by
 obtain ⟨rfl, hn⟩ := Sl.len hx
 have hl0 : xs.length ≤ 1048576 := by simp only [p00] at hl; omega
 refine c3 (args := [.slice a xs.length c]) (fn := Tryz.f63) rfl ?_
 refine And.intro ?_ ?_
 ·show 0 ≤ (xs.length : Int) ∧ (xs.length : Int) ≤ xs.length ∧ (xs.length : Int) * 8 ≤ 140737488355328 ∧ (xs.length : Int) ≤ 9223372036854775807
  omega
 refine Exists.intro { vars := [4], boxes := [], owns := [0], kept := [0] } (Exists.intro (fun vs os h' => ∃ (k : Nat) (L : List (List Value)) (Bs : List (List Nat)), k ≤ xs.length ∧ vs = [.int .i64 k] ∧ os = [F00 L xs.length [.int .i64 0]] ∧ L.length = k ∧
  F3 (Wp.int.W h') L (xs.take k) Bs ∧ Sub h h' ∧ R5 h Bs.flatten) (Exists.intro (fun vs _ => match vs with | [.int _ j] => ((xs.length : Int) - j).toNat | _ => 0) ?_))
 refine And.intro ⟨0, [], [], by omega, rfl, rfl, rfl, trivial, Sub.refl _, by simp [R5]⟩ ?_
 rintro _ _ h1 ⟨k, L, Bs, hk, ⟨⟩, ⟨⟩, hlk, hW, hsub, hfr⟩
 refine And.intro (fun hc2 => ?_) (fun hc2 => ?_)
 ·have hlt : k < xs.length := by simpa using hc2
  obtain ⟨x, gx⟩ := o9 hlt
  obtain ⟨b1, cs1, e1, i1⟩ := Sl.get (Sl.mono hsub hx) gx (by decide)
  have hw := X2 hlt hn
  obtain ⟨rfl, g1⟩ := i1
  refine And.intro b1 (Exists.intro _ (And.intro e1 ?_))
  obtain ⟨B, hB1, hB2, hB3⟩ := New.int (h := h1) g1
  refine And.intro ?_ ?_
  ·show 0 ≤ (k : Int) ∧ (k : Int) < ((F00 L xs.length [.int .i64 0]).length : Nat)
   rw [o03 (by omega)]; omega
  refine Exists.intro [.int .i64 0] (And.intro (X06 hlk hlt) ?_)
  refine And.intro rfl (And.intro (by first | exact trivial | exact And.intro rfl trivial | exact And.intro rfl (And.intro rfl trivial) | exact And.intro rfl (And.intro rfl (And.intro rfl trivial)) | exact And.intro rfl (And.intro rfl (And.intro rfl (And.intro rfl trivial)))) (And.intro (by first | exact trivial | exact And.intro rfl trivial | exact And.intro rfl (And.intro rfl trivial) | exact And.intro rfl (And.intro rfl (And.intro rfl trivial)) | exact And.intro rfl (And.intro rfl (And.intro rfl (And.intro rfl trivial)))) (And.intro ?_ ?_)))
  ·refine ⟨k + 1, L ++ [[.int .i64 x]], Bs ++ [B], by omega, by rw [← hw], ?_, by simp [hlk], ?_, hsub.trans hB3, ?_⟩
   ·show [(F00 L xs.length [.int .i64 0]).set k [.int .i64 x]] = _
    rw [Y06 hlk hlt]
   ·rw [f8 gx]
    exact F3.snoc hB1 (F0a hW hB3)
   ·exact l05 hW hsub hfr hB2
  ·show ((xs.length : Int) - IntKind.i64.wrap ((k : Int) + 1)).toNat < ((xs.length : Int) - (k : Int)).toNat
   omega
 ·have hk : k = xs.length := by simp at hc2; omega
  intro v h' hf
  rw [Z06 (by omega)] at hf
  rw [hk, List.take_length] at hW
  exact E1.fresh (r := Wp.int) hf hW hsub hfr
theorem r0f (h : Hp) (a : Option Addr) (n c : Nat) (xs : l3) (hx : i5.R h [.slice a n c] xs) (hl : Q00 xs ≤ 1048576) :
  Tr Tryz.prog 58 #[.slice a n c] h fun v h' => New i5 h h' [v] xs := by
 obtain ⟨rfl, hn⟩ := Sl.len hx
 have hl0 : xs.length ≤ 1048576 := by simp only [Q00] at hl; omega
 refine c3 (args := [.slice a xs.length c]) (fn := Tryz.f58) rfl ?_
 refine And.intro ?_ ?_
 ·show 0 ≤ (xs.length : Int) ∧ (xs.length : Int) ≤ xs.length ∧ (xs.length : Int) * 24 ≤ 140737488355328 ∧ (xs.length : Int) ≤ 9223372036854775807
  omega
 refine Exists.intro { vars := [4], boxes := [], owns := [0], kept := [0] } (Exists.intro (fun vs os h' => ∃ (k : Nat) (L : List (List Value)) (Bs : List (List Nat)), k ≤ xs.length ∧ vs = [.int .i64 k] ∧ os = [F00 L xs.length [.slice none 0 0]] ∧ L.length = k ∧
  F3 (O2.W h') L (xs.take k) Bs ∧ Sub h h' ∧ R5 h Bs.flatten) (Exists.intro (fun vs _ => match vs with | [.int _ j] => ((xs.length : Int) - j).toNat | _ => 0) ?_))
 refine And.intro ⟨0, [], [], by omega, rfl, rfl, rfl, trivial, Sub.refl _, by simp [R5]⟩ ?_
 rintro _ _ h1 ⟨k, L, Bs, hk, ⟨⟩, ⟨⟩, hlk, hW, hsub, hfr⟩
 refine And.intro (fun hc2 => ?_) (fun hc2 => ?_)
 ·have hlt : k < xs.length := by simpa using hc2
  obtain ⟨x, gx⟩ := o9 hlt
  obtain ⟨b1, cs1, e1, i1⟩ := Sl.get (Sl.mono hsub hx) gx (by decide)
  have hw := X2 hlt hn
  obtain ⟨a1, n1, c1, rfl⟩ := Wp.slice_cell i1
  refine And.intro b1 (Exists.intro _ (And.intro e1 ?_))
  refine Tr.mono (s0g h1 _ _ _ x i1 (by have := c0g (m := p00) gx; simp only [Q00] at hl; omega)) ?_
  rintro v h2 ⟨B, hB1, hB2, hB3⟩
  obtain ⟨a2, n2, c2, e2⟩ := Wp.slice_cell (O2.toR hB1)
  cases e2
  refine And.intro ?_ ?_
  ·show 0 ≤ (k : Int) ∧ (k : Int) < ((F00 L xs.length [.slice none 0 0]).length : Nat)
   rw [o03 (by omega)]; omega
  refine Exists.intro [.slice none 0 0] (And.intro (X06 hlk hlt) ?_)
  refine And.intro rfl (And.intro (by first | exact trivial | exact And.intro rfl trivial | exact And.intro rfl (And.intro rfl trivial) | exact And.intro rfl (And.intro rfl (And.intro rfl trivial)) | exact And.intro rfl (And.intro rfl (And.intro rfl (And.intro rfl trivial)))) (And.intro (by first | exact trivial | exact And.intro rfl trivial | exact And.intro rfl (And.intro rfl trivial) | exact And.intro rfl (And.intro rfl (And.intro rfl trivial)) | exact And.intro rfl (And.intro rfl (And.intro rfl (And.intro rfl trivial)))) (And.intro ?_ ?_)))
  ·refine ⟨k + 1, L ++ [[.slice a2 n2 c2]], Bs ++ [B], by omega, by rw [← hw], ?_, by simp [hlk], ?_, hsub.trans hB3, ?_⟩
   ·show [(F00 L xs.length [.slice none 0 0]).set k [.slice a2 n2 c2]] = _
    rw [Y06 hlk hlt]
   ·rw [f8 gx]
    exact F3.snoc hB1 (F0a hW hB3)
   ·exact l05 hW hsub hfr hB2
  ·show ((xs.length : Int) - IntKind.i64.wrap ((k : Int) + 1)).toNat < ((xs.length : Int) - (k : Int)).toNat
   omega
 ·have hk : k = xs.length := by simp at hc2; omega
  intro v h' hf
  rw [Z06 (by omega)] at hf
  rw [hk, List.take_length] at hW
  exact E1.fresh (r := O2) hf hW hsub hfr
theorem P9 (h : Hp) (cs : List Value) (x : M0) (hx : S0.R h cs x) (hl : D3 x ≤ 1048576) :
  Tr Tryz.prog 29 #[.agg cs.toArray] h fun v h' => ∃ cs', v = .agg cs'.toArray ∧ New S0 h h' cs' x := by
 obtain ⟨x0, a1, n1, c1, x1, rfl, rfl, h0, h1⟩ := D2 hx
 simp only [D3] at hl
 refine c3 (args := [.agg #[.int .i64 x0, .slice a1 n1 c1]]) (fn := Tryz.f29) rfl ?_
 refine Tr.mono (r0f h a1 n1 c1 x1 (Sl.mono (Sub.refl _) h1) (by omega)) ?_
 rintro v1 k1 N1
 obtain ⟨a1z, n1z, c1z, ez1⟩ := Wp.slice_cell N1.r
 cases ez1
 exact Exists.intro _ (And.intro rfl (New.pair (New.int h0) N1))
end Go.Proofs.YtfdlgbfeceodeaaGreat
namespace Go.Proofs.YtfdlgbfeceodeaaGreat
open Go.H
set_option linter.unusedVariables false
set_option linter.unusedSimpArgs false
set_option maxRecDepth 10000
theorem c0d (h : Hp) (a : Option Addr) (n c : Nat) (xs : C0) (B : List Nat) (k : Int) (hx : K0.W h [.slice a n c] xs B) (hB : B.Nodup) (hk : 0 ≤ k ∧ k + (A02 xs : Nat) ≤ 4611686018427387904) :
  Tr Tryz.prog 86 #[.slice a n c, .int .i64 k] h fun v h' => v = .int .i64 (k + (A02 xs : Nat)) ∧ K0.W h' [.slice a n c] (r03 xs k) B ∧ ∀ y, y ∉ B → h' y = h y := by
 obtain ⟨rfl, hn⟩ := Sl.len (K0.toR hx)
 refine c3 (args := [.slice a xs.length c, .int .i64 k]) (fn := Tryz.f86) rfl ?_
 refine Exists.intro { vars := [1, 5], boxes := [], owns := [] } (Exists.intro (fun vs _ h' => ∃ (j : Nat) (kk : Int), kk = k + (d5 I4 (xs.take j) : Nat) ∧ j ≤ xs.length ∧ vs = [.int .i64 kk, .int .i64 j] ∧ K0.W h' [.slice a xs.length c] (P00 A00 I4 xs k j) B ∧ ∀ y, y ∉ B → h' y = h y) (Exists.intro (fun vs _ => match vs with | [_, .int _ j] => ((xs.length : Int) - j).toNat | _ => 0) ?_))
 refine And.intro ⟨0, k, by simp [d5], by omega, rfl, by rw [a07]; exact hx, fun _ _ => rfl⟩ ?_
 rintro _ _ h1 ⟨j, kk, hkk, hj, ⟨⟩, W0, F0⟩
 refine And.intro (fun hc2 => ?_) (fun hc2 => ?_)
 ·have hlt : j < xs.length := by simpa using hc2
  obtain ⟨x, gx⟩ := o9 hlt
  have G0 := d09 (mk := A00) (c := I4) (k := k) gx
  have hs1 : d5 I4 (xs.take (j + 1)) = d5 I4 (xs.take j) + I4 x := S02 gx
  have hs2 := T02 I4 xs (j + 1)
  have hw := X2 hlt hn
  have hkx : 0 ≤ kk ∧ kk + (I4 x : Nat) ≤ 4611686018427387904 := by
   have : (A02 xs : Int) = (d5 I4 xs : Nat) := rfl
   omega
  obtain ⟨x0, x1, x2⟩ := x
  simp only [I4] at hkx
  obtain ⟨b0, cs0, Bi0, bb0, of0, cur0, ty0, ea0, e0, w0, hb0, hin0, hbB0, hbn0, hsub0, hnd0, upd0, st0⟩ := Wp.at W0 hB G0 (by decide)
  cases ea0
  obtain ⟨x0q0, x1q0, x2q0, rfl, ex0, rfl, g0q0, g1q0, g2q0⟩ := c07 w0
  cases ex0
  refine And.intro b0 ?_
  refine u00.mk (Int.natCast_nonneg j) hb0 (hin0 0 (by decide)) (by rw [Int.toNat_natCast]; rfl) trivial ?_
  have W1 : K0.W (h1.set bb0 (.cells (cur0.setIfInBounds (of0 + (j * N0.sz + 0)) (.int .i64 (kk))) ty0 (0, 0))) [.slice (some ⟨bb0, of0, none⟩) xs.length c] ((P00 A00 I4 xs k j).set j (kk, x1, x2)) B := st0 0 (.int .i64 (kk)) (kk, x1, x2) (by decide) fun h' hf => q03 (R0g (by  omega) (by  omega)) g1q0 g2q0
  have F1 : ∀ y, y ∉ B → (h1.set bb0 (.cells (cur0.setIfInBounds (of0 + (j * N0.sz + 0)) (.int .i64 (kk))) ty0 (0, 0))) y = h y := fun y hy => (Hp.set_other _ _ fun e => hy (by rw [e]; exact hbB0)).trans (F0 y hy)
  generalize (h1.set bb0 (.cells (cur0.setIfInBounds (of0 + (j * N0.sz + 0)) (.int .i64 (kk))) ty0 (0, 0))) = kst0 at W1 F1 ⊢
  have ek1 : IntKind.i64.wrap (kk + 1) = kk + (1) := by rw [w64 (by  omega) (by  omega)] <;> omega
  have G1 : ((P00 A00 I4 xs k j).set j (kk, x1, x2))[j]? = some (kk, x1, x2) := by rw [List.getElem?_set_self (by rw [L07]; exact hlt)]
  obtain ⟨b1, cs1, Bi1, bb1, of1, cur1, ty1, ea1, e1, w1, hb1, hin1, hbB1, hbn1, hsub1, hnd1, upd1, st1⟩ := Wp.at W1 hB G1 (by decide)
  cases ea1
  obtain ⟨x0q1, x1q1, x2q1, rfl, ex1, rfl, g0q1, g1q1, g2q1⟩ := c07 w1
  cases ex1
  refine And.intro b1 ?_
  refine u00.mk (Int.natCast_nonneg j) hb1 (hin1 1 (by decide)) (by rw [Int.toNat_natCast]; rfl) trivial ?_
  have W2 : K0.W (kst0.set bb0 (.cells (cur1.setIfInBounds (of0 + (j * N0.sz + 1)) (.int .i64 (IntKind.i64.wrap (kk + 1)))) ty1 (0, 0))) [.slice (some ⟨bb0, of0, none⟩) xs.length c] ((P00 A00 I4 xs k j).set j (kk, IntKind.i64.wrap (kk + 1), x2)) B := by have := st1 1 (.int .i64 (IntKind.i64.wrap (kk + 1))) (kk, IntKind.i64.wrap (kk + 1), x2) (by decide) fun h' hf => q03 g0q1 (R0g (by rw [ek1]; omega) (by rw [ek1]; omega)) g2q1; rwa [List.set_set] at this
  have F2 : ∀ y, y ∉ B → (kst0.set bb0 (.cells (cur1.setIfInBounds (of0 + (j * N0.sz + 1)) (.int .i64 (IntKind.i64.wrap (kk + 1)))) ty1 (0, 0))) y = h y := fun y hy => (Hp.set_other _ _ fun e => hy (by rw [e]; exact hbB1)).trans (F1 y hy)
  generalize (kst0.set bb0 (.cells (cur1.setIfInBounds (of0 + (j * N0.sz + 1)) (.int .i64 (IntKind.i64.wrap (kk + 1)))) ty1 (0, 0))) = kst1 at W2 F2 ⊢
  have ek2 : IntKind.i64.wrap (IntKind.i64.wrap (kk + 1) + 1) = kk + (1 + 1) := by rw [w64 (by rw [ek1]; omega) (by rw [ek1]; omega)] <;> rw [ek1] <;> omega
  have G2 : ((P00 A00 I4 xs k j).set j (kk, IntKind.i64.wrap (kk + 1), x2))[j]? = some (kk, IntKind.i64.wrap (kk + 1), x2) := by rw [List.getElem?_set_self (by rw [L07]; exact hlt)]
  obtain ⟨b2, cs2, Bi2, bb2, of2, cur2, ty2, ea2, e2, w2, hb2, hin2, hbB2, hbn2, hsub2, hnd2, upd2, st2⟩ := Wp.at W2 hB G2 (by decide)
  cases ea2
  obtain ⟨x0q2, x1q2, x2q2, rfl, ex2, rfl, g0q2, g1q2, g2q2⟩ := c07 w2
  cases ex2
  refine And.intro b2 ?_
  refine u00.mk (Int.natCast_nonneg j) hb2 (hin2 2 (by decide)) (by rw [Int.toNat_natCast]; rfl) trivial ?_
  have W3 : K0.W (kst1.set bb0 (.cells (cur2.setIfInBounds (of0 + (j * N0.sz + 2)) (.int .i64 (IntKind.i64.wrap (IntKind.i64.wrap (kk + 1) + 1)))) ty2 (0, 0))) [.slice (some ⟨bb0, of0, none⟩) xs.length c] ((P00 A00 I4 xs k j).set j (kk, IntKind.i64.wrap (kk + 1), IntKind.i64.wrap (IntKind.i64.wrap (kk + 1) + 1))) B := by have := st2 2 (.int .i64 (IntKind.i64.wrap (IntKind.i64.wrap (kk + 1) + 1))) (kk, IntKind.i64.wrap (kk + 1), IntKind.i64.wrap (IntKind.i64.wrap (kk + 1) + 1)) (by decide) fun h' hf => q03 g0q2 g1q2 (R0g (by rw [ek2]; omega) (by rw [ek2]; omega)); rwa [List.set_set] at this
  have F3 : ∀ y, y ∉ B → (kst1.set bb0 (.cells (cur2.setIfInBounds (of0 + (j * N0.sz + 2)) (.int .i64 (IntKind.i64.wrap (IntKind.i64.wrap (kk + 1) + 1)))) ty2 (0, 0))) y = h y := fun y hy => (Hp.set_other _ _ fun e => hy (by rw [e]; exact hbB2)).trans (F2 y hy)
  generalize (kst1.set bb0 (.cells (cur2.setIfInBounds (of0 + (j * N0.sz + 2)) (.int .i64 (IntKind.i64.wrap (IntKind.i64.wrap (kk + 1) + 1)))) ty2 (0, 0))) = kst2 at W3 F3 ⊢
  have ek3 : IntKind.i64.wrap (IntKind.i64.wrap (IntKind.i64.wrap (kk + 1) + 1) + 1) = kk + (1 + 1 + 1) := by rw [w64 (by rw [ek2]; omega) (by rw [ek2]; omega)] <;> rw [ek2] <;> omega
  have em : (kk, IntKind.i64.wrap (kk + 1), IntKind.i64.wrap (IntKind.i64.wrap (kk + 1) + 1)) = A00 (x0, x1, x2) kk := by
   simp only [A00, I4]
   exact (congr (congrArg Prod.mk rfl) (congr (congrArg Prod.mk (by rw [ek1] <;> first | rfl | omega | (simp; omega))) (by rw [ek2] <;> first | rfl | omega | (simp; omega))))
  have eL : (P00 A00 I4 xs k j).set j (kk, IntKind.i64.wrap (kk + 1), IntKind.i64.wrap (IntKind.i64.wrap (kk + 1) + 1)) = P00 A00 I4 xs k (j + 1) := by rw [em]; rw [hkk]; exact e09 gx
  rw [eL] at W3
  refine And.intro rfl (And.intro (by first | exact trivial | exact And.intro rfl trivial | exact And.intro rfl (And.intro rfl trivial) | exact And.intro rfl (And.intro rfl (And.intro rfl trivial)) | exact And.intro rfl (And.intro rfl (And.intro rfl (And.intro rfl trivial)))) (And.intro (by first | exact trivial | exact And.intro rfl trivial | exact And.intro rfl (And.intro rfl trivial) | exact And.intro rfl (And.intro rfl (And.intro rfl trivial)) | exact And.intro rfl (And.intro rfl (And.intro rfl (And.intro rfl trivial)))) (And.intro ?_ ?_)))
  ·refine ⟨j + 1, IntKind.i64.wrap (IntKind.i64.wrap (IntKind.i64.wrap (kk + 1) + 1) + 1), ?_, by omega, by rw [← hw], W3, F3⟩
   rw [ek3]; rw [hs1]; simp only [I4]; omega
  ·show ((xs.length : Int) - IntKind.i64.wrap ((j : Int) + 1)).toNat < ((xs.length : Int) - (j : Int)).toNat
   omega
 ·have hj' : j = xs.length := by simp at hc2; omega
  subst hj'
  rw [List.take_length] at hkk
  rw [c09] at W0
  exact And.intro (congrArg (Value.int .i64) hkk) (And.intro W0 F0)
theorem R07 (h : Hp) (cs : List Value) (x : l0) (B : List Nat) (k : Int) (hx : P0.W h cs x B) (hB : B.Nodup) (hk : 0 ≤ k ∧ k + (G8 x : Nat) ≤ 4611686018427387904) :
  Tr Tryz.prog 26 #[.agg cs.toArray, .int .i64 k] h fun v h' => v = .int .i64 (k + (G8 x : Nat)) ∧ P0.W h' cs (a06 x k) B ∧ ∀ y, y ∉ B → h' y = h y := by
 obtain ⟨x0, x1, a2, n2, c2, x2, B2, rfl, rfl, rfl, h0, h1, h2⟩ := D0d hx
 simp only [G8] at hk
 refine c3 (args := [.agg #[.int .i64 x0, .int .i64 x1, .slice a2 n2 c2], .int .i64 k]) (fn := Tryz.f26) rfl ?_
 have hn2 : B.Nodup := by first | exact hB | (have := hB; simp only [List.nil_append, List.append_nil, List.nodup_append] at this; grind)
 refine Tr.mono (c0d _ a2 n2 c2 x2 B (k) h2 hn2 ⟨by omega, by omega⟩) ?_
 rintro v2 h2m ⟨rfl, wm2, fm2⟩
 have eK : (k + (A02 x2 : Nat) : Int) = k + (G8 (x0, x1, x2) : Nat) := by simp only [G8] <;> omega
 have WW : P0.W h2m [.int .i64 x0, .int .i64 x1, .slice a2 n2 c2] (x0, x1, r03 x2 (k)) (B) := ⟨[.int .i64 x0], [.int .i64 x1, .slice a2 n2 c2], [], ([] ++ B), rfl, rfl, ⟨⟨rfl, h0⟩, rfl⟩, ⟨[.int .i64 x1], [.slice a2 n2 c2], [], B, rfl, rfl, ⟨⟨rfl, h1⟩, rfl⟩, wm2⟩⟩
 have em : (x0, x1, r03 x2 (k)) = a06 (x0, x1, x2) k := by
  unfold a06
  exact (congr (congrArg Prod.mk rfl) (congr (congrArg Prod.mk rfl) rfl))
 rw [em] at WW
 exact And.intro (congrArg (Value.int .i64) eK) (And.intro WW (fun y hy => fm2 y (fun hy2 => hy (by first | exact hy2 | (simp only [List.nil_append, List.append_nil, List.mem_append, List.not_mem_nil, false_or, or_false] at hy2 ⊢; grind)))))
theorem O0d (h : Hp) (a : Option Addr) (n c : Nat) (xs : U1) (B : List Nat) (k : Int) (hx : O2.W h [.slice a n c] xs B) (hB : B.Nodup) (hk : 0 ≤ k ∧ k + (R9 xs : Nat) ≤ 4611686018427387904) :
  Tr Tryz.prog 49 #[.slice a n c, .int .i64 k] h fun v h' => v = .int .i64 (k + (R9 xs : Nat)) ∧ O2.W h' [.slice a n c] (n01 xs k) B ∧ ∀ y, y ∉ B → h' y = h y := by
 obtain ⟨rfl, hn⟩ := Sl.len (O2.toR hx)
 refine c3 (args := [.slice a xs.length c, .int .i64 k]) (fn := Tryz.f49) rfl ?_
 refine Exists.intro { vars := [1, 5], boxes := [], owns := [] } (Exists.intro (fun vs _ h' => ∃ (j : Nat) (kk : Int), kk = k + (d5 (fun _ => 1) (xs.take j) : Nat) ∧ j ≤ xs.length ∧ vs = [.int .i64 kk, .int .i64 j] ∧ O2.W h' [.slice a xs.length c] (P00 (fun _ k => k) (fun _ => 1) xs k j) B ∧ ∀ y, y ∉ B → h' y = h y) (Exists.intro (fun vs _ => match vs with | [_, .int _ j] => ((xs.length : Int) - j).toNat | _ => 0) ?_))
 refine And.intro ⟨0, k, by simp [d5], by omega, rfl, by rw [a07]; exact hx, fun _ _ => rfl⟩ ?_
 rintro _ _ h1 ⟨j, kk, hkk, hj, ⟨⟩, W0, F0⟩
 refine And.intro (fun hc2 => ?_) (fun hc2 => ?_)
 ·have hlt : j < xs.length := by simpa using hc2
  obtain ⟨x, gx⟩ := o9 hlt
  have G0 := d09 (mk := (fun _ k => k)) (c := (fun _ => 1)) (k := k) gx
  have hs1 : d5 (fun _ => 1) (xs.take (j + 1)) = d5 (fun _ => 1) (xs.take j) + 1 := S02 gx
  have hs2 := T02 (fun _ => 1) xs (j + 1)
  have hw := X2 hlt hn
  have hkx : 0 ≤ kk ∧ kk + (1 : Nat) ≤ 4611686018427387904 := by
   have : (R9 xs : Int) = (d5 (fun _ => 1) xs : Nat) := rfl
   omega
  obtain ⟨b0, cs0, Bi0, bb0, of0, cur0, ty0, ea0, e0, w0, hb0, hin0, hbB0, hbn0, hsub0, hnd0, upd0, st0⟩ := Wp.at W0 hB G0 (by decide)
  cases ea0
  obtain ⟨⟨rfl, _⟩, rfl⟩ := w0
  refine And.intro b0 ?_
  refine u00.mk (Int.natCast_nonneg j) hb0 (hin0 0 (by decide)) (by rw [Int.toNat_natCast]; rfl) trivial ?_
  have W1 : O2.W (h1.set bb0 (.cells (cur0.setIfInBounds (of0 + (j * Wp.int.sz + 0)) (.int .i64 (kk))) ty0 (0, 0))) [.slice (some ⟨bb0, of0, none⟩) xs.length c] ((P00 (fun _ k => k) (fun _ => 1) xs k j).set j (kk)) B := st0 0 (.int .i64 (kk)) (kk) (by decide) fun h' hf => ⟨⟨rfl, R0g (by omega) (by omega)⟩, rfl⟩
  have F1 : ∀ y, y ∉ B → (h1.set bb0 (.cells (cur0.setIfInBounds (of0 + (j * Wp.int.sz + 0)) (.int .i64 (kk))) ty0 (0, 0))) y = h y := fun y hy => (Hp.set_other _ _ fun e => hy (by rw [e]; exact hbB0)).trans (F0 y hy)
  generalize (h1.set bb0 (.cells (cur0.setIfInBounds (of0 + (j * Wp.int.sz + 0)) (.int .i64 (kk))) ty0 (0, 0))) = kst0 at W1 F1 ⊢
  have ek1 : IntKind.i64.wrap (kk + 1) = kk + (1) := by rw [w64 (by  omega) (by  omega)] <;> omega
  have em : kk = (fun _ k => k) x kk := rfl
  have eL : (P00 (fun _ k => k) (fun _ => 1) xs k j).set j (kk) = P00 (fun _ k => k) (fun _ => 1) xs k (j + 1) := by rw [hkk]; exact e09 gx
  rw [eL] at W1
  refine And.intro rfl (And.intro (by first | exact trivial | exact And.intro rfl trivial | exact And.intro rfl (And.intro rfl trivial) | exact And.intro rfl (And.intro rfl (And.intro rfl trivial)) | exact And.intro rfl (And.intro rfl (And.intro rfl (And.intro rfl trivial)))) (And.intro (by first | exact trivial | exact And.intro rfl trivial | exact And.intro rfl (And.intro rfl trivial) | exact And.intro rfl (And.intro rfl (And.intro rfl trivial)) | exact And.intro rfl (And.intro rfl (And.intro rfl (And.intro rfl trivial)))) (And.intro ?_ ?_)))
  ·refine ⟨j + 1, IntKind.i64.wrap (kk + 1), ?_, by omega, by rw [← hw], W1, F1⟩
   rw [ek1]; rw [hs1]; omega
  ·show ((xs.length : Int) - IntKind.i64.wrap ((j : Int) + 1)).toNat < ((xs.length : Int) - (j : Int)).toNat
   omega
 ·have hj' : j = xs.length := by simp at hc2; omega
  subst hj'
  rw [List.take_length] at hkk
  rw [c09] at W0
  exact And.intro (congrArg (Value.int .i64) hkk) (And.intro W0 F0)
theorem d0d (h : Hp) (a : Option Addr) (n c : Nat) (xs : l3) (B : List Nat) (k : Int) (hx : i5.W h [.slice a n c] xs B) (hB : B.Nodup) (hk : 0 ≤ k ∧ k + (d07 xs : Nat) ≤ 4611686018427387904) :
  Tr Tryz.prog 54 #[.slice a n c, .int .i64 k] h fun v h' => v = .int .i64 (k + (d07 xs : Nat)) ∧ i5.W h' [.slice a n c] (j08 xs k) B ∧ ∀ y, y ∉ B → h' y = h y := by
 obtain ⟨rfl, hn⟩ := Sl.len (i5.toR hx)
 refine c3 (args := [.slice a xs.length c, .int .i64 k]) (fn := Tryz.f54) rfl ?_
 refine Exists.intro { vars := [1, 5], boxes := [], owns := [] } (Exists.intro (fun vs _ h' => ∃ (j : Nat) (kk : Int), kk = k + (d5 R9 (xs.take j) : Nat) ∧ j ≤ xs.length ∧ vs = [.int .i64 kk, .int .i64 j] ∧ i5.W h' [.slice a xs.length c] (P00 n01 R9 xs k j) B ∧ ∀ y, y ∉ B → h' y = h y) (Exists.intro (fun vs _ => match vs with | [_, .int _ j] => ((xs.length : Int) - j).toNat | _ => 0) ?_))
 refine And.intro ⟨0, k, by simp [d5], by omega, rfl, by rw [a07]; exact hx, fun _ _ => rfl⟩ ?_
 rintro _ _ h1 ⟨j, kk, hkk, hj, ⟨⟩, W0, F0⟩
 refine And.intro (fun hc2 => ?_) (fun hc2 => ?_)
 ·have hlt : j < xs.length := by simpa using hc2
  obtain ⟨x, gx⟩ := o9 hlt
  have G0 := d09 (mk := n01) (c := R9) (k := k) gx
  have hs1 : d5 R9 (xs.take (j + 1)) = d5 R9 (xs.take j) + R9 x := S02 gx
  have hs2 := T02 R9 xs (j + 1)
  have hw := X2 hlt hn
  have hkx : 0 ≤ kk ∧ kk + (R9 x : Nat) ≤ 4611686018427387904 := by
   have : (d07 xs : Int) = (d5 R9 xs : Nat) := rfl
   omega
  obtain ⟨b0, cs0, Bi0, bb0, of0, cur0, ty0, ea0, e0, w0, hb0, hin0, hbB0, hbn0, hsub0, hnd0, upd0, st0⟩ := Wp.at W0 hB G0 (by decide)
  cases ea0
  obtain ⟨aq0, nq0, cq0, eq0⟩ := Wp.slice_cell (O2.toR w0)
  cases eq0
  refine And.intro b0 (Exists.intro _ (And.intro e0 ?_))
  refine Tr.mono (O0d _ aq0 nq0 cq0 (x) Bi0 (kk) w0 hnd0 ⟨by omega, by omega⟩) ?_
  rintro v0 h0m ⟨rfl, wm0, fm0⟩
  have W1 : i5.W h0m [.slice (some ⟨bb0, of0, none⟩) xs.length c] ((P00 n01 R9 xs k j).set j (n01 x (kk))) B := upd0 h0m (n01 x (kk)) (fm0) wm0
  have F1 : ∀ y, y ∉ B → h0m y = h y := fun y hy => (fm0 y fun hy2 => hy (hsub0 y (by simp [hy2]))).trans (F0 y hy)
  have ek1 : (kk + (R9 x : Nat) : Int) = kk + ((R9 x : Nat)) := by omega
  have em : (n01 x (kk)) = n01 x kk := rfl
  have eL : (P00 n01 R9 xs k j).set j (n01 x (kk)) = P00 n01 R9 xs k (j + 1) := by rw [hkk]; exact e09 gx
  rw [eL] at W1
  refine And.intro rfl (And.intro (by first | exact trivial | exact And.intro rfl trivial | exact And.intro rfl (And.intro rfl trivial) | exact And.intro rfl (And.intro rfl (And.intro rfl trivial)) | exact And.intro rfl (And.intro rfl (And.intro rfl (And.intro rfl trivial)))) (And.intro (by first | exact trivial | exact And.intro rfl trivial | exact And.intro rfl (And.intro rfl trivial) | exact And.intro rfl (And.intro rfl (And.intro rfl trivial)) | exact And.intro rfl (And.intro rfl (And.intro rfl (And.intro rfl trivial)))) (And.intro ?_ ?_)))
  ·refine ⟨j + 1, kk + (R9 x : Nat), ?_, by omega, by rw [← hw], W1, F1⟩
   rw [ek1]; rw [hs1]; omega
  ·show ((xs.length : Int) - IntKind.i64.wrap ((j : Int) + 1)).toNat < ((xs.length : Int) - (j : Int)).toNat
   omega
 ·have hj' : j = xs.length := by simp at hc2; omega
  subst hj'
  rw [List.take_length] at hkk
  rw [c09] at W0
  exact And.intro (congrArg (Value.int .i64) hkk) (And.intro W0 F0)
theorem u05 (h : Hp) (cs : List Value) (x : M0) (B : List Nat) (k : Int) (hx : S0.W h cs x B) (hB : B.Nodup) (hk : 0 ≤ k ∧ k + (C6 x : Nat) ≤ 4611686018427387904) :
  Tr Tryz.prog 32 #[.agg cs.toArray, .int .i64 k] h fun v h' => v = .int .i64 (k + (C6 x : Nat)) ∧ S0.W h' cs (O01 x k) B ∧ ∀ y, y ∉ B → h' y = h y := by
 obtain ⟨x0, a1, n1, c1, x1, B1, rfl, rfl, rfl, h0, h1⟩ := b06 hx
 simp only [C6] at hk
 refine c3 (args := [.agg #[.int .i64 x0, .slice a1 n1 c1], .int .i64 k]) (fn := Tryz.f32) rfl ?_
 have hn1 : B.Nodup := by first | exact hB | (have := hB; simp only [List.nil_append, List.append_nil, List.nodup_append] at this; grind)
 refine Tr.mono (d0d _ a1 n1 c1 x1 B (k) h1 hn1 ⟨by omega, by omega⟩) ?_
 rintro v1 h1m ⟨rfl, wm1, fm1⟩
 have eK : (k + (d07 x1 : Nat) : Int) = k + (C6 (x0, x1) : Nat) := by simp only [C6] <;> omega
 have WW : S0.W h1m [.int .i64 x0, .slice a1 n1 c1] (x0, j08 x1 (k)) (B) := ⟨[.int .i64 x0], [.slice a1 n1 c1], [], B, rfl, rfl, ⟨⟨rfl, h0⟩, rfl⟩, wm1⟩
 have em : (x0, j08 x1 (k)) = O01 (x0, x1) k := by
  unfold O01
  exact (congr (congrArg Prod.mk rfl) rfl)
 rw [em] at WW
 exact And.intro (congrArg (Value.int .i64) eK) (And.intro WW (fun y hy => fm1 y (fun hy2 => hy (by first | exact hy2 | (simp only [List.nil_append, List.append_nil, List.mem_append, List.not_mem_nil, false_or, or_false] at hy2 ⊢; grind)))))
end Go.Proofs.YtfdlgbfeceodeaaGreat
namespace Go.Proofs.YtfdlgbfeceodeaaGreat
open Go.H
set_option linter.unusedVariables false
set_option linter.unusedSimpArgs false
set_option maxRecDepth 10000
theorem e0d (h : Hp) (a : Option Addr) (n c : Nat) (xs : C0) (k : Int) (hx : K0.R h [.slice a n c] (r03 xs k)) (hk : 0 ≤ k ∧ k + (A02 xs : Nat) ≤ 4611686018427387904) :
  Tr Tryz.prog 104 #[.slice a n c, .int .i64 k] h fun v h' => v = .int .i64 (k + (A02 xs : Nat)) ∧ h' = h := by
 obtain ⟨en, hn⟩ := Sl.len hx
 rw [show (r03 xs k).length = xs.length from i00 _ _ _ _] at en
 subst en
 refine c3 (args := [.slice a xs.length c, .int .i64 k]) (fn := Tryz.f104) rfl ?_
 refine Exists.intro { vars := [1, 5], boxes := [], owns := [] } (Exists.intro (fun vs _ h' => ∃ (j : Nat) (kk : Int), kk = k + (d5 I4 (xs.take j) : Nat) ∧ j ≤ xs.length ∧ vs = [.int .i64 kk, .int .i64 j] ∧ h' = h) (Exists.intro (fun vs _ => match vs with | [_, .int _ j] => ((xs.length : Int) - j).toNat | _ => 0) ?_))
 refine And.intro ⟨0, k, by simp [d5], by omega, rfl, rfl⟩ ?_
 rintro _ _ h1 ⟨j, kk, hkk, hj, ⟨⟩, rfl⟩
 refine And.intro (fun hc2 => ?_) (fun hc2 => ?_)
 ·have hlt : j < xs.length := by simpa using hc2
  obtain ⟨x, gx⟩ := o9 hlt
  have hs1 : d5 I4 (xs.take (j + 1)) = d5 I4 (xs.take j) + I4 x := S02 gx
  have hs2 := T02 I4 xs (j + 1)
  have hw := X2 hlt hn
  have hkx : 0 ≤ kk ∧ kk + (I4 x : Nat) ≤ 4611686018427387904 := by
   have : (A02 xs : Int) = (d5 I4 xs : Nat) := rfl
   omega
  have gm : (r03 xs k)[j]? = some (A00 x kk) := by rw [hkk]; exact o0e gx
  obtain ⟨b1, cs1, e1, i1⟩ := Sl.get hx gm (by decide)
  obtain ⟨x0, x1, x2⟩ := x
  simp only [I4] at hkx
  obtain ⟨x0q, x1q, x2q, rfl, ex, g0, g1, g2⟩ := V0 i1
  simp only [A00, I4, Prod.mk.injEq] at ex
  obtain ⟨rfl, rfl, rfl⟩ := ex
  refine And.intro b1 (Exists.intro _ (And.intro e1 ?_))
  refine And.intro (fun hc => ?_) (fun hc => ?_)
  ·exact ((bne_iff_ne.1 hc) (by first | rfl | omega | (simp; omega))).elim
  clear hc
  have ek1 : IntKind.i64.wrap (kk + 1) = kk + (1) := by rw [w64 (by  omega) (by  omega)] <;> omega
  refine And.intro b1 (Exists.intro _ (And.intro e1 ?_))
  refine And.intro (fun hc => ?_) (fun hc => ?_)
  ·exact ((bne_iff_ne.1 hc) (by rw [ek1]; first | rfl | omega | (simp; omega))).elim
  clear hc
  have ek2 : IntKind.i64.wrap (IntKind.i64.wrap (kk + 1) + 1) = kk + (1 + 1) := by rw [w64 (by rw [ek1];  omega) (by rw [ek1];  omega)] <;> rw [ek1] <;> omega
  refine And.intro b1 (Exists.intro _ (And.intro e1 ?_))
  refine And.intro (fun hc => ?_) (fun hc => ?_)
  ·exact ((bne_iff_ne.1 hc) (by rw [ek2]; first | rfl | omega | (simp; omega))).elim
  clear hc
  have ek3 : IntKind.i64.wrap (IntKind.i64.wrap (IntKind.i64.wrap (kk + 1) + 1) + 1) = kk + (1 + 1 + 1) := by rw [w64 (by rw [ek2];  omega) (by rw [ek2];  omega)] <;> rw [ek2] <;> omega
  refine And.intro rfl (And.intro (by first | exact trivial | exact And.intro rfl trivial | exact And.intro rfl (And.intro rfl trivial) | exact And.intro rfl (And.intro rfl (And.intro rfl trivial)) | exact And.intro rfl (And.intro rfl (And.intro rfl (And.intro rfl trivial)))) (And.intro (by first | exact trivial | exact And.intro rfl trivial | exact And.intro rfl (And.intro rfl trivial) | exact And.intro rfl (And.intro rfl (And.intro rfl trivial)) | exact And.intro rfl (And.intro rfl (And.intro rfl (And.intro rfl trivial)))) (And.intro ?_ ?_)))
  ·refine ⟨j + 1, IntKind.i64.wrap (IntKind.i64.wrap (IntKind.i64.wrap (kk + 1) + 1) + 1), ?_, by omega, by rw [← hw], rfl⟩
   rw [ek3]; rw [hs1]; simp only [I4]; omega
  ·show ((xs.length : Int) - IntKind.i64.wrap ((j : Int) + 1)).toNat < ((xs.length : Int) - (j : Int)).toNat
   omega
 ·have hj' : j = xs.length := by simp at hc2; omega
  subst hj'
  rw [List.take_length] at hkk
  exact And.intro (congrArg (Value.int .i64) hkk) rfl
theorem S07 (h : Hp) (cs : List Value) (x : l0) (k : Int) (hx : P0.R h cs (a06 x k)) (hk : 0 ≤ k ∧ k + (G8 x : Nat) ≤ 4611686018427387904) :
  Tr Tryz.prog 33 #[.agg cs.toArray, .int .i64 k] h fun v h' => v = .int .i64 (k + (G8 x : Nat)) ∧ h' = h := by
 obtain ⟨x0, x1, x2⟩ := x
 obtain ⟨x0q, x1q, a2q, n2q, c2q, x2q, rfl, ex, g0, g1, g2⟩ := B0 hx
 simp only [a06, G8, Prod.mk.injEq] at ex
 obtain ⟨rfl, rfl, rfl⟩ := ex
 simp only [G8] at hk
 refine c3 (args := [.agg #[.int .i64 x0, .int .i64 x1, .slice a2q n2q c2q], .int .i64 k]) (fn := Tryz.f33) rfl ?_
 refine Tr.val (e0d _ a2q n2q c2q x2 (k) (by have gg := g2; first | exact gg | (rwa [show k + (((0 : Nat) : Int)) = k from by omega] at gg)) ⟨by omega, by omega⟩) ?_
 refine And.intro (fun hc => ?_) (fun hc => ?_)
 ·have : (k + (A02 x2 : Nat) : Int) < 0 := by simpa only [decide_eq_true_eq] using hc
  exact absurd this (by omega)
 clear hc
 exact And.intro (congrArg (Value.int .i64) (by simp only [G8] <;> omega)) rfl
end Go.Proofs.YtfdlgbfeceodeaaGreat
