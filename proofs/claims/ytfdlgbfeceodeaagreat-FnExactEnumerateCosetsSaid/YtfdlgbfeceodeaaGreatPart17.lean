/- Texts of the claim, joined: The data types of the laws, as lists and tuples; ; What the laws' own helpers do: sizes; What the laws' own helpers do: equality; What the laws' own helpers do: copies; What the laws' own helpers do: marks; What the laws' own helpers do: marks that are still there. -/
import Derived.Test.YtfdlgbfeceodeaaGreatHE
import Derived.Test.YtfdlgbfeceodeaaGreatChecked
namespace Go.Proofs.YtfdlgbfeceodeaaGreat
open Go.H
set_option linter.unusedVariables false
set_option linter.unusedSimpArgs false
set_option maxRecDepth 10000
theorem B0k {x : Int} (h1 : -9223372036854775808 ≤ x) (h2 : x ≤ 9223372036854775807) : H0 x := ⟨h1, h2⟩
abbrev C0 : Type := Int × Int × Int
abbrev Q0 : Wp C0 := Wp.pair Wp.int (Wp.pair Wp.int Wp.int)
instance t0m : DecidableEq C0 := (@instDecidableEqProd _ _ (inferInstance : DecidableEq Int) (@instDecidableEqProd _ _ (inferInstance : DecidableEq Int) (inferInstance : DecidableEq Int)))
def D5 (x : C0) : Nat := 1 + 1 + 1
def d01 (x : C0) (k : Int) : C0 := (k, (k + (1 : Nat)), (k + (1 + 1 : Nat)))
theorem D1 {h : Hp} {cs : List Value} {x : C0} (hx : Q0.R h cs x) : ∃ (x0 : Int) (x1 : Int) (x2 : Int), cs = [.int .i64 x0, .int .i64 x1, .int .i64 x2] ∧ x = (x0, x1, x2) ∧ H0 x0 ∧ H0 x1 ∧ H0 x2 := by
 obtain ⟨x0, x1, x2⟩ := x
 obtain ⟨_, _, rfl, ⟨rfl, h0⟩, ⟨_, _, rfl, ⟨rfl, h1⟩, ⟨rfl, h2⟩⟩⟩ := hx
 exact ⟨x0, x1, x2, rfl, rfl, h0, h1, h2⟩
theorem V0 {h : Hp} {x0 : Int} {x1 : Int} {x2 : Int} (h0 : H0 x0) (h1 : H0 x1) (h2 : H0 x2) : Q0.R h [.int .i64 x0, .int .i64 x1, .int .i64 x2] (x0, x1, x2) :=
 ⟨[.int .i64 x0], [.int .i64 x1, .int .i64 x2], rfl, ⟨rfl, h0⟩, ⟨[.int .i64 x1], [.int .i64 x2], rfl, ⟨rfl, h1⟩, ⟨rfl, h2⟩⟩⟩
theorem J08 {h : Hp} {cs : List Value} {x : C0} {B : List Nat} (hx : Q0.W h cs x B) : ∃ (x0 : Int) (x1 : Int) (x2 : Int), cs = [.int .i64 x0, .int .i64 x1, .int .i64 x2] ∧ x = (x0, x1, x2) ∧ B = ([] ++ ([] ++ [])) ∧ H0 x0 ∧ H0 x1 ∧ H0 x2 := by
 obtain ⟨x0, x1, x2⟩ := x
 obtain ⟨_, _, _, _, rfl, rfl, ⟨⟨rfl, h0⟩, rfl⟩, ⟨_, _, _, _, rfl, rfl, ⟨⟨rfl, h1⟩, rfl⟩, ⟨⟨rfl, h2⟩, rfl⟩⟩⟩ := hx
 exact ⟨x0, x1, x2, rfl, rfl, rfl, h0, h1, h2⟩
theorem k04 {h : Hp} {x0 : Int} {x1 : Int} {x2 : Int} (h0 : H0 x0) (h1 : H0 x1) (h2 : H0 x2) : Q0.W h [.int .i64 x0, .int .i64 x1, .int .i64 x2] (x0, x1, x2) ([] ++ ([] ++ [])) :=
 ⟨[.int .i64 x0], [.int .i64 x1, .int .i64 x2], [], ([] ++ []), rfl, rfl, ⟨⟨rfl, h0⟩, rfl⟩, ⟨[.int .i64 x1], [.int .i64 x2], [], [], rfl, rfl, ⟨⟨rfl, h1⟩, rfl⟩, ⟨⟨rfl, h2⟩, rfl⟩⟩⟩
abbrev J0 : Type := List C0
abbrev I0 : Wp J0 := Wp.slice Q0
instance B0l : DecidableEq J0 := inferInstanceAs (DecidableEq (List C0))
def w0j (x : J0) : Nat := x.length
def g03 (x : J0) : Nat := Z5 D5 x
def l04 (x : J0) (k : Int) : J0 := mkL d01 D5 x k
abbrev l0 : Type := Int × Int × J0
abbrev Y0 : Wp l0 := Wp.pair Wp.int (Wp.pair Wp.int I0)
instance C0l : DecidableEq l0 := (@instDecidableEqProd _ _ (inferInstance : DecidableEq Int) (@instDecidableEqProd _ _ (inferInstance : DecidableEq Int) B0l))
def r0g (x : l0) : Nat := w0j x.2.2
def i9 (x : l0) : Nat := g03 x.2.2
def D07 (x : l0) (k : Int) : l0 := (x.1, x.2.1, l04 x.2.2 k)
theorem B0 {h : Hp} {cs : List Value} {x : l0} (hx : Y0.R h cs x) : ∃ (x0 : Int) (x1 : Int) (a2 : Option Addr) (n2 c2 : Nat) (x2 : J0), cs = [.int .i64 x0, .int .i64 x1, .slice a2 n2 c2] ∧ x = (x0, x1, x2) ∧ H0 x0 ∧ H0 x1 ∧ I0.R h [.slice a2 n2 c2] x2 := by
 obtain ⟨x0, x1, x2⟩ := x
 obtain ⟨_, _, rfl, ⟨rfl, h0⟩, ⟨_, _, rfl, ⟨rfl, h1⟩, h2⟩⟩ := hx
 obtain ⟨a2, n2, c2, rfl⟩ := Wp.slice_cell h2
 exact ⟨x0, x1, a2, n2, c2, x2, rfl, rfl, h0, h1, h2⟩
theorem z0 {h : Hp} {x0 : Int} {x1 : Int} {a2 : Option Addr} {n2 c2 : Nat} {x2 : J0} (h0 : H0 x0) (h1 : H0 x1) (h2 : I0.R h [.slice a2 n2 c2] x2) : Y0.R h [.int .i64 x0, .int .i64 x1, .slice a2 n2 c2] (x0, x1, x2) :=
 ⟨[.int .i64 x0], [.int .i64 x1, .slice a2 n2 c2], rfl, ⟨rfl, h0⟩, ⟨[.int .i64 x1], [.slice a2 n2 c2], rfl, ⟨rfl, h1⟩, h2⟩⟩
theorem s0g {h : Hp} {cs : List Value} {x : l0} {B : List Nat} (hx : Y0.W h cs x B) : ∃ (x0 : Int) (x1 : Int) (a2 : Option Addr) (n2 c2 : Nat) (x2 : J0) (B2 : List Nat), cs = [.int .i64 x0, .int .i64 x1, .slice a2 n2 c2] ∧ x = (x0, x1, x2) ∧ B = ([] ++ ([] ++ B2)) ∧ H0 x0 ∧ H0 x1 ∧ I0.W h [.slice a2 n2 c2] x2 B2 := by
 obtain ⟨x0, x1, x2⟩ := x
 obtain ⟨_, _, _, _, rfl, rfl, ⟨⟨rfl, h0⟩, rfl⟩, ⟨_, _, _, _, rfl, rfl, ⟨⟨rfl, h1⟩, rfl⟩, h2⟩⟩ := hx
 obtain ⟨a2, n2, c2, rfl⟩ := Wp.slice_cell (I0.toR h2)
 exact ⟨x0, x1, a2, n2, c2, x2, _, rfl, rfl, rfl, h0, h1, h2⟩
abbrev E4 : Type := Int × Int
abbrev C4 : Wp E4 := Wp.pair Wp.int Wp.int
instance u0m : DecidableEq E4 := (@instDecidableEqProd _ _ (inferInstance : DecidableEq Int) (inferInstance : DecidableEq Int))
theorem e01 {h : Hp} {cs : List Value} {x : E4} (hx : C4.R h cs x) : ∃ (x0 : Int) (x1 : Int), cs = [.int .i64 x0, .int .i64 x1] ∧ x = (x0, x1) ∧ H0 x0 ∧ H0 x1 := by
 obtain ⟨x0, x1⟩ := x
 obtain ⟨_, _, rfl, ⟨rfl, h0⟩, ⟨rfl, h1⟩⟩ := hx
 exact ⟨x0, x1, rfl, rfl, h0, h1⟩
theorem j2 {h : Hp} {x0 : Int} {x1 : Int} (h0 : H0 x0) (h1 : H0 x1) : C4.R h [.int .i64 x0, .int .i64 x1] (x0, x1) :=
 ⟨[.int .i64 x0], [.int .i64 x1], rfl, ⟨rfl, h0⟩, ⟨rfl, h1⟩⟩
abbrev P0 : Type := List Int
abbrev K1 : Wp P0 := Wp.slice Wp.int
instance v0m : DecidableEq P0 := inferInstanceAs (DecidableEq (List Int))
def S00 (x : P0) : Nat := x.length
def B00 (x : P0) : Nat := Z5 (fun _ => 1) x
def T01 (x : P0) (k : Int) : P0 := mkL (fun _ k => k) (fun _ => 1) x k
abbrev V2 : Type := List P0
abbrev D3 : Wp V2 := Wp.slice K1
instance D0l : DecidableEq V2 := inferInstanceAs (DecidableEq (List P0))
def j9 (x : V2) : Nat := x.length + Z5 S00 x
def K08 (x : V2) : Nat := Z5 B00 x
def g0a (x : V2) (k : Int) : V2 := mkL T01 B00 x k
abbrev D0 : Type := Int × V2
abbrev j1 : Wp D0 := Wp.pair Wp.int D3
instance e0k : DecidableEq D0 := (@instDecidableEqProd _ _ (inferInstance : DecidableEq Int) D0l)
def l4 (x : D0) : Nat := j9 x.2
def G7 (x : D0) : Nat := K08 x.2
def x02 (x : D0) (k : Int) : D0 := (x.1, g0a x.2 k)
theorem A2 {h : Hp} {cs : List Value} {x : D0} (hx : j1.R h cs x) : ∃ (x0 : Int) (a1 : Option Addr) (n1 c1 : Nat) (x1 : V2), cs = [.int .i64 x0, .slice a1 n1 c1] ∧ x = (x0, x1) ∧ H0 x0 ∧ D3.R h [.slice a1 n1 c1] x1 := by
 obtain ⟨x0, x1⟩ := x
 obtain ⟨_, _, rfl, ⟨rfl, h0⟩, h1⟩ := hx
 obtain ⟨a1, n1, c1, rfl⟩ := Wp.slice_cell h1
 exact ⟨x0, a1, n1, c1, x1, rfl, rfl, h0, h1⟩
theorem J2 {h : Hp} {x0 : Int} {a1 : Option Addr} {n1 c1 : Nat} {x1 : V2} (h0 : H0 x0) (h1 : D3.R h [.slice a1 n1 c1] x1) : j1.R h [.int .i64 x0, .slice a1 n1 c1] (x0, x1) :=
 ⟨[.int .i64 x0], [.slice a1 n1 c1], rfl, ⟨rfl, h0⟩, h1⟩
theorem E07 {h : Hp} {cs : List Value} {x : D0} {B : List Nat} (hx : j1.W h cs x B) : ∃ (x0 : Int) (a1 : Option Addr) (n1 c1 : Nat) (x1 : V2) (B1 : List Nat), cs = [.int .i64 x0, .slice a1 n1 c1] ∧ x = (x0, x1) ∧ B = ([] ++ B1) ∧ H0 x0 ∧ D3.W h [.slice a1 n1 c1] x1 B1 := by
 obtain ⟨x0, x1⟩ := x
 obtain ⟨_, _, _, _, rfl, rfl, ⟨⟨rfl, h0⟩, rfl⟩, h1⟩ := hx
 obtain ⟨a1, n1, c1, rfl⟩ := Wp.slice_cell (D3.toR h1)
 exact ⟨x0, a1, n1, c1, x1, _, rfl, rfl, rfl, h0, h1⟩
abbrev t0g : Type := ByteArray × l0
instance q0m : DecidableEq t0g := (@instDecidableEqProd _ _ (inferInstance : DecidableEq ByteArray) C0l)
abbrev h0a : Type := List t0g
instance j0m : DecidableEq h0a := inferInstanceAs (DecidableEq (List t0g))
abbrev H7 : Type := List E4
abbrev M0d : Wp H7 := Wp.slice C4
instance r0m : DecidableEq H7 := inferInstanceAs (DecidableEq (List E4))
theorem C0k (x : C0) : D5 x ≤ 3 := by
 simp only [D5]
 omega
theorem D0k (x : J0) : g03 x ≤ 16 * w0j x := c0b (c := D5) (fun x => by have := C0k x; omega) x
theorem E0k (x : l0) : i9 x ≤ 16 * r0g x := by
 have := D0k x.2.2
 simp only [i9, r0g]
 omega
theorem E0l (x : P0) : B00 x ≤ 16 * S00 x := c0b (c := (fun _ => 1)) (fun x => by omega) x
theorem u0h (x : V2) : K08 x ≤ 16 * j9 x := r0h (c := B00) (m := S00) (fun x => by have := E0l x; omega) x
theorem d0b (x : D0) : G7 x ≤ 16 * l4 x := by
 have := u0h x.2
 simp only [G7, l4]
 omega
end Go.Proofs.YtfdlgbfeceodeaaGreat
namespace Go.Proofs.YtfdlgbfeceodeaaGreat
open Go.H
set_option linter.unusedVariables false
set_option linter.unusedSimpArgs false
set_option maxRecDepth 10000
open Go.H
theorem u0g (h : Hp) : ∃ cs, Q0.R h cs (0, 0, 0) := ⟨_, V0 (by decide) (by decide) (by decide)⟩
end Go.Proofs.YtfdlgbfeceodeaaGreat
namespace Go.Proofs.YtfdlgbfeceodeaaGreat
open Go.H
set_option linter.unusedVariables false
set_option linter.unusedSimpArgs false
set_option maxRecDepth 10000
theorem Z0j (h : Hp) (a : Option Addr) (n c : Nat) (xs : P0) (left : Int) (hx : K1.R h [.slice a n c] xs) (hl : 0 ≤ left ∧ left ≤ 1048576) :
  Tr Tryz.prog 123 #[.slice a n c, .int .i64 left] h fun v h' => v = .int .i64 (szR left (S00 xs)) ∧ h' = h := by
 obtain ⟨rfl, hn⟩ := Sl.len hx
 have hw : IntKind.i64.wrap (left - (xs.length : Int)) = left - xs.length := w64 (by omega) (by omega)
 refine T2 (args := [.slice a xs.length c, .int .i64 left]) (fn := Tryz.f123) rfl ?_
 refine And.intro (fun hc => ?_) (fun hc => ?_)
 ·refine And.intro ?_ rfl
  simp [hw] at hc
  rw [S00, t0j (by omega)]
  rfl
 ·refine And.intro ?_ rfl
  simp [hw] at hc
  rw [S00, u0j (by omega)]
  exact congrArg (Value.int .i64) hw
theorem g0d (h : Hp) (a : Option Addr) (n c : Nat) (xs : V2) (left : Int) (hx : D3.R h [.slice a n c] xs) (hl : 0 ≤ left ∧ left ≤ 1048576) :
  Tr Tryz.prog 56 #[.slice a n c, .int .i64 left] h fun v h' => v = .int .i64 (szR left (j9 xs)) ∧ h' = h := by
 obtain ⟨rfl, hn⟩ := Sl.len hx
 have hw : IntKind.i64.wrap (left - (xs.length : Int)) = left - xs.length := w64 (by omega) (by omega)
 refine T2 (args := [.slice a xs.length c, .int .i64 left]) (fn := Tryz.f56) rfl ?_
 refine And.intro (fun hc => ?_) (fun hc => ?_)
 ·refine And.intro ?_ rfl
  simp [hw] at hc
  rw [j9, t0j (by omega)]
  rfl
 simp [hw] at hc
 refine Exists.intro { vars := [1, 5], boxes := [], owns := [] } (Exists.intro (fun vs _ h' => ∃ k : Nat, k ≤ xs.length ∧ 0 ≤ szR left ((xs.length + Z5 S00 (xs.take k) : Nat) : Int) ∧ vs = [.int .i64 (szR left ((xs.length + Z5 S00 (xs.take k) : Nat) : Int)), .int .i64 k] ∧ h' = h) (Exists.intro (fun vs _ => match vs with | [_, .int _ j] => ((xs.length : Int) - j).toNat | _ => 0) ?_))
 have h0 : szR left ((xs.length + Z5 S00 (xs.take 0) : Nat) : Int) = left - xs.length := by rw [u0j (by simp [Z5]; omega)]; simp [Z5]
 refine And.intro ⟨0, by omega, by omega, by rw [h0]; exact congrArg (fun x => [Value.int .i64 x, Value.int .i64 0]) hw, rfl⟩ ?_
 rintro _ _ h1 ⟨k, hk, hpos, ⟨⟩, rfl⟩
 obtain ⟨q1, q2⟩ := K0d hpos
 refine And.intro (fun hc2 => ?_) (fun hc2 => ?_)
 ·have hlt : k < xs.length := by simpa using hc2
  obtain ⟨x, hgx⟩ := u00 hlt
  obtain ⟨b1, cs1, e1, i1⟩ := Sl.get hx hgx (by decide)
  have hw2 := Z1 hlt hn
  obtain ⟨a1, n1, c1, rfl⟩ := Wp.slice_cell i1
  refine And.intro b1 (Exists.intro _ (And.intro e1 ?_))
  refine Tr.val (Z0j _ a1 n1 c1 x _ i1 ⟨by omega, by omega⟩) ?_
  have hstep : szR (szR left ((xs.length + Z5 S00 (xs.take k) : Nat) : Int)) (S00 x : Nat) = szR left ((xs.length + Z5 S00 (xs.take (k + 1)) : Nat) : Int) := by
   rw [z0k hpos (by omega) (by omega), C03 hgx]
   congr 1
   omega
  refine And.intro (fun hc3 => ?_) (fun hc3 => ?_)
  ·refine And.intro ?_ rfl
   rw [hstep] at hc3
   have hneg2 : szR left ((xs.length + Z5 S00 (xs.take (k + 1)) : Nat) : Int) < 0 := by simpa using hc3
   have := D03 S00 xs (k + 1)
   rw [j9, R0e hneg2 hl.1 (by omega)]
   rfl
  ·rw [hstep] at hc3
   have hpos2 : 0 ≤ szR left ((xs.length + Z5 S00 (xs.take (k + 1)) : Nat) : Int) := by simpa using hc3
   refine And.intro rfl (And.intro (by first | exact trivial | exact And.intro rfl trivial | exact And.intro rfl (And.intro rfl trivial) | exact And.intro rfl (And.intro rfl (And.intro rfl trivial)) | exact And.intro rfl (And.intro rfl (And.intro rfl (And.intro rfl trivial)))) (And.intro (by first | exact trivial | exact And.intro rfl trivial | exact And.intro rfl (And.intro rfl trivial) | exact And.intro rfl (And.intro rfl (And.intro rfl trivial)) | exact And.intro rfl (And.intro rfl (And.intro rfl (And.intro rfl trivial)))) (And.intro ?_ ?_)))
   ·refine ⟨k + 1, by omega, hpos2, ?_, rfl⟩
    rw [← hw2, ← hstep]
   ·show ((xs.length : Int) - IntKind.i64.wrap ((k : Int) + 1)).toNat < ((xs.length : Int) - (k : Int)).toNat
    omega
 ·have hk : k = xs.length := by simp at hc2; omega
  subst hk
  refine And.intro ?_ rfl
  rw [List.take_length]
  rfl
theorem k09 (h : Hp) (cs : List Value) (x : D0) (left : Int) (hx : j1.R h cs x) (hl : 0 ≤ left ∧ left ≤ 1048576) :
  Tr Tryz.prog 27 #[.agg cs.toArray, .int .i64 left] h fun v h' => v = .int .i64 (szR left (l4 x)) ∧ h' = h := by
 obtain ⟨x0, a1, n1, c1, x1, rfl, rfl, h0, h1⟩ := A2 hx
 refine T2 (args := [.agg #[.int .i64 x0, .slice a1 n1 c1], .int .i64 left]) (fn := Tryz.f27) rfl ?_
 refine Tr.val (g0d h a1 n1 c1 x1 (left) h1 hl) ?_
 refine And.intro (fun hc => ?_) (fun hc => ?_)
 ·refine And.intro ?_ rfl
  rw [l4, R0e (left := left) (a := ((j9 x1 : Nat) : Int)) (by simpa using hc) hl.1 (by simp only []; omega)]
  rfl
 have q0 : 0 ≤ szR left ((j9 x1 : Nat) : Int) := by simpa using hc
 have hl0 : 0 ≤ szR left ((j9 x1 : Nat) : Int) ∧ szR left ((j9 x1 : Nat) : Int) ≤ 1048576 := by
  have := K0d q0
  omega
 exact And.intro rfl rfl
end Go.Proofs.YtfdlgbfeceodeaaGreat
namespace Go.Proofs.YtfdlgbfeceodeaaGreat
open Go.H
set_option linter.unusedVariables false
set_option linter.unusedSimpArgs false
set_option maxRecDepth 10000
theorem a0k (h : Hp) (cs ds : List Value) (x y : C0) (hx : Q0.R h cs x) (hy : Q0.R h ds y) :
  Tr Tryz.prog 140 #[.agg cs.toArray, .agg ds.toArray] h fun v h' => v = .bool (decide (x = y)) ∧ h' = h := by
 obtain ⟨x0, x1, x2, rfl, rfl, h0, h1, h2⟩ := D1 hx
 obtain ⟨x0y, x1y, x2y, rfl, rfl, h0y, h1y, h2y⟩ := D1 hy
 refine T2 (args := [.agg #[.int .i64 x0, .int .i64 x1, .int .i64 x2], .agg #[.int .i64 x0y, .int .i64 x1y, .int .i64 x2y]]) (fn := Tryz.f140) rfl ?_
 refine And.intro (fun hc => ?_) (fun hc => ?_)
 ·have ne : x0 ≠ x0y := by simpa using hc
  exact And.intro (congrArg Value.bool (decide_eq_false fun e => by cases e; exact ne rfl).symm) rfl
 have q0 : x0 = x0y := by simpa using hc
 subst q0
 refine And.intro (fun hc => ?_) (fun hc => ?_)
 ·have ne : x1 ≠ x1y := by simpa using hc
  exact And.intro (congrArg Value.bool (decide_eq_false fun e => by cases e; exact ne rfl).symm) rfl
 have q1 : x1 = x1y := by simpa using hc
 subst q1
 refine And.intro (fun hc => ?_) (fun hc => ?_)
 ·have ne : x2 ≠ x2y := by simpa using hc
  exact And.intro (congrArg Value.bool (decide_eq_false fun e => by cases e; exact ne rfl).symm) rfl
 have q2 : x2 = x2y := by simpa using hc
 subst q2
 exact And.intro (congrArg Value.bool (decide_eq_true rfl).symm) rfl
theorem I0i (h : Hp) (a : Option Addr) (n c : Nat) (a' : Option Addr) (n' c' : Nat) (xs ys : J0) (hx : I0.R h [.slice a n c] xs) (hy : I0.R h [.slice a' n' c'] ys) :
  Tr Tryz.prog 85 #[.slice a n c, .slice a' n' c'] h fun v h' => v = .bool (decide (xs = ys)) ∧ h' = h := by
 obtain ⟨rfl, hn⟩ := Sl.len hx
 obtain ⟨rfl, hn'⟩ := Sl.len hy
 refine T2 (args := [.slice a xs.length c, .slice a' ys.length c']) (fn := Tryz.f85) rfl ?_
 refine And.intro (fun hc => ?_) (fun hc => ?_)
 ·refine And.intro (congrArg Value.bool ?_) rfl
  have : xs.length ≠ ys.length := by simp at hc; omega
  exact (decide_eq_false fun e => this (by rw [e])).symm
 have hlen : xs.length = ys.length := by simp at hc; omega
 refine Exists.intro { vars := [5], boxes := [], owns := [] } (Exists.intro (fun vs _ h' => ∃ k : Nat, k ≤ xs.length ∧ xs.take k = ys.take k ∧ vs = [.int .i64 k] ∧ h' = h) (Exists.intro (fun vs _ => match vs with | [.int _ j] => ((xs.length : Int) - j).toNat | _ => 0) ?_))
 refine And.intro ⟨0, by omega, by simp, rfl, rfl⟩ ?_
 rintro _ h1 ⟨k, hk, hall, ⟨⟩, rfl⟩
 refine And.intro (fun hc2 => ?_) (fun hc2 => ?_)
 ·have hlt : k < xs.length := by simpa using hc2
  obtain ⟨x, gx⟩ := u00 hlt
  obtain ⟨y, gy⟩ := u00 (l := ys) (k := k) (by omega)
  obtain ⟨b1, cs1, e1, i1⟩ := Sl.get hx gx (by decide)
  obtain ⟨b2, cs2, e2, i2⟩ := Sl.get hy gy (by decide)
  have hw := Z1 hlt hn
  obtain ⟨x0, x1, x2, rfl, rfl, g0, g1, g2⟩ := D1 i1
  obtain ⟨x0y, x1y, x2y, rfl, rfl, g0y, g1y, g2y⟩ := D1 i2
  refine Or.inl (And.intro (And.intro (by kernel_rfl) (by kernel_rfl)) ?_)
  refine And.intro b1 (Exists.intro _ (And.intro e1 (And.intro b2 (Exists.intro _ (And.intro e2 ?_)))))
  refine Exists.intro (.bool _) (And.intro (a0k _ [.int .i64 x0, .int .i64 x1, .int .i64 x2] [.int .i64 x0y, .int .i64 x1y, .int .i64 x2y] (x0, x1, x2) (x0y, x1y, x2y) (V0 g0 g1 g2) (V0 g0y g1y g2y)) ?_)
  refine And.intro (fun hc3 => ?_) (fun hc3 => ?_)
  ·refine And.intro (congrArg Value.bool ?_) rfl
   have hne : (x0, x1, x2) ≠ (x0y, x1y, x2y) := f0a hc3
   exact (decide_eq_false fun e => hne (Option.some.inj (gx.symm.trans ((congrArg (fun l : J0 => l[k]?) e).trans gy)))).symm
  ·have heq : (x0, x1, x2) = (x0y, x1y, x2y) := B07 hc3
   refine And.intro rfl (And.intro (by first | exact trivial | exact And.intro rfl trivial | exact And.intro rfl (And.intro rfl trivial) | exact And.intro rfl (And.intro rfl (And.intro rfl trivial)) | exact And.intro rfl (And.intro rfl (And.intro rfl (And.intro rfl trivial)))) (And.intro (by first | exact trivial | exact And.intro rfl trivial | exact And.intro rfl (And.intro rfl trivial) | exact And.intro rfl (And.intro rfl (And.intro rfl trivial)) | exact And.intro rfl (And.intro rfl (And.intro rfl (And.intro rfl trivial)))) (And.intro ?_ ?_)))
   ·refine ⟨k + 1, by omega, by rw [J9 gx, J9 gy, hall, heq], ?_, rfl⟩
    rw [← hw]
   ·show ((xs.length : Int) - IntKind.i64.wrap ((k : Int) + 1)).toNat < ((xs.length : Int) - (k : Int)).toNat
    omega
 ·have hk : k = xs.length := by simp at hc2; omega
  refine And.intro (congrArg Value.bool ?_) rfl
  refine (decide_eq_true ?_).symm
  subst hk
  rwa [List.take_length, hlen, List.take_length] at hall
theorem l09 (h : Hp) (cs ds : List Value) (x y : l0) (hx : Y0.R h cs x) (hy : Y0.R h ds y) :
  Tr Tryz.prog 25 #[.agg cs.toArray, .agg ds.toArray] h fun v h' => v = .bool (decide (x = y)) ∧ h' = h := by
 obtain ⟨x0, x1, a2, n2, c2, x2, rfl, rfl, h0, h1, h2⟩ := B0 hx
 obtain ⟨x0y, x1y, a2y, n2y, c2y, x2y, rfl, rfl, h0y, h1y, h2y⟩ := B0 hy
 refine T2 (args := [.agg #[.int .i64 x0, .int .i64 x1, .slice a2 n2 c2], .agg #[.int .i64 x0y, .int .i64 x1y, .slice a2y n2y c2y]]) (fn := Tryz.f25) rfl ?_
 refine And.intro (fun hc => ?_) (fun hc => ?_)
 ·have ne : x0 ≠ x0y := by simpa using hc
  exact And.intro (congrArg Value.bool (decide_eq_false fun e => by cases e; exact ne rfl).symm) rfl
 have q0 : x0 = x0y := by simpa using hc
 subst q0
 refine And.intro (fun hc => ?_) (fun hc => ?_)
 ·have ne : x1 ≠ x1y := by simpa using hc
  exact And.intro (congrArg Value.bool (decide_eq_false fun e => by cases e; exact ne rfl).symm) rfl
 have q1 : x1 = x1y := by simpa using hc
 subst q1
 refine Tr.val (I0i h a2 n2 c2 a2y n2y c2y x2 x2y h2 h2y) ?_
 refine And.intro (fun hc => ?_) (fun hc => ?_)
 ·have ne : x2 ≠ x2y := f0a hc
  exact And.intro (congrArg Value.bool (decide_eq_false fun e => by cases e; exact ne rfl).symm) rfl
 have q2 : x2 = x2y := B07 hc
 subst q2
 exact And.intro (congrArg Value.bool (decide_eq_true rfl).symm) rfl
theorem b0k (h : Hp) (a : Option Addr) (n c : Nat) (a' : Option Addr) (n' c' : Nat) (xs ys : P0) (hx : K1.R h [.slice a n c] xs) (hy : K1.R h [.slice a' n' c'] ys) :
  Tr Tryz.prog 48 #[.slice a n c, .slice a' n' c'] h fun v h' => v = .bool (decide (xs = ys)) ∧ h' = h := by
 obtain ⟨rfl, hn⟩ := Sl.len hx
 obtain ⟨rfl, hn'⟩ := Sl.len hy
 refine T2 (args := [.slice a xs.length c, .slice a' ys.length c']) (fn := Tryz.f48) rfl ?_
 refine And.intro (fun hc => ?_) (fun hc => ?_)
 ·refine And.intro (congrArg Value.bool ?_) rfl
  have : xs.length ≠ ys.length := by simp at hc; omega
  exact (decide_eq_false fun e => this (by rw [e])).symm
 have hlen : xs.length = ys.length := by simp at hc; omega
 refine Exists.intro { vars := [5], boxes := [], owns := [] } (Exists.intro (fun vs _ h' => ∃ k : Nat, k ≤ xs.length ∧ xs.take k = ys.take k ∧ vs = [.int .i64 k] ∧ h' = h) (Exists.intro (fun vs _ => match vs with | [.int _ j] => ((xs.length : Int) - j).toNat | _ => 0) ?_))
 refine And.intro ⟨0, by omega, by simp, rfl, rfl⟩ ?_
 rintro _ h1 ⟨k, hk, hall, ⟨⟩, rfl⟩
 refine And.intro (fun hc2 => ?_) (fun hc2 => ?_)
 ·have hlt : k < xs.length := by simpa using hc2
  obtain ⟨x, gx⟩ := u00 hlt
  obtain ⟨y, gy⟩ := u00 (l := ys) (k := k) (by omega)
  obtain ⟨b1, cs1, e1, i1⟩ := Sl.get hx gx (by decide)
  obtain ⟨b2, cs2, e2, i2⟩ := Sl.get hy gy (by decide)
  have hw := Z1 hlt hn
  obtain ⟨rfl, _⟩ := i1
  obtain ⟨rfl, _⟩ := i2
  refine Or.inl (And.intro (And.intro (by kernel_rfl) (by kernel_rfl)) ?_)
  refine And.intro b1 (Exists.intro _ (And.intro e1 (And.intro b2 (Exists.intro _ (And.intro e2 ?_)))))
  refine And.intro (fun hc3 => ?_) (fun hc3 => ?_)
  ·refine And.intro (congrArg Value.bool ?_) rfl
   have hne : x ≠ y := by simpa using hc3
   exact (decide_eq_false fun e => hne (Option.some.inj (gx.symm.trans ((congrArg (fun l : P0 => l[k]?) e).trans gy)))).symm
  ·have heq : x = y := by simpa using hc3
   refine And.intro rfl (And.intro (by first | exact trivial | exact And.intro rfl trivial | exact And.intro rfl (And.intro rfl trivial) | exact And.intro rfl (And.intro rfl (And.intro rfl trivial)) | exact And.intro rfl (And.intro rfl (And.intro rfl (And.intro rfl trivial)))) (And.intro (by first | exact trivial | exact And.intro rfl trivial | exact And.intro rfl (And.intro rfl trivial) | exact And.intro rfl (And.intro rfl (And.intro rfl trivial)) | exact And.intro rfl (And.intro rfl (And.intro rfl (And.intro rfl trivial)))) (And.intro ?_ ?_)))
   ·refine ⟨k + 1, by omega, by rw [J9 gx, J9 gy, hall, heq], ?_, rfl⟩
    rw [← hw]
   ·show ((xs.length : Int) - IntKind.i64.wrap ((k : Int) + 1)).toNat < ((xs.length : Int) - (k : Int)).toNat
    omega
 ·have hk : k = xs.length := by simp at hc2; omega
  refine And.intro (congrArg Value.bool ?_) rfl
  refine (decide_eq_true ?_).symm
  subst hk
  rwa [List.take_length, hlen, List.take_length] at hall
theorem h0d (h : Hp) (a : Option Addr) (n c : Nat) (a' : Option Addr) (n' c' : Nat) (xs ys : V2) (hx : D3.R h [.slice a n c] xs) (hy : D3.R h [.slice a' n' c'] ys) :
  Tr Tryz.prog 53 #[.slice a n c, .slice a' n' c'] h fun v h' => v = .bool (decide (xs = ys)) ∧ h' = h := by
 obtain ⟨rfl, hn⟩ := Sl.len hx
 obtain ⟨rfl, hn'⟩ := Sl.len hy
 refine T2 (args := [.slice a xs.length c, .slice a' ys.length c']) (fn := Tryz.f53) rfl ?_
 refine And.intro (fun hc => ?_) (fun hc => ?_)
 ·refine And.intro (congrArg Value.bool ?_) rfl
  have : xs.length ≠ ys.length := by simp at hc; omega
  exact (decide_eq_false fun e => this (by rw [e])).symm
 have hlen : xs.length = ys.length := by simp at hc; omega
 refine Exists.intro { vars := [5], boxes := [], owns := [] } (Exists.intro (fun vs _ h' => ∃ k : Nat, k ≤ xs.length ∧ xs.take k = ys.take k ∧ vs = [.int .i64 k] ∧ h' = h) (Exists.intro (fun vs _ => match vs with | [.int _ j] => ((xs.length : Int) - j).toNat | _ => 0) ?_))
 refine And.intro ⟨0, by omega, by simp, rfl, rfl⟩ ?_
 rintro _ h1 ⟨k, hk, hall, ⟨⟩, rfl⟩
 refine And.intro (fun hc2 => ?_) (fun hc2 => ?_)
 ·have hlt : k < xs.length := by simpa using hc2
  obtain ⟨x, gx⟩ := u00 hlt
  obtain ⟨y, gy⟩ := u00 (l := ys) (k := k) (by omega)
  obtain ⟨b1, cs1, e1, i1⟩ := Sl.get hx gx (by decide)
  obtain ⟨b2, cs2, e2, i2⟩ := Sl.get hy gy (by decide)
  have hw := Z1 hlt hn
  obtain ⟨a1, n1, c1, rfl⟩ := Wp.slice_cell i1
  obtain ⟨a2, n2, c2, rfl⟩ := Wp.slice_cell i2
  refine Or.inl (And.intro (And.intro (by kernel_rfl) (by kernel_rfl)) ?_)
  refine And.intro b1 (Exists.intro _ (And.intro e1 (And.intro b2 (Exists.intro _ (And.intro e2 ?_)))))
  refine Exists.intro (.bool _) (And.intro (b0k _ _ _ _ _ _ _ x y i1 i2) ?_)
  refine And.intro (fun hc3 => ?_) (fun hc3 => ?_)
  ·refine And.intro (congrArg Value.bool ?_) rfl
   have hne : x ≠ y := f0a hc3
   exact (decide_eq_false fun e => hne (Option.some.inj (gx.symm.trans ((congrArg (fun l : V2 => l[k]?) e).trans gy)))).symm
  ·have heq : x = y := B07 hc3
   refine And.intro rfl (And.intro (by first | exact trivial | exact And.intro rfl trivial | exact And.intro rfl (And.intro rfl trivial) | exact And.intro rfl (And.intro rfl (And.intro rfl trivial)) | exact And.intro rfl (And.intro rfl (And.intro rfl (And.intro rfl trivial)))) (And.intro (by first | exact trivial | exact And.intro rfl trivial | exact And.intro rfl (And.intro rfl trivial) | exact And.intro rfl (And.intro rfl (And.intro rfl trivial)) | exact And.intro rfl (And.intro rfl (And.intro rfl (And.intro rfl trivial)))) (And.intro ?_ ?_)))
   ·refine ⟨k + 1, by omega, by rw [J9 gx, J9 gy, hall, heq], ?_, rfl⟩
    rw [← hw]
   ·show ((xs.length : Int) - IntKind.i64.wrap ((k : Int) + 1)).toNat < ((xs.length : Int) - (k : Int)).toNat
    omega
 ·have hk : k = xs.length := by simp at hc2; omega
  refine And.intro (congrArg Value.bool ?_) rfl
  refine (decide_eq_true ?_).symm
  subst hk
  rwa [List.take_length, hlen, List.take_length] at hall
theorem m09 (h : Hp) (cs ds : List Value) (x y : D0) (hx : j1.R h cs x) (hy : j1.R h ds y) :
  Tr Tryz.prog 31 #[.agg cs.toArray, .agg ds.toArray] h fun v h' => v = .bool (decide (x = y)) ∧ h' = h := by
 obtain ⟨x0, a1, n1, c1, x1, rfl, rfl, h0, h1⟩ := A2 hx
 obtain ⟨x0y, a1y, n1y, c1y, x1y, rfl, rfl, h0y, h1y⟩ := A2 hy
 refine T2 (args := [.agg #[.int .i64 x0, .slice a1 n1 c1], .agg #[.int .i64 x0y, .slice a1y n1y c1y]]) (fn := Tryz.f31) rfl ?_
 refine And.intro (fun hc => ?_) (fun hc => ?_)
 ·have ne : x0 ≠ x0y := by simpa using hc
  exact And.intro (congrArg Value.bool (decide_eq_false fun e => by cases e; exact ne rfl).symm) rfl
 have q0 : x0 = x0y := by simpa using hc
 subst q0
 refine Tr.val (h0d h a1 n1 c1 a1y n1y c1y x1 x1y h1 h1y) ?_
 refine And.intro (fun hc => ?_) (fun hc => ?_)
 ·have ne : x1 ≠ x1y := f0a hc
  exact And.intro (congrArg Value.bool (decide_eq_false fun e => by cases e; exact ne rfl).symm) rfl
 have q1 : x1 = x1y := B07 hc
 subst q1
 exact And.intro (congrArg Value.bool (decide_eq_true rfl).symm) rfl
end Go.Proofs.YtfdlgbfeceodeaaGreat
namespace Go.Proofs.YtfdlgbfeceodeaaGreat
open Go.H
set_option linter.unusedVariables false
set_option linter.unusedSimpArgs false
set_option maxRecDepth 10000
theorem c0k (h : Hp) (a : Option Addr) (n c : Nat) (xs : P0) (hx : K1.R h [.slice a n c] xs) (hl : S00 xs ≤ 1048576) :
  Tr Tryz.prog 63 #[.slice a n c] h fun v h' => New K1 h h' [v] xs := by
 obtain ⟨rfl, hn⟩ := Sl.len hx
 have hl0 : xs.length ≤ 1048576 := by simp only [S00] at hl; omega
 refine T2 (args := [.slice a xs.length c]) (fn := Tryz.f63) rfl ?_
 refine And.intro ?_ ?_
 ·show 0 ≤ (xs.length : Int) ∧ (xs.length : Int) ≤ xs.length ∧ (xs.length : Int) * 8 ≤ 140737488355328 ∧ (xs.length : Int) ≤ 9223372036854775807
  omega
 refine Exists.intro { vars := [4], boxes := [], owns := [0], kept := [0] } (Exists.intro (fun vs os h' => ∃ (k : Nat) (L : List (List Value)) (Bs : List (List Nat)), k ≤ xs.length ∧ vs = [.int .i64 k] ∧ os = [w02 L xs.length [.int .i64 0]] ∧ L.length = k ∧
  F3 (Wp.int.W h') L (xs.take k) Bs ∧ Sub h h' ∧ r7 h Bs.flatten) (Exists.intro (fun vs _ => match vs with | [.int _ j] => ((xs.length : Int) - j).toNat | _ => 0) ?_))
 refine And.intro ⟨0, [], [], by omega, rfl, rfl, rfl, trivial, Sub.refl _, by simp [r7]⟩ ?_
 rintro _ _ h1 ⟨k, L, Bs, hk, ⟨⟩, ⟨⟩, hlk, hW, hsub, hfr⟩
 refine And.intro (fun hc2 => ?_) (fun hc2 => ?_)
 ·have hlt : k < xs.length := by simpa using hc2
  obtain ⟨x, gx⟩ := u00 hlt
  obtain ⟨b1, cs1, e1, i1⟩ := Sl.get (Sl.mono hsub hx) gx (by decide)
  have hw := Z1 hlt hn
  obtain ⟨rfl, g1⟩ := i1
  refine And.intro b1 (Exists.intro _ (And.intro e1 ?_))
  obtain ⟨B, hB1, hB2, hB3⟩ := New.int (h := h1) g1
  refine And.intro ?_ ?_
  ·show 0 ≤ (k : Int) ∧ (k : Int) < ((w02 L xs.length [.int .i64 0]).length : Nat)
   rw [A07 (by omega)]; omega
  refine Exists.intro [.int .i64 0] (And.intro (C0c hlk hlt) ?_)
  refine And.intro rfl (And.intro (by first | exact trivial | exact And.intro rfl trivial | exact And.intro rfl (And.intro rfl trivial) | exact And.intro rfl (And.intro rfl (And.intro rfl trivial)) | exact And.intro rfl (And.intro rfl (And.intro rfl (And.intro rfl trivial)))) (And.intro (by first | exact trivial | exact And.intro rfl trivial | exact And.intro rfl (And.intro rfl trivial) | exact And.intro rfl (And.intro rfl (And.intro rfl trivial)) | exact And.intro rfl (And.intro rfl (And.intro rfl (And.intro rfl trivial)))) (And.intro ?_ ?_)))
  ·refine ⟨k + 1, L ++ [[.int .i64 x]], Bs ++ [B], by omega, by rw [← hw], ?_, by simp [hlk], ?_, hsub.trans hB3, ?_⟩
   ·show [(w02 L xs.length [.int .i64 0]).set k [.int .i64 x]] = _
    rw [D0c hlk hlt]
   ·rw [J9 gx]
    exact F3.snoc hB1 (Q0e hW hB3)
   ·exact V0a hW hsub hfr hB2
  ·show ((xs.length : Int) - IntKind.i64.wrap ((k : Int) + 1)).toNat < ((xs.length : Int) - (k : Int)).toNat
   omega
 ·have hk : k = xs.length := by simp at hc2; omega
  intro v h' hf
  rw [E0c (by omega)] at hf
  rw [hk, List.take_length] at hW
  exact E1.fresh (r := Wp.int) hf hW hsub hfr
theorem U03 (h : Hp) (a : Option Addr) (n c : Nat) (xs : V2) (hx : D3.R h [.slice a n c] xs) (hl : j9 xs ≤ 1048576) :
  Tr Tryz.prog 58 #[.slice a n c] h fun v h' => New D3 h h' [v] xs := by
 obtain ⟨rfl, hn⟩ := Sl.len hx
 have hl0 : xs.length ≤ 1048576 := by simp only [j9] at hl; omega
 refine T2 (args := [.slice a xs.length c]) (fn := Tryz.f58) rfl ?_
 refine And.intro ?_ ?_
 ·show 0 ≤ (xs.length : Int) ∧ (xs.length : Int) ≤ xs.length ∧ (xs.length : Int) * 24 ≤ 140737488355328 ∧ (xs.length : Int) ≤ 9223372036854775807
  omega
 refine Exists.intro { vars := [4], boxes := [], owns := [0], kept := [0] } (Exists.intro (fun vs os h' => ∃ (k : Nat) (L : List (List Value)) (Bs : List (List Nat)), k ≤ xs.length ∧ vs = [.int .i64 k] ∧ os = [w02 L xs.length [.slice none 0 0]] ∧ L.length = k ∧
  F3 (K1.W h') L (xs.take k) Bs ∧ Sub h h' ∧ r7 h Bs.flatten) (Exists.intro (fun vs _ => match vs with | [.int _ j] => ((xs.length : Int) - j).toNat | _ => 0) ?_))
 refine And.intro ⟨0, [], [], by omega, rfl, rfl, rfl, trivial, Sub.refl _, by simp [r7]⟩ ?_
 rintro _ _ h1 ⟨k, L, Bs, hk, ⟨⟩, ⟨⟩, hlk, hW, hsub, hfr⟩
 refine And.intro (fun hc2 => ?_) (fun hc2 => ?_)
 ·have hlt : k < xs.length := by simpa using hc2
  obtain ⟨x, gx⟩ := u00 hlt
  obtain ⟨b1, cs1, e1, i1⟩ := Sl.get (Sl.mono hsub hx) gx (by decide)
  have hw := Z1 hlt hn
  obtain ⟨a1, n1, c1, rfl⟩ := Wp.slice_cell i1
  refine And.intro b1 (Exists.intro _ (And.intro e1 ?_))
  refine Tr.mono (c0k h1 _ _ _ x i1 (by have := v0j (m := S00) gx; simp only [j9] at hl; omega)) ?_
  rintro v h2 ⟨B, hB1, hB2, hB3⟩
  obtain ⟨a2, n2, c2, e2⟩ := Wp.slice_cell (K1.toR hB1)
  cases e2
  refine And.intro ?_ ?_
  ·show 0 ≤ (k : Int) ∧ (k : Int) < ((w02 L xs.length [.slice none 0 0]).length : Nat)
   rw [A07 (by omega)]; omega
  refine Exists.intro [.slice none 0 0] (And.intro (C0c hlk hlt) ?_)
  refine And.intro rfl (And.intro (by first | exact trivial | exact And.intro rfl trivial | exact And.intro rfl (And.intro rfl trivial) | exact And.intro rfl (And.intro rfl (And.intro rfl trivial)) | exact And.intro rfl (And.intro rfl (And.intro rfl (And.intro rfl trivial)))) (And.intro (by first | exact trivial | exact And.intro rfl trivial | exact And.intro rfl (And.intro rfl trivial) | exact And.intro rfl (And.intro rfl (And.intro rfl trivial)) | exact And.intro rfl (And.intro rfl (And.intro rfl (And.intro rfl trivial)))) (And.intro ?_ ?_)))
  ·refine ⟨k + 1, L ++ [[.slice a2 n2 c2]], Bs ++ [B], by omega, by rw [← hw], ?_, by simp [hlk], ?_, hsub.trans hB3, ?_⟩
   ·show [(w02 L xs.length [.slice none 0 0]).set k [.slice a2 n2 c2]] = _
    rw [D0c hlk hlt]
   ·rw [J9 gx]
    exact F3.snoc hB1 (Q0e hW hB3)
   ·exact V0a hW hsub hfr hB2
  ·show ((xs.length : Int) - IntKind.i64.wrap ((k : Int) + 1)).toNat < ((xs.length : Int) - (k : Int)).toNat
   omega
 ·have hk : k = xs.length := by simp at hc2; omega
  intro v h' hf
  rw [E0c (by omega)] at hf
  rw [hk, List.take_length] at hW
  exact E1.fresh (r := K1) hf hW hsub hfr
theorem z00 (h : Hp) (cs : List Value) (x : D0) (hx : j1.R h cs x) (hl : l4 x ≤ 1048576) :
  Tr Tryz.prog 29 #[.agg cs.toArray] h fun v h' => ∃ cs', v = .agg cs'.toArray ∧ New j1 h h' cs' x := by
 obtain ⟨x0, a1, n1, c1, x1, rfl, rfl, h0, h1⟩ := A2 hx
 simp only [l4] at hl
 refine T2 (args := [.agg #[.int .i64 x0, .slice a1 n1 c1]]) (fn := Tryz.f29) rfl ?_
 refine Tr.mono (U03 h a1 n1 c1 x1 (Sl.mono (Sub.refl _) h1) (by omega)) ?_
 rintro v1 k1 N1
 obtain ⟨a1z, n1z, c1z, ez1⟩ := Wp.slice_cell N1.r
 cases ez1
 exact Exists.intro _ (And.intro rfl (New.pair (New.int h0) N1))
end Go.Proofs.YtfdlgbfeceodeaaGreat
namespace Go.Proofs.YtfdlgbfeceodeaaGreat
open Go.H
set_option linter.unusedVariables false
set_option linter.unusedSimpArgs false
set_option maxRecDepth 10000
theorem Q0f (h : Hp) (a : Option Addr) (n c : Nat) (xs : J0) (B : List Nat) (k : Int) (hx : I0.W h [.slice a n c] xs B) (hB : B.Nodup) (hk : 0 ≤ k ∧ k + (g03 xs : Nat) ≤ 4611686018427387904) :
  Tr Tryz.prog 86 #[.slice a n c, .int .i64 k] h fun v h' => v = .int .i64 (k + (g03 xs : Nat)) ∧ I0.W h' [.slice a n c] (l04 xs k) B ∧ ∀ y, y ∉ B → h' y = h y := by
 obtain ⟨rfl, hn⟩ := Sl.len (I0.toR hx)
 refine T2 (args := [.slice a xs.length c, .int .i64 k]) (fn := Tryz.f86) rfl ?_
 refine Exists.intro { vars := [1, 5], boxes := [], owns := [] } (Exists.intro (fun vs _ h' => ∃ (j : Nat) (kk : Int), kk = k + (Z5 D5 (xs.take j) : Nat) ∧ j ≤ xs.length ∧ vs = [.int .i64 kk, .int .i64 j] ∧ I0.W h' [.slice a xs.length c] (w01 d01 D5 xs k j) B ∧ ∀ y, y ∉ B → h' y = h y) (Exists.intro (fun vs _ => match vs with | [_, .int _ j] => ((xs.length : Int) - j).toNat | _ => 0) ?_))
 refine And.intro ⟨0, k, by simp [Z5], by omega, rfl, by rw [H08]; exact hx, fun _ _ => rfl⟩ ?_
 rintro _ _ h1 ⟨j, kk, hkk, hj, ⟨⟩, W0, F0⟩
 refine And.intro (fun hc2 => ?_) (fun hc2 => ?_)
 ·have hlt : j < xs.length := by simpa using hc2
  obtain ⟨x, gx⟩ := u00 hlt
  have G0 := Z0a (mk := d01) (c := D5) (k := k) gx
  have hs1 : Z5 D5 (xs.take (j + 1)) = Z5 D5 (xs.take j) + D5 x := C03 gx
  have hs2 := D03 D5 xs (j + 1)
  have hw := Z1 hlt hn
  have hkx : 0 ≤ kk ∧ kk + (D5 x : Nat) ≤ 4611686018427387904 := by
   have : (g03 xs : Int) = (Z5 D5 xs : Nat) := rfl
   omega
  obtain ⟨x0, x1, x2⟩ := x
  simp only [D5] at hkx
  obtain ⟨b0, cs0, Bi0, bb0, of0, cur0, ty0, ea0, e0, w0, hb0, hin0, hbB0, hbn0, hsub0, hnd0, upd0, st0⟩ := Wp.at W0 hB G0 (by decide)
  cases ea0
  obtain ⟨x0q0, x1q0, x2q0, rfl, ex0, rfl, g0q0, g1q0, g2q0⟩ := J08 w0
  cases ex0
  refine And.intro b0 ?_
  refine X00.mk (Int.natCast_nonneg j) hb0 (hin0 0 (by decide)) (by rw [Int.toNat_natCast]; rfl) trivial ?_
  have W1 : I0.W (h1.set bb0 (.cells (cur0.setIfInBounds (of0 + (j * Q0.sz + 0)) (.int .i64 (kk))) ty0 (0, 0))) [.slice (some ⟨bb0, of0, none⟩) xs.length c] ((w01 d01 D5 xs k j).set j (kk, x1, x2)) B := st0 0 (.int .i64 (kk)) (kk, x1, x2) (by decide) fun h' hf => k04 (B0k (by  omega) (by  omega)) g1q0 g2q0
  have F1 : ∀ y, y ∉ B → (h1.set bb0 (.cells (cur0.setIfInBounds (of0 + (j * Q0.sz + 0)) (.int .i64 (kk))) ty0 (0, 0))) y = h y := fun y hy => (Hp.set_other _ _ fun e => hy (by rw [e]; exact hbB0)).trans (F0 y hy)
  generalize (h1.set bb0 (.cells (cur0.setIfInBounds (of0 + (j * Q0.sz + 0)) (.int .i64 (kk))) ty0 (0, 0))) = kst0 at W1 F1 ⊢
  have ek1 : IntKind.i64.wrap (kk + 1) = kk + (1) := by rw [w64 (by  omega) (by  omega)] <;> omega
  have G1 : ((w01 d01 D5 xs k j).set j (kk, x1, x2))[j]? = some (kk, x1, x2) := by rw [List.getElem?_set_self (by rw [B09]; exact hlt)]
  obtain ⟨b1, cs1, Bi1, bb1, of1, cur1, ty1, ea1, e1, w1, hb1, hin1, hbB1, hbn1, hsub1, hnd1, upd1, st1⟩ := Wp.at W1 hB G1 (by decide)
  cases ea1
  obtain ⟨x0q1, x1q1, x2q1, rfl, ex1, rfl, g0q1, g1q1, g2q1⟩ := J08 w1
  cases ex1
  refine And.intro b1 ?_
  refine X00.mk (Int.natCast_nonneg j) hb1 (hin1 1 (by decide)) (by rw [Int.toNat_natCast]; rfl) trivial ?_
  have W2 : I0.W (kst0.set bb0 (.cells (cur1.setIfInBounds (of0 + (j * Q0.sz + 1)) (.int .i64 (IntKind.i64.wrap (kk + 1)))) ty1 (0, 0))) [.slice (some ⟨bb0, of0, none⟩) xs.length c] ((w01 d01 D5 xs k j).set j (kk, IntKind.i64.wrap (kk + 1), x2)) B := by have := st1 1 (.int .i64 (IntKind.i64.wrap (kk + 1))) (kk, IntKind.i64.wrap (kk + 1), x2) (by decide) fun h' hf => k04 g0q1 (B0k (by rw [ek1]; omega) (by rw [ek1]; omega)) g2q1; rwa [List.set_set] at this
  have F2 : ∀ y, y ∉ B → (kst0.set bb0 (.cells (cur1.setIfInBounds (of0 + (j * Q0.sz + 1)) (.int .i64 (IntKind.i64.wrap (kk + 1)))) ty1 (0, 0))) y = h y := fun y hy => (Hp.set_other _ _ fun e => hy (by rw [e]; exact hbB1)).trans (F1 y hy)
  generalize (kst0.set bb0 (.cells (cur1.setIfInBounds (of0 + (j * Q0.sz + 1)) (.int .i64 (IntKind.i64.wrap (kk + 1)))) ty1 (0, 0))) = kst1 at W2 F2 ⊢
  have ek2 : IntKind.i64.wrap (IntKind.i64.wrap (kk + 1) + 1) = kk + (1 + 1) := by rw [w64 (by rw [ek1]; omega) (by rw [ek1]; omega)] <;> rw [ek1] <;> omega
  have G2 : ((w01 d01 D5 xs k j).set j (kk, IntKind.i64.wrap (kk + 1), x2))[j]? = some (kk, IntKind.i64.wrap (kk + 1), x2) := by rw [List.getElem?_set_self (by rw [B09]; exact hlt)]
  obtain ⟨b2, cs2, Bi2, bb2, of2, cur2, ty2, ea2, e2, w2, hb2, hin2, hbB2, hbn2, hsub2, hnd2, upd2, st2⟩ := Wp.at W2 hB G2 (by decide)
  cases ea2
  obtain ⟨x0q2, x1q2, x2q2, rfl, ex2, rfl, g0q2, g1q2, g2q2⟩ := J08 w2
  cases ex2
  refine And.intro b2 ?_
  refine X00.mk (Int.natCast_nonneg j) hb2 (hin2 2 (by decide)) (by rw [Int.toNat_natCast]; rfl) trivial ?_
  have W3 : I0.W (kst1.set bb0 (.cells (cur2.setIfInBounds (of0 + (j * Q0.sz + 2)) (.int .i64 (IntKind.i64.wrap (IntKind.i64.wrap (kk + 1) + 1)))) ty2 (0, 0))) [.slice (some ⟨bb0, of0, none⟩) xs.length c] ((w01 d01 D5 xs k j).set j (kk, IntKind.i64.wrap (kk + 1), IntKind.i64.wrap (IntKind.i64.wrap (kk + 1) + 1))) B := by have := st2 2 (.int .i64 (IntKind.i64.wrap (IntKind.i64.wrap (kk + 1) + 1))) (kk, IntKind.i64.wrap (kk + 1), IntKind.i64.wrap (IntKind.i64.wrap (kk + 1) + 1)) (by decide) fun h' hf => k04 g0q2 g1q2 (B0k (by rw [ek2]; omega) (by rw [ek2]; omega)); rwa [List.set_set] at this
  have F3 : ∀ y, y ∉ B → (kst1.set bb0 (.cells (cur2.setIfInBounds (of0 + (j * Q0.sz + 2)) (.int .i64 (IntKind.i64.wrap (IntKind.i64.wrap (kk + 1) + 1)))) ty2 (0, 0))) y = h y := fun y hy => (Hp.set_other _ _ fun e => hy (by rw [e]; exact hbB2)).trans (F2 y hy)
  generalize (kst1.set bb0 (.cells (cur2.setIfInBounds (of0 + (j * Q0.sz + 2)) (.int .i64 (IntKind.i64.wrap (IntKind.i64.wrap (kk + 1) + 1)))) ty2 (0, 0))) = kst2 at W3 F3 ⊢
  have ek3 : IntKind.i64.wrap (IntKind.i64.wrap (IntKind.i64.wrap (kk + 1) + 1) + 1) = kk + (1 + 1 + 1) := by rw [w64 (by rw [ek2]; omega) (by rw [ek2]; omega)] <;> rw [ek2] <;> omega
  have em : (kk, IntKind.i64.wrap (kk + 1), IntKind.i64.wrap (IntKind.i64.wrap (kk + 1) + 1)) = d01 (x0, x1, x2) kk := by
   simp only [d01, D5]
   exact (congr (congrArg Prod.mk rfl) (congr (congrArg Prod.mk (by rw [ek1] <;> first | rfl | omega | (simp; omega))) (by rw [ek2] <;> first | rfl | omega | (simp; omega))))
  have eL : (w01 d01 D5 xs k j).set j (kk, IntKind.i64.wrap (kk + 1), IntKind.i64.wrap (IntKind.i64.wrap (kk + 1) + 1)) = w01 d01 D5 xs k (j + 1) := by rw [em]; rw [hkk]; exact a0b gx
  rw [eL] at W3
  refine And.intro rfl (And.intro (by first | exact trivial | exact And.intro rfl trivial | exact And.intro rfl (And.intro rfl trivial) | exact And.intro rfl (And.intro rfl (And.intro rfl trivial)) | exact And.intro rfl (And.intro rfl (And.intro rfl (And.intro rfl trivial)))) (And.intro (by first | exact trivial | exact And.intro rfl trivial | exact And.intro rfl (And.intro rfl trivial) | exact And.intro rfl (And.intro rfl (And.intro rfl trivial)) | exact And.intro rfl (And.intro rfl (And.intro rfl (And.intro rfl trivial)))) (And.intro ?_ ?_)))
  ·refine ⟨j + 1, IntKind.i64.wrap (IntKind.i64.wrap (IntKind.i64.wrap (kk + 1) + 1) + 1), ?_, by omega, by rw [← hw], W3, F3⟩
   rw [ek3]; rw [hs1]; simp only [D5]; omega
  ·show ((xs.length : Int) - IntKind.i64.wrap ((j : Int) + 1)).toNat < ((xs.length : Int) - (j : Int)).toNat
   omega
 ·have hj' : j = xs.length := by simp at hc2; omega
  subst hj'
  rw [List.take_length] at hkk
  rw [Y0a] at W0
  exact And.intro (congrArg (Value.int .i64) hkk) (And.intro W0 F0)
theorem R0f (h : Hp) (cs : List Value) (x : l0) (B : List Nat) (k : Int) (hx : Y0.W h cs x B) (hB : B.Nodup) (hk : 0 ≤ k ∧ k + (i9 x : Nat) ≤ 4611686018427387904) :
  Tr Tryz.prog 26 #[.agg cs.toArray, .int .i64 k] h fun v h' => v = .int .i64 (k + (i9 x : Nat)) ∧ Y0.W h' cs (D07 x k) B ∧ ∀ y, y ∉ B → h' y = h y := by
 obtain ⟨x0, x1, a2, n2, c2, x2, B2, rfl, rfl, rfl, h0, h1, h2⟩ := s0g hx
 simp only [i9] at hk
 refine T2 (args := [.agg #[.int .i64 x0, .int .i64 x1, .slice a2 n2 c2], .int .i64 k]) (fn := Tryz.f26) rfl ?_
 have hn2 : B.Nodup := by first | exact hB | (have := hB; simp only [List.nil_append, List.append_nil, List.nodup_append] at this; grind)
 refine Tr.mono (Q0f _ a2 n2 c2 x2 B (k) h2 hn2 ⟨by omega, by omega⟩) ?_
 rintro v2 h2m ⟨rfl, wm2, fm2⟩
 have eK : (k + (g03 x2 : Nat) : Int) = k + (i9 (x0, x1, x2) : Nat) := by simp only [i9] <;> omega
 have WW : Y0.W h2m [.int .i64 x0, .int .i64 x1, .slice a2 n2 c2] (x0, x1, l04 x2 (k)) (B) := ⟨[.int .i64 x0], [.int .i64 x1, .slice a2 n2 c2], [], ([] ++ B), rfl, rfl, ⟨⟨rfl, h0⟩, rfl⟩, ⟨[.int .i64 x1], [.slice a2 n2 c2], [], B, rfl, rfl, ⟨⟨rfl, h1⟩, rfl⟩, wm2⟩⟩
 have em : (x0, x1, l04 x2 (k)) = D07 (x0, x1, x2) k := by
  unfold D07
  exact (congr (congrArg Prod.mk rfl) (congr (congrArg Prod.mk rfl) rfl))
 rw [em] at WW
 exact And.intro (congrArg (Value.int .i64) eK) (And.intro WW (fun y hy => fm2 y (fun hy2 => hy (by first | exact hy2 | (simp only [List.nil_append, List.append_nil, List.mem_append, List.not_mem_nil, false_or, or_false] at hy2 ⊢; grind)))))
theorem R0g (h : Hp) (a : Option Addr) (n c : Nat) (xs : P0) (B : List Nat) (k : Int) (hx : K1.W h [.slice a n c] xs B) (hB : B.Nodup) (hk : 0 ≤ k ∧ k + (B00 xs : Nat) ≤ 4611686018427387904) :
  Tr Tryz.prog 49 #[.slice a n c, .int .i64 k] h fun v h' => v = .int .i64 (k + (B00 xs : Nat)) ∧ K1.W h' [.slice a n c] (T01 xs k) B ∧ ∀ y, y ∉ B → h' y = h y := by
 obtain ⟨rfl, hn⟩ := Sl.len (K1.toR hx)
 refine T2 (args := [.slice a xs.length c, .int .i64 k]) (fn := Tryz.f49) rfl ?_
 refine Exists.intro { vars := [1, 5], boxes := [], owns := [] } (Exists.intro (fun vs _ h' => ∃ (j : Nat) (kk : Int), kk = k + (Z5 (fun _ => 1) (xs.take j) : Nat) ∧ j ≤ xs.length ∧ vs = [.int .i64 kk, .int .i64 j] ∧ K1.W h' [.slice a xs.length c] (w01 (fun _ k => k) (fun _ => 1) xs k j) B ∧ ∀ y, y ∉ B → h' y = h y) (Exists.intro (fun vs _ => match vs with | [_, .int _ j] => ((xs.length : Int) - j).toNat | _ => 0) ?_))
 refine And.intro ⟨0, k, by simp [Z5], by omega, rfl, by rw [H08]; exact hx, fun _ _ => rfl⟩ ?_
 rintro _ _ h1 ⟨j, kk, hkk, hj, ⟨⟩, W0, F0⟩
 refine And.intro (fun hc2 => ?_) (fun hc2 => ?_)
 ·have hlt : j < xs.length := by simpa using hc2
  obtain ⟨x, gx⟩ := u00 hlt
  have G0 := Z0a (mk := (fun _ k => k)) (c := (fun _ => 1)) (k := k) gx
  have hs1 : Z5 (fun _ => 1) (xs.take (j + 1)) = Z5 (fun _ => 1) (xs.take j) + 1 := C03 gx
  have hs2 := D03 (fun _ => 1) xs (j + 1)
  have hw := Z1 hlt hn
  have hkx : 0 ≤ kk ∧ kk + (1 : Nat) ≤ 4611686018427387904 := by
   have : (B00 xs : Int) = (Z5 (fun _ => 1) xs : Nat) := rfl
   omega
  obtain ⟨b0, cs0, Bi0, bb0, of0, cur0, ty0, ea0, e0, w0, hb0, hin0, hbB0, hbn0, hsub0, hnd0, upd0, st0⟩ := Wp.at W0 hB G0 (by decide)
  cases ea0
  obtain ⟨⟨rfl, _⟩, rfl⟩ := w0
  refine And.intro b0 ?_
  refine X00.mk (Int.natCast_nonneg j) hb0 (hin0 0 (by decide)) (by rw [Int.toNat_natCast]; rfl) trivial ?_
  have W1 : K1.W (h1.set bb0 (.cells (cur0.setIfInBounds (of0 + (j * Wp.int.sz + 0)) (.int .i64 (kk))) ty0 (0, 0))) [.slice (some ⟨bb0, of0, none⟩) xs.length c] ((w01 (fun _ k => k) (fun _ => 1) xs k j).set j (kk)) B := st0 0 (.int .i64 (kk)) (kk) (by decide) fun h' hf => ⟨⟨rfl, B0k (by omega) (by omega)⟩, rfl⟩
  have F1 : ∀ y, y ∉ B → (h1.set bb0 (.cells (cur0.setIfInBounds (of0 + (j * Wp.int.sz + 0)) (.int .i64 (kk))) ty0 (0, 0))) y = h y := fun y hy => (Hp.set_other _ _ fun e => hy (by rw [e]; exact hbB0)).trans (F0 y hy)
  generalize (h1.set bb0 (.cells (cur0.setIfInBounds (of0 + (j * Wp.int.sz + 0)) (.int .i64 (kk))) ty0 (0, 0))) = kst0 at W1 F1 ⊢
  have ek1 : IntKind.i64.wrap (kk + 1) = kk + (1) := by rw [w64 (by  omega) (by  omega)] <;> omega
  have em : kk = (fun _ k => k) x kk := rfl
  have eL : (w01 (fun _ k => k) (fun _ => 1) xs k j).set j (kk) = w01 (fun _ k => k) (fun _ => 1) xs k (j + 1) := by rw [hkk]; exact a0b gx
  rw [eL] at W1
  refine And.intro rfl (And.intro (by first | exact trivial | exact And.intro rfl trivial | exact And.intro rfl (And.intro rfl trivial) | exact And.intro rfl (And.intro rfl (And.intro rfl trivial)) | exact And.intro rfl (And.intro rfl (And.intro rfl (And.intro rfl trivial)))) (And.intro (by first | exact trivial | exact And.intro rfl trivial | exact And.intro rfl (And.intro rfl trivial) | exact And.intro rfl (And.intro rfl (And.intro rfl trivial)) | exact And.intro rfl (And.intro rfl (And.intro rfl (And.intro rfl trivial)))) (And.intro ?_ ?_)))
  ·refine ⟨j + 1, IntKind.i64.wrap (kk + 1), ?_, by omega, by rw [← hw], W1, F1⟩
   rw [ek1]; rw [hs1]; omega
  ·show ((xs.length : Int) - IntKind.i64.wrap ((j : Int) + 1)).toNat < ((xs.length : Int) - (j : Int)).toNat
   omega
 ·have hj' : j = xs.length := by simp at hc2; omega
  subst hj'
  rw [List.take_length] at hkk
  rw [Y0a] at W0
  exact And.intro (congrArg (Value.int .i64) hkk) (And.intro W0 F0)
theorem I09 (h : Hp) (a : Option Addr) (n c : Nat) (xs : V2) (B : List Nat) (k : Int) (hx : D3.W h [.slice a n c] xs B) (hB : B.Nodup) (hk : 0 ≤ k ∧ k + (K08 xs : Nat) ≤ 4611686018427387904) :
  Tr Tryz.prog 54 #[.slice a n c, .int .i64 k] h fun v h' => v = .int .i64 (k + (K08 xs : Nat)) ∧ D3.W h' [.slice a n c] (g0a xs k) B ∧ ∀ y, y ∉ B → h' y = h y := by
 obtain ⟨rfl, hn⟩ := Sl.len (D3.toR hx)
 refine T2 (args := [.slice a xs.length c, .int .i64 k]) (fn := Tryz.f54) rfl ?_
 refine Exists.intro { vars := [1, 5], boxes := [], owns := [] } (Exists.intro (fun vs _ h' => ∃ (j : Nat) (kk : Int), kk = k + (Z5 B00 (xs.take j) : Nat) ∧ j ≤ xs.length ∧ vs = [.int .i64 kk, .int .i64 j] ∧ D3.W h' [.slice a xs.length c] (w01 T01 B00 xs k j) B ∧ ∀ y, y ∉ B → h' y = h y) (Exists.intro (fun vs _ => match vs with | [_, .int _ j] => ((xs.length : Int) - j).toNat | _ => 0) ?_))
 refine And.intro ⟨0, k, by simp [Z5], by omega, rfl, by rw [H08]; exact hx, fun _ _ => rfl⟩ ?_
 rintro _ _ h1 ⟨j, kk, hkk, hj, ⟨⟩, W0, F0⟩
 refine And.intro (fun hc2 => ?_) (fun hc2 => ?_)
 ·have hlt : j < xs.length := by simpa using hc2
  obtain ⟨x, gx⟩ := u00 hlt
  have G0 := Z0a (mk := T01) (c := B00) (k := k) gx
  have hs1 : Z5 B00 (xs.take (j + 1)) = Z5 B00 (xs.take j) + B00 x := C03 gx
  have hs2 := D03 B00 xs (j + 1)
  have hw := Z1 hlt hn
  have hkx : 0 ≤ kk ∧ kk + (B00 x : Nat) ≤ 4611686018427387904 := by
   have : (K08 xs : Int) = (Z5 B00 xs : Nat) := rfl
   omega
  obtain ⟨b0, cs0, Bi0, bb0, of0, cur0, ty0, ea0, e0, w0, hb0, hin0, hbB0, hbn0, hsub0, hnd0, upd0, st0⟩ := Wp.at W0 hB G0 (by decide)
  cases ea0
  obtain ⟨aq0, nq0, cq0, eq0⟩ := Wp.slice_cell (K1.toR w0)
  cases eq0
  refine And.intro b0 (Exists.intro _ (And.intro e0 ?_))
  refine Tr.mono (R0g _ aq0 nq0 cq0 (x) Bi0 (kk) w0 hnd0 ⟨by omega, by omega⟩) ?_
  rintro v0 h0m ⟨rfl, wm0, fm0⟩
  have W1 : D3.W h0m [.slice (some ⟨bb0, of0, none⟩) xs.length c] ((w01 T01 B00 xs k j).set j (T01 x (kk))) B := upd0 h0m (T01 x (kk)) (fm0) wm0
  have F1 : ∀ y, y ∉ B → h0m y = h y := fun y hy => (fm0 y fun hy2 => hy (hsub0 y (by simp [hy2]))).trans (F0 y hy)
  have ek1 : (kk + (B00 x : Nat) : Int) = kk + ((B00 x : Nat)) := by omega
  have em : (T01 x (kk)) = T01 x kk := rfl
  have eL : (w01 T01 B00 xs k j).set j (T01 x (kk)) = w01 T01 B00 xs k (j + 1) := by rw [hkk]; exact a0b gx
  rw [eL] at W1
  refine And.intro rfl (And.intro (by first | exact trivial | exact And.intro rfl trivial | exact And.intro rfl (And.intro rfl trivial) | exact And.intro rfl (And.intro rfl (And.intro rfl trivial)) | exact And.intro rfl (And.intro rfl (And.intro rfl (And.intro rfl trivial)))) (And.intro (by first | exact trivial | exact And.intro rfl trivial | exact And.intro rfl (And.intro rfl trivial) | exact And.intro rfl (And.intro rfl (And.intro rfl trivial)) | exact And.intro rfl (And.intro rfl (And.intro rfl (And.intro rfl trivial)))) (And.intro ?_ ?_)))
  ·refine ⟨j + 1, kk + (B00 x : Nat), ?_, by omega, by rw [← hw], W1, F1⟩
   rw [ek1]; rw [hs1]; omega
  ·show ((xs.length : Int) - IntKind.i64.wrap ((j : Int) + 1)).toNat < ((xs.length : Int) - (j : Int)).toNat
   omega
 ·have hj' : j = xs.length := by simp at hc2; omega
  subst hj'
  rw [List.take_length] at hkk
  rw [Y0a] at W0
  exact And.intro (congrArg (Value.int .i64) hkk) (And.intro W0 F0)
theorem W06 (h : Hp) (cs : List Value) (x : D0) (B : List Nat) (k : Int) (hx : j1.W h cs x B) (hB : B.Nodup) (hk : 0 ≤ k ∧ k + (G7 x : Nat) ≤ 4611686018427387904) :
  Tr Tryz.prog 32 #[.agg cs.toArray, .int .i64 k] h fun v h' => v = .int .i64 (k + (G7 x : Nat)) ∧ j1.W h' cs (x02 x k) B ∧ ∀ y, y ∉ B → h' y = h y := by
 obtain ⟨x0, a1, n1, c1, x1, B1, rfl, rfl, rfl, h0, h1⟩ := E07 hx
 simp only [G7] at hk
 refine T2 (args := [.agg #[.int .i64 x0, .slice a1 n1 c1], .int .i64 k]) (fn := Tryz.f32) rfl ?_
 have hn1 : B.Nodup := by first | exact hB | (have := hB; simp only [List.nil_append, List.append_nil, List.nodup_append] at this; grind)
 refine Tr.mono (I09 _ a1 n1 c1 x1 B (k) h1 hn1 ⟨by omega, by omega⟩) ?_
 rintro v1 h1m ⟨rfl, wm1, fm1⟩
 have eK : (k + (K08 x1 : Nat) : Int) = k + (G7 (x0, x1) : Nat) := by simp only [G7] <;> omega
 have WW : j1.W h1m [.int .i64 x0, .slice a1 n1 c1] (x0, g0a x1 (k)) (B) := ⟨[.int .i64 x0], [.slice a1 n1 c1], [], B, rfl, rfl, ⟨⟨rfl, h0⟩, rfl⟩, wm1⟩
 have em : (x0, g0a x1 (k)) = x02 (x0, x1) k := by
  unfold x02
  exact (congr (congrArg Prod.mk rfl) rfl)
 rw [em] at WW
 exact And.intro (congrArg (Value.int .i64) eK) (And.intro WW (fun y hy => fm1 y (fun hy2 => hy (by first | exact hy2 | (simp only [List.nil_append, List.append_nil, List.mem_append, List.not_mem_nil, false_or, or_false] at hy2 ⊢; grind)))))
end Go.Proofs.YtfdlgbfeceodeaaGreat
namespace Go.Proofs.YtfdlgbfeceodeaaGreat
open Go.H
set_option linter.unusedVariables false
set_option linter.unusedSimpArgs false
set_option maxRecDepth 10000
theorem S0f (h : Hp) (a : Option Addr) (n c : Nat) (xs : J0) (k : Int) (hx : I0.R h [.slice a n c] (l04 xs k)) (hk : 0 ≤ k ∧ k + (g03 xs : Nat) ≤ 4611686018427387904) :
  Tr Tryz.prog 104 #[.slice a n c, .int .i64 k] h fun v h' => v = .int .i64 (k + (g03 xs : Nat)) ∧ h' = h := by
 obtain ⟨en, hn⟩ := Sl.len hx
 rw [show (l04 xs k).length = xs.length from N00 _ _ _ _] at en
 subst en
 refine T2 (args := [.slice a xs.length c, .int .i64 k]) (fn := Tryz.f104) rfl ?_
 refine Exists.intro { vars := [1, 5], boxes := [], owns := [] } (Exists.intro (fun vs _ h' => ∃ (j : Nat) (kk : Int), kk = k + (Z5 D5 (xs.take j) : Nat) ∧ j ≤ xs.length ∧ vs = [.int .i64 kk, .int .i64 j] ∧ h' = h) (Exists.intro (fun vs _ => match vs with | [_, .int _ j] => ((xs.length : Int) - j).toNat | _ => 0) ?_))
 refine And.intro ⟨0, k, by simp [Z5], by omega, rfl, rfl⟩ ?_
 rintro _ _ h1 ⟨j, kk, hkk, hj, ⟨⟩, rfl⟩
 refine And.intro (fun hc2 => ?_) (fun hc2 => ?_)
 ·have hlt : j < xs.length := by simpa using hc2
  obtain ⟨x, gx⟩ := u00 hlt
  have hs1 : Z5 D5 (xs.take (j + 1)) = Z5 D5 (xs.take j) + D5 x := C03 gx
  have hs2 := D03 D5 xs (j + 1)
  have hw := Z1 hlt hn
  have hkx : 0 ≤ kk ∧ kk + (D5 x : Nat) ≤ 4611686018427387904 := by
   have : (g03 xs : Int) = (Z5 D5 xs : Nat) := rfl
   omega
  have gm : (l04 xs k)[j]? = some (d01 x kk) := by rw [hkk]; exact q0h gx
  obtain ⟨b1, cs1, e1, i1⟩ := Sl.get hx gm (by decide)
  obtain ⟨x0, x1, x2⟩ := x
  simp only [D5] at hkx
  obtain ⟨x0q, x1q, x2q, rfl, ex, g0, g1, g2⟩ := D1 i1
  simp only [d01, D5, Prod.mk.injEq] at ex
  obtain ⟨rfl, rfl, rfl⟩ := ex
  refine And.intro b1 (Exists.intro _ (And.intro e1 ?_))
  refine And.intro (fun hc => ?_) (fun hc => ?_)
  ·exact ((bne_iff_ne.1 hc) (by first | rfl | omega | (simp; omega))).elim
  clear hc
  have ek1 : IntKind.i64.wrap (kk + 1) = kk + (1) := by rw [w64 (by  omega) (by  omega)] <;> omega
  refine And.intro b1 (Exists.intro _ (And.intro e1 ?_))
  refine And.intro (fun hc => ?_) (fun hc => ?_)
  ·exact ((bne_iff_ne.1 hc) (by rw [ek1]; first | rfl | omega | (simp; omega))).elim
  clear hc
  have ek2 : IntKind.i64.wrap (IntKind.i64.wrap (kk + 1) + 1) = kk + (1 + 1) := by rw [w64 (by rw [ek1];  omega) (by rw [ek1];  omega)] <;> rw [ek1] <;> omega
  refine And.intro b1 (Exists.intro _ (And.intro e1 ?_))
  refine And.intro (fun hc => ?_) (fun hc => ?_)
  ·exact ((bne_iff_ne.1 hc) (by rw [ek2]; first | rfl | omega | (simp; omega))).elim
  clear hc
  have ek3 : IntKind.i64.wrap (IntKind.i64.wrap (IntKind.i64.wrap (kk + 1) + 1) + 1) = kk + (1 + 1 + 1) := by rw [w64 (by rw [ek2];  omega) (by rw [ek2];  omega)] <;> rw [ek2] <;> omega
  refine And.intro rfl (And.intro (by first | exact trivial | exact And.intro rfl trivial | exact And.intro rfl (And.intro rfl trivial) | exact And.intro rfl (And.intro rfl (And.intro rfl trivial)) | exact And.intro rfl (And.intro rfl (And.intro rfl (And.intro rfl trivial)))) (And.intro (by first | exact trivial | exact And.intro rfl trivial | exact And.intro rfl (And.intro rfl trivial) | exact And.intro rfl (And.intro rfl (And.intro rfl trivial)) | exact And.intro rfl (And.intro rfl (And.intro rfl (And.intro rfl trivial)))) (And.intro ?_ ?_)))
  ·refine ⟨j + 1, IntKind.i64.wrap (IntKind.i64.wrap (IntKind.i64.wrap (kk + 1) + 1) + 1), ?_, by omega, by rw [← hw], rfl⟩
   rw [ek3]; rw [hs1]; simp only [D5]; omega
  ·show ((xs.length : Int) - IntKind.i64.wrap ((j : Int) + 1)).toNat < ((xs.length : Int) - (j : Int)).toNat
   omega
 ·have hj' : j = xs.length := by simp at hc2; omega
  subst hj'
  rw [List.take_length] at hkk
  exact And.intro (congrArg (Value.int .i64) hkk) rfl
theorem J09 (h : Hp) (cs : List Value) (x : l0) (k : Int) (hx : Y0.R h cs (D07 x k)) (hk : 0 ≤ k ∧ k + (i9 x : Nat) ≤ 4611686018427387904) :
  Tr Tryz.prog 33 #[.agg cs.toArray, .int .i64 k] h fun v h' => v = .int .i64 (k + (i9 x : Nat)) ∧ h' = h := by
 obtain ⟨x0, x1, x2⟩ := x
 obtain ⟨x0q, x1q, a2q, n2q, c2q, x2q, rfl, ex, g0, g1, g2⟩ := B0 hx
 simp only [D07, i9, Prod.mk.injEq] at ex
 obtain ⟨rfl, rfl, rfl⟩ := ex
 simp only [i9] at hk
 refine T2 (args := [.agg #[.int .i64 x0, .int .i64 x1, .slice a2q n2q c2q], .int .i64 k]) (fn := Tryz.f33) rfl ?_
 refine Tr.val (S0f _ a2q n2q c2q x2 (k) (by have gg := g2; first | exact gg | (rwa [show k + (((0 : Nat) : Int)) = k from by omega] at gg)) ⟨by omega, by omega⟩) ?_
 refine And.intro (fun hc => ?_) (fun hc => ?_)
 ·have : (k + (g03 x2 : Nat) : Int) < 0 := by simpa only [decide_eq_true_eq] using hc
  exact absurd this (by omega)
 clear hc
 exact And.intro (congrArg (Value.int .i64) (by simp only [i9] <;> omega)) rfl
end Go.Proofs.YtfdlgbfeceodeaaGreat
