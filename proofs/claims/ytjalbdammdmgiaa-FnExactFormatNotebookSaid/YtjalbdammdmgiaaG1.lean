/- The data types of the laws, as lists and tuples. -/
import Derived.Test.YtjalbdammdmgiaaH28
import Derived.Test.YtjalbdammdmgiaaChecked
namespace Go.Proofs.Ytjalbdammdmgiaa
open Go.H
set_option linter.unusedVariables false
set_option linter.unusedSimpArgs false
set_option maxRecDepth 10000

/-- what stands for a mark in a text -/
def digs : Nat → Nat → List UInt8 → List UInt8
  | 0, _, acc => acc
  | f + 1, n, acc => if n = 0 then acc else digs f (n / 10) (UInt8.ofNat (48 + n % 10) :: acc)
theorem digs_len : ∀ (f n : Nat) (acc : List UInt8), (digs f n acc).length ≤ f + acc.length
  | 0, n, acc => by simp [digs]
  | f + 1, n, acc => by
    simp only [digs]
    split
    · omega
    · have := digs_len f (n / 10) (UInt8.ofNat (48 + n % 10) :: acc)
      simp only [List.length_cons] at this
      omega
theorem in64 {x : Int} (h1 : -9223372036854775808 ≤ x) (h2 : x ≤ 9223372036854775807) : In64 x := ⟨h1, h2⟩
def mtext (k : Int) : ByteArray := if k ≤ 0 then ⟨#[109, 48]⟩ else ⟨(109 :: digs 20 k.toNat []).toArray⟩
theorem mtext_size (k : Int) : (mtext k).size ≤ 9223372036854775807 := by
  unfold mtext
  split
  · decide
  · have := digs_len 20 k.toNat []
    show (109 :: digs 20 k.toNat []).toArray.size ≤ _
    simp only [List.size_toArray, List.length_cons]
    simp only [List.length_nil] at this
    omega
abbrev LEdge : Type := Int × Int × Int
abbrev wEdge : Wp LEdge := Wp.pair Wp.int (Wp.pair Wp.int Wp.int)
instance dEdge : DecidableEq LEdge := (@instDecidableEqProd _ _ (inferInstance : DecidableEq Int) (@instDecidableEqProd _ _ (inferInstance : DecidableEq Int) (inferInstance : DecidableEq Int)))
def mEdge (x : LEdge) : Nat := 0
def ceEdge (x : LEdge) : Nat := 1 + 1 + 1
def meEdge (x : LEdge) (k : Int) : LEdge := (k, (k + (1 : Nat)), (k + (1 + 1 : Nat)))
def cvEdge (x : LEdge) : Nat := 0
def mvEdge (x : LEdge) (k : Int) : LEdge := (x.1, x.2.1, x.2.2)
theorem openEdge {h : Hp} {cs : List Value} {x : LEdge} (hx : wEdge.R h cs x) : ∃ (x0 : Int) (x1 : Int) (x2 : Int), cs = [.int .i64 x0, .int .i64 x1, .int .i64 x2] ∧ x = (x0, x1, x2) ∧ In64 x0 ∧ In64 x1 ∧ In64 x2 := by
  obtain ⟨x0, x1, x2⟩ := x
  obtain ⟨_, _, rfl, ⟨rfl, h0⟩, ⟨_, _, rfl, ⟨rfl, h1⟩, ⟨rfl, h2⟩⟩⟩ := hx
  exact ⟨x0, x1, x2, rfl, rfl, h0, h1, h2⟩
theorem closeEdge {h : Hp} {x0 : Int} {x1 : Int} {x2 : Int} (h0 : In64 x0) (h1 : In64 x1) (h2 : In64 x2) : wEdge.R h [.int .i64 x0, .int .i64 x1, .int .i64 x2] (x0, x1, x2) :=
  ⟨[.int .i64 x0], [.int .i64 x1, .int .i64 x2], rfl, ⟨rfl, h0⟩, ⟨[.int .i64 x1], [.int .i64 x2], rfl, ⟨rfl, h1⟩, ⟨rfl, h2⟩⟩⟩
theorem openWEdge {h : Hp} {cs : List Value} {x : LEdge} {B : List Nat} (hx : wEdge.W h cs x B) : ∃ (x0 : Int) (x1 : Int) (x2 : Int), cs = [.int .i64 x0, .int .i64 x1, .int .i64 x2] ∧ x = (x0, x1, x2) ∧ B = ([] ++ ([] ++ [])) ∧ In64 x0 ∧ In64 x1 ∧ In64 x2 := by
  obtain ⟨x0, x1, x2⟩ := x
  obtain ⟨_, _, _, _, rfl, rfl, ⟨⟨rfl, h0⟩, rfl⟩, ⟨_, _, _, _, rfl, rfl, ⟨⟨rfl, h1⟩, rfl⟩, ⟨⟨rfl, h2⟩, rfl⟩⟩⟩ := hx
  exact ⟨x0, x1, x2, rfl, rfl, rfl, h0, h1, h2⟩
theorem closeWEdge {h : Hp} {x0 : Int} {x1 : Int} {x2 : Int} (h0 : In64 x0) (h1 : In64 x1) (h2 : In64 x2) : wEdge.W h [.int .i64 x0, .int .i64 x1, .int .i64 x2] (x0, x1, x2) ([] ++ ([] ++ [])) :=
  ⟨[.int .i64 x0], [.int .i64 x1, .int .i64 x2], [], ([] ++ []), rfl, rfl, ⟨⟨rfl, h0⟩, rfl⟩, ⟨[.int .i64 x1], [.int .i64 x2], [], [], rfl, rfl, ⟨⟨rfl, h1⟩, rfl⟩, ⟨⟨rfl, h2⟩, rfl⟩⟩⟩

abbrev LEdgeS : Type := List LEdge
abbrev wEdgeS : Wp LEdgeS := Wp.slice wEdge
instance dEdgeS : DecidableEq LEdgeS := inferInstanceAs (DecidableEq (List LEdge))
def mEdgeS (x : LEdgeS) : Nat := x.length
def cEdgeS (x : LEdgeS) : Nat := sumM ceEdge x
def mkEdgeS (x : LEdgeS) (k : Int) : LEdgeS := mkL meEdge ceEdge x k

abbrev LGraph : Type := Int × Int × LEdgeS
abbrev wGraph : Wp LGraph := Wp.pair Wp.int (Wp.pair Wp.int wEdgeS)
instance dGraph : DecidableEq LGraph := (@instDecidableEqProd _ _ (inferInstance : DecidableEq Int) (@instDecidableEqProd _ _ (inferInstance : DecidableEq Int) dEdgeS))
def mGraph (x : LGraph) : Nat := mEdgeS x.2.2
def ceGraph (x : LGraph) : Nat := 1 + 1 + cEdgeS x.2.2
def meGraph (x : LGraph) (k : Int) : LGraph := (k, (k + (1 : Nat)), mkEdgeS x.2.2 (k + (1 + 1 : Nat)))
def cvGraph (x : LGraph) : Nat := cEdgeS x.2.2
def mvGraph (x : LGraph) (k : Int) : LGraph := (x.1, x.2.1, mkEdgeS x.2.2 k)
theorem openGraph {h : Hp} {cs : List Value} {x : LGraph} (hx : wGraph.R h cs x) : ∃ (x0 : Int) (x1 : Int) (a2 : Option Addr) (n2 c2 : Nat) (x2 : LEdgeS), cs = [.int .i64 x0, .int .i64 x1, .slice a2 n2 c2] ∧ x = (x0, x1, x2) ∧ In64 x0 ∧ In64 x1 ∧ wEdgeS.R h [.slice a2 n2 c2] x2 := by
  obtain ⟨x0, x1, x2⟩ := x
  obtain ⟨_, _, rfl, ⟨rfl, h0⟩, ⟨_, _, rfl, ⟨rfl, h1⟩, h2⟩⟩ := hx
  obtain ⟨a2, n2, c2, rfl⟩ := Wp.slice_cell h2
  exact ⟨x0, x1, a2, n2, c2, x2, rfl, rfl, h0, h1, h2⟩
theorem closeGraph {h : Hp} {x0 : Int} {x1 : Int} {a2 : Option Addr} {n2 c2 : Nat} {x2 : LEdgeS} (h0 : In64 x0) (h1 : In64 x1) (h2 : wEdgeS.R h [.slice a2 n2 c2] x2) : wGraph.R h [.int .i64 x0, .int .i64 x1, .slice a2 n2 c2] (x0, x1, x2) :=
  ⟨[.int .i64 x0], [.int .i64 x1, .slice a2 n2 c2], rfl, ⟨rfl, h0⟩, ⟨[.int .i64 x1], [.slice a2 n2 c2], rfl, ⟨rfl, h1⟩, h2⟩⟩
theorem openWGraph {h : Hp} {cs : List Value} {x : LGraph} {B : List Nat} (hx : wGraph.W h cs x B) : ∃ (x0 : Int) (x1 : Int) (a2 : Option Addr) (n2 c2 : Nat) (x2 : LEdgeS) (B2 : List Nat), cs = [.int .i64 x0, .int .i64 x1, .slice a2 n2 c2] ∧ x = (x0, x1, x2) ∧ B = ([] ++ ([] ++ B2)) ∧ In64 x0 ∧ In64 x1 ∧ wEdgeS.W h [.slice a2 n2 c2] x2 B2 := by
  obtain ⟨x0, x1, x2⟩ := x
  obtain ⟨_, _, _, _, rfl, rfl, ⟨⟨rfl, h0⟩, rfl⟩, ⟨_, _, _, _, rfl, rfl, ⟨⟨rfl, h1⟩, rfl⟩, h2⟩⟩ := hx
  obtain ⟨a2, n2, c2, rfl⟩ := Wp.slice_cell (wEdgeS.toR h2)
  exact ⟨x0, x1, a2, n2, c2, x2, _, rfl, rfl, rfl, h0, h1, h2⟩
theorem closeWGraph {h : Hp} {x0 : Int} {x1 : Int} {a2 : Option Addr} {n2 c2 : Nat} {x2 : LEdgeS} {B2 : List Nat} (h0 : In64 x0) (h1 : In64 x1) (h2 : wEdgeS.W h [.slice a2 n2 c2] x2 B2) : wGraph.W h [.int .i64 x0, .int .i64 x1, .slice a2 n2 c2] (x0, x1, x2) ([] ++ ([] ++ B2)) :=
  ⟨[.int .i64 x0], [.int .i64 x1, .slice a2 n2 c2], [], ([] ++ B2), rfl, rfl, ⟨⟨rfl, h0⟩, rfl⟩, ⟨[.int .i64 x1], [.slice a2 n2 c2], [], B2, rfl, rfl, ⟨⟨rfl, h1⟩, rfl⟩, h2⟩⟩

abbrev LIntS : Type := List Int
abbrev wIntS : Wp LIntS := Wp.slice Wp.int
instance dIntS : DecidableEq LIntS := inferInstanceAs (DecidableEq (List Int))
def mIntS (x : LIntS) : Nat := x.length
def cIntS (x : LIntS) : Nat := sumM (fun _ => 1) x
def mkIntS (x : LIntS) (k : Int) : LIntS := mkL (fun _ k => k) (fun _ => 1) x k

abbrev LIntSS : Type := List LIntS
abbrev wIntSS : Wp LIntSS := Wp.slice wIntS
instance dIntSS : DecidableEq LIntSS := inferInstanceAs (DecidableEq (List LIntS))
def mIntSS (x : LIntSS) : Nat := x.length + sumM mIntS x
def cIntSS (x : LIntSS) : Nat := sumM cIntS x
def mkIntSS (x : LIntSS) (k : Int) : LIntSS := mkL mkIntS cIntS x k

abbrev LWhitehead : Type := Int × LIntS
abbrev wWhitehead : Wp LWhitehead := Wp.pair Wp.int wIntS
instance dWhitehead : DecidableEq LWhitehead := (@instDecidableEqProd _ _ (inferInstance : DecidableEq Int) dIntS)
def mWhitehead (x : LWhitehead) : Nat := mIntS x.2
def ceWhitehead (x : LWhitehead) : Nat := 1 + cIntS x.2
def meWhitehead (x : LWhitehead) (k : Int) : LWhitehead := (k, mkIntS x.2 (k + (1 : Nat)))
def cvWhitehead (x : LWhitehead) : Nat := cIntS x.2
def mvWhitehead (x : LWhitehead) (k : Int) : LWhitehead := (x.1, mkIntS x.2 k)
theorem openWhitehead {h : Hp} {cs : List Value} {x : LWhitehead} (hx : wWhitehead.R h cs x) : ∃ (x0 : Int) (a1 : Option Addr) (n1 c1 : Nat) (x1 : LIntS), cs = [.int .i64 x0, .slice a1 n1 c1] ∧ x = (x0, x1) ∧ In64 x0 ∧ wIntS.R h [.slice a1 n1 c1] x1 := by
  obtain ⟨x0, x1⟩ := x
  obtain ⟨_, _, rfl, ⟨rfl, h0⟩, h1⟩ := hx
  obtain ⟨a1, n1, c1, rfl⟩ := Wp.slice_cell h1
  exact ⟨x0, a1, n1, c1, x1, rfl, rfl, h0, h1⟩
theorem closeWhitehead {h : Hp} {x0 : Int} {a1 : Option Addr} {n1 c1 : Nat} {x1 : LIntS} (h0 : In64 x0) (h1 : wIntS.R h [.slice a1 n1 c1] x1) : wWhitehead.R h [.int .i64 x0, .slice a1 n1 c1] (x0, x1) :=
  ⟨[.int .i64 x0], [.slice a1 n1 c1], rfl, ⟨rfl, h0⟩, h1⟩
theorem openWWhitehead {h : Hp} {cs : List Value} {x : LWhitehead} {B : List Nat} (hx : wWhitehead.W h cs x B) : ∃ (x0 : Int) (a1 : Option Addr) (n1 c1 : Nat) (x1 : LIntS) (B1 : List Nat), cs = [.int .i64 x0, .slice a1 n1 c1] ∧ x = (x0, x1) ∧ B = ([] ++ B1) ∧ In64 x0 ∧ wIntS.W h [.slice a1 n1 c1] x1 B1 := by
  obtain ⟨x0, x1⟩ := x
  obtain ⟨_, _, _, _, rfl, rfl, ⟨⟨rfl, h0⟩, rfl⟩, h1⟩ := hx
  obtain ⟨a1, n1, c1, rfl⟩ := Wp.slice_cell (wIntS.toR h1)
  exact ⟨x0, a1, n1, c1, x1, _, rfl, rfl, rfl, h0, h1⟩
theorem closeWWhitehead {h : Hp} {x0 : Int} {a1 : Option Addr} {n1 c1 : Nat} {x1 : LIntS} {B1 : List Nat} (h0 : In64 x0) (h1 : wIntS.W h [.slice a1 n1 c1] x1 B1) : wWhitehead.W h [.int .i64 x0, .slice a1 n1 c1] (x0, x1) ([] ++ B1) :=
  ⟨[.int .i64 x0], [.slice a1 n1 c1], [], B1, rfl, rfl, ⟨⟨rfl, h0⟩, rfl⟩, h1⟩

abbrev LPresentation : Type := Int × LIntSS
abbrev wPresentation : Wp LPresentation := Wp.pair Wp.int wIntSS
instance dPresentation : DecidableEq LPresentation := (@instDecidableEqProd _ _ (inferInstance : DecidableEq Int) dIntSS)
def mPresentation (x : LPresentation) : Nat := mIntSS x.2
def cePresentation (x : LPresentation) : Nat := 1 + cIntSS x.2
def mePresentation (x : LPresentation) (k : Int) : LPresentation := (k, mkIntSS x.2 (k + (1 : Nat)))
def cvPresentation (x : LPresentation) : Nat := cIntSS x.2
def mvPresentation (x : LPresentation) (k : Int) : LPresentation := (x.1, mkIntSS x.2 k)
theorem openPresentation {h : Hp} {cs : List Value} {x : LPresentation} (hx : wPresentation.R h cs x) : ∃ (x0 : Int) (a1 : Option Addr) (n1 c1 : Nat) (x1 : LIntSS), cs = [.int .i64 x0, .slice a1 n1 c1] ∧ x = (x0, x1) ∧ In64 x0 ∧ wIntSS.R h [.slice a1 n1 c1] x1 := by
  obtain ⟨x0, x1⟩ := x
  obtain ⟨_, _, rfl, ⟨rfl, h0⟩, h1⟩ := hx
  obtain ⟨a1, n1, c1, rfl⟩ := Wp.slice_cell h1
  exact ⟨x0, a1, n1, c1, x1, rfl, rfl, h0, h1⟩
theorem closePresentation {h : Hp} {x0 : Int} {a1 : Option Addr} {n1 c1 : Nat} {x1 : LIntSS} (h0 : In64 x0) (h1 : wIntSS.R h [.slice a1 n1 c1] x1) : wPresentation.R h [.int .i64 x0, .slice a1 n1 c1] (x0, x1) :=
  ⟨[.int .i64 x0], [.slice a1 n1 c1], rfl, ⟨rfl, h0⟩, h1⟩
theorem openWPresentation {h : Hp} {cs : List Value} {x : LPresentation} {B : List Nat} (hx : wPresentation.W h cs x B) : ∃ (x0 : Int) (a1 : Option Addr) (n1 c1 : Nat) (x1 : LIntSS) (B1 : List Nat), cs = [.int .i64 x0, .slice a1 n1 c1] ∧ x = (x0, x1) ∧ B = ([] ++ B1) ∧ In64 x0 ∧ wIntSS.W h [.slice a1 n1 c1] x1 B1 := by
  obtain ⟨x0, x1⟩ := x
  obtain ⟨_, _, _, _, rfl, rfl, ⟨⟨rfl, h0⟩, rfl⟩, h1⟩ := hx
  obtain ⟨a1, n1, c1, rfl⟩ := Wp.slice_cell (wIntSS.toR h1)
  exact ⟨x0, a1, n1, c1, x1, _, rfl, rfl, rfl, h0, h1⟩
theorem closeWPresentation {h : Hp} {x0 : Int} {a1 : Option Addr} {n1 c1 : Nat} {x1 : LIntSS} {B1 : List Nat} (h0 : In64 x0) (h1 : wIntSS.W h [.slice a1 n1 c1] x1 B1) : wPresentation.W h [.int .i64 x0, .slice a1 n1 c1] (x0, x1) ([] ++ B1) :=
  ⟨[.int .i64 x0], [.slice a1 n1 c1], [], B1, rfl, rfl, ⟨⟨rfl, h0⟩, rfl⟩, h1⟩

abbrev LTerm : Type := LIntS × Int × Int
abbrev wTerm : Wp LTerm := Wp.pair wIntS (Wp.pair Wp.int Wp.int)
instance dTerm : DecidableEq LTerm := (@instDecidableEqProd _ _ dIntS (@instDecidableEqProd _ _ (inferInstance : DecidableEq Int) (inferInstance : DecidableEq Int)))
def mTerm (x : LTerm) : Nat := mIntS x.1
def ceTerm (x : LTerm) : Nat := cIntS x.1 + 1 + 1
def meTerm (x : LTerm) (k : Int) : LTerm := (mkIntS x.1 k, (k + (cIntS x.1 : Nat)), (k + (cIntS x.1 + 1 : Nat)))
def cvTerm (x : LTerm) : Nat := cIntS x.1
def mvTerm (x : LTerm) (k : Int) : LTerm := (mkIntS x.1 k, x.2.1, x.2.2)
theorem openTerm {h : Hp} {cs : List Value} {x : LTerm} (hx : wTerm.R h cs x) : ∃ (a0 : Option Addr) (n0 c0 : Nat) (x0 : LIntS) (x1 : Int) (x2 : Int), cs = [.slice a0 n0 c0, .int .i64 x1, .int .i64 x2] ∧ x = (x0, x1, x2) ∧ wIntS.R h [.slice a0 n0 c0] x0 ∧ In64 x1 ∧ In64 x2 := by
  obtain ⟨x0, x1, x2⟩ := x
  obtain ⟨_, _, rfl, h0, ⟨_, _, rfl, ⟨rfl, h1⟩, ⟨rfl, h2⟩⟩⟩ := hx
  obtain ⟨a0, n0, c0, rfl⟩ := Wp.slice_cell h0
  exact ⟨a0, n0, c0, x0, x1, x2, rfl, rfl, h0, h1, h2⟩
theorem closeTerm {h : Hp} {a0 : Option Addr} {n0 c0 : Nat} {x0 : LIntS} {x1 : Int} {x2 : Int} (h0 : wIntS.R h [.slice a0 n0 c0] x0) (h1 : In64 x1) (h2 : In64 x2) : wTerm.R h [.slice a0 n0 c0, .int .i64 x1, .int .i64 x2] (x0, x1, x2) :=
  ⟨[.slice a0 n0 c0], [.int .i64 x1, .int .i64 x2], rfl, h0, ⟨[.int .i64 x1], [.int .i64 x2], rfl, ⟨rfl, h1⟩, ⟨rfl, h2⟩⟩⟩
theorem openWTerm {h : Hp} {cs : List Value} {x : LTerm} {B : List Nat} (hx : wTerm.W h cs x B) : ∃ (a0 : Option Addr) (n0 c0 : Nat) (x0 : LIntS) (x1 : Int) (x2 : Int) (B0 : List Nat), cs = [.slice a0 n0 c0, .int .i64 x1, .int .i64 x2] ∧ x = (x0, x1, x2) ∧ B = (B0 ++ ([] ++ [])) ∧ wIntS.W h [.slice a0 n0 c0] x0 B0 ∧ In64 x1 ∧ In64 x2 := by
  obtain ⟨x0, x1, x2⟩ := x
  obtain ⟨_, _, _, _, rfl, rfl, h0, ⟨_, _, _, _, rfl, rfl, ⟨⟨rfl, h1⟩, rfl⟩, ⟨⟨rfl, h2⟩, rfl⟩⟩⟩ := hx
  obtain ⟨a0, n0, c0, rfl⟩ := Wp.slice_cell (wIntS.toR h0)
  exact ⟨a0, n0, c0, x0, x1, x2, _, rfl, rfl, rfl, h0, h1, h2⟩
theorem closeWTerm {h : Hp} {a0 : Option Addr} {n0 c0 : Nat} {x0 : LIntS} {x1 : Int} {x2 : Int} {B0 : List Nat} (h0 : wIntS.W h [.slice a0 n0 c0] x0 B0) (h1 : In64 x1) (h2 : In64 x2) : wTerm.W h [.slice a0 n0 c0, .int .i64 x1, .int .i64 x2] (x0, x1, x2) (B0 ++ ([] ++ [])) :=
  ⟨[.slice a0 n0 c0], [.int .i64 x1, .int .i64 x2], B0, ([] ++ []), rfl, rfl, h0, ⟨[.int .i64 x1], [.int .i64 x2], [], [], rfl, rfl, ⟨⟨rfl, h1⟩, rfl⟩, ⟨⟨rfl, h2⟩, rfl⟩⟩⟩

abbrev LClaim : Type := Int × Int × LIntSS × LIntS × LIntS × LGraph × Int
abbrev wClaim : Wp LClaim := Wp.pair Wp.int (Wp.pair Wp.int (Wp.pair wIntSS (Wp.pair wIntS (Wp.pair wIntS (Wp.pair wGraph Wp.int)))))
instance dClaim : DecidableEq LClaim := (@instDecidableEqProd _ _ (inferInstance : DecidableEq Int) (@instDecidableEqProd _ _ (inferInstance : DecidableEq Int) (@instDecidableEqProd _ _ dIntSS (@instDecidableEqProd _ _ dIntS (@instDecidableEqProd _ _ dIntS (@instDecidableEqProd _ _ dGraph (inferInstance : DecidableEq Int)))))))
def mClaim (x : LClaim) : Nat := mIntSS x.2.2.1 + mIntS x.2.2.2.1 + mIntS x.2.2.2.2.1 + mGraph x.2.2.2.2.2.1
def ceClaim (x : LClaim) : Nat := 1 + 1 + cIntSS x.2.2.1 + cIntS x.2.2.2.1 + cIntS x.2.2.2.2.1 + ceGraph x.2.2.2.2.2.1 + 1
def meClaim (x : LClaim) (k : Int) : LClaim := (k, (k + (1 : Nat)), mkIntSS x.2.2.1 (k + (1 + 1 : Nat)), mkIntS x.2.2.2.1 (k + (1 + 1 + cIntSS x.2.2.1 : Nat)), mkIntS x.2.2.2.2.1 (k + (1 + 1 + cIntSS x.2.2.1 + cIntS x.2.2.2.1 : Nat)), meGraph x.2.2.2.2.2.1 (k + (1 + 1 + cIntSS x.2.2.1 + cIntS x.2.2.2.1 + cIntS x.2.2.2.2.1 : Nat)), (k + (1 + 1 + cIntSS x.2.2.1 + cIntS x.2.2.2.1 + cIntS x.2.2.2.2.1 + ceGraph x.2.2.2.2.2.1 : Nat)))
def cvClaim (x : LClaim) : Nat := cIntSS x.2.2.1 + cIntS x.2.2.2.1 + cIntS x.2.2.2.2.1 + cvGraph x.2.2.2.2.2.1
def mvClaim (x : LClaim) (k : Int) : LClaim := (x.1, x.2.1, mkIntSS x.2.2.1 k, mkIntS x.2.2.2.1 (k + (cIntSS x.2.2.1 : Nat)), mkIntS x.2.2.2.2.1 (k + (cIntSS x.2.2.1 + cIntS x.2.2.2.1 : Nat)), mvGraph x.2.2.2.2.2.1 (k + (cIntSS x.2.2.1 + cIntS x.2.2.2.1 + cIntS x.2.2.2.2.1 : Nat)), x.2.2.2.2.2.2)
theorem openClaim {h : Hp} {cs : List Value} {x : LClaim} (hx : wClaim.R h cs x) : ∃ (x0 : Int) (x1 : Int) (a2 : Option Addr) (n2 c2 : Nat) (x2 : LIntSS) (a3 : Option Addr) (n3 c3 : Nat) (x3 : LIntS) (a4 : Option Addr) (n4 c4 : Nat) (x4 : LIntS) (x5_0 : Int) (x5_1 : Int) (a5_2 : Option Addr) (n5_2 c5_2 : Nat) (x5_2 : LEdgeS) (x6 : Int), cs = [.int .i64 x0, .int .i64 x1, .slice a2 n2 c2, .slice a3 n3 c3, .slice a4 n4 c4, .int .i64 x5_0, .int .i64 x5_1, .slice a5_2 n5_2 c5_2, .int .i64 x6] ∧ x = (x0, x1, x2, x3, x4, (x5_0, x5_1, x5_2), x6) ∧ In64 x0 ∧ In64 x1 ∧ wIntSS.R h [.slice a2 n2 c2] x2 ∧ wIntS.R h [.slice a3 n3 c3] x3 ∧ wIntS.R h [.slice a4 n4 c4] x4 ∧ In64 x5_0 ∧ In64 x5_1 ∧ wEdgeS.R h [.slice a5_2 n5_2 c5_2] x5_2 ∧ In64 x6 := by
  obtain ⟨x0, x1, x2, x3, x4, ⟨x5_0, x5_1, x5_2⟩, x6⟩ := x
  obtain ⟨_, _, rfl, ⟨rfl, h0⟩, ⟨_, _, rfl, ⟨rfl, h1⟩, ⟨_, _, rfl, h2, ⟨_, _, rfl, h3, ⟨_, _, rfl, h4, ⟨_, _, rfl, ⟨_, _, rfl, ⟨rfl, h5_0⟩, ⟨_, _, rfl, ⟨rfl, h5_1⟩, h5_2⟩⟩, ⟨rfl, h6⟩⟩⟩⟩⟩⟩⟩ := hx
  obtain ⟨a2, n2, c2, rfl⟩ := Wp.slice_cell h2
  obtain ⟨a3, n3, c3, rfl⟩ := Wp.slice_cell h3
  obtain ⟨a4, n4, c4, rfl⟩ := Wp.slice_cell h4
  obtain ⟨a5_2, n5_2, c5_2, rfl⟩ := Wp.slice_cell h5_2
  exact ⟨x0, x1, a2, n2, c2, x2, a3, n3, c3, x3, a4, n4, c4, x4, x5_0, x5_1, a5_2, n5_2, c5_2, x5_2, x6, rfl, rfl, h0, h1, h2, h3, h4, h5_0, h5_1, h5_2, h6⟩
theorem closeClaim {h : Hp} {x0 : Int} {x1 : Int} {a2 : Option Addr} {n2 c2 : Nat} {x2 : LIntSS} {a3 : Option Addr} {n3 c3 : Nat} {x3 : LIntS} {a4 : Option Addr} {n4 c4 : Nat} {x4 : LIntS} {x5_0 : Int} {x5_1 : Int} {a5_2 : Option Addr} {n5_2 c5_2 : Nat} {x5_2 : LEdgeS} {x6 : Int} (h0 : In64 x0) (h1 : In64 x1) (h2 : wIntSS.R h [.slice a2 n2 c2] x2) (h3 : wIntS.R h [.slice a3 n3 c3] x3) (h4 : wIntS.R h [.slice a4 n4 c4] x4) (h5_0 : In64 x5_0) (h5_1 : In64 x5_1) (h5_2 : wEdgeS.R h [.slice a5_2 n5_2 c5_2] x5_2) (h6 : In64 x6) : wClaim.R h [.int .i64 x0, .int .i64 x1, .slice a2 n2 c2, .slice a3 n3 c3, .slice a4 n4 c4, .int .i64 x5_0, .int .i64 x5_1, .slice a5_2 n5_2 c5_2, .int .i64 x6] (x0, x1, x2, x3, x4, (x5_0, x5_1, x5_2), x6) :=
  ⟨[.int .i64 x0], [.int .i64 x1, .slice a2 n2 c2, .slice a3 n3 c3, .slice a4 n4 c4, .int .i64 x5_0, .int .i64 x5_1, .slice a5_2 n5_2 c5_2, .int .i64 x6], rfl, ⟨rfl, h0⟩, ⟨[.int .i64 x1], [.slice a2 n2 c2, .slice a3 n3 c3, .slice a4 n4 c4, .int .i64 x5_0, .int .i64 x5_1, .slice a5_2 n5_2 c5_2, .int .i64 x6], rfl, ⟨rfl, h1⟩, ⟨[.slice a2 n2 c2], [.slice a3 n3 c3, .slice a4 n4 c4, .int .i64 x5_0, .int .i64 x5_1, .slice a5_2 n5_2 c5_2, .int .i64 x6], rfl, h2, ⟨[.slice a3 n3 c3], [.slice a4 n4 c4, .int .i64 x5_0, .int .i64 x5_1, .slice a5_2 n5_2 c5_2, .int .i64 x6], rfl, h3, ⟨[.slice a4 n4 c4], [.int .i64 x5_0, .int .i64 x5_1, .slice a5_2 n5_2 c5_2, .int .i64 x6], rfl, h4, ⟨[.int .i64 x5_0, .int .i64 x5_1, .slice a5_2 n5_2 c5_2], [.int .i64 x6], rfl, ⟨[.int .i64 x5_0], [.int .i64 x5_1, .slice a5_2 n5_2 c5_2], rfl, ⟨rfl, h5_0⟩, ⟨[.int .i64 x5_1], [.slice a5_2 n5_2 c5_2], rfl, ⟨rfl, h5_1⟩, h5_2⟩⟩, ⟨rfl, h6⟩⟩⟩⟩⟩⟩⟩
theorem openWClaim {h : Hp} {cs : List Value} {x : LClaim} {B : List Nat} (hx : wClaim.W h cs x B) : ∃ (x0 : Int) (x1 : Int) (a2 : Option Addr) (n2 c2 : Nat) (x2 : LIntSS) (a3 : Option Addr) (n3 c3 : Nat) (x3 : LIntS) (a4 : Option Addr) (n4 c4 : Nat) (x4 : LIntS) (x5_0 : Int) (x5_1 : Int) (a5_2 : Option Addr) (n5_2 c5_2 : Nat) (x5_2 : LEdgeS) (x6 : Int) (B2 B3 B4 B5_2 : List Nat), cs = [.int .i64 x0, .int .i64 x1, .slice a2 n2 c2, .slice a3 n3 c3, .slice a4 n4 c4, .int .i64 x5_0, .int .i64 x5_1, .slice a5_2 n5_2 c5_2, .int .i64 x6] ∧ x = (x0, x1, x2, x3, x4, (x5_0, x5_1, x5_2), x6) ∧ B = ([] ++ ([] ++ (B2 ++ (B3 ++ (B4 ++ (([] ++ ([] ++ B5_2)) ++ [])))))) ∧ In64 x0 ∧ In64 x1 ∧ wIntSS.W h [.slice a2 n2 c2] x2 B2 ∧ wIntS.W h [.slice a3 n3 c3] x3 B3 ∧ wIntS.W h [.slice a4 n4 c4] x4 B4 ∧ In64 x5_0 ∧ In64 x5_1 ∧ wEdgeS.W h [.slice a5_2 n5_2 c5_2] x5_2 B5_2 ∧ In64 x6 := by
  obtain ⟨x0, x1, x2, x3, x4, ⟨x5_0, x5_1, x5_2⟩, x6⟩ := x
  obtain ⟨_, _, _, _, rfl, rfl, ⟨⟨rfl, h0⟩, rfl⟩, ⟨_, _, _, _, rfl, rfl, ⟨⟨rfl, h1⟩, rfl⟩, ⟨_, _, _, _, rfl, rfl, h2, ⟨_, _, _, _, rfl, rfl, h3, ⟨_, _, _, _, rfl, rfl, h4, ⟨_, _, _, _, rfl, rfl, ⟨_, _, _, _, rfl, rfl, ⟨⟨rfl, h5_0⟩, rfl⟩, ⟨_, _, _, _, rfl, rfl, ⟨⟨rfl, h5_1⟩, rfl⟩, h5_2⟩⟩, ⟨⟨rfl, h6⟩, rfl⟩⟩⟩⟩⟩⟩⟩ := hx
  obtain ⟨a2, n2, c2, rfl⟩ := Wp.slice_cell (wIntSS.toR h2)
  obtain ⟨a3, n3, c3, rfl⟩ := Wp.slice_cell (wIntS.toR h3)
  obtain ⟨a4, n4, c4, rfl⟩ := Wp.slice_cell (wIntS.toR h4)
  obtain ⟨a5_2, n5_2, c5_2, rfl⟩ := Wp.slice_cell (wEdgeS.toR h5_2)
  exact ⟨x0, x1, a2, n2, c2, x2, a3, n3, c3, x3, a4, n4, c4, x4, x5_0, x5_1, a5_2, n5_2, c5_2, x5_2, x6, _, _, _, _, rfl, rfl, rfl, h0, h1, h2, h3, h4, h5_0, h5_1, h5_2, h6⟩
theorem closeWClaim {h : Hp} {x0 : Int} {x1 : Int} {a2 : Option Addr} {n2 c2 : Nat} {x2 : LIntSS} {a3 : Option Addr} {n3 c3 : Nat} {x3 : LIntS} {a4 : Option Addr} {n4 c4 : Nat} {x4 : LIntS} {x5_0 : Int} {x5_1 : Int} {a5_2 : Option Addr} {n5_2 c5_2 : Nat} {x5_2 : LEdgeS} {x6 : Int} {B2 B3 B4 B5_2 : List Nat} (h0 : In64 x0) (h1 : In64 x1) (h2 : wIntSS.W h [.slice a2 n2 c2] x2 B2) (h3 : wIntS.W h [.slice a3 n3 c3] x3 B3) (h4 : wIntS.W h [.slice a4 n4 c4] x4 B4) (h5_0 : In64 x5_0) (h5_1 : In64 x5_1) (h5_2 : wEdgeS.W h [.slice a5_2 n5_2 c5_2] x5_2 B5_2) (h6 : In64 x6) : wClaim.W h [.int .i64 x0, .int .i64 x1, .slice a2 n2 c2, .slice a3 n3 c3, .slice a4 n4 c4, .int .i64 x5_0, .int .i64 x5_1, .slice a5_2 n5_2 c5_2, .int .i64 x6] (x0, x1, x2, x3, x4, (x5_0, x5_1, x5_2), x6) ([] ++ ([] ++ (B2 ++ (B3 ++ (B4 ++ (([] ++ ([] ++ B5_2)) ++ [])))))) :=
  ⟨[.int .i64 x0], [.int .i64 x1, .slice a2 n2 c2, .slice a3 n3 c3, .slice a4 n4 c4, .int .i64 x5_0, .int .i64 x5_1, .slice a5_2 n5_2 c5_2, .int .i64 x6], [], ([] ++ (B2 ++ (B3 ++ (B4 ++ (([] ++ ([] ++ B5_2)) ++ []))))), rfl, rfl, ⟨⟨rfl, h0⟩, rfl⟩, ⟨[.int .i64 x1], [.slice a2 n2 c2, .slice a3 n3 c3, .slice a4 n4 c4, .int .i64 x5_0, .int .i64 x5_1, .slice a5_2 n5_2 c5_2, .int .i64 x6], [], (B2 ++ (B3 ++ (B4 ++ (([] ++ ([] ++ B5_2)) ++ [])))), rfl, rfl, ⟨⟨rfl, h1⟩, rfl⟩, ⟨[.slice a2 n2 c2], [.slice a3 n3 c3, .slice a4 n4 c4, .int .i64 x5_0, .int .i64 x5_1, .slice a5_2 n5_2 c5_2, .int .i64 x6], B2, (B3 ++ (B4 ++ (([] ++ ([] ++ B5_2)) ++ []))), rfl, rfl, h2, ⟨[.slice a3 n3 c3], [.slice a4 n4 c4, .int .i64 x5_0, .int .i64 x5_1, .slice a5_2 n5_2 c5_2, .int .i64 x6], B3, (B4 ++ (([] ++ ([] ++ B5_2)) ++ [])), rfl, rfl, h3, ⟨[.slice a4 n4 c4], [.int .i64 x5_0, .int .i64 x5_1, .slice a5_2 n5_2 c5_2, .int .i64 x6], B4, (([] ++ ([] ++ B5_2)) ++ []), rfl, rfl, h4, ⟨[.int .i64 x5_0, .int .i64 x5_1, .slice a5_2 n5_2 c5_2], [.int .i64 x6], ([] ++ ([] ++ B5_2)), [], rfl, rfl, ⟨[.int .i64 x5_0], [.int .i64 x5_1, .slice a5_2 n5_2 c5_2], [], ([] ++ B5_2), rfl, rfl, ⟨⟨rfl, h5_0⟩, rfl⟩, ⟨[.int .i64 x5_1], [.slice a5_2 n5_2 c5_2], [], B5_2, rfl, rfl, ⟨⟨rfl, h5_1⟩, rfl⟩, h5_2⟩⟩, ⟨⟨rfl, h6⟩, rfl⟩⟩⟩⟩⟩⟩⟩

abbrev LClaimS : Type := List LClaim
abbrev wClaimS : Wp LClaimS := Wp.slice wClaim
instance dClaimS : DecidableEq LClaimS := inferInstanceAs (DecidableEq (List LClaim))
def mClaimS (x : LClaimS) : Nat := x.length + sumM mClaim x
def cClaimS (x : LClaimS) : Nat := sumM ceClaim x
def mkClaimS (x : LClaimS) (k : Int) : LClaimS := mkL meClaim ceClaim x k

abbrev LNotebook : Type := Int × LClaimS
abbrev wNotebook : Wp LNotebook := Wp.pair Wp.int wClaimS
instance dNotebook : DecidableEq LNotebook := (@instDecidableEqProd _ _ (inferInstance : DecidableEq Int) dClaimS)
def mNotebook (x : LNotebook) : Nat := mClaimS x.2
def ceNotebook (x : LNotebook) : Nat := 1 + cClaimS x.2
def meNotebook (x : LNotebook) (k : Int) : LNotebook := (k, mkClaimS x.2 (k + (1 : Nat)))
def cvNotebook (x : LNotebook) : Nat := cClaimS x.2
def mvNotebook (x : LNotebook) (k : Int) : LNotebook := (x.1, mkClaimS x.2 k)
theorem openNotebook {h : Hp} {cs : List Value} {x : LNotebook} (hx : wNotebook.R h cs x) : ∃ (x0 : Int) (a1 : Option Addr) (n1 c1 : Nat) (x1 : LClaimS), cs = [.int .i64 x0, .slice a1 n1 c1] ∧ x = (x0, x1) ∧ In64 x0 ∧ wClaimS.R h [.slice a1 n1 c1] x1 := by
  obtain ⟨x0, x1⟩ := x
  obtain ⟨_, _, rfl, ⟨rfl, h0⟩, h1⟩ := hx
  obtain ⟨a1, n1, c1, rfl⟩ := Wp.slice_cell h1
  exact ⟨x0, a1, n1, c1, x1, rfl, rfl, h0, h1⟩
theorem closeNotebook {h : Hp} {x0 : Int} {a1 : Option Addr} {n1 c1 : Nat} {x1 : LClaimS} (h0 : In64 x0) (h1 : wClaimS.R h [.slice a1 n1 c1] x1) : wNotebook.R h [.int .i64 x0, .slice a1 n1 c1] (x0, x1) :=
  ⟨[.int .i64 x0], [.slice a1 n1 c1], rfl, ⟨rfl, h0⟩, h1⟩
theorem openWNotebook {h : Hp} {cs : List Value} {x : LNotebook} {B : List Nat} (hx : wNotebook.W h cs x B) : ∃ (x0 : Int) (a1 : Option Addr) (n1 c1 : Nat) (x1 : LClaimS) (B1 : List Nat), cs = [.int .i64 x0, .slice a1 n1 c1] ∧ x = (x0, x1) ∧ B = ([] ++ B1) ∧ In64 x0 ∧ wClaimS.W h [.slice a1 n1 c1] x1 B1 := by
  obtain ⟨x0, x1⟩ := x
  obtain ⟨_, _, _, _, rfl, rfl, ⟨⟨rfl, h0⟩, rfl⟩, h1⟩ := hx
  obtain ⟨a1, n1, c1, rfl⟩ := Wp.slice_cell (wClaimS.toR h1)
  exact ⟨x0, a1, n1, c1, x1, _, rfl, rfl, rfl, h0, h1⟩
theorem closeWNotebook {h : Hp} {x0 : Int} {a1 : Option Addr} {n1 c1 : Nat} {x1 : LClaimS} {B1 : List Nat} (h0 : In64 x0) (h1 : wClaimS.W h [.slice a1 n1 c1] x1 B1) : wNotebook.W h [.int .i64 x0, .slice a1 n1 c1] (x0, x1) ([] ++ B1) :=
  ⟨[.int .i64 x0], [.slice a1 n1 c1], [], B1, rfl, rfl, ⟨⟨rfl, h0⟩, rfl⟩, h1⟩

abbrev LWhiteheadS : Type := List LWhitehead
abbrev wWhiteheadS : Wp LWhiteheadS := Wp.slice wWhitehead
instance dWhiteheadS : DecidableEq LWhiteheadS := inferInstanceAs (DecidableEq (List LWhitehead))
def mWhiteheadS (x : LWhiteheadS) : Nat := x.length + sumM mWhitehead x
def cWhiteheadS (x : LWhiteheadS) : Nat := sumM ceWhitehead x
def mkWhiteheadS (x : LWhiteheadS) (k : Int) : LWhiteheadS := mkL meWhitehead ceWhitehead x k

abbrev LTermS : Type := List LTerm
abbrev wTermS : Wp LTermS := Wp.slice wTerm
instance dTermS : DecidableEq LTermS := inferInstanceAs (DecidableEq (List LTerm))
def mTermS (x : LTermS) : Nat := x.length + sumM mTerm x
def cTermS (x : LTermS) : Nat := sumM ceTerm x
def mkTermS (x : LTermS) (k : Int) : LTermS := mkL meTerm ceTerm x k

theorem cebEdge (x : LEdge) : ceEdge x ≤ 3 := by
  simp only [ceEdge]
  omega
theorem cbEdgeS (x : LEdgeS) : cEdgeS x ≤ 16 * mEdgeS x := sumM_le0 (c := ceEdge) (fun x => by have := cebEdge x; omega) x
theorem cebGraph (x : LGraph) : ceGraph x ≤ 2 + 16 * mGraph x := by
  have := cbEdgeS x.2.2
  simp only [ceGraph, mGraph]
  omega
theorem cbGraph (x : LGraph) : cvGraph x ≤ 16 * mGraph x := by
  have := cbEdgeS x.2.2
  simp only [cvGraph, mGraph]
  omega
theorem cbIntS (x : LIntS) : cIntS x ≤ 16 * mIntS x := sumM_le0 (c := (fun _ => 1)) (fun x => by omega) x
theorem cbIntSS (x : LIntSS) : cIntSS x ≤ 16 * mIntSS x := sumM_le (c := cIntS) (m := mIntS) (fun x => by have := cbIntS x; omega) x
theorem cebWhitehead (x : LWhitehead) : ceWhitehead x ≤ 1 + 16 * mWhitehead x := by
  have := cbIntS x.2
  simp only [ceWhitehead, mWhitehead]
  omega
theorem cbWhitehead (x : LWhitehead) : cvWhitehead x ≤ 16 * mWhitehead x := by
  have := cbIntS x.2
  simp only [cvWhitehead, mWhitehead]
  omega
theorem cebPresentation (x : LPresentation) : cePresentation x ≤ 1 + 16 * mPresentation x := by
  have := cbIntSS x.2
  simp only [cePresentation, mPresentation]
  omega
theorem cbPresentation (x : LPresentation) : cvPresentation x ≤ 16 * mPresentation x := by
  have := cbIntSS x.2
  simp only [cvPresentation, mPresentation]
  omega
theorem cebTerm (x : LTerm) : ceTerm x ≤ 2 + 16 * mTerm x := by
  have := cbIntS x.1
  simp only [ceTerm, mTerm]
  omega
theorem cbTerm (x : LTerm) : cvTerm x ≤ 16 * mTerm x := by
  have := cbIntS x.1
  simp only [cvTerm, mTerm]
  omega
theorem cebClaim (x : LClaim) : ceClaim x ≤ 5 + 16 * mClaim x := by
  have := cbIntSS x.2.2.1
  have := cbIntS x.2.2.2.1
  have := cbIntS x.2.2.2.2.1
  have := cebGraph x.2.2.2.2.2.1
  simp only [ceClaim, mClaim]
  omega
theorem cbClaim (x : LClaim) : cvClaim x ≤ 16 * mClaim x := by
  have := cbIntSS x.2.2.1
  have := cbIntS x.2.2.2.1
  have := cbIntS x.2.2.2.2.1
  have := cbGraph x.2.2.2.2.2.1
  simp only [cvClaim, mClaim]
  omega
theorem cbClaimS (x : LClaimS) : cClaimS x ≤ 16 * mClaimS x := sumM_le (c := ceClaim) (m := mClaim) (fun x => by have := cebClaim x; omega) x
theorem cebNotebook (x : LNotebook) : ceNotebook x ≤ 1 + 16 * mNotebook x := by
  have := cbClaimS x.2
  simp only [ceNotebook, mNotebook]
  omega
theorem cbNotebook (x : LNotebook) : cvNotebook x ≤ 16 * mNotebook x := by
  have := cbClaimS x.2
  simp only [cvNotebook, mNotebook]
  omega
theorem cbWhiteheadS (x : LWhiteheadS) : cWhiteheadS x ≤ 16 * mWhiteheadS x := sumM_le (c := ceWhitehead) (m := mWhitehead) (fun x => by have := cebWhitehead x; omega) x
theorem cbTermS (x : LTermS) : cTermS x ≤ 16 * mTermS x := sumM_le (c := ceTerm) (m := mTerm) (fun x => by have := cebTerm x; omega) x
end Go.Proofs.Ytjalbdammdmgiaa
