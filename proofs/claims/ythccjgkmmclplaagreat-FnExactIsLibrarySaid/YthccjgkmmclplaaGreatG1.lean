/- The data types of the laws, as lists and tuples. -/
import Derived.Test.YthccjgkmmclplaaGreatHE
import Derived.Test.YthccjgkmmclplaaGreatChecked
namespace Go.Proofs.YthccjgkmmclplaaGreat
open Go.H
set_option linter.unusedVariables false
set_option linter.unusedSimpArgs false
set_option maxRecDepth 10000

/-- what stands for a mark in a text -/
def digs : Nat → Nat → List UInt8 → List UInt8
  | 0, _, acc => acc
  | f + 1, n, acc => if n = 0 then acc else digs f (n / 10) (UInt8.ofNat (48 + n % 10) :: acc)
theorem digs_len : ∀ (f n : Nat) (acc : List UInt8), (digs f n acc).length ≤ f + acc.length
  | 0, n, acc => by simp [digs]
  | f + 1, n, acc => by
    simp only [digs]
    split
    · omega
    · have := digs_len f (n / 10) (UInt8.ofNat (48 + n % 10) :: acc)
      simp only [List.length_cons] at this
      omega
theorem in64 {x : Int} (h1 : -9223372036854775808 ≤ x) (h2 : x ≤ 9223372036854775807) : In64 x := ⟨h1, h2⟩
def mtext (k : Int) : ByteArray := if k ≤ 0 then ⟨#[109, 48]⟩ else ⟨(109 :: digs 20 k.toNat []).toArray⟩
theorem mtext_size (k : Int) : (mtext k).size ≤ 9223372036854775807 := by
  unfold mtext
  split
  · decide
  · have := digs_len 20 k.toNat []
    show (109 :: digs 20 k.toNat []).toArray.size ≤ _
    simp only [List.size_toArray, List.length_cons]
    simp only [List.length_nil] at this
    omega
abbrev LEdge : Type := Int × Int × Int
abbrev wEdge : Wp LEdge := Wp.pair Wp.int (Wp.pair Wp.int Wp.int)
instance dEdge : DecidableEq LEdge := (@instDecidableEqProd _ _ (inferInstance : DecidableEq Int) (@instDecidableEqProd _ _ (inferInstance : DecidableEq Int) (inferInstance : DecidableEq Int)))
def mEdge (x : LEdge) : Nat := 0
def ceEdge (x : LEdge) : Nat := 1 + 1 + 1
def meEdge (x : LEdge) (k : Int) : LEdge := (k, (k + (1 : Nat)), (k + (1 + 1 : Nat)))
def cvEdge (x : LEdge) : Nat := 0
def mvEdge (x : LEdge) (k : Int) : LEdge := (x.1, x.2.1, x.2.2)
theorem openEdge {h : Hp} {cs : List Value} {x : LEdge} (hx : wEdge.R h cs x) : ∃ (x0 : Int) (x1 : Int) (x2 : Int), cs = [.int .i64 x0, .int .i64 x1, .int .i64 x2] ∧ x = (x0, x1, x2) ∧ In64 x0 ∧ In64 x1 ∧ In64 x2 := by
  obtain ⟨x0, x1, x2⟩ := x
  obtain ⟨_, _, rfl, ⟨rfl, h0⟩, ⟨_, _, rfl, ⟨rfl, h1⟩, ⟨rfl, h2⟩⟩⟩ := hx
  exact ⟨x0, x1, x2, rfl, rfl, h0, h1, h2⟩
theorem closeEdge {h : Hp} {x0 : Int} {x1 : Int} {x2 : Int} (h0 : In64 x0) (h1 : In64 x1) (h2 : In64 x2) : wEdge.R h [.int .i64 x0, .int .i64 x1, .int .i64 x2] (x0, x1, x2) :=
  ⟨[.int .i64 x0], [.int .i64 x1, .int .i64 x2], rfl, ⟨rfl, h0⟩, ⟨[.int .i64 x1], [.int .i64 x2], rfl, ⟨rfl, h1⟩, ⟨rfl, h2⟩⟩⟩
theorem openWEdge {h : Hp} {cs : List Value} {x : LEdge} {B : List Nat} (hx : wEdge.W h cs x B) : ∃ (x0 : Int) (x1 : Int) (x2 : Int), cs = [.int .i64 x0, .int .i64 x1, .int .i64 x2] ∧ x = (x0, x1, x2) ∧ B = ([] ++ ([] ++ [])) ∧ In64 x0 ∧ In64 x1 ∧ In64 x2 := by
  obtain ⟨x0, x1, x2⟩ := x
  obtain ⟨_, _, _, _, rfl, rfl, ⟨⟨rfl, h0⟩, rfl⟩, ⟨_, _, _, _, rfl, rfl, ⟨⟨rfl, h1⟩, rfl⟩, ⟨⟨rfl, h2⟩, rfl⟩⟩⟩ := hx
  exact ⟨x0, x1, x2, rfl, rfl, rfl, h0, h1, h2⟩
theorem closeWEdge {h : Hp} {x0 : Int} {x1 : Int} {x2 : Int} (h0 : In64 x0) (h1 : In64 x1) (h2 : In64 x2) : wEdge.W h [.int .i64 x0, .int .i64 x1, .int .i64 x2] (x0, x1, x2) ([] ++ ([] ++ [])) :=
  ⟨[.int .i64 x0], [.int .i64 x1, .int .i64 x2], [], ([] ++ []), rfl, rfl, ⟨⟨rfl, h0⟩, rfl⟩, ⟨[.int .i64 x1], [.int .i64 x2], [], [], rfl, rfl, ⟨⟨rfl, h1⟩, rfl⟩, ⟨⟨rfl, h2⟩, rfl⟩⟩⟩

abbrev LEdgeS : Type := List LEdge
abbrev wEdgeS : Wp LEdgeS := Wp.slice wEdge
instance dEdgeS : DecidableEq LEdgeS := inferInstanceAs (DecidableEq (List LEdge))
def mEdgeS (x : LEdgeS) : Nat := x.length
def cEdgeS (x : LEdgeS) : Nat := sumM ceEdge x
def mkEdgeS (x : LEdgeS) (k : Int) : LEdgeS := mkL meEdge ceEdge x k

abbrev LGraph : Type := Int × Int × LEdgeS
abbrev wGraph : Wp LGraph := Wp.pair Wp.int (Wp.pair Wp.int wEdgeS)
instance dGraph : DecidableEq LGraph := (@instDecidableEqProd _ _ (inferInstance : DecidableEq Int) (@instDecidableEqProd _ _ (inferInstance : DecidableEq Int) dEdgeS))
def mGraph (x : LGraph) : Nat := mEdgeS x.2.2
def ceGraph (x : LGraph) : Nat := 1 + 1 + cEdgeS x.2.2
def meGraph (x : LGraph) (k : Int) : LGraph := (k, (k + (1 : Nat)), mkEdgeS x.2.2 (k + (1 + 1 : Nat)))
def cvGraph (x : LGraph) : Nat := cEdgeS x.2.2
def mvGraph (x : LGraph) (k : Int) : LGraph := (x.1, x.2.1, mkEdgeS x.2.2 k)
theorem openGraph {h : Hp} {cs : List Value} {x : LGraph} (hx : wGraph.R h cs x) : ∃ (x0 : Int) (x1 : Int) (a2 : Option Addr) (n2 c2 : Nat) (x2 : LEdgeS), cs = [.int .i64 x0, .int .i64 x1, .slice a2 n2 c2] ∧ x = (x0, x1, x2) ∧ In64 x0 ∧ In64 x1 ∧ wEdgeS.R h [.slice a2 n2 c2] x2 := by
  obtain ⟨x0, x1, x2⟩ := x
  obtain ⟨_, _, rfl, ⟨rfl, h0⟩, ⟨_, _, rfl, ⟨rfl, h1⟩, h2⟩⟩ := hx
  obtain ⟨a2, n2, c2, rfl⟩ := Wp.slice_cell h2
  exact ⟨x0, x1, a2, n2, c2, x2, rfl, rfl, h0, h1, h2⟩
theorem closeGraph {h : Hp} {x0 : Int} {x1 : Int} {a2 : Option Addr} {n2 c2 : Nat} {x2 : LEdgeS} (h0 : In64 x0) (h1 : In64 x1) (h2 : wEdgeS.R h [.slice a2 n2 c2] x2) : wGraph.R h [.int .i64 x0, .int .i64 x1, .slice a2 n2 c2] (x0, x1, x2) :=
  ⟨[.int .i64 x0], [.int .i64 x1, .slice a2 n2 c2], rfl, ⟨rfl, h0⟩, ⟨[.int .i64 x1], [.slice a2 n2 c2], rfl, ⟨rfl, h1⟩, h2⟩⟩
theorem openWGraph {h : Hp} {cs : List Value} {x : LGraph} {B : List Nat} (hx : wGraph.W h cs x B) : ∃ (x0 : Int) (x1 : Int) (a2 : Option Addr) (n2 c2 : Nat) (x2 : LEdgeS) (B2 : List Nat), cs = [.int .i64 x0, .int .i64 x1, .slice a2 n2 c2] ∧ x = (x0, x1, x2) ∧ B = ([] ++ ([] ++ B2)) ∧ In64 x0 ∧ In64 x1 ∧ wEdgeS.W h [.slice a2 n2 c2] x2 B2 := by
  obtain ⟨x0, x1, x2⟩ := x
  obtain ⟨_, _, _, _, rfl, rfl, ⟨⟨rfl, h0⟩, rfl⟩, ⟨_, _, _, _, rfl, rfl, ⟨⟨rfl, h1⟩, rfl⟩, h2⟩⟩ := hx
  obtain ⟨a2, n2, c2, rfl⟩ := Wp.slice_cell (wEdgeS.toR h2)
  exact ⟨x0, x1, a2, n2, c2, x2, _, rfl, rfl, rfl, h0, h1, h2⟩
theorem closeWGraph {h : Hp} {x0 : Int} {x1 : Int} {a2 : Option Addr} {n2 c2 : Nat} {x2 : LEdgeS} {B2 : List Nat} (h0 : In64 x0) (h1 : In64 x1) (h2 : wEdgeS.W h [.slice a2 n2 c2] x2 B2) : wGraph.W h [.int .i64 x0, .int .i64 x1, .slice a2 n2 c2] (x0, x1, x2) ([] ++ ([] ++ B2)) :=
  ⟨[.int .i64 x0], [.int .i64 x1, .slice a2 n2 c2], [], ([] ++ B2), rfl, rfl, ⟨⟨rfl, h0⟩, rfl⟩, ⟨[.int .i64 x1], [.slice a2 n2 c2], [], B2, rfl, rfl, ⟨⟨rfl, h1⟩, rfl⟩, h2⟩⟩

abbrev LIntS : Type := List Int
abbrev wIntS : Wp LIntS := Wp.slice Wp.int
instance dIntS : DecidableEq LIntS := inferInstanceAs (DecidableEq (List Int))
def mIntS (x : LIntS) : Nat := x.length
def cIntS (x : LIntS) : Nat := sumM (fun _ => 1) x
def mkIntS (x : LIntS) (k : Int) : LIntS := mkL (fun _ k => k) (fun _ => 1) x k

abbrev LIntSS : Type := List LIntS
abbrev wIntSS : Wp LIntSS := Wp.slice wIntS
instance dIntSS : DecidableEq LIntSS := inferInstanceAs (DecidableEq (List LIntS))
def mIntSS (x : LIntSS) : Nat := x.length + sumM mIntS x
def cIntSS (x : LIntSS) : Nat := sumM cIntS x
def mkIntSS (x : LIntSS) (k : Int) : LIntSS := mkL mkIntS cIntS x k

abbrev LWhitehead : Type := Int × LIntS
abbrev wWhitehead : Wp LWhitehead := Wp.pair Wp.int wIntS
instance dWhitehead : DecidableEq LWhitehead := (@instDecidableEqProd _ _ (inferInstance : DecidableEq Int) dIntS)
def mWhitehead (x : LWhitehead) : Nat := mIntS x.2
def ceWhitehead (x : LWhitehead) : Nat := 1 + cIntS x.2
def meWhitehead (x : LWhitehead) (k : Int) : LWhitehead := (k, mkIntS x.2 (k + (1 : Nat)))
def cvWhitehead (x : LWhitehead) : Nat := cIntS x.2
def mvWhitehead (x : LWhitehead) (k : Int) : LWhitehead := (x.1, mkIntS x.2 k)
theorem openWhitehead {h : Hp} {cs : List Value} {x : LWhitehead} (hx : wWhitehead.R h cs x) : ∃ (x0 : Int) (a1 : Option Addr) (n1 c1 : Nat) (x1 : LIntS), cs = [.int .i64 x0, .slice a1 n1 c1] ∧ x = (x0, x1) ∧ In64 x0 ∧ wIntS.R h [.slice a1 n1 c1] x1 := by
  obtain ⟨x0, x1⟩ := x
  obtain ⟨_, _, rfl, ⟨rfl, h0⟩, h1⟩ := hx
  obtain ⟨a1, n1, c1, rfl⟩ := Wp.slice_cell h1
  exact ⟨x0, a1, n1, c1, x1, rfl, rfl, h0, h1⟩
theorem closeWhitehead {h : Hp} {x0 : Int} {a1 : Option Addr} {n1 c1 : Nat} {x1 : LIntS} (h0 : In64 x0) (h1 : wIntS.R h [.slice a1 n1 c1] x1) : wWhitehead.R h [.int .i64 x0, .slice a1 n1 c1] (x0, x1) :=
  ⟨[.int .i64 x0], [.slice a1 n1 c1], rfl, ⟨rfl, h0⟩, h1⟩
theorem openWWhitehead {h : Hp} {cs : List Value} {x : LWhitehead} {B : List Nat} (hx : wWhitehead.W h cs x B) : ∃ (x0 : Int) (a1 : Option Addr) (n1 c1 : Nat) (x1 : LIntS) (B1 : List Nat), cs = [.int .i64 x0, .slice a1 n1 c1] ∧ x = (x0, x1) ∧ B = ([] ++ B1) ∧ In64 x0 ∧ wIntS.W h [.slice a1 n1 c1] x1 B1 := by
  obtain ⟨x0, x1⟩ := x
  obtain ⟨_, _, _, _, rfl, rfl, ⟨⟨rfl, h0⟩, rfl⟩, h1⟩ := hx
  obtain ⟨a1, n1, c1, rfl⟩ := Wp.slice_cell (wIntS.toR h1)
  exact ⟨x0, a1, n1, c1, x1, _, rfl, rfl, rfl, h0, h1⟩
theorem closeWWhitehead {h : Hp} {x0 : Int} {a1 : Option Addr} {n1 c1 : Nat} {x1 : LIntS} {B1 : List Nat} (h0 : In64 x0) (h1 : wIntS.W h [.slice a1 n1 c1] x1 B1) : wWhitehead.W h [.int .i64 x0, .slice a1 n1 c1] (x0, x1) ([] ++ B1) :=
  ⟨[.int .i64 x0], [.slice a1 n1 c1], [], B1, rfl, rfl, ⟨⟨rfl, h0⟩, rfl⟩, h1⟩

abbrev LPresentation : Type := Int × LIntSS
abbrev wPresentation : Wp LPresentation := Wp.pair Wp.int wIntSS
instance dPresentation : DecidableEq LPresentation := (@instDecidableEqProd _ _ (inferInstance : DecidableEq Int) dIntSS)
def mPresentation (x : LPresentation) : Nat := mIntSS x.2
def cePresentation (x : LPresentation) : Nat := 1 + cIntSS x.2
def mePresentation (x : LPresentation) (k : Int) : LPresentation := (k, mkIntSS x.2 (k + (1 : Nat)))
def cvPresentation (x : LPresentation) : Nat := cIntSS x.2
def mvPresentation (x : LPresentation) (k : Int) : LPresentation := (x.1, mkIntSS x.2 k)
theorem openPresentation {h : Hp} {cs : List Value} {x : LPresentation} (hx : wPresentation.R h cs x) : ∃ (x0 : Int) (a1 : Option Addr) (n1 c1 : Nat) (x1 : LIntSS), cs = [.int .i64 x0, .slice a1 n1 c1] ∧ x = (x0, x1) ∧ In64 x0 ∧ wIntSS.R h [.slice a1 n1 c1] x1 := by
  obtain ⟨x0, x1⟩ := x
  obtain ⟨_, _, rfl, ⟨rfl, h0⟩, h1⟩ := hx
  obtain ⟨a1, n1, c1, rfl⟩ := Wp.slice_cell h1
  exact ⟨x0, a1, n1, c1, x1, rfl, rfl, h0, h1⟩
theorem closePresentation {h : Hp} {x0 : Int} {a1 : Option Addr} {n1 c1 : Nat} {x1 : LIntSS} (h0 : In64 x0) (h1 : wIntSS.R h [.slice a1 n1 c1] x1) : wPresentation.R h [.int .i64 x0, .slice a1 n1 c1] (x0, x1) :=
  ⟨[.int .i64 x0], [.slice a1 n1 c1], rfl, ⟨rfl, h0⟩, h1⟩
theorem openWPresentation {h : Hp} {cs : List Value} {x : LPresentation} {B : List Nat} (hx : wPresentation.W h cs x B) : ∃ (x0 : Int) (a1 : Option Addr) (n1 c1 : Nat) (x1 : LIntSS) (B1 : List Nat), cs = [.int .i64 x0, .slice a1 n1 c1] ∧ x = (x0, x1) ∧ B = ([] ++ B1) ∧ In64 x0 ∧ wIntSS.W h [.slice a1 n1 c1] x1 B1 := by
  obtain ⟨x0, x1⟩ := x
  obtain ⟨_, _, _, _, rfl, rfl, ⟨⟨rfl, h0⟩, rfl⟩, h1⟩ := hx
  obtain ⟨a1, n1, c1, rfl⟩ := Wp.slice_cell (wIntSS.toR h1)
  exact ⟨x0, a1, n1, c1, x1, _, rfl, rfl, rfl, h0, h1⟩
theorem closeWPresentation {h : Hp} {x0 : Int} {a1 : Option Addr} {n1 c1 : Nat} {x1 : LIntSS} {B1 : List Nat} (h0 : In64 x0) (h1 : wIntSS.W h [.slice a1 n1 c1] x1 B1) : wPresentation.W h [.int .i64 x0, .slice a1 n1 c1] (x0, x1) ([] ++ B1) :=
  ⟨[.int .i64 x0], [.slice a1 n1 c1], [], B1, rfl, rfl, ⟨⟨rfl, h0⟩, rfl⟩, h1⟩

abbrev LEntry : Type := ByteArray × LGraph
abbrev wEntry : Wp LEntry := Wp.pair Wp.str wGraph
instance dEntry : DecidableEq LEntry := (@instDecidableEqProd _ _ (inferInstance : DecidableEq ByteArray) dGraph)
def mEntry (x : LEntry) : Nat := x.1.size + mGraph x.2
def ceEntry (x : LEntry) : Nat := 1 + ceGraph x.2
def meEntry (x : LEntry) (k : Int) : LEntry := (mtext k, meGraph x.2 (k + (1 : Nat)))
def cvEntry (x : LEntry) : Nat := cvGraph x.2
def mvEntry (x : LEntry) (k : Int) : LEntry := (x.1, mvGraph x.2 k)
theorem openEntry {h : Hp} {cs : List Value} {x : LEntry} (hx : wEntry.R h cs x) : ∃ (x0 : ByteArray) (x1_0 : Int) (x1_1 : Int) (a1_2 : Option Addr) (n1_2 c1_2 : Nat) (x1_2 : LEdgeS), cs = [.string x0, .int .i64 x1_0, .int .i64 x1_1, .slice a1_2 n1_2 c1_2] ∧ x = (x0, (x1_0, x1_1, x1_2)) ∧ x0.size ≤ 9223372036854775807 ∧ In64 x1_0 ∧ In64 x1_1 ∧ wEdgeS.R h [.slice a1_2 n1_2 c1_2] x1_2 := by
  obtain ⟨x0, ⟨x1_0, x1_1, x1_2⟩⟩ := x
  obtain ⟨_, _, rfl, ⟨rfl, h0⟩, ⟨_, _, rfl, ⟨rfl, h1_0⟩, ⟨_, _, rfl, ⟨rfl, h1_1⟩, h1_2⟩⟩⟩ := hx
  obtain ⟨a1_2, n1_2, c1_2, rfl⟩ := Wp.slice_cell h1_2
  exact ⟨x0, x1_0, x1_1, a1_2, n1_2, c1_2, x1_2, rfl, rfl, h0, h1_0, h1_1, h1_2⟩
theorem closeEntry {h : Hp} {x0 : ByteArray} {x1_0 : Int} {x1_1 : Int} {a1_2 : Option Addr} {n1_2 c1_2 : Nat} {x1_2 : LEdgeS} (h0 : x0.size ≤ 9223372036854775807) (h1_0 : In64 x1_0) (h1_1 : In64 x1_1) (h1_2 : wEdgeS.R h [.slice a1_2 n1_2 c1_2] x1_2) : wEntry.R h [.string x0, .int .i64 x1_0, .int .i64 x1_1, .slice a1_2 n1_2 c1_2] (x0, (x1_0, x1_1, x1_2)) :=
  ⟨[.string x0], [.int .i64 x1_0, .int .i64 x1_1, .slice a1_2 n1_2 c1_2], rfl, ⟨rfl, h0⟩, ⟨[.int .i64 x1_0], [.int .i64 x1_1, .slice a1_2 n1_2 c1_2], rfl, ⟨rfl, h1_0⟩, ⟨[.int .i64 x1_1], [.slice a1_2 n1_2 c1_2], rfl, ⟨rfl, h1_1⟩, h1_2⟩⟩⟩
theorem openWEntry {h : Hp} {cs : List Value} {x : LEntry} {B : List Nat} (hx : wEntry.W h cs x B) : ∃ (x0 : ByteArray) (x1_0 : Int) (x1_1 : Int) (a1_2 : Option Addr) (n1_2 c1_2 : Nat) (x1_2 : LEdgeS) (B1_2 : List Nat), cs = [.string x0, .int .i64 x1_0, .int .i64 x1_1, .slice a1_2 n1_2 c1_2] ∧ x = (x0, (x1_0, x1_1, x1_2)) ∧ B = ([] ++ ([] ++ ([] ++ B1_2))) ∧ x0.size ≤ 9223372036854775807 ∧ In64 x1_0 ∧ In64 x1_1 ∧ wEdgeS.W h [.slice a1_2 n1_2 c1_2] x1_2 B1_2 := by
  obtain ⟨x0, ⟨x1_0, x1_1, x1_2⟩⟩ := x
  obtain ⟨_, _, _, _, rfl, rfl, ⟨⟨rfl, h0⟩, rfl⟩, ⟨_, _, _, _, rfl, rfl, ⟨⟨rfl, h1_0⟩, rfl⟩, ⟨_, _, _, _, rfl, rfl, ⟨⟨rfl, h1_1⟩, rfl⟩, h1_2⟩⟩⟩ := hx
  obtain ⟨a1_2, n1_2, c1_2, rfl⟩ := Wp.slice_cell (wEdgeS.toR h1_2)
  exact ⟨x0, x1_0, x1_1, a1_2, n1_2, c1_2, x1_2, _, rfl, rfl, rfl, h0, h1_0, h1_1, h1_2⟩
theorem closeWEntry {h : Hp} {x0 : ByteArray} {x1_0 : Int} {x1_1 : Int} {a1_2 : Option Addr} {n1_2 c1_2 : Nat} {x1_2 : LEdgeS} {B1_2 : List Nat} (h0 : x0.size ≤ 9223372036854775807) (h1_0 : In64 x1_0) (h1_1 : In64 x1_1) (h1_2 : wEdgeS.W h [.slice a1_2 n1_2 c1_2] x1_2 B1_2) : wEntry.W h [.string x0, .int .i64 x1_0, .int .i64 x1_1, .slice a1_2 n1_2 c1_2] (x0, (x1_0, x1_1, x1_2)) ([] ++ ([] ++ ([] ++ B1_2))) :=
  ⟨[.string x0], [.int .i64 x1_0, .int .i64 x1_1, .slice a1_2 n1_2 c1_2], [], ([] ++ ([] ++ B1_2)), rfl, rfl, ⟨⟨rfl, h0⟩, rfl⟩, ⟨[.int .i64 x1_0], [.int .i64 x1_1, .slice a1_2 n1_2 c1_2], [], ([] ++ B1_2), rfl, rfl, ⟨⟨rfl, h1_0⟩, rfl⟩, ⟨[.int .i64 x1_1], [.slice a1_2 n1_2 c1_2], [], B1_2, rfl, rfl, ⟨⟨rfl, h1_1⟩, rfl⟩, h1_2⟩⟩⟩

abbrev LEntryS : Type := List LEntry
abbrev wEntryS : Wp LEntryS := Wp.slice wEntry
instance dEntryS : DecidableEq LEntryS := inferInstanceAs (DecidableEq (List LEntry))
def mEntryS (x : LEntryS) : Nat := x.length + sumM mEntry x
def cEntryS (x : LEntryS) : Nat := sumM ceEntry x
def mkEntryS (x : LEntryS) (k : Int) : LEntryS := mkL meEntry ceEntry x k

abbrev LLibrary : Type := Int × LEntryS
abbrev wLibrary : Wp LLibrary := Wp.pair Wp.int wEntryS
instance dLibrary : DecidableEq LLibrary := (@instDecidableEqProd _ _ (inferInstance : DecidableEq Int) dEntryS)
def mLibrary (x : LLibrary) : Nat := mEntryS x.2
def ceLibrary (x : LLibrary) : Nat := 1 + cEntryS x.2
def meLibrary (x : LLibrary) (k : Int) : LLibrary := (k, mkEntryS x.2 (k + (1 : Nat)))
def cvLibrary (x : LLibrary) : Nat := cEntryS x.2
def mvLibrary (x : LLibrary) (k : Int) : LLibrary := (x.1, mkEntryS x.2 k)
theorem openLibrary {h : Hp} {cs : List Value} {x : LLibrary} (hx : wLibrary.R h cs x) : ∃ (x0 : Int) (a1 : Option Addr) (n1 c1 : Nat) (x1 : LEntryS), cs = [.int .i64 x0, .slice a1 n1 c1] ∧ x = (x0, x1) ∧ In64 x0 ∧ wEntryS.R h [.slice a1 n1 c1] x1 := by
  obtain ⟨x0, x1⟩ := x
  obtain ⟨_, _, rfl, ⟨rfl, h0⟩, h1⟩ := hx
  obtain ⟨a1, n1, c1, rfl⟩ := Wp.slice_cell h1
  exact ⟨x0, a1, n1, c1, x1, rfl, rfl, h0, h1⟩
theorem closeLibrary {h : Hp} {x0 : Int} {a1 : Option Addr} {n1 c1 : Nat} {x1 : LEntryS} (h0 : In64 x0) (h1 : wEntryS.R h [.slice a1 n1 c1] x1) : wLibrary.R h [.int .i64 x0, .slice a1 n1 c1] (x0, x1) :=
  ⟨[.int .i64 x0], [.slice a1 n1 c1], rfl, ⟨rfl, h0⟩, h1⟩
theorem openWLibrary {h : Hp} {cs : List Value} {x : LLibrary} {B : List Nat} (hx : wLibrary.W h cs x B) : ∃ (x0 : Int) (a1 : Option Addr) (n1 c1 : Nat) (x1 : LEntryS) (B1 : List Nat), cs = [.int .i64 x0, .slice a1 n1 c1] ∧ x = (x0, x1) ∧ B = ([] ++ B1) ∧ In64 x0 ∧ wEntryS.W h [.slice a1 n1 c1] x1 B1 := by
  obtain ⟨x0, x1⟩ := x
  obtain ⟨_, _, _, _, rfl, rfl, ⟨⟨rfl, h0⟩, rfl⟩, h1⟩ := hx
  obtain ⟨a1, n1, c1, rfl⟩ := Wp.slice_cell (wEntryS.toR h1)
  exact ⟨x0, a1, n1, c1, x1, _, rfl, rfl, rfl, h0, h1⟩
theorem closeWLibrary {h : Hp} {x0 : Int} {a1 : Option Addr} {n1 c1 : Nat} {x1 : LEntryS} {B1 : List Nat} (h0 : In64 x0) (h1 : wEntryS.W h [.slice a1 n1 c1] x1 B1) : wLibrary.W h [.int .i64 x0, .slice a1 n1 c1] (x0, x1) ([] ++ B1) :=
  ⟨[.int .i64 x0], [.slice a1 n1 c1], [], B1, rfl, rfl, ⟨⟨rfl, h0⟩, rfl⟩, h1⟩

abbrev LWhiteheadS : Type := List LWhitehead
abbrev wWhiteheadS : Wp LWhiteheadS := Wp.slice wWhitehead
instance dWhiteheadS : DecidableEq LWhiteheadS := inferInstanceAs (DecidableEq (List LWhitehead))
def mWhiteheadS (x : LWhiteheadS) : Nat := x.length + sumM mWhitehead x
def cWhiteheadS (x : LWhiteheadS) : Nat := sumM ceWhitehead x
def mkWhiteheadS (x : LWhiteheadS) (k : Int) : LWhiteheadS := mkL meWhitehead ceWhitehead x k

abbrev LGraphS : Type := List LGraph
abbrev wGraphS : Wp LGraphS := Wp.slice wGraph
instance dGraphS : DecidableEq LGraphS := inferInstanceAs (DecidableEq (List LGraph))
def mGraphS (x : LGraphS) : Nat := x.length + sumM mGraph x
def cGraphS (x : LGraphS) : Nat := sumM ceGraph x
def mkGraphS (x : LGraphS) (k : Int) : LGraphS := mkL meGraph ceGraph x k

theorem cebEdge (x : LEdge) : ceEdge x ≤ 3 := by
  simp only [ceEdge]
  omega
theorem cbEdgeS (x : LEdgeS) : cEdgeS x ≤ 16 * mEdgeS x := sumM_le0 (c := ceEdge) (fun x => by have := cebEdge x; omega) x
theorem cebGraph (x : LGraph) : ceGraph x ≤ 2 + 16 * mGraph x := by
  have := cbEdgeS x.2.2
  simp only [ceGraph, mGraph]
  omega
theorem cbGraph (x : LGraph) : cvGraph x ≤ 16 * mGraph x := by
  have := cbEdgeS x.2.2
  simp only [cvGraph, mGraph]
  omega
theorem cbIntS (x : LIntS) : cIntS x ≤ 16 * mIntS x := sumM_le0 (c := (fun _ => 1)) (fun x => by omega) x
theorem cbIntSS (x : LIntSS) : cIntSS x ≤ 16 * mIntSS x := sumM_le (c := cIntS) (m := mIntS) (fun x => by have := cbIntS x; omega) x
theorem cebWhitehead (x : LWhitehead) : ceWhitehead x ≤ 1 + 16 * mWhitehead x := by
  have := cbIntS x.2
  simp only [ceWhitehead, mWhitehead]
  omega
theorem cbWhitehead (x : LWhitehead) : cvWhitehead x ≤ 16 * mWhitehead x := by
  have := cbIntS x.2
  simp only [cvWhitehead, mWhitehead]
  omega
theorem cebPresentation (x : LPresentation) : cePresentation x ≤ 1 + 16 * mPresentation x := by
  have := cbIntSS x.2
  simp only [cePresentation, mPresentation]
  omega
theorem cbPresentation (x : LPresentation) : cvPresentation x ≤ 16 * mPresentation x := by
  have := cbIntSS x.2
  simp only [cvPresentation, mPresentation]
  omega
theorem cebEntry (x : LEntry) : ceEntry x ≤ 3 + 16 * mEntry x := by
  have := cebGraph x.2
  simp only [ceEntry, mEntry]
  omega
theorem cbEntry (x : LEntry) : cvEntry x ≤ 16 * mEntry x := by
  have := cbGraph x.2
  simp only [cvEntry, mEntry]
  omega
theorem cbEntryS (x : LEntryS) : cEntryS x ≤ 16 * mEntryS x := sumM_le (c := ceEntry) (m := mEntry) (fun x => by have := cebEntry x; omega) x
theorem cebLibrary (x : LLibrary) : ceLibrary x ≤ 1 + 16 * mLibrary x := by
  have := cbEntryS x.2
  simp only [ceLibrary, mLibrary]
  omega
theorem cbLibrary (x : LLibrary) : cvLibrary x ≤ 16 * mLibrary x := by
  have := cbEntryS x.2
  simp only [cvLibrary, mLibrary]
  omega
theorem cbWhiteheadS (x : LWhiteheadS) : cWhiteheadS x ≤ 16 * mWhiteheadS x := sumM_le (c := ceWhitehead) (m := mWhitehead) (fun x => by have := cebWhitehead x; omega) x
theorem cbGraphS (x : LGraphS) : cGraphS x ≤ 16 * mGraphS x := sumM_le (c := ceGraph) (m := mGraph) (fun x => by have := cebGraph x; omega) x
end Go.Proofs.YthccjgkmmclplaaGreat
