/- Plain laws over the model: what a function's code asks, written out by a recursive function; slices and variables that the call itself makes are kept apart as lists. -/
import Derived.Test.YtknoadmdnjaocaaGreatH1
import Derived.Laws.BytesArg
namespace Go.H
set_option linter.unusedVariables false
def nth {α : Type} : List α → Nat → Option α
 | [], _ => none
 | x :: _, 0 => some x
 | _ :: r, k + 1 => nth r k
inductive V4 where
 | val (v : Value)
 | own (i k : Nat)
inductive AV where
 | val (v : Value)
 | own (i k : Nat)
 | box (i off : Nat)
 | hel (s : Value) (idx : Int) (sz k : Nat)
 | oel (i st : Nat) (idx : Int) (sz k : Nat)
 | agg (cs : List V4)
 | dead
inductive OSt where
 | live (e : TypeId) (sz by_ : Nat) (nn : Bool) (xs : List (List Value))
 | frozen (v : Value)
structure Own where
 stamp : Nat
 st : OSt
inductive BSt where
 | live (cells : List V4) (ty : TypeId)
 | publ (b : Nat)
structure St where
 n : Nat
 fr : List (Nat × AV)
 bx : List BSt
 ow : List Own
def St.withOw (st : St) (l : List Own) : St := match st with
 | ⟨n, fr, bx, _⟩ => ⟨n, fr, bx, l⟩
def St.withBx (st : St) (l : List BSt) : St := match st with
 | ⟨n, fr, _, ow⟩ => ⟨n, fr, l, ow⟩
@[simp] theorem St.withOw_eq (st : St) (l : List Own) : st.withOw l = { st with ow := l } := rfl
@[simp] theorem St.withBx_eq (st : St) (l : List BSt) : st.withBx l = { st with bx := l } := rfl
def ptr (b off : Nat) : Value := .pointer (some ⟨b, off, none⟩)
def T1 : List (Nat × AV) → Nat → AV
 | [], _ => .dead
 | (k, v) :: r, s => match Nat.beq k s with
  | true => v
  | false => T1 r s
def SlE (h : Hp) (sz : Nat) (s : Value) (xs : List (List Value)) : Prop :=
 (∀ x ∈ xs, x.length = sz ∧ ∀ v ∈ x, v.oneCell' = true) ∧ ∃ a n c, s = .slice a n c ∧ n = xs.length ∧ n ≤ c ∧
  (xs.flatten = [] ∨ ∃ b o, a = some ⟨b, o, none⟩ ∧ ∀ j v, xs.flatten[j]? = some v → Hp.cell h b (o + j) = some v)
def U00 (h : Hp) (s : Value) (sz : Nat) (idx : Int) (c : List Value) : Prop :=
 c.length = sz ∧ 0 ≤ idx ∧ ∃ b o n cp, s = .slice (some ⟨b, o, none⟩) n cp ∧ ∀ j v, c[j]? = some v → Hp.cell h b (o + idx.toNat * sz + j) = some v
def InB (s : Value) (j : Int) : Prop := ∃ b o n c, s = .slice (some ⟨b, o, none⟩) n c ∧ 0 ≤ j ∧ j < (n : Int)
def U0 (h h' : Hp) (v : Value) (e : TypeId) (sz : Nat) (nn : Bool) (xs : List (List Value)) : Prop :=
  (∀ x ∈ xs, x.length = sz ∧ ∀ v ∈ x, v.oneCell' = true) ∧
  ((v = .slice none 0 0 ∧ xs = [] ∧ nn = false ∧ h' = h) ∨
   ∃ g cap cur, v = .slice (some ⟨g, 0, none⟩) xs.length cap ∧ h g = none ∧ h' = h.set g (.cells cur e (0, 0)) ∧
     xs.length ≤ cap ∧ cap ≤ maxLen ∧ cur.size = cap * sz ∧ cur.toList.take (xs.length * sz) = xs.flatten)
def I5 (P : Program) (t : TypeId) : Option Nat := match P.info? t with
 | some i => some i.size
 | none => none
def P07 (P : Program) (t : TypeId) : Option Nat := match P.info? t with
 | some i => some i.bytes
 | none => none
def N9 (P : Program) (t : TypeId) : Option Value := match P.info? t with
 | some i => i.zero
 | none => none
def M0c (P : Program) (t : TypeId) : Option Bool := match P.underlying t with
 | some (.struct _) => some true
 | some (.array _ _) => some true
 | some _ => some false
 | none => none
def N0c (P : Program) (t : TypeId) (k : Nat) : Option Nat := match P.underlying t with
 | some (.struct fs) => match fs[k]? with
  | some f => match I5 P f.type with
   | some (_ + 1) => some f.offset
   | _ => none
  | none => none
 | _ => none
def O9 (P : Program) (t : TypeId) : Option TypeId := match P.underlying t with
 | some (.slice e) => some e
 | _ => none
def rdA (st : St) : AV → AV
 | .own i k => match nth st.ow i with
  | some ⟨s, o⟩ => match Nat.beq s k with
   | true => match o with
    | .live .. => .own i k
    | .frozen v => .val v
   | false => .dead
  | none => .dead
 | .box i off => match nth st.bx i with
  | some (.live ..) => .box i off
  | some (.publ b) => .val (ptr b off)
  | none => .dead
 | .oel i s idx sz k => match nth st.ow i with
  | some ⟨s', .live ..⟩ => match Nat.beq s' s with
   | true => .oel i s idx sz k
   | false => .dead
  | _ => .dead
 | av => av
def rdO (st : St) : Operand → AV
 | .tmp t => rdA st (T1 st.fr t)
 | .const v => .val v
 | .global _ => .dead
 | .func f => .val (.func (.func f) #[] #[])
def P8 {α : Type} : List α → Nat → α → List α
 | [], _, _ => []
 | _ :: r, 0, y => y :: r
 | x :: r, k + 1, y => x :: P8 r k y
def vals : List Value → List V4
 | [] => []
 | v :: r => .val v :: vals r
def O0c (i k : Nat) (st : St) (h : Hp) (K : Value → St → Hp → Prop) : Prop :=
 match nth st.ow i with
 | some ⟨s, .live e sz _ nn xs⟩ => match Nat.beq s k with
  | true => ∀ v h', U0 h h' v e sz nn xs → K v (st.withOw (P8 st.ow i ⟨s, .frozen v⟩)) h'
  | false => False
 | some ⟨s, .frozen v⟩ => match Nat.beq s k with
  | true => K v st h
  | false => False
 | none => False
def v04 : List V4 → St → Hp → (List Value → St → Hp → Prop) → Prop
 | [], st, h, K => K [] st h
 | .val v :: r, st, h, K => v04 r st h fun vs st h => K (v :: vs) st h
 | .own i k :: r, st, h, K => O0c i k st h fun v st h => v04 r st h fun vs st h => K (v :: vs) st h
def e0j (i off : Nat) (st : St) (h : Hp) (K : Value → St → Hp → Prop) : Prop :=
 match nth st.bx i with
 | some (.live cells ty) => v04 cells st h fun vs st h => ∀ b, h b = none →
   K (ptr b off) (st.withBx (P8 st.bx i (.publ b))) (h.set b (.cells vs.toArray ty (0, 0)))
 | some (.publ b) => K (ptr b off) st h
 | none => False
def rfy (av : AV) (st : St) (h : Hp) (K : Value → St → Hp → Prop) : Prop :=
 match av with
 | .val v => K v st h
 | .own i k => O0c i k st h K
 | .box i off => e0j i off st h K
 | .agg cs => v04 cs st h fun vs st h => K (.agg vs.toArray) st h
 | _ => False
def T09 : List Operand → St → Hp → (List (Nat × Value) → St → Hp → Prop) → Prop
 | [], st, h, K => K [] st h
 | .tmp t :: r, st, h, K => rfy (rdO st (.tmp t)) st h fun v st h => T09 r st h fun vs st h => K ((t, v) :: vs) st h
 | .global _ :: _, _, _, _ => False
 | _ :: r, st, h, K => T09 r st h K
def P0g : List (Nat × Value) → Nat → Value
 | [], _ => undef
 | (k, v) :: r, s => match Nat.beq k s with
  | true => v
  | false => P0g r s
def rho (vs : List (Nat × Value)) : Operand → Value
 | .tmp t => P0g vs t
 | .const v => v
 | .global g => .pointer (some ⟨g, 0, none⟩)
 | .func f => .func (.func f) #[] #[]
def T08 : Op → Bool
 | .select _ _ => true
 | _ => false
def P0c (ρ : Operand → Value) : List Operand → List Value
 | [] => []
 | x :: r => ρ x :: P0c ρ r
def f0j : List Value → List Value → List Value
 | [], l => l
 | x :: r, l => x :: f0j r l
def U05 (ρ : Operand → Value) (o : Oper) : Option (FuncId × List Value) := match o.op with
 | .call c => match c.callee with
  | .value x => match ρ x with
   | .func (.func f) first captured => some (f, f0j first.toList (f0j (P0c ρ c.args.toList) captured.toList))
   | _ => none
  | _ => none
 | _ => none
def okF (P : Program) (f : FuncId) : Bool := match P.funcs[f]? with
 | some fn => match fn.body with
  | some _ => match fn.name == "runtime.NumGoroutine" with
   | true => false
   | false => true
  | none => false
 | none => false
def w04 : List Operand → List Bool
 | [] => []
 | .const _ :: r => true :: w04 r
 | _ :: r => false :: w04 r
def Q0d (ρ : Operand → Value) (o : Oper) : Sem Next := match o.op with
 | .call c => match c.callee with
  | .builtin b => invoke (.builtin b c.argTypes o.type (w04 c.args.toList).toArray) (P0c ρ c.args.toList).toArray
  | _ => execOp ρ o
 | .makeFunc fn first captured => do pure (.value (← Instr.makeFunc fn (P0c ρ first.toList).toArray (P0c ρ captured.toList).toArray))
 | _ => execOp ρ o
def k03 (P : Program) (o : Oper) (st : St) (h : Hp) (K : AV → St → Hp → Prop) : Prop :=
 match T08 o.op with
 | true => False
 | false => T09 o.op.operands.toList st h fun vs st h => match U05 (rho vs) o with
  | some (f, l) => match okF P f with
   | true => Tr P f l.toArray h fun v h'' => K (.val v) st h''
   | false => False
  | none => wpS P (Q0d (rho vs) o) h fun n h' => match n with
   | .value v => K (.val v) st h'
   | .skip => K (.val undef) st h'
   | _ => False
def evP (P : Program) {α : Type} : Sem α → Option α
 | .pure a => some a
 | .program k => evP P (k P)
 | .mark _ k => evP P k
 | _ => none
def g0j (P : Program) (o : Oper) (st : St) (h : Hp) (K : AV → St → Hp → Prop) : Prop :=
 match T08 o.op with
 | true => False
 | false => T09 o.op.operands.toList st h fun vs _ hf => match U05 (rho vs) o with
  | some (f, l) => match okF P f with
   | true => Tr P f l.toArray hf fun r h' => h' = hf ∧ K (.val r) st h
   | false => False
  | none => False
def h0j (st : St) : List Operand → Bool
 | [] => false
 | x :: r => match rdO st x with
  | .own _ _ => true
  | _ => h0j st r
def M0f (P : Program) (o : Oper) (st : St) (h : Hp) (K : AV → St → Hp → Prop) : Prop :=
 match h0j st o.op.operands.toList with
 | true => k03 P o st h K ∨ g0j P o st h K
 | false => k03 P o st h K
def o9 : AV → Option (List V4)
 | .val (.agg cs) => some (vals cs.toList)
 | .val (.tuple _) => none
 | .val v => some [.val v]
 | .own i k => some [.own i k]
 | .agg cs => some cs
 | _ => none
def ofCell : V4 → AV
 | .val v => .val v
 | .own i k => .own i k
def x04 {α : Type} : List α → Nat → Bool
 | [], 0 => true
 | _ :: r, k + 1 => x04 r k
 | _, _ => false
def f02 (P : Program) (t : TypeId) (cs : List V4) (off : Nat) (K : AV → Prop) : Prop :=
 match M0c P t with
 | some true => match I5 P t with
  | some n => match x04 ((cs.drop off).take n) n with
   | true => K (.agg ((cs.drop off).take n))
   | false => False
  | none => False
 | some false => match nth cs off with
  | some c => K (ofCell c)
  | none => False
 | none => False
def splice {α : Type} : List α → Nat → List α → List α
 | cs, _, [] => cs
 | cs, off, x :: r => splice (P8 cs off x) (off + 1) r
def i0i {α : Type} (cs : List α) (off : Nat) (new : List α) (K : List α → Prop) : Prop :=
 match Nat.ble (off + new.length) cs.length with
 | true => K (splice cs off new)
 | false => False
def U09 : List V4 → Option (List Value)
 | [] => some []
 | .val v :: r => match U09 r with
  | some vs => some (v :: vs)
  | none => none
 | .own _ _ :: _ => none
def g02 : List Value → Bool
 | [] => true
 | v :: r => match v.oneCell' with
  | true => g02 r
  | false => false
def K02 (st : St) : List V4 → Bool
 | [] => true
 | .val v :: r => match v.oneCell' with
  | true => K02 st r
  | false => false
 | .own i k :: r => match rdA st (.own i k) with
  | .own _ _ => K02 st r
  | .val v => match v.oneCell' with
   | true => K02 st r
   | false => false
  | _ => false
def R0d (sz : Nat) : Nat → List (Nat × Operand) → St → Hp → (List (List Value) → St → Hp → Prop) → Prop
 | _, [], st, h, K => K [] st h
 | i, (j, x) :: r, st, h, K => match Nat.beq i j with
  | true => rfy (rdO st x) st h fun v st h => match x04 v.cells.toList sz, g02 v.cells.toList with
   | true, true => R0d sz (i + 1) r st h fun vs st h => K (v.cells.toList :: vs) st h
   | _, _ => False
  | false => False
def l03 (P : Program) : List Field → Bool
 | [] => true
 | f :: r => match I5 P f.type with
  | some _ => l03 P r
  | none => false
def y04 : AV → Option (List V4)
 | .val (.agg cs) => some (vals cs.toList)
 | .agg cs => some cs
 | _ => none
def z04 (P : Program) (fs : Array Field) (rd : Operand → AV) : List (Nat × Operand) → List V4 → (List V4 → Prop) → Prop
 | [], cs, K => K cs
 | (i, x) :: r, cs, K => match fs[i]?, o9 (rd x) with
  | some f, some new => match I5 P f.type with
   | some n => match x04 new n, Nat.ble (f.offset + n) cs.length with
    | true, true => z04 P fs rd r (splice cs f.offset new) K
    | _, _ => False
   | none => False
  | _, _ => False
def N0f {α : Type} : List α → (Nat → Prop) → Prop
 | [], K => K 0
 | _ :: r, K => N0f r fun n => K (n + 1)
theorem I06 {α : Type} : ∀ (l : List α) (K : Nat → Prop), N0f l K = K l.length
 | [], K => rfl
 | _ :: r, K => by simp only [N0f, I06 r, List.length_cons]
def newOwn (st : St) (e : TypeId) (sz by_ : Nat) (nn : Bool) (xs : List (List Value)) (K : AV → St → Prop) : Prop :=
 N0f st.ow fun n => K (.own n 0) (st.withOw (st.ow ++ [⟨0, .live e sz by_ nn xs⟩]))
theorem Q07 (st : St) (e : TypeId) (sz by_ : Nat) (nn : Bool) (xs : List (List Value)) (K : AV → St → Prop) : newOwn st e sz by_ nn xs K = K (.own st.ow.length 0) (st.withOw (st.ow ++ [⟨0, .live e sz by_ nn xs⟩])) := I06 _ _
def newBox (st : St) (cs : List V4) (t : TypeId) (K : AV → St → Prop) : Prop :=
 N0f st.bx fun n => K (.box n 0) (st.withBx (st.bx ++ [.live cs t]))
theorem R07 (st : St) (cs : List V4) (t : TypeId) (K : AV → St → Prop) : newBox st cs t K = K (.box st.bx.length 0) (st.withBx (st.bx ++ [.live cs t])) := I06 _ _
def S0d (st : St) (h : Hp) (sz : Nat) (av : AV) (K : List (List Value) → Prop) : Prop :=
 match av with
 | .own j _ => match nth st.ow j with
  | some ⟨_, .live _ sz' _ _ ys⟩ => match Nat.beq sz' sz with
   | true => K ys
   | false => False
  | _ => False
 | .val s => ∃ ys, SlE h sz s ys ∧ K ys
 | _ => False
def t0m (av : AV) (i : Nat) : Bool := match av with
 | .own j _ => Nat.beq i j
 | _ => false
def m03 : List (List Value) → Bool
 | [] => false
 | _ :: _ => true
def V09 (n by_ : Nat) : Prop := n * by_ ≤ 140737488355328
def i0j (h : Hp) (sz : Nat) (v : Value) (xs : List (List Value)) : Prop :=
 (∀ x ∈ xs, x.length = sz ∧ ∀ v ∈ x, v.oneCell' = true) ∧ ∃ g o c cur ty, v = .slice (some ⟨g, o, none⟩) xs.length c ∧ xs.length ≤ c ∧ c ≤ maxLen ∧ o + c * sz ≤ cur.size ∧ h g = some (.cells cur ty (0, 0)) ∧
  ∀ j u, xs.flatten[j]? = some u → cur[o + j]? = some u
def j0j (h h' : Hp) (sz g : Nat) (v : Value) (zs : List (List Value)) : Prop :=
 i0j h' sz v zs ∧ ∃ g' o' n' c', v = .slice (some ⟨g', o', none⟩) n' c' ∧ (g' = g ∨ h g' = none) ∧ ∀ b, b ≠ g' → h' b = h b
def W09 (P : Program) (t : TypeId) (a b : Operand) (st : St) (h : Hp) (K : AV → St → Hp → Prop) : Prop :=
 match O9 P t with
 | some e => match I5 P e, P07 P e, N9 P e with
  | some (sz + 1), some (by_ + 1), some z => match x04 z.cells.toList (sz + 1) with
   | true => match rdO st a with
    | .own i k => match nth st.ow i with
     | some ⟨s, .live e' sz' by' nn xs⟩ => match Nat.beq e' e, Nat.beq sz' (sz + 1), t0m (rdO st b) i with
      | true, true, false => S0d st h (sz + 1) (rdO st b) fun ys => V09 (xs.length + ys.length) (by_ + 1) ∧
        K (.own i (s + 1)) (st.withOw (P8 st.ow i ⟨s + 1, .live e (sz + 1) (by_ + 1) (nn || m03 ys) (xs ++ ys)⟩)) h
      | _, _, _ => False
     | _ => False
    | .val (.slice none 0 0) => S0d st h (sz + 1) (rdO st b) fun ys => V09 ys.length (by_ + 1) ∧
      newOwn st e (sz + 1) (by_ + 1) (m03 ys) ys fun av st => K av st h
    | .val (.slice (some ⟨g, o, none⟩) n c) => S0d st h (sz + 1) (rdO st b) fun ys => ∃ xs, i0j h (sz + 1) (.slice (some ⟨g, o, none⟩) n c) xs ∧ V09 (xs.length + ys.length) (by_ + 1) ∧
      ∀ v h', j0j h h' (sz + 1) g v (xs ++ ys) → K (.val v) st h'
    | _ => False
   | false => False
  | _, _, _ => False
 | none => False
def O0f (i : Nat) (lo hi : Option AV) (st : St) (h : Hp) (K : AV → St → Hp → Prop) : Prop :=
 match lo, hi with
 | none, some (.val (.int _ m)) => match nth st.ow i with
  | some ⟨s, .live e sz by_ nn xs⟩ => (0 ≤ m ∧ m ≤ (xs.length : Int)) ∧
    K (.own i (s + 1)) (st.withOw (P8 st.ow i ⟨s + 1, .live e sz by_ nn (xs.take m.toNat)⟩)) h
  | _ => False
 | _, _ => False
def L02 (d : Int) : Option AV → Option Int
 | none => some d
 | some (.val (.int _ n)) => some n
 | _ => none
def P0f (sz : Nat) (s : Value) (l m : Nat) (v : Value) : Prop := ∀ ad n c, s = .slice ad n c → v = .slice (if c = l then ad else ad.map (·.add (l * sz))) (m - l) (c - l)
def Q0f (sz : Nat) (s : Value) (n : Nat) (lo hi : Option AV) (st : St) (h : Hp) (K : AV → St → Hp → Prop) : Prop :=
 match L02 0 lo, L02 n hi with
 | some l, some m => (0 ≤ l ∧ l ≤ m ∧ m ≤ (n : Int)) ∧ ∃ xs, SlE h sz s xs ∧ ∀ v, SlE h sz v ((xs.take m.toNat).drop l.toNat) → P0f sz s l.toNat m.toNat v → K (.val v) st h
 | _, _ => False
def k0j (s : ByteArray) (lo hi : Option AV) (st : St) (h : Hp) (K : AV → St → Hp → Prop) : Prop :=
 match L02 0 lo, L02 s.size hi with
 | some l, some m => (0 ≤ l ∧ l ≤ m ∧ m ≤ (s.size : Int)) ∧ K (.val (.string (s.extract l.toNat m.toNat))) st h
 | _, _ => False
def h02 : AV → Option Value
 | .val v => some v
 | .agg cs => match U09 cs with
  | some vs => some (.agg vs.toArray)
  | none => none
 | _ => none
def U08 (P : Program) (o : Oper) (x y : Operand) (xs ys : Value) (b : Bool) : Prop := ∀ ρ : Operand → Value, ρ x = xs → ρ y = ys → ∀ w : World, (execOp ρ o).run P w = .ok (.value (.bool b)) w
def A04 (h : Hp) (s : Value) (idx : Int) (off : Nat) (v : Value) (K : Hp → Prop) : Prop :=
 ∃ b of n cp cur ty, (s = .slice (some ⟨b, of, none⟩) n cp ∧ 0 ≤ idx ∧ h b = some (.cells cur ty (0, 0)) ∧ of + off < cur.size ∧ z01 v) ∧
  K (h.set b (.cells (cur.setIfInBounds (of + off) v) ty (0, 0)))
theorem A04.mk {h : Hp} {b of n cp p : Nat} {cur : Array Value} {ty : TypeId} {idx : Int} {off : Nat} {v : Value} {K : Hp → Prop} (h1 : 0 ≤ idx) (h2 : h b = some (.cells cur ty (0, 0))) (h3 : p < cur.size) (he : of + off = p) (h4 : z01 v)
  (hk : K (h.set b (.cells (cur.setIfInBounds p v) ty (0, 0)))) : A04 h (.slice (some ⟨b, of, none⟩) n cp) idx off v K := by
 subst he
 exact ⟨b, of, n, cp, cur, ty, ⟨rfl, h1, h2, h3, h4⟩, hk⟩
def n03 (h : Hp) (s : Value) (idx : Int) (off : Nat) (new : List Value) (K : Hp → Prop) : Prop :=
 ∃ b of n cp cur ty, (s = .slice (some ⟨b, of, none⟩) n cp ∧ 0 ≤ idx ∧ h b = some (.cells cur ty (0, 0)) ∧ of + off + new.length ≤ cur.size) ∧
  K (h.set b (.cells (splice cur.toList (of + off) new).toArray ty (0, 0)))
def y7 (P : Program) (o : Oper) (st : St) (h : Hp) (K : AV → St → Hp → Prop) : Prop :=
 match o.op with
 | .move x | .assign x => match rdO st x with
  | .dead => False
  | a => K a st h
 | .box t x => match o9 (rdO st x) with
  | some cs => newBox st cs t fun av st => K av st h
  | none => False
 | .alloc t => match N9 P t with
  | some z => newBox st (vals z.cells.toList) t fun av st => K av st h
  | none => False
 | .fieldAddr t x k => match rdO st x, N0c P t k with
  | .box i off, some fo => K (.box i (off + fo)) st h
  | .hel s i sz k, some fo => K (.hel s i sz (k + fo)) st h
  | .oel i s j sz k, some fo => K (.oel i s j sz (k + fo)) st h
  | .val (.pointer (some ⟨b, off, none⟩)), some fo => K (.val (ptr b (off + fo))) st h
  | _, _ => False
 | .indexAddr t x i => match rdO st i with
  | .val (.int _ j) => match O9 P t with
   | some e => match I5 P e with
    | some sz => match rdO st x with
     | .val (.slice a n c) => InB (.slice a n c) j ∧ K (.hel (.slice a n c) j sz 0) st h
     | .own i k => match nth st.ow i with
      | some ⟨_, .live _ sz' _ _ xs⟩ => match Nat.beq sz' sz with
       | true => (0 ≤ j ∧ j < (xs.length : Int)) ∧ K (.oel i k j sz 0) st h
       | false => False
      | _ => False
     | _ => False
    | none => False
   | none => False
  | _ => False
 | .load t x => match rdO st x with
  | .box i off => match nth st.bx i with
   | some (.live cs _) => f02 P t cs off fun av => K av st h
   | _ => False
  | .hel s idx sz k => ∃ c, U00 h s sz idx c ∧ f02 P t (vals c) k fun av => K av st h
  | .oel i _ idx sz k => match nth st.ow i with
   | some ⟨_, .live _ sz' _ _ xs⟩ => match Nat.beq sz' sz with
    | true => ∃ c, xs[idx.toNat]? = some c ∧ f02 P t (vals c) k fun av => K av st h
    | false => False
   | _ => False
  | _ => k03 P o st h K
 | .store t a x => match rdO st a with
  | .box i off => match nth st.bx i, o9 (rdO st x), I5 P t with
   | some (.live cs ty), some new, some n => match x04 new n, K02 st new with
    | true, true => i0i cs off new fun cs => K (.val undef) (st.withBx (P8 st.bx i (.live cs ty))) h
    | _, _ => False
   | _, _, _ => False
  | .oel i s idx sz k => rfy (rdO st x) st h fun v st h => match nth st.ow i, I5 P t with
   | some ⟨s', .live e sz' by_ nn xs⟩, some n => match x04 v.cells.toList n, g02 v.cells.toList, Nat.beq s' s, Nat.beq sz' sz with
    | true, true, true, true => ∃ c, xs[idx.toNat]? = some c ∧ i0i c k v.cells.toList fun c' =>
      K (.val undef) (st.withOw (P8 st.ow i ⟨s', .live e sz' by_ nn (xs.set idx.toNat c')⟩)) h
    | _, _, _, _ => False
   | _, _ => False
  | .hel s idx sz k => match rdO st x with
   | .val v => match I5 P t with
    | some 1 => A04 h s idx (idx.toNat * sz + k) v fun h' => K (.val undef) st h'
    | some n => match x04 v.cells.toList n, g02 v.cells.toList with
     | true, true => n03 h s idx (idx.toNat * sz + k) v.cells.toList fun h' => K (.val undef) st h'
     | _, _ => False
    | _ => False
   | .agg cs => match I5 P t, U09 cs with
    | some n, some new => match x04 new n, g02 new with
     | true, true => n03 h s idx (idx.toNat * sz + k) new fun h' => K (.val undef) st h'
     | _, _ => False
    | _, _ => False
   | _ => False
  | _ => k03 P o st h K
 | .build t ps => match P.underlying t, N9 P t with
  | some (.struct fs), some z => match l03 P fs.toList with
   | true => z04 P fs (rdO st) ps.toList (vals z.cells.toList) fun cs => K (.agg cs) st h
   | false => False
  | _, _ => False
 | .buildSlice t n ps => match O9 P t with
  | some e => match I5 P e, P07 P e, N9 P e with
   | some (sz + 1), some by_, some z => match Nat.beq n ps.size, Nat.ble (n * (sz + 1)) 16777216, x04 z.cells.toList (sz + 1) with
    | true, true, true => R0d (sz + 1) 0 ps.toList st h fun xs st h => newOwn st e (sz + 1) by_ true xs fun av st => K av st h
    | _, _, _ => False
   | _, _, _ => False
  | none => False
 | .makeSlice t l c => match O9 P t with
  | some e => match I5 P e, P07 P e, N9 P e, rdO st l, rdO st c with
   | some (sz + 1), some by_, some z, .val (.int _ nl), .val (.int _ nc) => match x04 z.cells.toList (sz + 1), g02 z.cells.toList with
    | true, true => (0 ≤ nl ∧ nl ≤ nc ∧ nc * by_ ≤ 140737488355328 ∧ nc ≤ 9223372036854775807) ∧
      newOwn st e (sz + 1) by_ true (List.replicate nl.toNat z.cells.toList) fun av st => K av st h
    | _, _ => False
   | _, _, _, _, _ => False
  | none => False
 | .field t x k => match y04 (rdO st x), P.underlying t with
  | some cs, some (.struct fs) => match fs[k]? with
   | some f => f02 P f.type cs f.offset fun av => K av st h
   | none => False
  | _, _ => False
 | .slice t x lo hi none => match rdO st x with
  | .own i _ => match O9 P t with
   | some e => match I5 P e with
    | some _ => O0f i (lo.map (rdO st)) (hi.map (rdO st)) st h K
    | none => False
   | none => False
  | .val (.slice a n c) => match O9 P t with
   | some e => match I5 P e with
    | some sz => Q0f sz (.slice a n c) n (lo.map (rdO st)) (hi.map (rdO st)) st h K
    | none => False
   | none => False
  | .val (.string s) => match P.underlying t with
   | some .string => k0j s (lo.map (rdO st)) (hi.map (rdO st)) st h K
   | _ => False
  | _ => False
 | .index t x i => match rdO st x, rdO st i, P.underlying t with
  | .val (.string s), .val (.int _ j), some .string => ∃ c, (0 ≤ j ∧ s[j.toNat]? = some c) ∧ K (.val (.int .u8 c.toNat)) st h
  | _, _, _ => k03 P o st h K
 | .binOp .eql t x y _ => match h02 (rdO st x), h02 (rdO st y) with
  | some (.agg xs), some (.agg ys) => ∃ b, U08 P o x y (.agg xs) (.agg ys) b ∧ K (.val (.bool b)) st h
  | _, _ => M0f P o st h K
 | .binOp .neq t x y _ => match h02 (rdO st x), h02 (rdO st y) with
  | some (.agg xs), some (.agg ys) => ∃ b, U08 P o x y (.agg xs) (.agg ys) b ∧ K (.val (.bool b)) st h
  | _, _ => M0f P o st h K
 | .binOp .add t x y _ => match rdO st x, rdO st y with
  | .val (.string a), .val (.string b) => a.size + b.size ≤ 9223372036854775807 ∧ K (.val (.string (a ++ b))) st h
  | _, _ => k03 P o st h K
 | .binOp .quo t x y _ => match rdO st x, rdO st y with
  | .val (.int .i64 a), .val (.int .i64 b) => b ≠ 0 ∧ K (.val (.int .i64 (IntKind.i64.wrap (a.tdiv b)))) st h
  | _, _ => k03 P o st h K
 | .binOp .rem t x y _ => match rdO st x, rdO st y with
  | .val (.int .i64 a), .val (.int .i64 b) => b ≠ 0 ∧ K (.val (.int .i64 (a.tmod b))) st h
  | _, _ => k03 P o st h K
 | .binOp .shl t x y _ => match rdO st x, rdO st y with
  | .val (.int .i64 a), .val (.int .i64 b) => 0 ≤ b ∧ K (.val (.int .i64 (IntKind.i64.wrap (a * 2 ^ min b.toNat 64)))) st h
  | _, _ => k03 P o st h K
 | .binOp .shr t x y _ => match rdO st x, rdO st y with
  | .val (.int .i64 a), .val (.int .i64 b) => 0 ≤ b ∧ K (.val (.int .i64 (a.fdiv (2 ^ min b.toNat 64)))) st h
  | _, _ => k03 P o st h K
 | .convert tf tt x => match rdO st x with
  | .own i _ => match nth st.ow i, P.underlying tf, P.underlying tt with
   | some ⟨_, .live _ _ _ _ xs⟩, some (.slice e), some .string => match P.underlying e with
    | some (.int .u8) => ∃ ns : List Int, xs = ns.map (fun n => [.int .u8 n]) ∧ K (.val (.string (strOfNums ns))) st h
    | _ => False
   | _, _, _ => M0f P o st h K
  | _ => M0f P o st h K
 | .call { callee := .builtin .len, args := as, argTypes := ts } => match as.toList, ts.toList with
  | [x], [t] => match rdO st x with
   | .own i _ => match nth st.ow i, O9 P t with
    | some ⟨_, .live _ _ _ _ xs⟩, some _ => K (.val (.int .i64 xs.length)) st h
    | _, _ => False
   | _ => k03 P o st h K
  | _, _ => False
 | .call { callee := .builtin .append, args := as, argTypes := ts } => match as.toList, ts.toList with
  | [a, b], [t, t'] => match Nat.beq t t' with
   | true => W09 P t a b st h K
   | false => False
  | _, _ => False
 | _ => M0f P o st h K
end Go.H
