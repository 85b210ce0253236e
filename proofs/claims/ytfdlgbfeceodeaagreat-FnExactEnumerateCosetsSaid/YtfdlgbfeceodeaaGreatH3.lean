/- Plain laws over the model: what a function's code asks: regions with guards, regions that draw their order, branches and loops. -/
import Derived.Test.YtfdlgbfeceodeaaGreatH2
namespace Go.H
set_option linter.unusedVariables false
structure BE where
 j : Nat
 d : Nat
 e : Bool
 ch : List (Nat × Bool)
structure RS where
 st : St
 h : Hp
 gf : List (Nat × List (Nat × Bool) × AV)
 bs : List BE
def q0a : List (Nat × List (Nat × Bool) × AV) → Nat → Option (List (Nat × Bool) × AV)
 | [], _ => none
 | (k, x) :: r, s => match Nat.beq k s with
  | true => some x
  | false => q0a r s
def eqB (a b : Bool) : Bool := match a, b with
 | true, true => true
 | false, false => true
 | _, _ => false
def Q0i : List (Nat × Bool) → List (Nat × Bool) → Bool
 | [], [] => true
 | (j, w) :: r, (j', w') :: r' => match Nat.beq j j', eqB w w' with
  | true, true => Q0i r r'
  | _, _ => false
 | _, _ => false
def f0e (a : List (Nat × Bool)) : List (Nat × Bool) → Bool
 | [] => Q0i a []
 | x :: r => match Q0i a (x :: r) with
  | true => true
  | false => f0e a r
def rdG (rs : RS) (ch : List (Nat × Bool)) : Operand → AV
 | .tmp t => match q0a rs.gf t with
  | some (ch2, av) => match f0e ch2 ch with
   | true => rdA rs.st av
   | false => .dead
  | none => rdA rs.st (D2 rs.st.fr t)
 | x => rdO rs.st x
def A00 : List BE → Nat → Option BE
 | [], _ => none
 | b :: r, j => match Nat.beq b.j j with
  | true => some b
  | false => A00 r j
def Y06 : List BE → Nat → Option BE
 | [], _ => none
 | b :: r, s => match Nat.beq b.d s with
  | true => some b
  | false => Y06 r s
def lit (w e : Bool) : Bool := match w with
 | true => e
 | false => !e
def cB (bs : List BE) : List (Nat × Bool) → Option Bool
 | [] => some true
 | (j, w) :: r => match A00 bs j with
  | some b => match r with
   | [] => some (lit w b.e)
   | _ => match cB bs r with
    | some c => some (lit w b.e && c)
    | none => none
  | none => none
def B8 (bs : List BE) : Option (Nat × Bool) → Option (List (Nat × Bool))
 | none => some []
 | some (j, w) => match A00 bs j with
  | some b => some ((j, w) :: b.ch)
  | none => none
def imp (ch : List (Nat × Bool)) (c : Bool) (X : Prop) : Prop := match ch with
 | [] => X
 | _ => c = true → X
def g0e (rs : RS) (ch : List (Nat × Bool)) : List Operand → Option (List (Nat × Value))
 | [] => some []
 | .tmp t :: r => match j02 (rdG rs ch (.tmp t)) with
  | some v => match g0e rs ch r with
   | some vs => some ((t, v) :: vs)
   | none => none
  | none => none
 | .global _ :: _ => none
 | _ :: r => g0e rs ch r
def g0k (rs : RS) (ch : List (Nat × Bool)) : List Operand → St → Hp → (List (Nat × Value) → St → Hp → Prop) → Prop
 | [], st, h, K => K [] st h
 | .tmp t :: r, st, h, K => rfy (rdA st (rdG rs ch (.tmp t))) st h fun v st h => g0k rs ch r st h fun vs st h => K ((t, v) :: vs) st h
 | .global _ :: _, _, _, _ => False
 | _ :: r, st, h, K => g0k rs ch r st h K
def n0d (P : Program) (o : Oper) (ch : List (Nat × Bool)) (c : Bool) (rs : RS) (K : AV → Prop) : Prop :=
 match n09 o.op, g0e rs ch o.op.operands.toList with
 | false, some vs => match c06 (rho vs) o with
  | some (f, l) => match okF P f with
   | true => ∃ v, imp ch c (Tr P f l.toArray rs.h fun v' h' => v' = v ∧ h' = rs.h) ∧ K (.val v)
   | false => False
  | none => match evP P (c0e (rho vs) o) with
   | some (.value v) => K (.val v)
   | _ => False
 | false, none => ∃ r, imp ch c (g0k rs ch o.op.operands.toList rs.st rs.h fun vs _ hf => match c06 (rho vs) o with
  | some (f, l) => match okF P f with
   | true => Tr P f l.toArray hf fun v h' => v = r ∧ h' = hf
   | false => False
  | none => False) ∧ K (.val r)
 | _, _ => False
def evG (P : Program) (o : Oper) (ch : List (Nat × Bool)) (c : Bool) (rs : RS) (K : AV → Prop) : Prop :=
 match o.op with
 | .move x | .assign x => match rdG rs ch x with
  | .dead => False
  | a => K a
 | .pick (.tmp s) a b => match rdG rs ch (.tmp s), Y06 rs.bs s with
  | .val (.bool e), some q => match f0e q.ch ch with
   | true => match rdG rs ((q.j, true) :: q.ch) a, rdG rs ((q.j, false) :: q.ch) b with
    | .val (.bool x), .val (.bool y) => K (.val (.bool (cond e x y)))
    | _, _ => False
   | false => False
  | _, _ => False
 | .fieldAddr t x k => match rdG rs ch x, k0d P t k with
  | .box i off, some fo => K (.box i (off + fo))
  | .hel s i sz k, some fo => K (.hel s i sz (k + fo))
  | .oel i s j sz k, some fo => K (.oel i s j sz (k + fo))
  | _, _ => False
 | .indexAddr t x i => match rdG rs ch i with
  | .val (.int _ j) => match V9 P t with
   | some e => match I5 P e with
    | some sz => match rdG rs ch x with
     | .val (.slice a n cp) => imp ch c (InB (.slice a n cp) j) ∧ K (.hel (.slice a n cp) j sz 0)
     | .own i k => match nth rs.st.ow i with
      | some ⟨_, .live _ sz' _ _ xs⟩ => match Nat.beq sz' sz with
       | true => imp ch c (0 ≤ j ∧ j < (xs.length : Int)) ∧ K (.oel i k j sz 0)
       | false => False
      | _ => False
     | _ => False
    | none => False
   | none => False
  | _ => False
 | .load t x => match rdG rs ch x with
  | .box i off => match nth rs.st.bx i with
   | some (.live cs _) => h02 P t cs off K
   | _ => False
  | .hel s idx sz k => ∃ e, imp ch c (i7 rs.h s sz idx e) ∧ h02 P t (vals e) k K
  | .oel i _ idx sz k => match nth rs.st.ow i with
   | some ⟨_, .live _ sz' _ _ xs⟩ => match Nat.beq sz' sz with
    | true => ∃ e, imp ch c (xs[idx.toNat]? = some e) ∧ h02 P t (vals e) k K
    | false => False
   | _ => False
  | _ => False
 | .build t ps => match P.underlying t, U9 P t with
  | some (.struct fs), some z => match o03 P fs.toList with
   | true => P04 P fs (rdG rs ch) ps.toList (vals z.cells.toList) fun cs => K (.agg cs)
   | false => False
  | _, _ => False
 | .index t x i => match rdG rs ch x, rdG rs ch i, P.underlying t with
  | .val (.string s), .val (.int _ j), some .string => ∃ e, imp ch c (0 ≤ j ∧ s[j.toNat]? = some e) ∧ K (.val (.int .u8 e.toNat))
  | _, _, _ => False
 | .slice t x lo hi none => match rdG rs ch x, P.underlying t with
  | .val (.string s), some .string => match H02 0 (lo.map (rdG rs ch)), H02 s.size (hi.map (rdG rs ch)) with
   | some l, some m => imp ch c (0 ≤ l ∧ l ≤ m ∧ m ≤ (s.size : Int)) ∧ K (.val (.string (s.extract l.toNat m.toNat)))
   | _, _ => False
  | .val (.slice ad n cp), _ => match V9 P t with
   | some e => match I5 P e with
    | some sz => match H02 0 (lo.map (rdG rs ch)), H02 n (hi.map (rdG rs ch)) with
     | some l, some m => ∃ v, imp ch c ((0 ≤ l ∧ l ≤ m ∧ m ≤ (n : Int) ∧ n ≤ cp) ∧ W0f sz (.slice ad n cp) l.toNat m.toNat v) ∧ K (.val v)
     | _, _ => False
    | none => False
   | none => False
  | _, _ => False
 | .binOp .eql t x y yt => match j02 (rdG rs ch x), j02 (rdG rs ch y) with
  | some (.agg xs), some (.agg ys) => ∃ b, imp ch c (o09 P o x y (.agg xs) (.agg ys) b) ∧ K (.val (.bool b))
  | some (.slice a n m), some (.slice none 0 0) => ∃ b, imp ch c (o09 P o x y (.slice a n m) (.slice none 0 0) b) ∧ K (.val (.bool b))
  | _, _ => n0d P o ch c rs K
 | .binOp .neq t x y yt => match j02 (rdG rs ch x), j02 (rdG rs ch y) with
  | some (.agg xs), some (.agg ys) => ∃ b, imp ch c (o09 P o x y (.agg xs) (.agg ys) b) ∧ K (.val (.bool b))
  | _, _ => n0d P o ch c rs K
 | .binOp .add t x y yt => match rdG rs ch x, rdG rs ch y with
  | .val (.string a), .val (.string b) => imp ch c (a.size + b.size ≤ 9223372036854775807) ∧ K (.val (.string (a ++ b)))
  | _, _ => n0d P o ch c rs K
 | .binOp .quo t x y yt => match rdG rs ch x, rdG rs ch y with
  | .val (.int .i64 a), .val (.int .i64 b) => imp ch c (b ≠ 0) ∧ K (.val (.int .i64 (IntKind.i64.wrap (a.tdiv b))))
  | _, _ => n0d P o ch c rs K
 | .binOp .rem t x y yt => match rdG rs ch x, rdG rs ch y with
  | .val (.int .i64 a), .val (.int .i64 b) => imp ch c (b ≠ 0) ∧ K (.val (.int .i64 (a.tmod b)))
  | _, _ => n0d P o ch c rs K
 | .call { callee := .builtin .len, args := as, argTypes := ts } => match as.toList, ts.toList with
  | [x], [t] => match rdG rs ch x with
   | .own i _ => match nth rs.st.ow i, V9 P t with
    | some ⟨_, .live _ _ _ _ xs⟩, some _ => K (.val (.int .i64 xs.length))
    | _, _ => False
   | _ => n0d P o ch c rs K
  | _, _ => False
 | _ => n0d P o ch c rs K
def Q04 (rs : RS) (d : Nat) : Bool := match q0a rs.gf d, Y06 rs.bs d with
 | none, none => false
 | _, _ => true
def h0e (i d : Nat) (ch : List (Nat × Bool)) (av : AV) (bs : List BE) : List BE := match av with
 | .val (.bool e) => ⟨i, d, e, ch⟩ :: bs
 | _ => bs
def r0a (d : Option Tmp) (i : Nat) (ch : List (Nat × Bool)) (av : AV) (rs : RS) (K : RS → Prop) : Prop :=
 match d with
 | none => K rs
 | some d => match Nat.blt d rs.st.n, Q04 rs d with
  | true, false => match ch with
   | [] => K { rs with st := { rs.st with fr := (d, av) :: rs.st.fr }, bs := h0e i d ch av rs.bs }
   | _ => K { rs with st := { rs.st with fr := (d, .dead) :: rs.st.fr }, gf := (d, ch, av) :: rs.gf, bs := h0e i d ch av rs.bs }
  | _, _ => False
def Y0f : Op → Bool
 | .pick .. => true
 | _ => false
def p09 (P : Program) : List Oper → Nat → RS → (RS → Prop) → Prop
 | [], _, rs, K => K rs
 | o :: r, i, rs, K => match o.guard, Y0f o.op with
  | none, false => A7 P o rs.st rs.h fun av st h => r0a o.dst i [] av { rs with st := st, h := h } fun rs => p09 P r (i + 1) rs K
  | _, _ => match B8 rs.bs o.guard with
   | some ch => match cB rs.bs ch with
    | some c => evG P o ch c rs fun av => r0a o.dst i ch av rs fun rs => p09 P r (i + 1) rs K
    | none => False
   | none => False
def evQ (P : Program) : List Oper → Nat → RS → (RS → Prop) → Prop
 | [], _, rs, K => K rs
 | o :: r, i, rs, K => match B8 rs.bs o.guard with
  | some ch => match cB rs.bs ch with
   | some c => evG P o ch c rs fun av => r0a o.dst i ch av rs fun rs => evQ P r (i + 1) rs K
   | none => False
  | none => False
def Sub (h h' : Hp) : Prop := ∀ b o, h b = some o → h' b = some o
def R0i (v : Value) (K : Value → Prop) : Prop := match v with
 | .bool b => K (.bool b)
 | .int k n => K (.int k n)
 | .string s => K (.string s)
 | .pointer a => K (.pointer a)
 | .slice a n c => K (.slice a n c)
 | .func f x y => K (.func f x y)
 | .agg cs => K (.agg cs)
 | .tuple vs => K (.tuple vs)
 | v => K v
theorem X0h (v : Value) (K : Value → Prop) : R0i v K = K v := by cases v <;> rfl
def P9 {α : Type} : List α → (List α → Prop) → Prop
 | [], K => K []
 | x :: r, K => P9 r fun r => K (x :: r)
theorem q00 {α : Type} : ∀ (l : List α) (K : List α → Prop), P9 l K = K l
 | [], K => rfl
 | x :: r, K => by simp only [P9, q00 r]
def k02 : Nat → (Nat → Prop) → Prop
 | 0, K => K 0
 | n + 1, K => k02 n fun m => K (m + 1)
theorem R04 : ∀ (n : Nat) (K : Nat → Prop), k02 n K = K n
 | 0, K => rfl
 | n + 1, K => by simp only [k02, R04 n]
def J00 (av : AV) (K : AV → Prop) : Prop := match av with
 | .val v => R0i v fun v => K (.val v)
 | .own i k => K (.own i k)
 | .box i k => K (.box i k)
 | .hel s i z k => k02 z fun z => k02 k fun k => K (.hel s i z k)
 | .oel j s i z k => k02 z fun z => k02 k fun k => K (.oel j s i z k)
 | .agg cs => P9 cs fun cs => K (.agg cs)
 | .dead => K .dead
theorem r00 (av : AV) (K : AV → Prop) : J00 av K = K av := by
 cases av with
 | val v => exact X0h v (fun v => K (.val v))
 | hel s i z k => simp only [J00, R04]
 | oel j s i z k => simp only [J00, R04]
 | agg cs => simp only [J00, q00]
 | _ => rfl
inductive J5 where
 | pu (av : AV)
 | ef (F : Value → Hp → Prop)
def L1 : List (Nat × J5) → Nat → Option J5
 | [], _ => none
 | (k, x) :: r, s => match Nat.beq k s with
  | true => some x
  | false => L1 r s
def rdS (L : List (Nat × J5)) (st : St) : Operand → AV
 | .tmp t => match L1 L t with
  | some (.pu av) => rdA st av
  | some (.ef _) => .dead
  | none => rdA st (D2 st.fr t)
 | x => rdO st x
def s0a (P : Program) (t : TypeId) (cs : List c5) (off : Nat) : Option AV :=
 match j0d P t with
 | some true => match I5 P t with
  | some n => match N04 ((cs.drop off).take n) n with
   | true => some (.agg ((cs.drop off).take n))
   | false => none
  | none => none
 | some false => match nth cs off with
  | some c => some (ofCell c)
  | none => none
 | none => none
def v06 (P : Program) (L : List (Nat × J5)) (o : Oper) (st : St) : Option AV := match o.op with
 | .move x | .assign x => match rdS L st x with
  | .dead => none
  | a => some a
 | .load t x => match rdS L st x with
  | .box i off => match nth st.bx i with
   | some (.live cs _) => s0a P t cs off
   | _ => none
  | _ => none
 | _ => none
def S04 (L : List (Nat × J5)) (st : St) (h : Hp) : List Operand → List (Nat × AV) → (List (Nat × AV) → Prop) → Prop
 | [], acc, K => K acc
 | .tmp t :: r, acc, K => match L1 L t with
  | some (.pu av) => S04 L st h r ((t, av) :: acc) K
  | some (.ef F) => ∀ v, F v h → S04 L st h r ((t, .val v) :: acc) K
  | none => S04 L st h r ((t, D2 st.fr t) :: acc) K
 | _ :: r, acc, K => S04 L st h r acc K
def i0e (h : Hp) : List (Nat × J5) → List (Nat × AV) → (List (Nat × AV) → Prop) → Prop
 | [], fr, K => K fr
 | (d, .pu av) :: r, fr, K => i0e h r ((d, av) :: fr) K
 | (d, .ef F) :: r, fr, K => ∀ v, F v h → i0e h r ((d, .val v) :: fr) K
def l02 (d : Option Tmp) (f : J5) (L : List (Nat × J5)) : List (Nat × J5) := match d with
 | some d => (d, f) :: L
 | none => L
def V0k (st : St) (h : Hp) (F : Value → Hp → Prop) : AV → St → Hp → Prop
 | .val v, st', h' => st' = st ∧ Sub h h' ∧ F v h'
 | _, _, _ => False
def evS (P : Program) : List Oper → List (Nat × J5) → St → Hp → (St → Hp → Prop) → Prop
 | [], L, ⟨n, fr, bx, ow⟩, h, K => ∀ h', Sub h h' → i0e h' L fr fun fr => K ⟨n, fr, bx, ow⟩ h'
 | o :: r, L, ⟨n, fr, bx, ow⟩, h, K => match o.guard with
  | some _ => False
  | none => match v06 P L o ⟨n, fr, bx, ow⟩ with
   | some av => J00 av fun av => evS P r (l02 o.dst (.pu av) L) ⟨n, fr, bx, ow⟩ h K
   | none => ∃ F : Value → Hp → Prop, (∀ v h1 h2, Sub h1 h2 → F v h1 → F v h2) ∧
     (∀ h', Sub h h' → S04 L ⟨n, fr, bx, ow⟩ h' o.op.operands.toList [] fun fr => A7 P o ⟨n, fr, bx, ow⟩ h' (V0k ⟨n, fr, bx, ow⟩ h' F)) ∧
     evS P r (l02 o.dst (.ef F) L) ⟨n, fr, bx, ow⟩ h K
def M8 (i : Nat) (o : Oper) : Bool := o.after.toList.any fun e => Region.binds .any e && Nat.beq e.on i
def s00 (o : Oper) (t : Nat) : List Oper → Nat → Bool
 | [], _ => true
 | x :: r, i => match x.dst with
  | some d => match Nat.beq d t with
   | true => M8 i o && s00 o t r (i + 1)
   | false => s00 o t r (i + 1)
  | none => s00 o t r (i + 1)
def Z06 (o : Oper) (ops : List Oper) : List Operand → Bool
 | [] => true
 | .tmp t :: r => s00 o t ops 0 && Z06 o ops r
 | _ :: r => Z06 o ops r
def T04 (d : Nat) : List Oper → Bool
 | [] => true
 | o :: r => match o.dst with
  | some d' => !Nat.beq d d' && T04 d r
  | none => T04 d r
def j0e (n : Nat) : List Oper → Bool
 | [] => true
 | o :: r => match o.dst with
  | some d => Nat.blt d n && T04 d r && j0e n r
  | none => j0e n r
def q09 : List Oper → Nat → Bool
 | [], _ => true
 | o :: r, j => (o.after.toList.all fun e => !Region.binds .any e || Nat.blt e.on j) && q09 r (j + 1)
def T0g (ops : List Oper) : List Oper → Bool
 | [] => true
 | o :: r => Z06 o ops o.op.operands.toList && T0g ops r
def H8 (n : Nat) (ops : List Oper) : Bool := j0e n ops && q09 ops 0 && T0g ops ops
def U0g : List c5 → Bool
 | [] => true
 | .val _ :: r => U0g r
 | .own _ _ :: _ => false
def o0d : AV → Bool
 | .val _ => true
 | .box _ _ => true
 | .own _ _ => true
 | .agg cs => U0g cs
 | _ => false
def b03 (L : List (Nat × J5)) (st : St) : Operand → AV
 | .tmp t => match L1 L t with
  | some (.pu av) => av
  | some (.ef _) => .dead
  | none => D2 st.fr t
 | .const v => .val v
 | _ => .dead
def r09 (L : List (Nat × J5)) (st : St) : List Operand → Option (List (Nat × Value))
 | [] => some []
 | .tmp t :: r => match b03 L st (.tmp t) with
  | .val v => match r09 L st r with
   | some vs => some ((t, v) :: vs)
   | none => none
  | _ => none
 | .global _ :: _ => none
 | _ :: r => r09 L st r
def Z0f (P : Program) (L : List (Nat × J5)) (o : Oper) (st : St) : Option AV := match n09 o.op, r09 L st o.op.operands.toList with
 | false, some vs => match c06 (rho vs) o with
  | some _ => none
  | none => match evP P (c0e (rho vs) o) with
   | some (.value v) => some (.val v)
   | _ => none
 | _, _ => none
def T0l : AV → Bool
 | .val (.int _ _) => true
 | _ => false
def k0m : BinOp → Bool
 | .lss => true
 | .leq => true
 | .gtr => true
 | .geq => true
 | _ => false
def d06 (P : Program) (L : List (Nat × J5)) (o : Oper) (st : St) : Option AV := match o.op with
 | .move x => match o0d (b03 L st x) with
  | true => some (b03 L st x)
  | false => none
 | .assign x => match o0d (b03 L st x) with
  | true => some (b03 L st x)
  | false => none
 | .load t x => match b03 L st x with
  | .box i off => match nth st.bx i with
   | some (.live cs _) => match s0a P t cs off with
    | some av => match o0d av with
     | true => some av
     | false => none
    | none => none
   | _ => none
  | _ => none
 | .fieldAddr t x k => match b03 L st x, k0d P t k with
  | .box i off, some fo => some (.box i (off + fo))
  | _, _ => none
 | .binOp op _ x y _ => match k0m op, T0l (b03 L st x), T0l (b03 L st y) with
  | true, true, true => Z0f P L o st
  | _, _, _ => none
 | .call { callee := .builtin .len, args := as, argTypes := _ } => match as.toList with
  | [x] => match b03 L st x with
   | .val (.slice _ _ _) => Z0f P L o st
   | _ => none
  | _ => none
 | _ => none
def g9 (L : List (Nat × J5)) (st : St) : List Oper → List Nat
 | [] => []
 | o :: r => match o.op with
  | .load _ x => match b03 L st x with
   | .box i _ => i :: g9 L st r
   | _ => g9 L st r
  | _ => g9 L st r
def e06 (bx : List BSt) : List Nat → List (Option BSt)
 | [] => []
 | i :: r => nth bx i :: e06 bx r
def U04 (L : List (Nat × J5)) (fr0 : List (Nat × AV)) : List Operand → List (Nat × AV) → (List (Nat × AV) → Prop) → Prop
 | [], acc, K => K acc
 | .tmp t :: r, acc, K => match L1 L t with
  | some (.pu av) => U04 L fr0 r ((t, av) :: acc) K
  | some (.ef _) => U04 L fr0 r ((t, .dead) :: acc) K
  | none => U04 L fr0 r ((t, D2 fr0 t) :: acc) K
 | _ :: r, acc, K => U04 L fr0 r acc K
def a0g : List (Nat × J5) → List (Nat × AV) → List (Nat × AV)
 | [], fr => fr
 | (d, .pu av) :: r, fr => (d, av) :: a0g r fr
 | (d, .ef _) :: r, fr => (d, .dead) :: a0g r fr
def V0g (av : AV) (st : St) (h : Hp) : AV → St → Hp → Prop := fun av' st' h' => av' = av ∧ st' = st ∧ h' = h
def k0e (P : Program) (st : St) (h : Hp) (L : List (Nat × J5)) (o : Oper) (av : AV) : Prop :=
 match st with
 | ⟨n, fr, bx, ow⟩ => ∀ h', Sub h h' → U04 L fr o.op.operands.toList [] fun fr => A7 P o ⟨n, fr, bx, ow⟩ h' (V0g av ⟨n, fr, bx, ow⟩ h')
def q01 (P : Program) (st : St) (h : Hp) : List Oper → Nat → List (Nat × J5) → List (Nat × Oper) → List (Nat × Oper) → (List (Nat × J5) → List (Nat × Oper) → List (Nat × Oper) → Prop) → Prop
 | [], _, L, X, E, K => K L X E
 | o :: r, i, L, X, E, K => match o.guard with
  | some _ => False
  | none => match d06 P L o st with
   | some av => J00 av fun av => q01 P st h r (i + 1) (l02 o.dst (.pu av) L) X E K
   | none => (∃ av, k0e P st h L o av ∧ J00 av fun av => q01 P st h r (i + 1) (l02 o.dst (.pu av) L) (X ++ [(i, o)]) E K) ∨
     q01 P st h r (i + 1) (l02 o.dst (.ef fun _ _ => True) L) X (E ++ [(i, o)]) K
def p0d (X : List (Nat × Oper)) : Nat → Nat → Oper → Bool
 | 0, i, q => M8 i q
 | n + 1, i, q => M8 i q || X.any fun y => M8 y.1 q && p0d X n i y.2
def c03 (X Y : List (Nat × Oper)) : List (Nat × Oper) → Bool
 | [] => true
 | (_, q) :: _ => X.all fun x => p0d Y 8 x.1 q
def C00 : List (Nat × Oper) → Bool
 | (i, o) :: (j, o') :: r => M8 i o' && C00 ((j, o') :: r)
 | _ => true
def m02 : Nat → Nat → Oper → Bool
 | 0, _, _ => true
 | k + 1, i, o => (Nat.beq k i || M8 k o) && m02 k i o
def V04 (d : Nat) : List Operand → Bool
 | [] => false
 | .tmp t :: r => Nat.beq t d || V04 d r
 | _ :: r => V04 d r
def t0a (d : Nat) : List Oper → Bool
 | [] => false
 | o :: r => V04 d o.op.operands.toList || t0a d r
def b9 : List Oper → List Oper
 | [] => []
 | o :: r => match r with
  | [] => []
  | _ :: _ => o :: b9 r
def u0a : List Oper → Option Oper
 | [] => none
 | o :: r => match r with
  | [] => some o
  | _ :: _ => u0a r
def S0i (ops : List Oper) : Option Oper := match u0a ops with
 | some o => match o.guard, o.dst with
  | none, some d => match t0a d (b9 ops) && m02 (b9 ops).length (b9 ops).length o with
   | true => some o
   | false => none
  | _, _ => none
 | none => none
def G01 (P : Program) (o : Oper) (st : St) (h : Hp) (K : St → Hp → Prop) : Prop :=
 A7 P o st h fun av st h => r0a o.dst 0 [] av ⟨st, h, [], []⟩ fun rs => K rs.st rs.h
def W0g (N i : Nat) (o : Oper) : List (Nat × Oper) → Bool
 | [] => m02 N i o
 | _ :: _ => false
def U0l (c : Nat) (b : Bool) (rd : List Nat) (bx bx' : List BSt) : Prop := match b with
 | true => True
 | false => match c with
  | 0 => e06 bx' rd = e06 bx rd
  | _ + 1 => bx' = bx
def n0l : Nat → List Own → List Own → Hp → Hp → Prop
 | 0, _, _, _, _ => True
 | _ + 1, ow, ow', h, h' => ow' = ow ∧ Sub h h'
def evC (rd : List Nat) (N : Nat) (P : Program) : Nat → List (Nat × Oper) → List (Nat × J5) → St → Hp → (St → Hp → Prop) → Prop
 | _, [], L, ⟨n, fr, bx, ow⟩, h, K => P9 (a0g L fr) fun fr => K ⟨n, fr, bx, ow⟩ h
 | c, (i, o) :: r, L, ⟨n, fr, bx, ow⟩, h, K => U04 L fr o.op.operands.toList [] fun fr1 => A7 P o ⟨n, fr1, bx, ow⟩ h fun av st' h' => match st' with
  | ⟨_, _, bx', ow'⟩ => n0l c ow ow' h h' ∧ U0l c (W0g N i o r) rd bx bx' ∧ J00 av fun av => P9 bx' fun bx' => P9 ow' fun ow' => evC rd N P (c - 1) r (l02 o.dst (.pu av) L) ⟨n, fr, bx', ow'⟩ h' K
abbrev FL := List (Nat × List (Nat × Bool) × J5)
def m01 : FL → Nat → Option (List (Nat × Bool) × J5)
 | [], _ => none
 | (k, x) :: r, s => match Nat.beq k s with
  | true => some x
  | false => m01 r s
def rdU (L : FL) (st : St) (ch : List (Nat × Bool)) : Operand → AV
 | .tmp t => match m01 L t with
  | some (ch2, .pu av) => match f0e ch2 ch with
   | true => rdA st av
   | false => .dead
  | some (_, .ef _) => .dead
  | none => rdA st (D2 st.fr t)
 | x => rdO st x
def f06 (P : Program) (L : FL) (bs : List BE) (ch : List (Nat × Bool)) (o : Oper) (st : St) : Option AV := match o.op with
 | .move x | .assign x => match rdU L st ch x with
  | .dead => none
  | a => some a
 | .load t x => match rdU L st ch x with
  | .box i off => match nth st.bx i with
   | some (.live cs _) => s0a P t cs off
   | _ => none
  | _ => none
 | .fieldAddr t x k => match rdU L st ch x, k0d P t k with
  | .box i off, some fo => some (.box i (off + fo))
  | .hel s i sz k, some fo => some (.hel s i sz (k + fo))
  | _, _ => none
 | .pick (.tmp s) a b => match rdU L st ch (.tmp s), Y06 bs s with
  | .val (.bool e), some q => match f0e q.ch ch with
   | true => match rdU L st ((q.j, true) :: q.ch) a, rdU L st ((q.j, false) :: q.ch) b with
    | .val (.bool x), .val (.bool y) => some (.val (.bool (cond e x y)))
    | _, _ => none
   | false => none
  | _, _ => none
 | _ => none
def y04 (L : FL) (st : St) (h : Hp) (ch : List (Nat × Bool)) : List Operand → List (Nat × AV) → (List (Nat × AV) → Prop) → Prop
 | [], acc, K => K acc
 | .tmp t :: r, acc, K => match m01 L t with
  | some (ch2, f) => match f0e ch2 ch with
   | true => match f with
    | .pu av => y04 L st h ch r ((t, av) :: acc) K
    | .ef F => ∀ v, F v h → y04 L st h ch r ((t, .val v) :: acc) K
   | false => False
  | none => y04 L st h ch r ((t, D2 st.fr t) :: acc) K
 | _ :: r, acc, K => y04 L st h ch r acc K
def Y0b (h : Hp) : FL → List (Nat × AV) → (List (Nat × AV) → Prop) → Prop
 | [], fr, K => K fr
 | (d, [], .pu av) :: r, fr, K => Y0b h r ((d, av) :: fr) K
 | (d, [], .ef F) :: r, fr, K => ∀ v, F v h → Y0b h r ((d, .val v) :: fr) K
 | (d, _ :: _, _) :: r, fr, K => Y0b h r ((d, .dead) :: fr) K
def q0d (d : Option Tmp) (ch : List (Nat × Bool)) (f : J5) (L : FL) : FL := match d with
 | some d => (d, ch, f) :: L
 | none => L
def r0d (i : Nat) (d : Option Tmp) (ch : List (Nat × Bool)) (av : AV) (bs : List BE) : List BE := match d with
 | some d => match av with
  | .val (.bool e) => ⟨i, d, e, ch⟩ :: bs
  | _ => bs
 | none => bs
def b0g (st st' : St) : Prop := st'.n = st.n ∧ st'.fr = st.fr ∧ st'.bx = st.bx ∧ ∃ t, st'.ow = st.ow ++ t
def T0i (st : St) (h : Hp) (F : Value → Hp → Prop) : AV → St → Hp → Prop := fun av st' h' => rfy av st' h' fun v st'' h'' => b0g st st'' ∧ Sub h h'' ∧ F v h''
def evU (P : Program) (l : List Oper) : Nat → FL → List BE → St → Hp → (St → Hp → Prop) → Prop :=
  List.rec (motive := fun _ => Nat → FL → List BE → St → Hp → (St → Hp → Prop) → Prop)
    (fun _ L _ st h K => match st with
      | ⟨n, fr, bx, ow⟩ => ∀ h', Sub h h' → Y0b h' L fr fun fr => K ⟨n, fr, bx, ow⟩ h')
    (fun o _ ih i L bs st h K => match st with
      | ⟨n, fr, bx, ow⟩ => match B8 bs o.guard with
        | some ch => match cB bs ch with
          | some c => match f06 P L bs ch o ⟨n, fr, bx, ow⟩ with
            | some av => J00 av fun av => ih (i + 1) (q0d o.dst ch (.pu av) L) (r0d i o.dst ch av bs) ⟨n, fr, bx, ow⟩ h K
            | none => (∃ av, (∀ h', Sub h h' → imp ch c (y04 L ⟨n, fr, bx, ow⟩ h' ch o.op.operands.toList [] fun fr => A7 P o ⟨n, fr, bx, ow⟩ h' (V0g av ⟨n, fr, bx, ow⟩ h'))) ∧
                  J00 av fun av => ih (i + 1) (q0d o.dst ch (.pu av) L) (r0d i o.dst ch av bs) ⟨n, fr, bx, ow⟩ h K) ∨
                (∃ F : Value → Hp → Prop, (∀ v h1 h2, Sub h1 h2 → F v h1 → F v h2) ∧
                  (∀ h', Sub h h' → imp ch c (y04 L ⟨n, fr, bx, ow⟩ h' ch o.op.operands.toList [] fun fr => A7 P o ⟨n, fr, bx, ow⟩ h' (T0i ⟨n, fr, bx, ow⟩ h' F))) ∧
                  ih (i + 1) (q0d o.dst ch (.ef F) L) bs ⟨n, fr, bx, ow⟩ h K)
          | none => False
        | none => False) l
def c0a : List Oper → Bool
 | [] => true
 | o :: r => (match o.guard with
  | some (j, _) => M8 j o
  | none => true) && c0a r
def A01 (n : Nat) (ops : List Oper) : Bool := H8 n ops && c0a ops
def h0k (P : Program) : List Oper → Bool
 | [] => false
 | o :: r => (match o.guard, o.op with
  | some _, .call { callee := .value _, args := _, argTypes := _ } => match P.underlying o.type with
   | some (.slice _) => true
   | some (.struct _) => true
   | some (.tuple _) => true
   | _ => false
  | _, _ => false) || h0k P r
def Z01 (o : Oper) : Bool := match o.op with
 | .alloc _ => true
 | _ => false
def I8 (o : Oper) : Oper := match o.op with
 | .alloc _ => { o with op := .move (.const undef) }
 | _ => o
def W4 : List Oper → List Oper
 | [] => []
 | o :: r => I8 o :: W4 r
def okA (P : Program) (all : List Oper) : List Oper → Bool
 | [] => true
 | o :: r => (match o.op with
  | .alloc t => (match o.guard, o.dst, U9 P t with
   | none, some d, some _ => !t0a d all
   | _, _, _ => false)
  | _ => true) && okA P all r
def c0g (x : Nat) : List Nat → Bool
 | [] => false
 | y :: r => Nat.beq x y || c0g x r
def i0k (ops : List Oper) (i : Nat) : List Nat → Bool
 | [] => false
 | j :: r => (match nth ops j with
  | some o => M8 i o
  | none => false) || i0k ops i r
def k0c (ops : List Oper) : Nat → List Nat → List Nat
 | 0, acc => acc
 | i + 1, acc => match i0k ops i acc with
  | true => k0c ops i (i :: acc)
  | false => k0c ops i acc
def a07 (o : Oper) : Option Nat := match o.guard with
 | some _ => none
 | none => match o.op with
  | .extract (.tmp t) _ => some t
  | .move (.tmp t) => some t
  | .assign (.tmp t) => some t
  | _ => none
def b07 (d : Nat) : List Oper → Bool
 | [] => false
 | o :: r => (match o.dst with
  | some e => Nat.beq e d
  | none => false) || b07 d r
def r03 (ml : List Nat) (t : Nat) : List Oper → Nat → Bool
 | [], _ => true
 | o :: r, i => (match o.dst with
  | some e => !Nat.beq e t || c0g i ml
  | none => true) && r03 ml t r (i + 1)
def s03 (i d : Nat) : List Oper → Bool
 | [] => true
 | o :: r => (!V04 d o.op.operands.toList || M8 i o) && s03 i d r
def X0g (pre tl : List Oper) (ml : List Nat) (i : Nat) (o : Oper) : Bool := match a07 o, o.dst with
 | some t, some d => !b07 d tl && !b07 t tl && r03 ml t pre 0 && s03 i d tl
 | _, _ => false
def d0a (pre tl : List Oper) (ml : List Nat) : List Oper → Nat → Bool
 | [], _ => true
 | o :: r, i => (c0g i ml || X0g pre tl ml i o) && d0a pre tl ml r (i + 1)
def l0e : List Oper → Bool
 | [] => true
 | o :: r => !n09 o.op && l0e r
def U0i : Nat → List Oper → Bool
 | _, [] => true
 | k, o :: r => (match o.guard with
  | none => true
  | some _ => false) && (match r with
  | [] => true
  | o' :: _ => M8 k o') && U0i (k + 1) r
def V0l : List Oper → Bool
 | [] => true
 | _ :: _ => false
def okZ (P : Program) (n m : Nat) (ops : List Oper) : Bool :=
 A01 n (W4 (ops.take m)) && okA P (ops.take m) (ops.take m) && q09 ops 0 && U0i m (ops.drop m) && (V0l (ops.drop m) || (d0a (ops.take m) (ops.drop m) (k0c ops m [m]) (ops.take m) 0 && l0e (ops.drop m)))
abbrev o0l := Oper → St → Hp → (St → Hp → Prop) → Prop
def doA (R : o0l) (l : List Oper) : St → Hp → (St → Hp → Prop) → Prop :=
 List.rec (motive := fun _ => St → Hp → (St → Hp → Prop) → Prop) (fun st h K => K st h) (fun o _ ih st h K => match Z01 o with
  | true => R o st h fun st h => ih st h K
  | false => ih st h K) l
def doT (R : o0l) (l : List Oper) : St → Hp → (St → Hp → Prop) → Prop :=
 List.rec (motive := fun _ => St → Hp → (St → Hp → Prop) → Prop) (fun st h K => K st h) (fun o _ ih st h K => R o st h fun st h => ih st h K) l
def evT (P : Program) (R : o0l) (m : Nat) (ops : List Oper) (st : St) (h : Hp) (K : St → Hp → Prop) : Prop :=
 evU P (W4 (ops.take m)) 0 [] [] st h fun st h => doA R (ops.take m) st h fun st h => doT R (ops.drop m) st h K
inductive Ex where
 | normal | ret
 | exit (i : Nat)
structure Ann where
 vars : List Nat
 boxes : List Nat
 owns : List Nat
 nils : List (Nat × Nat × Nat × Nat) := []
 nilsB : List (Nat × Nat × Nat × Nat × Nat) := []
 kept : List Nat := []
 fuel : Bool := false
 pubs : List Nat := []
def m0e : List (Nat × Nat × Nat × Nat) → St → (St → Prop) → Prop
 | [], st, K => K st
 | (s, e, sz, by_) :: r, ⟨n, fr, bx, ow⟩, K => match rdA ⟨n, fr, bx, ow⟩ (D2 fr s), Nat.blt s n with
  | .val (.slice none 0 0), true => U0f ow fun k => m0e r ⟨n, (s, .own k 0) :: fr, bx, ow ++ [⟨0, .live e sz by_ false []⟩]⟩ K
  | _, _ => False
def v0a : List (Nat × Nat × Nat × Nat × Nat) → St → (St → Prop) → Prop
 | [], st, K => K st
 | (i, k, e, sz, by_) :: r, ⟨n, fr, bx, ow⟩, K => match nth bx i with
  | some (.live cs ty) => match nth cs k with
   | some (.val (.slice none 0 0)) => U0f ow fun j => v0a r ⟨n, fr, L8 bx i (.live (L8 cs k (.own j 0)) ty), ow ++ [⟨0, .live e sz by_ false []⟩]⟩ K
   | _ => False
  | _ => False
def n0e : List Nat → St → Hp → (St → Hp → Prop) → Prop
 | [], st, h, K => K st h
 | s :: r, st, h, K => rfy (rdA st (D2 st.fr s)) st h fun v st h => match st with
  | ⟨n, fr, bx, ow⟩ => match Nat.blt s n with
   | true => n0e r ⟨n, (s, .val v) :: fr, bx, ow⟩ h K
   | false => False
def W05 (x : Nat) : List Nat → Bool
 | [] => false
 | y :: r => match Nat.beq x y with
  | true => true
  | false => W05 x r
def p0l : List Oper → List Nat → List Nat
 | [], acc => acc
 | o :: r, acc => match o.dst with
  | some d => p0l r (d :: acc)
  | none => p0l r acc
def Z0b : Code → List Nat → List Nat
 | .region _ ops _, acc => p0l ops.toList acc
 | .seq a b, acc => Z0b a (Z0b b acc)
 | .cond _ a b, acc => Z0b a (Z0b b acc)
 | .block _ a, acc => Z0b a acc
 | .loop a, acc => Z0b a acc
 | .scope a, acc => Z0b a acc
 | _, acc => acc
def o08 : List Nat → (List Nat → Prop) → Prop
 | [], K => K []
 | x :: r, K => o08 r fun r => K (x :: r)
def j0k : List Nat → St → (List Value → Prop) → Prop
 | [], _, K => K []
 | s :: r, st, K => match rdA st (D2 st.fr s) with
  | .val v => j0k r st fun vs => K (v :: vs)
  | _ => False
def o0e : List c5 → St → (List Value → Prop) → Prop
 | [], _, K => K []
 | .val v :: r, st, K => o0e r st fun vs => K (v :: vs)
 | .own _ _ :: r, st, K => o0e r st K
def w0a : List Nat → St → (List Value → Prop) → Prop
 | [], _, K => K []
 | i :: r, st, K => match nth st.bx i with
  | some (.live cs _) => o0e cs st fun vs => w0a r st fun ws => K (vs ++ ws)
  | _ => False
def l0c : List Nat → St → (List (List (List Value)) → Prop) → Prop
 | [], _, K => K []
 | i :: r, st, K => match nth st.ow i with
  | some ⟨_, .live _ _ _ _ xs⟩ => l0c r st fun os => K (xs :: os)
  | _ => False
def d0g (A : Ann) (st : St) (K : List Value → List (List (List Value)) → Prop) : Prop :=
 j0k A.vars st fun vs => w0a A.boxes st fun ws => l0c A.owns st fun os => K (vs ++ ws) os
def B01 : List c5 → List Value → (List c5 → List Value → Prop) → Prop
 | [], vs, K => K [] vs
 | .val _ :: r, v :: vs, K => B01 r vs fun cs rest => K (.val v :: cs) rest
 | .val _ :: _, [], _ => False
 | .own i k :: r, vs, K => B01 r vs fun cs rest => K (.own i k :: cs) rest
def t03 : List Nat → List Value → List BSt → (List BSt → Prop) → Prop
 | [], _, bx, K => K bx
 | i :: r, vs, bx, K => match nth bx i with
  | some (.live cs ty) => B01 cs vs fun cs rest => t03 r rest (L8 bx i (.live cs ty)) K
  | _ => False
def u03 : List Nat → List (List (List Value)) → List Own → (List Own → Prop) → Prop
 | [], _, ow, K => K ow
 | i :: r, xs :: os, ow, K => match nth ow i with
  | some ⟨s, .live e sz by_ nn _⟩ => u03 r os (L8 ow i ⟨s, .live e sz by_ nn xs⟩) K
  | _ => False
 | _ :: _, [], _, _ => False
def W04 {α : Type} : Nat → List α → (List α → List α → Prop) → Prop
 | 0, l, K => K [] l
 | n + 1, x :: l, K => W04 n l fun a b => K (x :: a) b
 | _ + 1, [], _ => False
def g06 (A : Ann) (st : St) : List Nat → List (Nat × AV) → (List (Nat × AV) → Prop) → Prop
 | [], acc, K => K acc
 | s :: r, acc, K => match W05 s A.vars with
  | true => g06 A st r acc K
  | false => match rdA st (D2 st.fr s) with
   | .own i k => g06 A st r ((s, .own i k) :: acc) K
   | .box i o => g06 A st r ((s, .box i o) :: acc) K
   | _ => g06 A st r ((s, .dead) :: acc) K
def Y0g : List c5 → Bool
 | [] => true
 | .val _ :: r => Y0g r
 | .own _ _ :: _ => false
def v03 (A : Ann) (ds : List Nat) (st : St) : List (Nat × AV) → (List (Nat × AV) → Prop) → Prop
 | [], K => K []
 | (s, av) :: r, K => match W05 s ds with
  | true => v03 A ds st r K
  | false => match rdA st av with
   | .own i k => match W05 i A.owns, W05 i A.kept with
    | true, false => v03 A ds st r fun l => K ((s, .dead) :: l)
    | _, _ => v03 A ds st r fun l => K ((s, .own i k) :: l)
   | .oel _ _ _ _ _ => v03 A ds st r fun l => K ((s, .dead) :: l)
   | .agg cs => match Y0g cs with
    | true => v03 A ds st r fun l => K ((s, .agg cs) :: l)
    | false => v03 A ds st r fun l => K ((s, .dead) :: l)
   | a => v03 A ds st r fun l => K ((s, a) :: l)
def p08 : List Nat → List Value → List (Nat × AV) → List (Nat × AV)
 | s :: r, v :: vs, acc => p08 r vs ((s, .val v) :: acc)
 | _, _, acc => acc
def s09 (head end_ : St) : List (Nat × AV) → Bool
 | [] => true
 | (s, av) :: r => match av with
  | .own i _ => match rdA end_ (D2 end_.fr s) with
   | .own j _ => match Nat.beq i j with
    | true => s09 head end_ r
    | false => false
   | _ => false
  | .box i o => match rdA end_ (D2 end_.fr s) with
   | .box j p => match Nat.beq i j, Nat.beq o p with
    | true, true => s09 head end_ r
    | _, _ => false
   | _ => false
  | _ => s09 head end_ r
def e0g : AV → Bool
 | .dead => true
 | _ => false
def Y0h : List (Nat × AV) → List AV
 | [] => []
 | (_, av) :: r => match e0g av with
  | true => Y0h r
  | false => av :: Y0h r
def m0c (fr : List (Nat × AV)) : List (Nat × AV) → List AV
 | [] => []
 | (s, av) :: r => match e0g av with
  | true => m0c fr r
  | false => D2 fr s :: m0c fr r
def w03 (head end_ : St) : List c5 → List c5 → Bool
 | [], [] => true
 | .val _ :: r, .val _ :: r' => w03 head end_ r r'
 | .own i _ :: r, .own j k' :: r' => match Nat.beq i j, rdA end_ (.own j k') with
  | true, .own _ _ => w03 head end_ r r'
  | _, _ => false
 | _, _ => false
def c07 (os : List Nat) : List c5 → Bool
 | [] => true
 | .val _ :: r => c07 os r
 | .own i _ :: r => match W05 i os with
  | true => false
  | false => c07 os r
def f0g (os : List Nat) : BSt → Bool
 | .live cs _ => c07 os cs
 | .publ _ => true
def q08 (A : Ann) (head end_ : St) : Nat → List BSt → List BSt → Prop
 | _, [], _ => True
 | i, b :: r, b' :: r' => match W05 i A.boxes with
  | true => match b, b' with
   | .live cs ty, .live cs' ty' => match Nat.beq ty ty', w03 head end_ cs cs' with
    | true, true => q08 A head end_ (i + 1) r r'
    | _, _ => False
   | _, _ => False
  | false => match f0g A.owns b with
   | true => b' = b ∧ q08 A head end_ (i + 1) r r'
   | false => False
 | _, _ :: _, [] => False
def leB (a b : Bool) : Bool := match a with
 | true => b
 | false => true
def r08 (A : Ann) : Nat → List Own → List Own → Prop
 | _, [], _ => True
 | i, b :: r, b' :: r' => match W05 i A.owns with
  | true => match b, b' with
   | ⟨s, .live e sz by_ nn _⟩, ⟨s', .live e' sz' by' nn' _⟩ => match Nat.beq e e', Nat.beq sz sz', Nat.beq by_ by', leB nn nn', leB (W05 i A.kept) (Nat.beq s s') with
    | true, true, true, true, true => r08 A (i + 1) r r'
    | _, _, _, _, _ => False
   | _, _ => False
  | false => b' = b ∧ r08 A (i + 1) r r'
 | _, _ :: _, [] => False
def d07 : Nat → (List Value → Prop) → Prop
 | 0, K => K []
 | n + 1, K => ∀ v, d07 n fun vs => K (v :: vs)
def e07 : Nat → (List (List (List Value)) → Prop) → Prop
 | 0, K => K []
 | n + 1, K => ∀ xs, e07 n fun os => K (xs :: os)
abbrev s08 := List Value → List (List (List Value)) → Hp → Prop
abbrev z04 := List Value → List (List (List Value)) → Nat
def k0k : List Value → List Value → Bool
 | [], [] => true
 | _ :: r, _ :: r' => k0k r r'
 | _, _ => false
def p0e (A : Ann) (I : s08) (vs : List Value) (os : List (List (List Value))) (h : Hp) : Prop := match A.fuel with
 | false => I vs os h
 | true => ∃ m : Nat, I (.int .i64 m :: vs) os h
def q0e (A : Ann) (I : s08) (μ : z04) (vs : List Value) (os : List (List (List Value))) (X : Nat → Hp → Prop) : Prop := match A.fuel with
 | false => ∀ h', I vs os h' → X (μ vs os) h'
 | true => ∀ (m : Nat) (h' : Hp), I (.int .i64 m :: vs) os h' → X m h'
def l0k (A : Ann) (I : s08) (μ : z04) (m : Nat) (vs : List Value) (os : List (List (List Value))) (h : Hp) : Prop := match A.fuel with
 | false => I vs os h ∧ μ vs os < m
 | true => ∃ m' : Nat, I (.int .i64 m' :: vs) os h ∧ m' < m
def atI (A : Ann) (I : s08) (μ : z04) (m : Nat) (vs : List Value) (os : List (List (List Value))) (h : Hp) : Prop := match A.fuel with
 | false => I vs os h ∧ m = μ vs os
 | true => I (.int .i64 m :: vs) os h
theorem V0i {A : Ann} {I : s08} {μ : z04} {vs : List Value} {os : List (List (List Value))} {h : Hp} (hh : p0e A I vs os h) : ∃ m, atI A I μ m vs os h := by
 unfold p0e at hh
 unfold atI
 cases hf : A.fuel with
 | false => rw [hf] at hh; exact ⟨_, hh, rfl⟩
 | true => rw [hf] at hh; exact hh
theorem W0i {A : Ann} {I : s08} {μ : z04} {vs : List Value} {os : List (List (List Value))} {X : Nat → Hp → Prop} (hh : q0e A I μ vs os X) {m : Nat} {h : Hp} (ha : atI A I μ m vs os h) : X m h := by
 unfold q0e at hh
 unfold atI at ha
 cases hf : A.fuel with
 | false => rw [hf] at hh ha; rw [ha.2]; exact hh _ ha.1
 | true => rw [hf] at hh ha; exact hh _ _ ha
theorem m0k {A : Ann} {I : s08} {μ : z04} {m : Nat} {vs : List Value} {os : List (List (List Value))} {h : Hp} (hh : l0k A I μ m vs os h) : ∃ m', atI A I μ m' vs os h ∧ m' < m := by
 unfold l0k at hh
 unfold atI
 cases hf : A.fuel with
 | false => rw [hf] at hh; exact ⟨_, ⟨hh.1, rfl⟩, hh.2⟩
 | true => rw [hf] at hh; exact hh
def X0i (A : Ann) (dyn sta : List (Nat × AV)) (st0 : St) (I : s08) (μ : z04) (vs0 : List Value) (m : Nat) (st : St) (h : Hp) : Prop :=
 match Nat.beq st.n st0.n, s09 st0 st dyn with
 | true, true => m0c st.fr sta = Y0h sta ∧ q08 A st0 st 0 st0.bx st.bx ∧ r08 A 0 st0.ow st.ow ∧
   d0g A st fun vs os => match k0k vs vs0 with
    | true => W04 A.vars.length vs fun _ v2 => t03 A.boxes v2 st0.bx fun _ => u03 A.owns os st0.ow fun _ => l0k A I μ m vs os h
    | false => False
 | _, _ => False
def Z0g (body : (Ex → St → Hp → Prop) → St → Hp → Prop) (ds0 : List Nat) (Q : Ex → St → Hp → Prop) (st : St) (h : Hp) : Prop :=
 ∃ (A : Ann) (I : s08) (μ : z04), m0e A.nils st fun st => v0a A.nilsB st fun st => n0e A.pubs st h fun st h => d0g A st fun vs0 os0 => p0e A I vs0 os0 h ∧
  o08 ds0 fun ds => g06 A st ds [] fun dyn => v03 A ds st st.fr fun sta =>
   d07 vs0.length fun vs => e07 os0.length fun os => q0e A I μ vs os fun m h' =>
    W04 A.vars.length vs fun v1 v2 => t03 A.boxes v2 st.bx fun bx => u03 A.owns os st.ow fun ow =>
     body (fun e st' h'' => match e with
      | .normal => n0e A.pubs st' h'' fun st' h'' => X0i A dyn sta st I μ vs m st' h''
      | e => Q e st' h'') ⟨st.n, p08 A.vars v1 (dyn ++ sta), bx, ow⟩ h'
def Y0i (b : Bool) (X Y : Prop) : Prop := (b = true → X) ∧ (b = false → Y)
def ev (P : Program) : Code → (Ex → St → Hp → Prop) → St → Hp → Prop
 | .skip, Q, st, h => Q .normal st h
 | .region _ ops false, Q, st, h => match h0k P ops.toList with
  | true => A01 st.n ops.toList = true ∧ evU P ops.toList 0 [] [] st h fun st h => Q .normal st h
  | false => p09 P ops.toList 0 ⟨st, h, [], []⟩ fun rs => Q .normal rs.st rs.h
 | .region _ ops true, Q, st, h => ((P.follows .mixedOrders = true ∧ Region.lexB .any ops = true) ∧
   evQ P ops.toList 0 ⟨st, h, [], []⟩ fun rs => Q .normal rs.st rs.h) ∨
   ((P.follows .mixedOrders = true ∧ H8 st.n ops.toList = true) ∧ evS P ops.toList [] st h fun st h => Q .normal st h) ∨
   (match S0i ops.toList with
    | none => (P.follows .mixedOrders = true ∧ H8 st.n ops.toList = true) ∧ q01 P st h ops.toList 0 [] [] [] fun L X E => ∃ c, (C00 E = true ∧ c03 X (X ++ E) (E.drop c) = true) ∧ evC (g9 L st ops.toList) ops.size P c E L st h fun st h => Q .normal st h
    | some o => (P.follows .mixedOrders = true ∧ (H8 st.n (b9 ops.toList) && q09 ops.toList 0) = true) ∧ q01 P st h (b9 ops.toList) 0 [] [] [] fun L X E => ∃ c, (C00 E = true ∧ c03 X (X ++ E) (E.drop c) = true) ∧ evC (g9 L st (b9 ops.toList)) (b9 ops.toList).length P c E L st h fun st h => G01 P o st h fun st h => Q .normal st h) ∨
   ((P.follows .mixedOrders = true ∧ A01 st.n ops.toList = true) ∧ evU P ops.toList 0 [] [] st h fun st h => Q .normal st h) ∨
   (∃ m, (P.follows .mixedOrders = true ∧ okZ P st.n m ops.toList = true) ∧ evT P (G01 P) m ops.toList st h fun st h => Q .normal st h)
 | .seq a b, Q, st, h => ev P a (fun e st h => match e with
  | .normal => ev P b Q st h
  | e => Q e st h) st h
 | .cond c t e, Q, st, h => match rdO st c with
  | .val (.bool b) => Y0i b (ev P t Q st h) (ev P e Q st h)
  | _ => False
 | .block id c, Q, st, h => ev P c (fun e st h => match e with
  | .exit i => match Nat.beq i id with
   | true => Q .normal st h
   | false => Q (.exit i) st h
  | e => Q e st h) st h
 | .loop body, Q, st, h => Z0g (fun Q => ev P body Q) (Z0b body []) Q st h
 | .exit id, Q, st, h => Q (.exit id) st h
 | .ret, Q, st, h => Q .ret st h
 | _, _, _, _ => False
def g0g (P : Program) : List ResultVar → St → Hp → (List Value → St → Hp → Prop) → Prop
 | [], st, h, K => K [] st h
 | .tmp t :: r, st, h, K => rfy (rdA st (D2 st.fr t)) st h fun v st h => g0g P r st h fun vs st h => K (v :: vs) st h
 | .cell t ty :: r, st, h, K => match rdA st (D2 st.fr t) with
  | .box i off => match nth st.bx i with
   | some (.live cs _) => h02 P ty cs off fun av => rfy av st h fun v st h => g0g P r st h fun vs st h => K (v :: vs) st h
   | _ => False
  | _ => False
def r0e : List Value → Value
 | [v] => v
 | vs => .tuple vs.toArray
def f07 : Nat → List Value → List (Nat × AV)
 | _, [] => []
 | i, v :: r => (i, .val v) :: f07 (i + 1) r
def q0l (P : Program) (fn : Func) (args : List Value) (h : Hp) (T : Value → Hp → Prop) : Prop :=
 match fn.body with
 | some c => match Nat.ble args.length fn.ntmps with
  | true => ev P c (fun e st h => match e with
   | .exit _ => False
   | _ => g0g P fn.results.toList st h fun vs _ h => T (r0e vs) h) ⟨fn.ntmps, f07 0 args, [], []⟩ h
  | false => False
 | none => False
end Go.H
