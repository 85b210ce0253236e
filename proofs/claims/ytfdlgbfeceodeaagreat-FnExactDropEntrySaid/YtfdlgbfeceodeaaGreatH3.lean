/- Plain laws over the model: what a function's code asks: regions with guards, regions that draw their order, branches and loops. -/
import Derived.Test.YtfdlgbfeceodeaaGreatH2
namespace Go.H
set_option linter.unusedVariables false
structure BE where
 j : Nat
 d : Nat
 e : Bool
 ch : List (Nat × Bool)
structure RS where
 st : St
 h : Hp
 gf : List (Nat × List (Nat × Bool) × AV)
 bs : List BE
def g06 : List (Nat × List (Nat × Bool) × AV) → Nat → Option (List (Nat × Bool) × AV)
 | [], _ => none
 | (k, x) :: r, s => match Nat.beq k s with
  | true => some x
  | false => g06 r s
def eqB (a b : Bool) : Bool := match a, b with
 | true, true => true
 | false, false => true
 | _, _ => false
def G0d : List (Nat × Bool) → List (Nat × Bool) → Bool
 | [], [] => true
 | (j, w) :: r, (j', w') :: r' => match Nat.beq j j', eqB w w' with
  | true, true => G0d r r'
  | _, _ => false
 | _, _ => false
def m09 (a : List (Nat × Bool)) : List (Nat × Bool) → Bool
 | [] => G0d a []
 | x :: r => match G0d a (x :: r) with
  | true => true
  | false => m09 a r
def rdG (rs : RS) (ch : List (Nat × Bool)) : Operand → AV
 | .tmp t => match g06 rs.gf t with
  | some (ch2, av) => match m09 ch2 ch with
   | true => rdA rs.st av
   | false => .dead
  | none => rdA rs.st (K1 rs.st.fr t)
 | x => rdO rs.st x
def H8 : List BE → Nat → Option BE
 | [], _ => none
 | b :: r, j => match Nat.beq b.j j with
  | true => some b
  | false => H8 r j
def S03 : List BE → Nat → Option BE
 | [], _ => none
 | b :: r, s => match Nat.beq b.d s with
  | true => some b
  | false => S03 r s
def lit (w e : Bool) : Bool := match w with
 | true => e
 | false => !e
def cB (bs : List BE) : List (Nat × Bool) → Option Bool
 | [] => some true
 | (j, w) :: r => match H8 bs j with
  | some b => match r with
   | [] => some (lit w b.e)
   | _ => match cB bs r with
    | some c => some (lit w b.e && c)
    | none => none
  | none => none
def I6 (bs : List BE) : Option (Nat × Bool) → Option (List (Nat × Bool))
 | none => some []
 | some (j, w) => match H8 bs j with
  | some b => some ((j, w) :: b.ch)
  | none => none
def imp (ch : List (Nat × Bool)) (c : Bool) (X : Prop) : Prop := match ch with
 | [] => X
 | _ => c = true → X
def n09 (rs : RS) (ch : List (Nat × Bool)) : List Operand → Option (List (Nat × Value))
 | [] => some []
 | .tmp t :: r => match p00 (rdG rs ch (.tmp t)) with
  | some v => match n09 rs ch r with
   | some vs => some ((t, v) :: vs)
   | none => none
  | none => none
 | .global _ :: _ => none
 | _ :: r => n09 rs ch r
def V0e (rs : RS) (ch : List (Nat × Bool)) : List Operand → St → Hp → (List (Nat × Value) → St → Hp → Prop) → Prop
 | [], st, h, K => K [] st h
 | .tmp t :: r, st, h, K => rfy (rdA st (rdG rs ch (.tmp t))) st h fun v st h => V0e rs ch r st h fun vs st h => K ((t, v) :: vs) st h
 | .global _ :: _, _, _, _ => False
 | _ :: r, st, h, K => V0e rs ch r st h K
def q08 (P : Program) (o : Oper) (ch : List (Nat × Bool)) (c : Bool) (rs : RS) (K : AV → Prop) : Prop :=
 match w0b o.op, n09 rs ch o.op.operands.toList with
 | false, some vs => match Q03 (rho vs) o with
  | some (f, l) => match okF P f with
   | true => ∃ v, imp ch c (Tr P f l.toArray rs.h fun v' h' => v' = v ∧ h' = rs.h) ∧ K (.val v)
   | false => False
  | none => match evP P (x0b (rho vs) o) with
   | some (.value v) => K (.val v)
   | _ => False
 | false, none => ∃ r, imp ch c (V0e rs ch o.op.operands.toList rs.st rs.h fun vs _ hf => match Q03 (rho vs) o with
  | some (f, l) => match okF P f with
   | true => Tr P f l.toArray hf fun v h' => v = r ∧ h' = hf
   | false => False
  | none => False) ∧ K (.val r)
 | _, _ => False
def evG (P : Program) (o : Oper) (ch : List (Nat × Bool)) (c : Bool) (rs : RS) (K : AV → Prop) : Prop :=
 match o.op with
 | .move x | .assign x => match rdG rs ch x with
  | .dead => False
  | a => K a
 | .pick (.tmp s) a b => match rdG rs ch (.tmp s), S03 rs.bs s with
  | .val (.bool e), some q => match m09 q.ch ch with
   | true => match rdG rs ((q.j, true) :: q.ch) a, rdG rs ((q.j, false) :: q.ch) b with
    | .val (.bool x), .val (.bool y) => K (.val (.bool (cond e x y)))
    | _, _ => False
   | false => False
  | _, _ => False
 | .fieldAddr t x k => match rdG rs ch x, n08 P t k with
  | .box i off, some fo => K (.box i (off + fo))
  | .hel s i sz k, some fo => K (.hel s i sz (k + fo))
  | .oel i s j sz k, some fo => K (.oel i s j sz (k + fo))
  | _, _ => False
 | .indexAddr t x i => match rdG rs ch i with
  | .val (.int _ j) => match V7 P t with
   | some e => match c4 P e with
    | some sz => match rdG rs ch x with
     | .val (.slice a n cp) => imp ch c (InB (.slice a n cp) j) ∧ K (.hel (.slice a n cp) j sz 0)
     | .own i k => match nth rs.st.ow i with
      | some ⟨_, .live _ sz' _ _ xs⟩ => match Nat.beq sz' sz with
       | true => imp ch c (0 ≤ j ∧ j < (xs.length : Int)) ∧ K (.oel i k j sz 0)
       | false => False
      | _ => False
     | _ => False
    | none => False
   | none => False
  | _ => False
 | .load t x => match rdG rs ch x with
  | .box i off => match nth rs.st.bx i with
   | some (.live cs _) => n00 P t cs off K
   | _ => False
  | .hel s idx sz k => ∃ e, imp ch c (Y7 rs.h s sz idx e) ∧ n00 P t (vals e) k K
  | .oel i _ idx sz k => match nth rs.st.ow i with
   | some ⟨_, .live _ sz' _ _ xs⟩ => match Nat.beq sz' sz with
    | true => ∃ e, imp ch c (xs[idx.toNat]? = some e) ∧ n00 P t (vals e) k K
    | false => False
   | _ => False
  | _ => False
 | .build t ps => match P.underlying t, S9 P t with
  | some (.struct fs), some z => match h01 P fs.toList with
   | true => r02 P fs (rdG rs ch) ps.toList (vals z.cells.toList) fun cs => K (.agg cs)
   | false => False
  | _, _ => False
 | .index t x i => match rdG rs ch x, rdG rs ch i, P.underlying t with
  | .val (.string s), .val (.int _ j), some .string => ∃ e, imp ch c (0 ≤ j ∧ s[j.toNat]? = some e) ∧ K (.val (.int .u8 e.toNat))
  | _, _, _ => False
 | .slice t x lo hi none => match rdG rs ch x, P.underlying t with
  | .val (.string s), some .string => match G00 0 (lo.map (rdG rs ch)), G00 s.size (hi.map (rdG rs ch)) with
   | some l, some m => imp ch c (0 ≤ l ∧ l ≤ m ∧ m ≤ (s.size : Int)) ∧ K (.val (.string (s.extract l.toNat m.toNat)))
   | _, _ => False
  | .val (.slice ad n cp), _ => match V7 P t with
   | some e => match c4 P e with
    | some sz => match G00 0 (lo.map (rdG rs ch)), G00 n (hi.map (rdG rs ch)) with
     | some l, some m => ∃ v, imp ch c ((0 ≤ l ∧ l ≤ m ∧ m ≤ (n : Int) ∧ n ≤ cp) ∧ D0a sz (.slice ad n cp) l.toNat m.toNat v) ∧ K (.val v)
     | _, _ => False
    | none => False
   | none => False
  | _, _ => False
 | .binOp .eql t x y yt => match p00 (rdG rs ch x), p00 (rdG rs ch y) with
  | some (.agg xs), some (.agg ys) => ∃ b, imp ch c (x05 P o x y (.agg xs) (.agg ys) b) ∧ K (.val (.bool b))
  | some (.slice a n m), some (.slice none 0 0) => ∃ b, imp ch c (x05 P o x y (.slice a n m) (.slice none 0 0) b) ∧ K (.val (.bool b))
  | _, _ => q08 P o ch c rs K
 | .binOp .neq t x y yt => match p00 (rdG rs ch x), p00 (rdG rs ch y) with
  | some (.agg xs), some (.agg ys) => ∃ b, imp ch c (x05 P o x y (.agg xs) (.agg ys) b) ∧ K (.val (.bool b))
  | _, _ => q08 P o ch c rs K
 | .binOp .add t x y yt => match rdG rs ch x, rdG rs ch y with
  | .val (.string a), .val (.string b) => imp ch c (a.size + b.size ≤ 9223372036854775807) ∧ K (.val (.string (a ++ b)))
  | _, _ => q08 P o ch c rs K
 | .binOp .quo t x y yt => match rdG rs ch x, rdG rs ch y with
  | .val (.int .i64 a), .val (.int .i64 b) => imp ch c (b ≠ 0) ∧ K (.val (.int .i64 (IntKind.i64.wrap (a.tdiv b))))
  | _, _ => q08 P o ch c rs K
 | .binOp .rem t x y yt => match rdG rs ch x, rdG rs ch y with
  | .val (.int .i64 a), .val (.int .i64 b) => imp ch c (b ≠ 0) ∧ K (.val (.int .i64 (a.tmod b)))
  | _, _ => q08 P o ch c rs K
 | .call { callee := .builtin .len, args := as, argTypes := ts } => match as.toList, ts.toList with
  | [x], [t] => match rdG rs ch x with
   | .own i _ => match nth rs.st.ow i, V7 P t with
    | some ⟨_, .live _ _ _ _ xs⟩, some _ => K (.val (.int .i64 xs.length))
    | _, _ => False
   | _ => q08 P o ch c rs K
  | _, _ => False
 | _ => q08 P o ch c rs K
def T03 (rs : RS) (d : Nat) : Bool := match g06 rs.gf d, S03 rs.bs d with
 | none, none => false
 | _, _ => true
def o09 (i d : Nat) (ch : List (Nat × Bool)) (av : AV) (bs : List BE) : List BE := match av with
 | .val (.bool e) => ⟨i, d, e, ch⟩ :: bs
 | _ => bs
def r07 (d : Option Tmp) (i : Nat) (ch : List (Nat × Bool)) (av : AV) (rs : RS) (K : RS → Prop) : Prop :=
 match d with
 | none => K rs
 | some d => match Nat.blt d rs.st.n, T03 rs d with
  | true, false => match ch with
   | [] => K { rs with st := { rs.st with fr := (d, av) :: rs.st.fr }, bs := o09 i d ch av rs.bs }
   | _ => K { rs with st := { rs.st with fr := (d, .dead) :: rs.st.fr }, gf := (d, ch, av) :: rs.gf, bs := o09 i d ch av rs.bs }
  | _, _ => False
def F0a : Op → Bool
 | .pick .. => true
 | _ => false
def y05 (P : Program) : List Oper → Nat → RS → (RS → Prop) → Prop
 | [], _, rs, K => K rs
 | o :: r, i, rs, K => match o.guard, F0a o.op with
  | none, false => I5 P o rs.st rs.h fun av st h => r07 o.dst i [] av { rs with st := st, h := h } fun rs => y05 P r (i + 1) rs K
  | _, _ => match I6 rs.bs o.guard with
   | some ch => match cB rs.bs ch with
    | some c => evG P o ch c rs fun av => r07 o.dst i ch av rs fun rs => y05 P r (i + 1) rs K
    | none => False
   | none => False
def evQ (P : Program) : List Oper → Nat → RS → (RS → Prop) → Prop
 | [], _, rs, K => K rs
 | o :: r, i, rs, K => match I6 rs.bs o.guard with
  | some ch => match cB rs.bs ch with
   | some c => evG P o ch c rs fun av => r07 o.dst i ch av rs fun rs => evQ P r (i + 1) rs K
   | none => False
  | none => False
def Sub (h h' : Hp) : Prop := ∀ b o, h b = some o → h' b = some o
def H0d (v : Value) (K : Value → Prop) : Prop := match v with
 | .bool b => K (.bool b)
 | .int k n => K (.int k n)
 | .string s => K (.string s)
 | .pointer a => K (.pointer a)
 | .slice a n c => K (.slice a n c)
 | .func f x y => K (.func f x y)
 | .agg cs => K (.agg cs)
 | .tuple vs => K (.tuple vs)
 | v => K v
theorem H0c (v : Value) (K : Value → Prop) : H0d v K = K v := by cases v <;> rfl
def Q7 {α : Type} : List α → (List α → Prop) → Prop
 | [], K => K []
 | x :: r, K => Q7 r fun r => K (x :: r)
theorem w8 {α : Type} : ∀ (l : List α) (K : List α → Prop), Q7 l K = K l
 | [], K => rfl
 | x :: r, K => by simp only [Q7, w8 r]
def q00 : Nat → (Nat → Prop) → Prop
 | 0, K => K 0
 | n + 1, K => q00 n fun m => K (m + 1)
theorem s02 : ∀ (n : Nat) (K : Nat → Prop), q00 n K = K n
 | 0, K => rfl
 | n + 1, K => by simp only [q00, s02 n]
def R8 (av : AV) (K : AV → Prop) : Prop := match av with
 | .val v => H0d v fun v => K (.val v)
 | .own i k => K (.own i k)
 | .box i k => K (.box i k)
 | .hel s i z k => q00 z fun z => q00 k fun k => K (.hel s i z k)
 | .oel j s i z k => q00 z fun z => q00 k fun k => K (.oel j s i z k)
 | .agg cs => Q7 cs fun cs => K (.agg cs)
 | .dead => K .dead
theorem y8 (av : AV) (K : AV → Prop) : R8 av K = K av := by
 cases av with
 | val v => exact H0c v (fun v => K (.val v))
 | hel s i z k => simp only [R8, s02]
 | oel j s i z k => simp only [R8, s02]
 | agg cs => simp only [R8, w8]
 | _ => rfl
inductive L4 where
 | pu (av : AV)
 | ef (F : Value → Hp → Prop)
def U0 : List (Nat × L4) → Nat → Option L4
 | [], _ => none
 | (k, x) :: r, s => match Nat.beq k s with
  | true => some x
  | false => U0 r s
def rdS (L : List (Nat × L4)) (st : St) : Operand → AV
 | .tmp t => match U0 L t with
  | some (.pu av) => rdA st av
  | some (.ef _) => .dead
  | none => rdA st (K1 st.fr t)
 | x => rdO st x
def h06 (P : Program) (t : TypeId) (cs : List L3) (off : Nat) : Option AV :=
 match m08 P t with
 | some true => match c4 P t with
  | some n => match p02 ((cs.drop off).take n) n with
   | true => some (.agg ((cs.drop off).take n))
   | false => none
  | none => none
 | some false => match nth cs off with
  | some c => some (ofCell c)
  | none => none
 | none => none
def y03 (P : Program) (L : List (Nat × L4)) (o : Oper) (st : St) : Option AV := match o.op with
 | .move x | .assign x => match rdS L st x with
  | .dead => none
  | a => some a
 | .load t x => match rdS L st x with
  | .box i off => match nth st.bx i with
   | some (.live cs _) => h06 P t cs off
   | _ => none
  | _ => none
 | _ => none
def t02 (L : List (Nat × L4)) (st : St) (h : Hp) : List Operand → List (Nat × AV) → (List (Nat × AV) → Prop) → Prop
 | [], acc, K => K acc
 | .tmp t :: r, acc, K => match U0 L t with
  | some (.pu av) => t02 L st h r ((t, av) :: acc) K
  | some (.ef F) => ∀ v, F v h → t02 L st h r ((t, .val v) :: acc) K
  | none => t02 L st h r ((t, K1 st.fr t) :: acc) K
 | _ :: r, acc, K => t02 L st h r acc K
def p09 (h : Hp) : List (Nat × L4) → List (Nat × AV) → (List (Nat × AV) → Prop) → Prop
 | [], fr, K => K fr
 | (d, .pu av) :: r, fr, K => p09 h r ((d, av) :: fr) K
 | (d, .ef F) :: r, fr, K => ∀ v, F v h → p09 h r ((d, .val v) :: fr) K
def r00 (d : Option Tmp) (f : L4) (L : List (Nat × L4)) : List (Nat × L4) := match d with
 | some d => (d, f) :: L
 | none => L
def K0f (st : St) (h : Hp) (F : Value → Hp → Prop) : AV → St → Hp → Prop
 | .val v, st', h' => st' = st ∧ Sub h h' ∧ F v h'
 | _, _, _ => False
def evS (P : Program) : List Oper → List (Nat × L4) → St → Hp → (St → Hp → Prop) → Prop
 | [], L, ⟨n, fr, bx, ow⟩, h, K => ∀ h', Sub h h' → p09 h' L fr fun fr => K ⟨n, fr, bx, ow⟩ h'
 | o :: r, L, ⟨n, fr, bx, ow⟩, h, K => match o.guard with
  | some _ => False
  | none => match y03 P L o ⟨n, fr, bx, ow⟩ with
   | some av => R8 av fun av => evS P r (r00 o.dst (.pu av) L) ⟨n, fr, bx, ow⟩ h K
   | none => ∃ F : Value → Hp → Prop, (∀ v h1 h2, Sub h1 h2 → F v h1 → F v h2) ∧
     (∀ h', Sub h h' → t02 L ⟨n, fr, bx, ow⟩ h' o.op.operands.toList [] fun fr => I5 P o ⟨n, fr, bx, ow⟩ h' (K0f ⟨n, fr, bx, ow⟩ h' F)) ∧
     evS P r (r00 o.dst (.ef F) L) ⟨n, fr, bx, ow⟩ h K
def F9 (i : Nat) (o : Oper) : Bool := o.after.toList.any fun e => Region.binds .any e && Nat.beq e.on i
def z8 (o : Oper) (t : Nat) : List Oper → Nat → Bool
 | [], _ => true
 | x :: r, i => match x.dst with
  | some d => match Nat.beq d t with
   | true => F9 i o && z8 o t r (i + 1)
   | false => z8 o t r (i + 1)
  | none => z8 o t r (i + 1)
def U03 (o : Oper) (ops : List Oper) : List Operand → Bool
 | [] => true
 | .tmp t :: r => z8 o t ops 0 && U03 o ops r
 | _ :: r => U03 o ops r
def u02 (d : Nat) : List Oper → Bool
 | [] => true
 | o :: r => match o.dst with
  | some d' => !Nat.beq d d' && u02 d r
  | none => u02 d r
def q09 (n : Nat) : List Oper → Bool
 | [] => true
 | o :: r => match o.dst with
  | some d => Nat.blt d n && u02 d r && q09 n r
  | none => q09 n r
def i06 : List Oper → Nat → Bool
 | [], _ => true
 | o :: r, j => (o.after.toList.all fun e => !Region.binds .any e || Nat.blt e.on j) && i06 r (j + 1)
def y0b (ops : List Oper) : List Oper → Bool
 | [] => true
 | o :: r => U03 o ops o.op.operands.toList && y0b ops r
def W6 (n : Nat) (ops : List Oper) : Bool := q09 n ops && i06 ops 0 && y0b ops ops
def z0b : List L3 → Bool
 | [] => true
 | .val _ :: r => z0b r
 | .own _ _ :: _ => false
def r08 : AV → Bool
 | .val _ => true
 | .box _ _ => true
 | .own _ _ => true
 | .agg cs => z0b cs
 | _ => false
def K05 (L : List (Nat × L4)) (st : St) : Operand → AV
 | .tmp t => match U0 L t with
  | some (.pu av) => av
  | some (.ef _) => .dead
  | none => K1 st.fr t
 | .const v => .val v
 | _ => .dead
def m03 (P : Program) (L : List (Nat × L4)) (o : Oper) (st : St) : Option AV := match o.op with
 | .move x => match r08 (K05 L st x) with
  | true => some (K05 L st x)
  | false => none
 | .assign x => match r08 (K05 L st x) with
  | true => some (K05 L st x)
  | false => none
 | .load t x => match K05 L st x with
  | .box i off => match nth st.bx i with
   | some (.live cs _) => match h06 P t cs off with
    | some av => match r08 av with
     | true => some av
     | false => none
    | none => none
   | _ => none
  | _ => none
 | .fieldAddr t x k => match K05 L st x, n08 P t k with
  | .box i off, some fo => some (.box i (off + fo))
  | _, _ => none
 | _ => none
def v02 (L : List (Nat × L4)) (fr0 : List (Nat × AV)) : List Operand → List (Nat × AV) → (List (Nat × AV) → Prop) → Prop
 | [], acc, K => K acc
 | .tmp t :: r, acc, K => match U0 L t with
  | some (.pu av) => v02 L fr0 r ((t, av) :: acc) K
  | some (.ef _) => v02 L fr0 r ((t, .dead) :: acc) K
  | none => v02 L fr0 r ((t, K1 fr0 t) :: acc) K
 | _ :: r, acc, K => v02 L fr0 r acc K
def G0a : List (Nat × L4) → List (Nat × AV) → List (Nat × AV)
 | [], fr => fr
 | (d, .pu av) :: r, fr => (d, av) :: G0a r fr
 | (d, .ef _) :: r, fr => (d, .dead) :: G0a r fr
def A0b (av : AV) (st : St) (h : Hp) : AV → St → Hp → Prop := fun av' st' h' => av' = av ∧ st' = st ∧ h' = h
def r09 (P : Program) (st : St) (h : Hp) (L : List (Nat × L4)) (o : Oper) (av : AV) : Prop :=
 match st with
 | ⟨n, fr, bx, ow⟩ => ∀ h', Sub h h' → v02 L fr o.op.operands.toList [] fun fr => I5 P o ⟨n, fr, bx, ow⟩ h' (A0b av ⟨n, fr, bx, ow⟩ h')
def G9 (P : Program) (st : St) (h : Hp) : List Oper → Nat → List (Nat × L4) → List (Nat × Oper) → List (Nat × Oper) → (List (Nat × L4) → List (Nat × Oper) → List (Nat × Oper) → Prop) → Prop
 | [], _, L, X, E, K => K L X E
 | o :: r, i, L, X, E, K => match o.guard with
  | some _ => False
  | none => match m03 P L o st with
   | some av => R8 av fun av => G9 P st h r (i + 1) (r00 o.dst (.pu av) L) X E K
   | none => (∃ av, r09 P st h L o av ∧ R8 av fun av => G9 P st h r (i + 1) (r00 o.dst (.pu av) L) (X ++ [(i, o)]) E K) ∨
     G9 P st h r (i + 1) (r00 o.dst (.ef fun _ _ => True) L) X (E ++ [(i, o)]) K
def s08 (X : List (Nat × Oper)) : Nat → Nat → Oper → Bool
 | 0, i, q => F9 i q
 | n + 1, i, q => F9 i q || X.any fun y => F9 y.1 q && s08 X n i y.2
def W00 (X Y : List (Nat × Oper)) : List (Nat × Oper) → Bool
 | [] => true
 | (_, q) :: _ => X.all fun x => s08 Y 8 x.1 q
def J8 : List (Nat × Oper) → Bool
 | (i, o) :: (j, o') :: r => F9 i o' && J8 ((j, o') :: r)
 | _ => true
def s00 : Nat → Nat → Oper → Bool
 | 0, _, _ => true
 | k + 1, i, o => (Nat.beq k i || F9 k o) && s00 k i o
def H0a (d : Nat) : List Operand → Bool
 | [] => false
 | .tmp t :: r => Nat.beq t d || H0a d r
 | _ :: r => H0a d r
def I0d (d : Nat) : List Oper → Bool
 | [] => false
 | o :: r => H0a d o.op.operands.toList || I0d d r
def a8 : List Oper → List Oper
 | [] => []
 | o :: r => match r with
  | [] => []
  | _ :: _ => o :: a8 r
def j06 : List Oper → Option Oper
 | [] => none
 | o :: r => match r with
  | [] => some o
  | _ :: _ => j06 r
def J0d (ops : List Oper) : Option Oper := match j06 ops with
 | some o => match o.guard, o.dst with
  | none, some d => match I0d d (a8 ops) && s00 (a8 ops).length (a8 ops).length o with
   | true => some o
   | false => none
  | _, _ => none
 | none => none
def K0d (P : Program) (o : Oper) (st : St) (h : Hp) (K : St → Hp → Prop) : Prop :=
 I5 P o st h fun av st h => r07 o.dst 0 [] av ⟨st, h, [], []⟩ fun rs => K rs.st rs.h
def L0f (N i : Nat) (o : Oper) : List (Nat × Oper) → Bool
 | [] => s00 N i o
 | _ :: _ => false
def J0g (b : Bool) (bx bx' : List BSt) : Prop := match b with
 | true => True
 | false => bx' = bx
def c0g : Nat → List Own → List Own → Hp → Hp → Prop
 | 0, _, _, _, _ => True
 | _ + 1, ow, ow', h, h' => ow' = ow ∧ Sub h h'
def evC (N : Nat) (P : Program) : Nat → List (Nat × Oper) → List (Nat × L4) → St → Hp → (St → Hp → Prop) → Prop
 | _, [], L, ⟨n, fr, bx, ow⟩, h, K => Q7 (G0a L fr) fun fr => K ⟨n, fr, bx, ow⟩ h
 | c, (i, o) :: r, L, ⟨n, fr, bx, ow⟩, h, K => v02 L fr o.op.operands.toList [] fun fr1 => I5 P o ⟨n, fr1, bx, ow⟩ h fun av st' h' => match st' with
  | ⟨_, _, bx', ow'⟩ => c0g c ow ow' h h' ∧ J0g (L0f N i o r) bx bx' ∧ R8 av fun av => Q7 bx' fun bx' => Q7 ow' fun ow' => evC N P (c - 1) r (r00 o.dst (.pu av) L) ⟨n, fr, bx', ow'⟩ h' K
abbrev FL := List (Nat × List (Nat × Bool) × L4)
def D9 : FL → Nat → Option (List (Nat × Bool) × L4)
 | [], _ => none
 | (k, x) :: r, s => match Nat.beq k s with
  | true => some x
  | false => D9 r s
def rdU (L : FL) (st : St) (ch : List (Nat × Bool)) : Operand → AV
 | .tmp t => match D9 L t with
  | some (ch2, .pu av) => match m09 ch2 ch with
   | true => rdA st av
   | false => .dead
  | some (_, .ef _) => .dead
  | none => rdA st (K1 st.fr t)
 | x => rdO st x
def s09 (P : Program) (L : FL) (bs : List BE) (ch : List (Nat × Bool)) (o : Oper) (st : St) : Option AV := match o.op with
 | .move x | .assign x => match rdU L st ch x with
  | .dead => none
  | a => some a
 | .load t x => match rdU L st ch x with
  | .box i off => match nth st.bx i with
   | some (.live cs _) => h06 P t cs off
   | _ => none
  | _ => none
 | .fieldAddr t x k => match rdU L st ch x, n08 P t k with
  | .box i off, some fo => some (.box i (off + fo))
  | .hel s i sz k, some fo => some (.hel s i sz (k + fo))
  | _, _ => none
 | .pick (.tmp s) a b => match rdU L st ch (.tmp s), S03 bs s with
  | .val (.bool e), some q => match m09 q.ch ch with
   | true => match rdU L st ((q.j, true) :: q.ch) a, rdU L st ((q.j, false) :: q.ch) b with
    | .val (.bool x), .val (.bool y) => some (.val (.bool (cond e x y)))
    | _, _ => none
   | false => none
  | _, _ => none
 | _ => none
def e02 (L : FL) (st : St) (h : Hp) (ch : List (Nat × Bool)) : List Operand → List (Nat × AV) → (List (Nat × AV) → Prop) → Prop
 | [], acc, K => K acc
 | .tmp t :: r, acc, K => match D9 L t with
  | some (ch2, f) => match m09 ch2 ch with
   | true => match f with
    | .pu av => e02 L st h ch r ((t, av) :: acc) K
    | .ef F => ∀ v, F v h → e02 L st h ch r ((t, .val v) :: acc) K
   | false => False
  | none => e02 L st h ch r ((t, K1 st.fr t) :: acc) K
 | _ :: r, acc, K => e02 L st h ch r acc K
def t08 (h : Hp) : FL → List (Nat × AV) → (List (Nat × AV) → Prop) → Prop
 | [], fr, K => K fr
 | (d, [], .pu av) :: r, fr, K => t08 h r ((d, av) :: fr) K
 | (d, [], .ef F) :: r, fr, K => ∀ v, F v h → t08 h r ((d, .val v) :: fr) K
 | (d, _ :: _, _) :: r, fr, K => t08 h r ((d, .dead) :: fr) K
def u08 (d : Option Tmp) (ch : List (Nat × Bool)) (f : L4) (L : FL) : FL := match d with
 | some d => (d, ch, f) :: L
 | none => L
def v08 (i : Nat) (d : Option Tmp) (ch : List (Nat × Bool)) (av : AV) (bs : List BE) : List BE := match d with
 | some d => match av with
  | .val (.bool e) => ⟨i, d, e, ch⟩ :: bs
  | _ => bs
 | none => bs
def I0a (st st' : St) : Prop := st'.n = st.n ∧ st'.fr = st.fr ∧ st'.bx = st.bx ∧ ∃ t, st'.ow = st.ow ++ t
def L0d (st : St) (h : Hp) (F : Value → Hp → Prop) : AV → St → Hp → Prop := fun av st' h' => rfy av st' h' fun v st'' h'' => I0a st st'' ∧ Sub h h'' ∧ F v h''
def evU (P : Program) (l : List Oper) : Nat → FL → List BE → St → Hp → (St → Hp → Prop) → Prop :=
  List.rec (motive := fun _ => Nat → FL → List BE → St → Hp → (St → Hp → Prop) → Prop)
    (fun _ L _ st h K => match st with
      | ⟨n, fr, bx, ow⟩ => ∀ h', Sub h h' → t08 h' L fr fun fr => K ⟨n, fr, bx, ow⟩ h')
    (fun o _ ih i L bs st h K => match st with
      | ⟨n, fr, bx, ow⟩ => match I6 bs o.guard with
        | some ch => match cB bs ch with
          | some c => match s09 P L bs ch o ⟨n, fr, bx, ow⟩ with
            | some av => R8 av fun av => ih (i + 1) (u08 o.dst ch (.pu av) L) (v08 i o.dst ch av bs) ⟨n, fr, bx, ow⟩ h K
            | none => (∃ av, (∀ h', Sub h h' → imp ch c (e02 L ⟨n, fr, bx, ow⟩ h' ch o.op.operands.toList [] fun fr => I5 P o ⟨n, fr, bx, ow⟩ h' (A0b av ⟨n, fr, bx, ow⟩ h'))) ∧
                  R8 av fun av => ih (i + 1) (u08 o.dst ch (.pu av) L) (v08 i o.dst ch av bs) ⟨n, fr, bx, ow⟩ h K) ∨
                (∃ F : Value → Hp → Prop, (∀ v h1 h2, Sub h1 h2 → F v h1 → F v h2) ∧
                  (∀ h', Sub h h' → imp ch c (e02 L ⟨n, fr, bx, ow⟩ h' ch o.op.operands.toList [] fun fr => I5 P o ⟨n, fr, bx, ow⟩ h' (L0d ⟨n, fr, bx, ow⟩ h' F))) ∧
                  ih (i + 1) (u08 o.dst ch (.ef F) L) bs ⟨n, fr, bx, ow⟩ h K)
          | none => False
        | none => False) l
def U05 : List Oper → Bool
 | [] => true
 | o :: r => (match o.guard with
  | some (j, _) => F9 j o
  | none => true) && U05 r
def H00 (n : Nat) (ops : List Oper) : Bool := W6 n ops && U05 ops
def W0e (P : Program) : List Oper → Bool
 | [] => false
 | o :: r => (match o.guard, o.op with
  | some _, .call { callee := .value _, args := _, argTypes := _ } => match P.underlying o.type with
   | some (.slice _) => true
   | some (.struct _) => true
   | some (.tuple _) => true
   | _ => false
  | _, _ => false) || W0e P r
inductive Ex where
 | normal | ret
 | exit (i : Nat)
structure Ann where
 vars : List Nat
 boxes : List Nat
 owns : List Nat
 nils : List (Nat × Nat × Nat × Nat) := []
 nilsB : List (Nat × Nat × Nat × Nat × Nat) := []
 kept : List Nat := []
 fuel : Bool := false
 pubs : List Nat := []
def t09 : List (Nat × Nat × Nat × Nat) → St → (St → Prop) → Prop
 | [], st, K => K st
 | (s, e, sz, by_) :: r, ⟨n, fr, bx, ow⟩, K => match rdA ⟨n, fr, bx, ow⟩ (K1 fr s), Nat.blt s n with
  | .val (.slice none 0 0), true => B0a ow fun k => t09 r ⟨n, (s, .own k 0) :: fr, bx, ow ++ [⟨0, .live e sz by_ false []⟩]⟩ K
  | _, _ => False
def k06 : List (Nat × Nat × Nat × Nat × Nat) → St → (St → Prop) → Prop
 | [], st, K => K st
 | (i, k, e, sz, by_) :: r, ⟨n, fr, bx, ow⟩, K => match nth bx i with
  | some (.live cs ty) => match nth cs k with
   | some (.val (.slice none 0 0)) => B0a ow fun j => k06 r ⟨n, fr, N6 bx i (.live (N6 cs k (.own j 0)) ty), ow ++ [⟨0, .live e sz by_ false []⟩]⟩ K
   | _ => False
  | _ => False
def u09 : List Nat → St → Hp → (St → Hp → Prop) → Prop
 | [], st, h, K => K st h
 | s :: r, st, h, K => rfy (rdA st (K1 st.fr s)) st h fun v st h => match st with
  | ⟨n, fr, bx, ow⟩ => match Nat.blt s n with
   | true => u09 r ⟨n, (s, .val v) :: fr, bx, ow⟩ h K
   | false => False
def j03 (x : Nat) : List Nat → Bool
 | [] => false
 | y :: r => match Nat.beq x y with
  | true => true
  | false => j03 x r
def d0g : List Oper → List Nat → List Nat
 | [], acc => acc
 | o :: r, acc => match o.dst with
  | some d => d0g r (d :: acc)
  | none => d0g r acc
def s07 : Code → List Nat → List Nat
 | .region _ ops _, acc => d0g ops.toList acc
 | .seq a b, acc => s07 a (s07 b acc)
 | .cond _ a b, acc => s07 a (s07 b acc)
 | .block _ a, acc => s07 a acc
 | .loop a, acc => s07 a acc
 | .scope a, acc => s07 a acc
 | _, acc => acc
def O04 : List Nat → (List Nat → Prop) → Prop
 | [], K => K []
 | x :: r, K => O04 r fun r => K (x :: r)
def X0e : List Nat → St → (List Value → Prop) → Prop
 | [], _, K => K []
 | s :: r, st, K => match rdA st (K1 st.fr s) with
  | .val v => X0e r st fun vs => K (v :: vs)
  | _ => False
def v09 : List L3 → St → (List Value → Prop) → Prop
 | [], _, K => K []
 | .val v :: r, st, K => v09 r st fun vs => K (v :: vs)
 | .own _ _ :: r, st, K => v09 r st K
def l06 : List Nat → St → (List Value → Prop) → Prop
 | [], _, K => K []
 | i :: r, st, K => match nth st.bx i with
  | some (.live cs _) => v09 cs st fun vs => l06 r st fun ws => K (vs ++ ws)
  | _ => False
def D07 : List Nat → St → (List (List (List Value)) → Prop) → Prop
 | [], _, K => K []
 | i :: r, st, K => match nth st.ow i with
  | some ⟨_, .live _ _ _ _ xs⟩ => D07 r st fun os => K (xs :: os)
  | _ => False
def J0a (A : Ann) (st : St) (K : List Value → List (List (List Value)) → Prop) : Prop :=
 X0e A.vars st fun vs => l06 A.boxes st fun ws => D07 A.owns st fun os => K (vs ++ ws) os
def M9 : List L3 → List Value → (List L3 → List Value → Prop) → Prop
 | [], vs, K => K [] vs
 | .val _ :: r, v :: vs, K => M9 r vs fun cs rest => K (.val v :: cs) rest
 | .val _ :: _, [], _ => False
 | .own i k :: r, vs, K => M9 r vs fun cs rest => K (.own i k :: cs) rest
def k01 : List Nat → List Value → List BSt → (List BSt → Prop) → Prop
 | [], _, bx, K => K bx
 | i :: r, vs, bx, K => match nth bx i with
  | some (.live cs ty) => M9 cs vs fun cs rest => k01 r rest (N6 bx i (.live cs ty)) K
  | _ => False
def l01 : List Nat → List (List (List Value)) → List Own → (List Own → Prop) → Prop
 | [], _, ow, K => K ow
 | i :: r, xs :: os, ow, K => match nth ow i with
  | some ⟨s, .live e sz by_ nn _⟩ => l01 r os (N6 ow i ⟨s, .live e sz by_ nn xs⟩) K
  | _ => False
 | _ :: _, [], _, _ => False
def w02 {α : Type} : Nat → List α → (List α → List α → Prop) → Prop
 | 0, l, K => K [] l
 | n + 1, x :: l, K => w02 n l fun a b => K (x :: a) b
 | _ + 1, [], _ => False
def n03 (A : Ann) (st : St) : List Nat → List (Nat × AV) → (List (Nat × AV) → Prop) → Prop
 | [], acc, K => K acc
 | s :: r, acc, K => match j03 s A.vars with
  | true => n03 A st r acc K
  | false => match rdA st (K1 st.fr s) with
   | .own i k => n03 A st r ((s, .own i k) :: acc) K
   | .box i o => n03 A st r ((s, .box i o) :: acc) K
   | _ => n03 A st r ((s, .dead) :: acc) K
def B0b : List L3 → Bool
 | [] => true
 | .val _ :: r => B0b r
 | .own _ _ :: _ => false
def m01 (A : Ann) (ds : List Nat) (st : St) : List (Nat × AV) → (List (Nat × AV) → Prop) → Prop
 | [], K => K []
 | (s, av) :: r, K => match j03 s ds with
  | true => m01 A ds st r K
  | false => match rdA st av with
   | .own i k => match j03 i A.owns, j03 i A.kept with
    | true, false => m01 A ds st r fun l => K ((s, .dead) :: l)
    | _, _ => m01 A ds st r fun l => K ((s, .own i k) :: l)
   | .oel _ _ _ _ _ => m01 A ds st r fun l => K ((s, .dead) :: l)
   | .agg cs => match B0b cs with
    | true => m01 A ds st r fun l => K ((s, .agg cs) :: l)
    | false => m01 A ds st r fun l => K ((s, .dead) :: l)
   | a => m01 A ds st r fun l => K ((s, a) :: l)
def P04 : List Nat → List Value → List (Nat × AV) → List (Nat × AV)
 | s :: r, v :: vs, acc => P04 r vs ((s, .val v) :: acc)
 | _, _, acc => acc
def z05 (head end_ : St) : List (Nat × AV) → Bool
 | [] => true
 | (s, av) :: r => match av with
  | .own i _ => match rdA end_ (K1 end_.fr s) with
   | .own j _ => match Nat.beq i j with
    | true => z05 head end_ r
    | false => false
   | _ => false
  | .box i o => match rdA end_ (K1 end_.fr s) with
   | .box j p => match Nat.beq i j, Nat.beq o p with
    | true, true => z05 head end_ r
    | _, _ => false
   | _ => false
  | _ => z05 head end_ r
def K0a : AV → Bool
 | .dead => true
 | _ => false
def I0c : List (Nat × AV) → List AV
 | [] => []
 | (_, av) :: r => match K0a av with
  | true => I0c r
  | false => av :: I0c r
def E07 (fr : List (Nat × AV)) : List (Nat × AV) → List AV
 | [] => []
 | (s, av) :: r => match K0a av with
  | true => E07 fr r
  | false => K1 fr s :: E07 fr r
def n01 (head end_ : St) : List L3 → List L3 → Bool
 | [], [] => true
 | .val _ :: r, .val _ :: r' => n01 head end_ r r'
 | .own i _ :: r, .own j k' :: r' => match Nat.beq i j, rdA end_ (.own j k') with
  | true, .own _ _ => n01 head end_ r r'
  | _, _ => false
 | _, _ => false
def V03 (os : List Nat) : List L3 → Bool
 | [] => true
 | .val _ :: r => V03 os r
 | .own i _ :: r => match j03 i os with
  | true => false
  | false => V03 os r
def L0a (os : List Nat) : BSt → Bool
 | .live cs _ => V03 os cs
 | .publ _ => true
def Q04 (A : Ann) (head end_ : St) : Nat → List BSt → List BSt → Prop
 | _, [], _ => True
 | i, b :: r, b' :: r' => match j03 i A.boxes with
  | true => match b, b' with
   | .live cs ty, .live cs' ty' => match Nat.beq ty ty', n01 head end_ cs cs' with
    | true, true => Q04 A head end_ (i + 1) r r'
    | _, _ => False
   | _, _ => False
  | false => match L0a A.owns b with
   | true => b' = b ∧ Q04 A head end_ (i + 1) r r'
   | false => False
 | _, _ :: _, [] => False
def leB (a b : Bool) : Bool := match a with
 | true => b
 | false => true
def R04 (A : Ann) : Nat → List Own → List Own → Prop
 | _, [], _ => True
 | i, b :: r, b' :: r' => match j03 i A.owns with
  | true => match b, b' with
   | ⟨s, .live e sz by_ nn _⟩, ⟨s', .live e' sz' by' nn' _⟩ => match Nat.beq e e', Nat.beq sz sz', Nat.beq by_ by', leB nn nn', leB (j03 i A.kept) (Nat.beq s s') with
    | true, true, true, true, true => R04 A (i + 1) r r'
    | _, _, _, _, _ => False
   | _, _ => False
  | false => b' = b ∧ R04 A (i + 1) r r'
 | _, _ :: _, [] => False
def W03 : Nat → (List Value → Prop) → Prop
 | 0, K => K []
 | n + 1, K => ∀ v, W03 n fun vs => K (v :: vs)
def X03 : Nat → (List (List (List Value)) → Prop) → Prop
 | 0, K => K []
 | n + 1, K => ∀ xs, X03 n fun os => K (xs :: os)
abbrev S04 := List Value → List (List (List Value)) → Hp → Prop
abbrev f02 := List Value → List (List (List Value)) → Nat
def Y0e : List Value → List Value → Bool
 | [], [] => true
 | _ :: r, _ :: r' => Y0e r r'
 | _, _ => false
def w09 (A : Ann) (I : S04) (vs : List Value) (os : List (List (List Value))) (h : Hp) : Prop := match A.fuel with
 | false => I vs os h
 | true => ∃ m : Nat, I (.int .i64 m :: vs) os h
def x09 (A : Ann) (I : S04) (μ : f02) (vs : List Value) (os : List (List (List Value))) (X : Nat → Hp → Prop) : Prop := match A.fuel with
 | false => ∀ h', I vs os h' → X (μ vs os) h'
 | true => ∀ (m : Nat) (h' : Hp), I (.int .i64 m :: vs) os h' → X m h'
def Z0e (A : Ann) (I : S04) (μ : f02) (m : Nat) (vs : List Value) (os : List (List (List Value))) (h : Hp) : Prop := match A.fuel with
 | false => I vs os h ∧ μ vs os < m
 | true => ∃ m' : Nat, I (.int .i64 m' :: vs) os h ∧ m' < m
def atI (A : Ann) (I : S04) (μ : f02) (m : Nat) (vs : List Value) (os : List (List (List Value))) (h : Hp) : Prop := match A.fuel with
 | false => I vs os h ∧ m = μ vs os
 | true => I (.int .i64 m :: vs) os h
theorem M0d {A : Ann} {I : S04} {μ : f02} {vs : List Value} {os : List (List (List Value))} {h : Hp} (hh : w09 A I vs os h) : ∃ m, atI A I μ m vs os h := by
 unfold w09 at hh
 unfold atI
 cases hf : A.fuel with
 | false => rw [hf] at hh; exact ⟨_, hh, rfl⟩
 | true => rw [hf] at hh; exact hh
theorem N0d {A : Ann} {I : S04} {μ : f02} {vs : List Value} {os : List (List (List Value))} {X : Nat → Hp → Prop} (hh : x09 A I μ vs os X) {m : Nat} {h : Hp} (ha : atI A I μ m vs os h) : X m h := by
 unfold x09 at hh
 unfold atI at ha
 cases hf : A.fuel with
 | false => rw [hf] at hh ha; rw [ha.2]; exact hh _ ha.1
 | true => rw [hf] at hh ha; exact hh _ _ ha
theorem a0f {A : Ann} {I : S04} {μ : f02} {m : Nat} {vs : List Value} {os : List (List (List Value))} {h : Hp} (hh : Z0e A I μ m vs os h) : ∃ m', atI A I μ m' vs os h ∧ m' < m := by
 unfold Z0e at hh
 unfold atI
 cases hf : A.fuel with
 | false => rw [hf] at hh; exact ⟨_, ⟨hh.1, rfl⟩, hh.2⟩
 | true => rw [hf] at hh; exact hh
def O0d (A : Ann) (dyn sta : List (Nat × AV)) (st0 : St) (I : S04) (μ : f02) (vs0 : List Value) (m : Nat) (st : St) (h : Hp) : Prop :=
 match Nat.beq st.n st0.n, z05 st0 st dyn with
 | true, true => E07 st.fr sta = I0c sta ∧ Q04 A st0 st 0 st0.bx st.bx ∧ R04 A 0 st0.ow st.ow ∧
   J0a A st fun vs os => match Y0e vs vs0 with
    | true => w02 A.vars.length vs fun _ v2 => k01 A.boxes v2 st0.bx fun _ => l01 A.owns os st0.ow fun _ => Z0e A I μ m vs os h
    | false => False
 | _, _ => False
def C0b (body : (Ex → St → Hp → Prop) → St → Hp → Prop) (ds0 : List Nat) (Q : Ex → St → Hp → Prop) (st : St) (h : Hp) : Prop :=
 ∃ (A : Ann) (I : S04) (μ : f02), t09 A.nils st fun st => k06 A.nilsB st fun st => u09 A.pubs st h fun st h => J0a A st fun vs0 os0 => w09 A I vs0 os0 h ∧
  O04 ds0 fun ds => n03 A st ds [] fun dyn => m01 A ds st st.fr fun sta =>
   W03 vs0.length fun vs => X03 os0.length fun os => x09 A I μ vs os fun m h' =>
    w02 A.vars.length vs fun v1 v2 => k01 A.boxes v2 st.bx fun bx => l01 A.owns os st.ow fun ow =>
     body (fun e st' h'' => match e with
      | .normal => u09 A.pubs st' h'' fun st' h'' => O0d A dyn sta st I μ vs m st' h''
      | e => Q e st' h'') ⟨st.n, P04 A.vars v1 (dyn ++ sta), bx, ow⟩ h'
def P0d (b : Bool) (X Y : Prop) : Prop := (b = true → X) ∧ (b = false → Y)
def ev (P : Program) : Code → (Ex → St → Hp → Prop) → St → Hp → Prop
 | .skip, Q, st, h => Q .normal st h
 | .region _ ops false, Q, st, h => match W0e P ops.toList with
  | true => H00 st.n ops.toList = true ∧ evU P ops.toList 0 [] [] st h fun st h => Q .normal st h
  | false => y05 P ops.toList 0 ⟨st, h, [], []⟩ fun rs => Q .normal rs.st rs.h
 | .region _ ops true, Q, st, h => ((P.follows .mixedOrders = true ∧ Region.lexB .any ops = true) ∧
   evQ P ops.toList 0 ⟨st, h, [], []⟩ fun rs => Q .normal rs.st rs.h) ∨
   ((P.follows .mixedOrders = true ∧ W6 st.n ops.toList = true) ∧ evS P ops.toList [] st h fun st h => Q .normal st h) ∨
   (match J0d ops.toList with
    | none => (P.follows .mixedOrders = true ∧ W6 st.n ops.toList = true) ∧ G9 P st h ops.toList 0 [] [] [] fun L X E => ∃ c, (J8 E = true ∧ W00 X (X ++ E) (E.drop c) = true) ∧ evC ops.size P c E L st h fun st h => Q .normal st h
    | some o => (P.follows .mixedOrders = true ∧ (W6 st.n (a8 ops.toList) && i06 ops.toList 0) = true) ∧ G9 P st h (a8 ops.toList) 0 [] [] [] fun L X E => ∃ c, (J8 E = true ∧ W00 X (X ++ E) (E.drop c) = true) ∧ evC (a8 ops.toList).length P c E L st h fun st h => K0d P o st h fun st h => Q .normal st h) ∨
   ((P.follows .mixedOrders = true ∧ H00 st.n ops.toList = true) ∧ evU P ops.toList 0 [] [] st h fun st h => Q .normal st h)
 | .seq a b, Q, st, h => ev P a (fun e st h => match e with
  | .normal => ev P b Q st h
  | e => Q e st h) st h
 | .cond c t e, Q, st, h => match rdO st c with
  | .val (.bool b) => P0d b (ev P t Q st h) (ev P e Q st h)
  | _ => False
 | .block id c, Q, st, h => ev P c (fun e st h => match e with
  | .exit i => match Nat.beq i id with
   | true => Q .normal st h
   | false => Q (.exit i) st h
  | e => Q e st h) st h
 | .loop body, Q, st, h => C0b (fun Q => ev P body Q) (s07 body []) Q st h
 | .exit id, Q, st, h => Q (.exit id) st h
 | .ret, Q, st, h => Q .ret st h
 | _, _, _, _ => False
def M0a (P : Program) : List ResultVar → St → Hp → (List Value → St → Hp → Prop) → Prop
 | [], st, h, K => K [] st h
 | .tmp t :: r, st, h, K => rfy (rdA st (K1 st.fr t)) st h fun v st h => M0a P r st h fun vs st h => K (v :: vs) st h
 | .cell t ty :: r, st, h, K => match rdA st (K1 st.fr t) with
  | .box i off => match nth st.bx i with
   | some (.live cs _) => n00 P ty cs off fun av => rfy av st h fun v st h => M0a P r st h fun vs st h => K (v :: vs) st h
   | _ => False
  | _ => False
def y09 : List Value → Value
 | [v] => v
 | vs => .tuple vs.toArray
def Y03 : Nat → List Value → List (Nat × AV)
 | _, [] => []
 | i, v :: r => (i, .val v) :: Y03 (i + 1) r
def e0g (P : Program) (fn : Func) (args : List Value) (h : Hp) (T : Value → Hp → Prop) : Prop :=
 match fn.body with
 | some c => match Nat.ble args.length fn.ntmps with
  | true => ev P c (fun e st h => match e with
   | .exit _ => False
   | _ => M0a P fn.results.toList st h fun vs _ h => T (y09 vs) h) ⟨fn.ntmps, Y03 0 args, [], []⟩ h
  | false => False
 | none => False
end Go.H
