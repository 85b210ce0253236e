/- Plain laws over the model: what a function's code asks: regions with guards, regions that draw their order, branches and loops. -/
import Derived.Test.YtknoadmdnjaocaaH2
namespace Go.H
set_option linter.unusedVariables false
structure BE where
 j : Nat
 d : Nat
 e : Bool
 ch : List (Nat × Bool)
structure RS where
 st : St
 h : Hp
 gf : List (Nat × List (Nat × Bool) × AV)
 bs : List BE
def m06 : List (Nat × List (Nat × Bool) × AV) → Nat → Option (List (Nat × Bool) × AV)
 | [], _ => none
 | (k, x) :: r, s => match Nat.beq k s with
  | true => some x
  | false => m06 r s
def eqB (a b : Bool) : Bool := match a, b with
 | true, true => true
 | false, false => true
 | _, _ => false
def V0c : List (Nat × Bool) → List (Nat × Bool) → Bool
 | [], [] => true
 | (j, w) :: r, (j', w') :: r' => match Nat.beq j j', eqB w w' with
  | true, true => V0c r r'
  | _, _ => false
 | _, _ => false
def m09 (a : List (Nat × Bool)) : List (Nat × Bool) → Bool
 | [] => V0c a []
 | x :: r => match V0c a (x :: r) with
  | true => true
  | false => m09 a r
def rdG (rs : RS) (ch : List (Nat × Bool)) : Operand → AV
 | .tmp t => match m06 rs.gf t with
  | some (ch2, av) => match m09 ch2 ch with
   | true => rdA rs.st av
   | false => .dead
  | none => rdA rs.st (Q0 rs.st.fr t)
 | x => rdO rs.st x
def V7 : List BE → Nat → Option BE
 | [], _ => none
 | b :: r, j => match Nat.beq b.j j with
  | true => some b
  | false => V7 r j
def g04 : List BE → Nat → Option BE
 | [], _ => none
 | b :: r, s => match Nat.beq b.d s with
  | true => some b
  | false => g04 r s
def lit (w e : Bool) : Bool := match w with
 | true => e
 | false => !e
def cB (bs : List BE) : List (Nat × Bool) → Option Bool
 | [] => some true
 | (j, w) :: r => match V7 bs j with
  | some b => match r with
   | [] => some (lit w b.e)
   | _ => match cB bs r with
    | some c => some (lit w b.e && c)
    | none => none
  | none => none
def B6 (bs : List BE) : Option (Nat × Bool) → Option (List (Nat × Bool))
 | none => some []
 | some (j, w) => match V7 bs j with
  | some b => some ((j, w) :: b.ch)
  | none => none
def imp (ch : List (Nat × Bool)) (c : Bool) (X : Prop) : Prop := match ch with
 | [] => X
 | _ => c = true → X
def n09 (rs : RS) (ch : List (Nat × Bool)) : List Operand → Option (List (Nat × Value))
 | [] => some []
 | .tmp t :: r => match j00 (rdG rs ch (.tmp t)) with
  | some v => match n09 rs ch r with
   | some vs => some ((t, v) :: vs)
   | none => none
  | none => none
 | .global _ :: _ => none
 | _ :: r => n09 rs ch r
def l0e (rs : RS) (ch : List (Nat × Bool)) : List Operand → St → Hp → (List (Nat × Value) → St → Hp → Prop) → Prop
 | [], st, h, K => K [] st h
 | .tmp t :: r, st, h, K => rfy (rdA st (rdG rs ch (.tmp t))) st h fun v st h => l0e rs ch r st h fun vs st h => K ((t, v) :: vs) st h
 | .global _ :: _, _, _, _ => False
 | _ :: r, st, h, K => l0e rs ch r st h K
def A08 (P : Program) (o : Oper) (ch : List (Nat × Bool)) (c : Bool) (rs : RS) (K : AV → Prop) : Prop :=
 match H05 o.op, n09 rs ch o.op.operands.toList with
 | false, some vs => match t03 (rho vs) o with
  | some (f, l) => match okF P f with
   | true => ∃ v, imp ch c (Tr P f l.toArray rs.h fun v' h' => v' = v ∧ h' = rs.h) ∧ K (.val v)
   | false => False
  | none => match evP P (k09 (rho vs) o) with
   | some (.value v) => K (.val v)
   | _ => False
 | false, none => ∃ r, imp ch c (l0e rs ch o.op.operands.toList rs.st rs.h fun vs _ hf => match t03 (rho vs) o with
  | some (f, l) => match okF P f with
   | true => Tr P f l.toArray hf fun v h' => v = r ∧ h' = hf
   | false => False
  | none => False) ∧ K (.val r)
 | _, _ => False
def evG (P : Program) (o : Oper) (ch : List (Nat × Bool)) (c : Bool) (rs : RS) (K : AV → Prop) : Prop :=
 match o.op with
 | .move x | .assign x => match rdG rs ch x with
  | .dead => False
  | a => K a
 | .pick (.tmp s) a b => match rdG rs ch (.tmp s), g04 rs.bs s with
  | .val (.bool e), some q => match m09 q.ch ch with
   | true => match rdG rs ((q.j, true) :: q.ch) a, rdG rs ((q.j, false) :: q.ch) b with
    | .val (.bool x), .val (.bool y) => K (.val (.bool (cond e x y)))
    | _, _ => False
   | false => False
  | _, _ => False
 | .fieldAddr t x k => match rdG rs ch x, x08 P t k with
  | .box i off, some fo => K (.box i (off + fo))
  | .hel s i sz k, some fo => K (.hel s i sz (k + fo))
  | .oel i s j sz k, some fo => K (.oel i s j sz (k + fo))
  | _, _ => False
 | .indexAddr t x i => match rdG rs ch i with
  | .val (.int _ j) => match r7 P t with
   | some e => match W2 P e with
    | some sz => match rdG rs ch x with
     | .val (.slice a n cp) => imp ch c (InB (.slice a n cp) j) ∧ K (.hel (.slice a n cp) j sz 0)
     | .own i k => match nth rs.st.ow i with
      | some ⟨_, .live _ sz' _ _ xs⟩ => match Nat.beq sz' sz with
       | true => imp ch c (0 ≤ j ∧ j < (xs.length : Int)) ∧ K (.oel i k j sz 0)
       | false => False
      | _ => False
     | _ => False
    | none => False
   | none => False
  | _ => False
 | .load t x => match rdG rs ch x with
  | .box i off => match nth rs.st.bx i with
   | some (.live cs _) => g00 P t cs off K
   | _ => False
  | .hel s idx sz k => ∃ e, imp ch c (f00 rs.h s sz idx e) ∧ g00 P t (vals e) k K
  | .oel i _ idx sz k => match nth rs.st.ow i with
   | some ⟨_, .live _ sz' _ _ xs⟩ => match Nat.beq sz' sz with
    | true => ∃ e, imp ch c (xs[idx.toNat]? = some e) ∧ g00 P t (vals e) k K
    | false => False
   | _ => False
  | _ => False
 | .build t ps => match P.underlying t, C7 P t with
  | some (.struct fs), some z => match j01 P fs.toList with
   | true => o02 P fs (rdG rs ch) ps.toList (vals z.cells.toList) fun cs => K (.agg cs)
   | false => False
  | _, _ => False
 | .index t x i => match rdG rs ch x, rdG rs ch i, P.underlying t with
  | .val (.string s), .val (.int _ j), some .string => ∃ e, imp ch c (0 ≤ j ∧ s[j.toNat]? = some e) ∧ K (.val (.int .u8 e.toNat))
  | _, _, _ => False
 | .slice t x lo hi none => match rdG rs ch x, P.underlying t with
  | .val (.string s), some .string => match E00 0 (lo.map (rdG rs ch)), E00 s.size (hi.map (rdG rs ch)) with
   | some l, some m => imp ch c (0 ≤ l ∧ l ≤ m ∧ m ≤ (s.size : Int)) ∧ K (.val (.string (s.extract l.toNat m.toNat)))
   | _, _ => False
  | .val (.slice ad n cp), _ => match r7 P t with
   | some e => match W2 P e with
    | some sz => match E00 0 (lo.map (rdG rs ch)), E00 n (hi.map (rdG rs ch)) with
     | some l, some m => ∃ v, imp ch c ((0 ≤ l ∧ l ≤ m ∧ m ≤ (n : Int) ∧ n ≤ cp) ∧ T0c sz (.slice ad n cp) l.toNat m.toNat v) ∧ K (.val v)
     | _, _ => False
    | none => False
   | none => False
  | _, _ => False
 | .binOp .eql t x y yt => match j00 (rdG rs ch x), j00 (rdG rs ch y) with
  | some (.agg xs), some (.agg ys) => ∃ b, imp ch c (H07 P o x y (.agg xs) (.agg ys) b) ∧ K (.val (.bool b))
  | some (.slice a n m), some (.slice none 0 0) => ∃ b, imp ch c (H07 P o x y (.slice a n m) (.slice none 0 0) b) ∧ K (.val (.bool b))
  | _, _ => A08 P o ch c rs K
 | .binOp .neq t x y yt => match j00 (rdG rs ch x), j00 (rdG rs ch y) with
  | some (.agg xs), some (.agg ys) => ∃ b, imp ch c (H07 P o x y (.agg xs) (.agg ys) b) ∧ K (.val (.bool b))
  | _, _ => A08 P o ch c rs K
 | .binOp .add t x y yt => match rdG rs ch x, rdG rs ch y with
  | .val (.string a), .val (.string b) => imp ch c (a.size + b.size ≤ 9223372036854775807) ∧ K (.val (.string (a ++ b)))
  | _, _ => A08 P o ch c rs K
 | .binOp .quo t x y yt => match rdG rs ch x, rdG rs ch y with
  | .val (.int .i64 a), .val (.int .i64 b) => imp ch c (b ≠ 0) ∧ K (.val (.int .i64 (IntKind.i64.wrap (a.tdiv b))))
  | _, _ => A08 P o ch c rs K
 | .binOp .rem t x y yt => match rdG rs ch x, rdG rs ch y with
  | .val (.int .i64 a), .val (.int .i64 b) => imp ch c (b ≠ 0) ∧ K (.val (.int .i64 (a.tmod b)))
  | _, _ => A08 P o ch c rs K
 | .call { callee := .builtin .len, args := as, argTypes := ts } => match as.toList, ts.toList with
  | [x], [t] => match rdG rs ch x with
   | .own i _ => match nth rs.st.ow i, r7 P t with
    | some ⟨_, .live _ _ _ _ xs⟩, some _ => K (.val (.int .i64 xs.length))
    | _, _ => False
   | _ => A08 P o ch c rs K
  | _, _ => False
 | _ => A08 P o ch c rs K
def p02 (rs : RS) (d : Nat) : Bool := match m06 rs.gf d, g04 rs.bs d with
 | none, none => false
 | _, _ => true
def o09 (i d : Nat) (ch : List (Nat × Bool)) (av : AV) (bs : List BE) : List BE := match av with
 | .val (.bool e) => ⟨i, d, e, ch⟩ :: bs
 | _ => bs
def n06 (d : Option Tmp) (i : Nat) (ch : List (Nat × Bool)) (av : AV) (rs : RS) (K : RS → Prop) : Prop :=
 match d with
 | none => K rs
 | some d => match Nat.blt d rs.st.n, p02 rs d with
  | true, false => match ch with
   | [] => K { rs with st := { rs.st with fr := (d, av) :: rs.st.fr }, bs := o09 i d ch av rs.bs }
   | _ => K { rs with st := { rs.st with fr := (d, .dead) :: rs.st.fr }, gf := (d, ch, av) :: rs.gf, bs := o09 i d ch av rs.bs }
  | _, _ => False
def D0a : Op → Bool
 | .pick .. => true
 | _ => false
def I05 (P : Program) : List Oper → Nat → RS → (RS → Prop) → Prop
 | [], _, rs, K => K rs
 | o :: r, i, rs, K => match o.guard, D0a o.op with
  | none, false => d5 P o rs.st rs.h fun av st h => n06 o.dst i [] av { rs with st := st, h := h } fun rs => I05 P r (i + 1) rs K
  | _, _ => match B6 rs.bs o.guard with
   | some ch => match cB rs.bs ch with
    | some c => evG P o ch c rs fun av => n06 o.dst i ch av rs fun rs => I05 P r (i + 1) rs K
    | none => False
   | none => False
def evQ (P : Program) : List Oper → Nat → RS → (RS → Prop) → Prop
 | [], _, rs, K => K rs
 | o :: r, i, rs, K => match B6 rs.bs o.guard with
  | some ch => match cB rs.bs ch with
   | some c => evG P o ch c rs fun av => n06 o.dst i ch av rs fun rs => evQ P r (i + 1) rs K
   | none => False
  | none => False
def Sub (h h' : Hp) : Prop := ∀ b o, h b = some o → h' b = some o
def W0c (v : Value) (K : Value → Prop) : Prop := match v with
 | .bool b => K (.bool b)
 | .int k n => K (.int k n)
 | .string s => K (.string s)
 | .pointer a => K (.pointer a)
 | .slice a n c => K (.slice a n c)
 | .func f x y => K (.func f x y)
 | .agg cs => K (.agg cs)
 | .tuple vs => K (.tuple vs)
 | v => K v
theorem e0c (v : Value) (K : Value → Prop) : W0c v K = K v := by cases v <;> rfl
def U5 {α : Type} : List α → (List α → Prop) → Prop
 | [], K => K []
 | x :: r, K => U5 r fun r => K (x :: r)
theorem O7 {α : Type} : ∀ (l : List α) (K : List α → Prop), U5 l K = K l
 | [], K => rfl
 | x :: r, K => by simp only [U5, O7 r]
def k00 : Nat → (Nat → Prop) → Prop
 | 0, K => K 0
 | n + 1, K => k00 n fun m => K (m + 1)
theorem q02 : ∀ (n : Nat) (K : Nat → Prop), k00 n K = K n
 | 0, K => rfl
 | n + 1, K => by simp only [k00, q02 n]
def p7 (av : AV) (K : AV → Prop) : Prop := match av with
 | .val v => W0c v fun v => K (.val v)
 | .own i k => K (.own i k)
 | .box i k => K (.box i k)
 | .hel s i z k => k00 z fun z => k00 k fun k => K (.hel s i z k)
 | .oel j s i z k => k00 z fun z => k00 k fun k => K (.oel j s i z k)
 | .agg cs => U5 cs fun cs => K (.agg cs)
 | .dead => K .dead
theorem P7 (av : AV) (K : AV → Prop) : p7 av K = K av := by
 cases av with
 | val v => exact e0c v (fun v => K (.val v))
 | hel s i z k => simp only [p7, q02]
 | oel j s i z k => simp only [p7, q02]
 | agg cs => simp only [p7, O7]
 | _ => rfl
inductive J2 where
 | pu (av : AV)
 | ef (F : Value → Hp → Prop)
def K0 : List (Nat × J2) → Nat → Option J2
 | [], _ => none
 | (k, x) :: r, s => match Nat.beq k s with
  | true => some x
  | false => K0 r s
def rdS (L : List (Nat × J2)) (st : St) : Operand → AV
 | .tmp t => match K0 L t with
  | some (.pu av) => rdA st av
  | some (.ef _) => .dead
  | none => rdA st (Q0 st.fr t)
 | x => rdO st x
def o06 (P : Program) (t : TypeId) (cs : List N2) (off : Nat) : Option AV :=
 match w08 P t with
 | some true => match W2 P t with
  | some n => match k02 ((cs.drop off).take n) n with
   | true => some (.agg ((cs.drop off).take n))
   | false => none
  | none => none
 | some false => match nth cs off with
  | some c => some (ofCell c)
  | none => none
 | none => none
def H03 (P : Program) (L : List (Nat × J2)) (o : Oper) (st : St) : Option AV := match o.op with
 | .move x | .assign x => match rdS L st x with
  | .dead => none
  | a => some a
 | .load t x => match rdS L st x with
  | .box i off => match nth st.bx i with
   | some (.live cs _) => o06 P t cs off
   | _ => none
  | _ => none
 | _ => none
def r02 (L : List (Nat × J2)) (st : St) (h : Hp) : List Operand → List (Nat × AV) → (List (Nat × AV) → Prop) → Prop
 | [], acc, K => K acc
 | .tmp t :: r, acc, K => match K0 L t with
  | some (.pu av) => r02 L st h r ((t, av) :: acc) K
  | some (.ef F) => ∀ v, F v h → r02 L st h r ((t, .val v) :: acc) K
  | none => r02 L st h r ((t, Q0 st.fr t) :: acc) K
 | _ :: r, acc, K => r02 L st h r acc K
def p09 (h : Hp) : List (Nat × J2) → List (Nat × AV) → (List (Nat × AV) → Prop) → Prop
 | [], fr, K => K fr
 | (d, .pu av) :: r, fr, K => p09 h r ((d, av) :: fr) K
 | (d, .ef F) :: r, fr, K => ∀ v, F v h → p09 h r ((d, .val v) :: fr) K
def C9 (d : Option Tmp) (f : J2) (L : List (Nat × J2)) : List (Nat × J2) := match d with
 | some d => (d, f) :: L
 | none => L
def S0e (st : St) (h : Hp) (F : Value → Hp → Prop) : AV → St → Hp → Prop
 | .val v, st', h' => st' = st ∧ Sub h h' ∧ F v h'
 | _, _, _ => False
def evS (P : Program) : List Oper → List (Nat × J2) → St → Hp → (St → Hp → Prop) → Prop
 | [], L, ⟨n, fr, bx, ow⟩, h, K => ∀ h', Sub h h' → p09 h' L fr fun fr => K ⟨n, fr, bx, ow⟩ h'
 | o :: r, L, ⟨n, fr, bx, ow⟩, h, K => match o.guard with
  | some _ => False
  | none => match H03 P L o ⟨n, fr, bx, ow⟩ with
   | some av => p7 av fun av => evS P r (C9 o.dst (.pu av) L) ⟨n, fr, bx, ow⟩ h K
   | none => ∃ F : Value → Hp → Prop, (∀ v h1 h2, Sub h1 h2 → F v h1 → F v h2) ∧
     (∀ h', Sub h h' → r02 L ⟨n, fr, bx, ow⟩ h' o.op.operands.toList [] fun fr => d5 P o ⟨n, fr, bx, ow⟩ h' (S0e ⟨n, fr, bx, ow⟩ h' F)) ∧
     evS P r (C9 o.dst (.ef F) L) ⟨n, fr, bx, ow⟩ h K
def d6 (i : Nat) (o : Oper) : Bool := o.after.toList.any fun e => Region.binds .any e && Nat.beq e.on i
def Q7 (o : Oper) (t : Nat) : List Oper → Nat → Bool
 | [], _ => true
 | x :: r, i => match x.dst with
  | some d => match Nat.beq d t with
   | true => d6 i o && Q7 o t r (i + 1)
   | false => Q7 o t r (i + 1)
  | none => Q7 o t r (i + 1)
def h04 (o : Oper) (ops : List Oper) : List Operand → Bool
 | [] => true
 | .tmp t :: r => Q7 o t ops 0 && h04 o ops r
 | _ :: r => h04 o ops r
def s02 (d : Nat) : List Oper → Bool
 | [] => true
 | o :: r => match o.dst with
  | some d' => !Nat.beq d d' && s02 d r
  | none => s02 d r
def q09 (n : Nat) : List Oper → Bool
 | [] => true
 | o :: r => match o.dst with
  | some d => Nat.blt d n && s02 d r && q09 n r
  | none => q09 n r
def J05 : List Oper → Nat → Bool
 | [], _ => true
 | o :: r, j => (o.after.toList.all fun e => !Region.binds .any e || Nat.blt e.on j) && J05 r (j + 1)
def l0b (ops : List Oper) : List Oper → Bool
 | [] => true
 | o :: r => h04 o ops o.op.operands.toList && l0b ops r
def F6 (n : Nat) (ops : List Oper) : Bool := q09 n ops && J05 ops 0 && l0b ops ops
def m0b : List N2 → Bool
 | [] => true
 | .val _ :: r => m0b r
 | .own _ _ :: _ => false
def B08 : AV → Bool
 | .val _ => true
 | .box _ _ => true
 | .own _ _ => true
 | .agg cs => m0b cs
 | _ => false
def X00 (L : List (Nat × J2)) (st : St) : Operand → AV
 | .tmp t => match K0 L t with
  | some (.pu av) => av
  | some (.ef _) => .dead
  | none => Q0 st.fr t
 | .const v => .val v
 | _ => .dead
def K05 (L : List (Nat × J2)) (st : St) : List Operand → Option (List (Nat × Value))
 | [] => some []
 | .tmp t :: r => match X00 L st (.tmp t) with
  | .val v => match K05 L st r with
   | some vs => some ((t, v) :: vs)
   | none => none
  | _ => none
 | .global _ :: _ => none
 | _ :: r => K05 L st r
def E0a (P : Program) (L : List (Nat × J2)) (o : Oper) (st : St) : Option AV := match H05 o.op, K05 L st o.op.operands.toList with
 | false, some vs => match t03 (rho vs) o with
  | some _ => none
  | none => match evP P (k09 (rho vs) o) with
   | some (.value v) => some (.val v)
   | _ => none
 | _, _ => none
def U0f : AV → Bool
 | .val (.int _ _) => true
 | _ => false
def o0g : BinOp → Bool
 | .lss => true
 | .leq => true
 | .gtr => true
 | .geq => true
 | _ => false
def u03 (P : Program) (L : List (Nat × J2)) (o : Oper) (st : St) : Option AV := match o.op with
 | .move x => match B08 (X00 L st x) with
  | true => some (X00 L st x)
  | false => none
 | .assign x => match B08 (X00 L st x) with
  | true => some (X00 L st x)
  | false => none
 | .load t x => match X00 L st x with
  | .box i off => match nth st.bx i with
   | some (.live cs _) => match o06 P t cs off with
    | some av => match B08 av with
     | true => some av
     | false => none
    | none => none
   | _ => none
  | _ => none
 | .fieldAddr t x k => match X00 L st x, x08 P t k with
  | .box i off, some fo => some (.box i (off + fo))
  | _, _ => none
 | .binOp op _ x y _ => match o0g op, U0f (X00 L st x), U0f (X00 L st y) with
  | true, true, true => E0a P L o st
  | _, _, _ => none
 | .call { callee := .builtin .len, args := as, argTypes := _ } => match as.toList with
  | [x] => match X00 L st x with
   | .val (.slice _ _ _) => E0a P L o st
   | _ => none
  | _ => none
 | _ => none
def N6 (L : List (Nat × J2)) (st : St) : List Oper → List Nat
 | [] => []
 | o :: r => match o.op with
  | .load _ x => match X00 L st x with
   | .box i _ => i :: N6 L st r
   | _ => N6 L st r
  | _ => N6 L st r
def v03 (bx : List BSt) : List Nat → List (Option BSt)
 | [] => []
 | i :: r => nth bx i :: v03 bx r
def F00 (L : List (Nat × J2)) (fr0 : List (Nat × AV)) : List Operand → List (Nat × AV) → (List (Nat × AV) → Prop) → Prop
 | [], acc, K => K acc
 | .tmp t :: r, acc, K => match K0 L t with
  | some (.pu av) => F00 L fr0 r ((t, av) :: acc) K
  | some (.ef _) => F00 L fr0 r ((t, .dead) :: acc) K
  | none => F00 L fr0 r ((t, Q0 fr0 t) :: acc) K
 | _ :: r, acc, K => F00 L fr0 r acc K
def F0a : List (Nat × J2) → List (Nat × AV) → List (Nat × AV)
 | [], fr => fr
 | (d, .pu av) :: r, fr => (d, av) :: F0a r fr
 | (d, .ef _) :: r, fr => (d, .dead) :: F0a r fr
def n0b (av : AV) (st : St) (h : Hp) : AV → St → Hp → Prop := fun av' st' h' => av' = av ∧ st' = st ∧ h' = h
def r09 (P : Program) (st : St) (h : Hp) (L : List (Nat × J2)) (o : Oper) (av : AV) : Prop :=
 match st with
 | ⟨n, fr, bx, ow⟩ => ∀ h', Sub h h' → F00 L fr o.op.operands.toList [] fun fr => d5 P o ⟨n, fr, bx, ow⟩ h' (n0b av ⟨n, fr, bx, ow⟩ h')
def a9 (P : Program) (st : St) (h : Hp) : List Oper → Nat → List (Nat × J2) → List (Nat × Oper) → List (Nat × Oper) → (List (Nat × J2) → List (Nat × Oper) → List (Nat × Oper) → Prop) → Prop
 | [], _, L, X, E, K => K L X E
 | o :: r, i, L, X, E, K => match o.guard with
  | some _ => False
  | none => match u03 P L o st with
   | some av => p7 av fun av => a9 P st h r (i + 1) (C9 o.dst (.pu av) L) X E K
   | none => (∃ av, r09 P st h L o av ∧ p7 av fun av => a9 P st h r (i + 1) (C9 o.dst (.pu av) L) (X ++ [(i, o)]) E K) ∨
     a9 P st h r (i + 1) (C9 o.dst (.ef fun _ _ => True) L) X (E ++ [(i, o)]) K
def C08 (X : List (Nat × Oper)) : Nat → Nat → Oper → Bool
 | 0, i, q => d6 i q
 | n + 1, i, q => d6 i q || X.any fun y => d6 y.1 q && C08 X n i y.2
def p06 (X Y : List (Nat × Oper)) : List (Nat × Oper) → Bool
 | [] => true
 | (_, q) :: _ => X.all fun x => C08 Y 8 x.1 q
def l00 : List (Nat × Oper) → Bool
 | (i, o) :: (j, o') :: r => d6 i o' && l00 ((j, o') :: r)
 | _ => true
def m00 : Nat → Nat → Oper → Bool
 | 0, _, _ => true
 | k + 1, i, o => (Nat.beq k i || d6 k o) && m00 k i o
def t02 (d : Nat) : List Operand → Bool
 | [] => false
 | .tmp t :: r => Nat.beq t d || t02 d r
 | _ :: r => t02 d r
def q06 (d : Nat) : List Oper → Bool
 | [] => false
 | o :: r => t02 d o.op.operands.toList || q06 d r
def W6 : List Oper → List Oper
 | [] => []
 | o :: r => match r with
  | [] => []
  | _ :: _ => o :: W6 r
def r06 : List Oper → Option Oper
 | [] => none
 | o :: r => match r with
  | [] => some o
  | _ :: _ => r06 r
def X0c (ops : List Oper) : Option Oper := match r06 ops with
 | some o => match o.guard, o.dst with
  | none, some d => match q06 d (W6 ops) && m00 (W6 ops).length (W6 ops).length o with
   | true => some o
   | false => none
  | _, _ => none
 | none => none
def D9 (P : Program) (o : Oper) (st : St) (h : Hp) (K : St → Hp → Prop) : Prop :=
 d5 P o st h fun av st h => n06 o.dst 0 [] av ⟨st, h, [], []⟩ fun rs => K rs.st rs.h
def s06 (N i : Nat) (o : Oper) : List (Nat × Oper) → Bool
 | [] => m00 N i o
 | _ :: _ => false
def o0b (c : Nat) (b : Bool) (rd : List Nat) (bx bx' : List BSt) : Prop := match b with
 | true => True
 | false => match c with
  | 0 => v03 bx' rd = v03 bx rd
  | _ + 1 => bx' = bx
def D08 : Nat → List Own → List Own → Hp → Hp → Prop
 | 0, _, _, _, _ => True
 | _ + 1, ow, ow', h, h' => ow' = ow ∧ Sub h h'
def evC (rd : List Nat) (N : Nat) (P : Program) : Nat → List (Nat × Oper) → List (Nat × J2) → St → Hp → (St → Hp → Prop) → Prop
 | _, [], L, ⟨n, fr, bx, ow⟩, h, K => U5 (F0a L fr) fun fr => K ⟨n, fr, bx, ow⟩ h
 | c, (i, o) :: r, L, ⟨n, fr, bx, ow⟩, h, K => F00 L fr o.op.operands.toList [] fun fr1 => d5 P o ⟨n, fr1, bx, ow⟩ h fun av st' h' => match st' with
  | ⟨_, _, bx', ow'⟩ => D08 c ow ow' h h' ∧ o0b c (s06 N i o r) rd bx bx' ∧ p7 av fun av => U5 bx' fun bx' => U5 ow' fun ow' => evC rd N P (c - 1) r (C9 o.dst (.pu av) L) ⟨n, fr, bx', ow'⟩ h' K
def m0e (f : Nat × Oper) (rd : List Nat) (N : Nat) (P : Program) : Nat → List (Nat × Oper) → List (Nat × J2) → St → Hp → (St → Hp → Prop) → Prop
 | 0, E, L, st, h, K => evC rd N P 0 (f :: E) L st h K
 | p + 1, E, L, st, h, K => evC rd N P 0 (f :: E) L st h K ∧ match E with
  | [] => False
  | (i, o) :: r => match st with
   | ⟨n, fr, bx, ow⟩ => F00 L fr o.op.operands.toList [] fun fr1 => d5 P o ⟨n, fr1, bx, ow⟩ h fun av st' h' => match st' with
    | ⟨_, _, bx', ow'⟩ => D08 0 ow ow' h h' ∧ o0b 0 (s06 N i o r) rd bx bx' ∧ p7 av fun av => U5 bx' fun bx' => U5 ow' fun ow' => m0e f rd N P p r (C9 o.dst (.pu av) L) ⟨n, fr, bx', ow'⟩ h' K
def f0c (f : Nat × Oper) : Nat → List (Nat × Oper) → Bool
 | _, [] => false
 | 0, (_, q) :: _ => d6 f.1 q
 | p + 1, _ :: r => f0c f p r
def I07 : Nat → List (Nat × Oper) → Option ((Nat × Oper) × List (Nat × Oper))
 | _, [] => none
 | 0, x :: r => some (x, r)
 | k + 1, x :: r => match I07 k r with
  | some (f, r') => some (f, x :: r')
  | none => none
def noX : List (Nat × Oper) → Bool
 | [] => true
 | _ :: _ => false
def evD (rd : List Nat) (N : Nat) (P : Program) (X E : List (Nat × Oper)) (L : List (Nat × J2)) (st : St) (h : Hp) (K : St → Hp → Prop) : Prop :=
 (∃ c, (l00 E = true ∧ p06 X (X ++ E) (E.drop c) = true) ∧ evC rd N P c E L st h K) ∨
 (∃ k p, match I07 k E with
  | some (f, E') => (noX X = true ∧ l00 E' = true ∧ f0c f p E' = true) ∧ m0e f rd N P p E' L st h K
  | none => False)
abbrev FL := List (Nat × List (Nat × Bool) × J2)
def V8 : FL → Nat → Option (List (Nat × Bool) × J2)
 | [], _ => none
 | (k, x) :: r, s => match Nat.beq k s with
  | true => some x
  | false => V8 r s
def rdU (L : FL) (st : St) (ch : List (Nat × Bool)) : Operand → AV
 | .tmp t => match V8 L t with
  | some (ch2, .pu av) => match m09 ch2 ch with
   | true => rdA st av
   | false => .dead
  | some (_, .ef _) => .dead
  | none => rdA st (Q0 st.fr t)
 | x => rdO st x
def w03 (P : Program) (L : FL) (bs : List BE) (ch : List (Nat × Bool)) (o : Oper) (st : St) : Option AV := match o.op with
 | .move x | .assign x => match rdU L st ch x with
  | .dead => none
  | a => some a
 | .load t x => match rdU L st ch x with
  | .box i off => match nth st.bx i with
   | some (.live cs _) => o06 P t cs off
   | _ => none
  | _ => none
 | .fieldAddr t x k => match rdU L st ch x, x08 P t k with
  | .box i off, some fo => some (.box i (off + fo))
  | .hel s i sz k, some fo => some (.hel s i sz (k + fo))
  | _, _ => none
 | .pick (.tmp s) a b => match rdU L st ch (.tmp s), g04 bs s with
  | .val (.bool e), some q => match m09 q.ch ch with
   | true => match rdU L st ((q.j, true) :: q.ch) a, rdU L st ((q.j, false) :: q.ch) b with
    | .val (.bool x), .val (.bool y) => some (.val (.bool (cond e x y)))
    | _, _ => none
   | false => none
  | _, _ => none
 | _ => none
def b02 (L : FL) (st : St) (h : Hp) (ch : List (Nat × Bool)) : List Operand → List (Nat × AV) → (List (Nat × AV) → Prop) → Prop
 | [], acc, K => K acc
 | .tmp t :: r, acc, K => match V8 L t with
  | some (ch2, f) => match m09 ch2 ch with
   | true => match f with
    | .pu av => b02 L st h ch r ((t, av) :: acc) K
    | .ef F => ∀ v, F v h → b02 L st h ch r ((t, .val v) :: acc) K
   | false => False
  | none => b02 L st h ch r ((t, Q0 st.fr t) :: acc) K
 | _ :: r, acc, K => b02 L st h ch r acc K
def s07 (h : Hp) : FL → List (Nat × AV) → (List (Nat × AV) → Prop) → Prop
 | [], fr, K => K fr
 | (d, [], .pu av) :: r, fr, K => s07 h r ((d, av) :: fr) K
 | (d, [], .ef F) :: r, fr, K => ∀ v, F v h → s07 h r ((d, .val v) :: fr) K
 | (d, _ :: _, _) :: r, fr, K => s07 h r ((d, .dead) :: fr) K
def E08 (d : Option Tmp) (ch : List (Nat × Bool)) (f : J2) (L : FL) : FL := match d with
 | some d => (d, ch, f) :: L
 | none => L
def F08 (i : Nat) (d : Option Tmp) (ch : List (Nat × Bool)) (av : AV) (bs : List BE) : List BE := match d with
 | some d => match av with
  | .val (.bool e) => ⟨i, d, e, ch⟩ :: bs
  | _ => bs
 | none => bs
def G0a (st st' : St) : Prop := st'.n = st.n ∧ st'.fr = st.fr ∧ st'.bx = st.bx ∧ ∃ t, st'.ow = st.ow ++ t
def Y0c (st : St) (h : Hp) (F : Value → Hp → Prop) : AV → St → Hp → Prop := fun av st' h' => rfy av st' h' fun v st'' h'' => G0a st st'' ∧ Sub h h'' ∧ F v h''
def Z0c (P : Program) (t n : Nat) (st : St) (h : Hp) (K : AV → St → Hp → Prop) : Prop :=
 match r7 P t with
 | some e => match W2 P e, Nat.beq n 0 with
  | some (_ + 1), true => ∀ g, h g = none → K (.val (.slice (some ⟨g, 0, none⟩) 0 0)) st (h.set g (.cells #[] e (0, 0)))
  | _, _ => False
 | none => False
def a0d (P : Program) (t : TypeId) (a b : Operand) (st : St) (h : Hp) (K : AV → St → Hp → Prop) : Prop :=
 match r7 P t with
 | some e => match W2 P e, G03 P e, C7 P e with
  | some (sz + 1), some (by_ + 1), some z => match k02 z.cells.toList (sz + 1) with
   | true => match rdO st a with
    | .val (.slice (some ⟨g, o, none⟩) 0 0) => G07 st h (sz + 1) (rdO st b) fun ys => f04 ys.length (by_ + 1) ∧
      ((ys = [] → K (.val (.slice (some ⟨g, o, none⟩) 0 0)) st h) ∧ ∀ v h', O0 h h' v e (sz + 1) true ys → K (.val v) st h')
    | _ => False
   | false => False
  | _, _, _ => False
 | none => False
def s09 (P : Program) (o : Oper) (st : St) (h : Hp) (K : AV → St → Hp → Prop) : Prop :=
 match o.op with
 | .buildSlice t n ps => match ps.toList with
  | [] => Z0c P t n st h K
  | _ :: _ => d5 P o st h K
 | .call { callee := .builtin .append, args := as, argTypes := ts } => match as.toList, ts.toList with
  | [a, b], [t, t'] => match Nat.beq t t' with
   | true => a0d P t a b st h K
   | false => False
  | _, _ => False
 | _ => d5 P o st h K
def evU (P : Program) (l : List Oper) : Nat → FL → List BE → St → Hp → (St → Hp → Prop) → Prop :=
  List.rec (motive := fun _ => Nat → FL → List BE → St → Hp → (St → Hp → Prop) → Prop)
    (fun _ L _ st h K => match st with
      | ⟨n, fr, bx, ow⟩ => ∀ h', Sub h h' → s07 h' L fr fun fr => K ⟨n, fr, bx, ow⟩ h')
    (fun o _ ih i L bs st h K => match st with
      | ⟨n, fr, bx, ow⟩ => match B6 bs o.guard with
        | some ch => match cB bs ch with
          | some c => match w03 P L bs ch o ⟨n, fr, bx, ow⟩ with
            | some av => p7 av fun av => ih (i + 1) (E08 o.dst ch (.pu av) L) (F08 i o.dst ch av bs) ⟨n, fr, bx, ow⟩ h K
            | none => (∃ av, (∀ h', Sub h h' → imp ch c (b02 L ⟨n, fr, bx, ow⟩ h' ch o.op.operands.toList [] fun fr => d5 P o ⟨n, fr, bx, ow⟩ h' (n0b av ⟨n, fr, bx, ow⟩ h'))) ∧
                  p7 av fun av => ih (i + 1) (E08 o.dst ch (.pu av) L) (F08 i o.dst ch av bs) ⟨n, fr, bx, ow⟩ h K) ∨
                (∃ F : Value → Hp → Prop, (∀ v h1 h2, Sub h1 h2 → F v h1 → F v h2) ∧
                  (∀ h', Sub h h' → imp ch c (b02 L ⟨n, fr, bx, ow⟩ h' ch o.op.operands.toList [] fun fr => s09 P o ⟨n, fr, bx, ow⟩ h' (Y0c ⟨n, fr, bx, ow⟩ h' F))) ∧
                  ih (i + 1) (E08 o.dst ch (.ef F) L) bs ⟨n, fr, bx, ow⟩ h K)
          | none => False
        | none => False) l
def c06 : List Oper → Bool
 | [] => true
 | o :: r => (match o.guard with
  | some (j, _) => d6 j o
  | none => true) && c06 r
def t9 (n : Nat) (ops : List Oper) : Bool := F6 n ops && c06 ops
def n0e (P : Program) : List Oper → Bool
 | [] => false
 | o :: r => (match o.guard, o.op with
  | some _, .call { callee := .value _, args := _, argTypes := _ } => match P.underlying o.type with
   | some (.slice _) => true
   | some (.struct _) => true
   | some (.tuple _) => true
   | _ => false
  | _, _ => false) || n0e P r
def a00 (o : Oper) : Bool := match o.op with
 | .alloc _ => true
 | _ => false
def G6 (o : Oper) : Oper := match o.op with
 | .alloc _ => { o with op := .move (.const undef) }
 | _ => o
def L2 : List Oper → List Oper
 | [] => []
 | o :: r => G6 o :: L2 r
def okA (P : Program) (all : List Oper) : List Oper → Bool
 | [] => true
 | o :: r => (match o.op with
  | .alloc t => (match o.guard, o.dst, C7 P t with
   | none, some d, some _ => !q06 d all
   | _, _, _ => false)
  | _ => true) && okA P all r
def H0a (x : Nat) : List Nat → Bool
 | [] => false
 | y :: r => Nat.beq x y || H0a x r
def o0e (ops : List Oper) (i : Nat) : List Nat → Bool
 | [] => false
 | j :: r => (match nth ops j with
  | some o => d6 i o
  | none => false) || o0e ops i r
def J07 (ops : List Oper) : Nat → List Nat → List Nat
 | 0, acc => acc
 | i + 1, acc => match o0e ops i acc with
  | true => J07 ops i (i :: acc)
  | false => J07 ops i acc
def i04 (o : Oper) : Option Nat := match o.guard with
 | some _ => none
 | none => match o.op with
  | .extract (.tmp t) _ => some t
  | .move (.tmp t) => some t
  | .assign (.tmp t) => some t
  | _ => none
def j04 (d : Nat) : List Oper → Bool
 | [] => false
 | o :: r => (match o.dst with
  | some e => Nat.beq e d
  | none => false) || j04 d r
def l01 (ml : List Nat) (t : Nat) : List Oper → Nat → Bool
 | [], _ => true
 | o :: r, i => (match o.dst with
  | some e => !Nat.beq e t || H0a i ml
  | none => true) && l01 ml t r (i + 1)
def m01 (i d : Nat) : List Oper → Bool
 | [] => true
 | o :: r => (!t02 d o.op.operands.toList || d6 i o) && m01 i d r
def p0b (pre tl : List Oper) (ml : List Nat) (i : Nat) (o : Oper) : Bool := match i04 o, o.dst with
 | some t, some d => !j04 d tl && !j04 t tl && l01 ml t pre 0 && m01 i d tl
 | _, _ => false
def d06 (pre tl : List Oper) (ml : List Nat) : List Oper → Nat → Bool
 | [], _ => true
 | o :: r, i => (H0a i ml || p0b pre tl ml i o) && d06 pre tl ml r (i + 1)
def t09 : List Oper → Bool
 | [] => true
 | o :: r => !H05 o.op && t09 r
def b0d : Nat → List Oper → Bool
 | _, [] => true
 | k, o :: r => (match o.guard with
  | none => true
  | some _ => false) && (match r with
  | [] => true
  | o' :: _ => d6 k o') && b0d (k + 1) r
def V0f : List Oper → Bool
 | [] => true
 | _ :: _ => false
def okZ (P : Program) (n m : Nat) (ops : List Oper) : Bool :=
 t9 n (L2 (ops.take m)) && okA P (ops.take m) (ops.take m) && J05 ops 0 && b0d m (ops.drop m) && (V0f (ops.drop m) || (d06 (ops.take m) (ops.drop m) (J07 ops m [m]) (ops.take m) 0 && t09 (ops.drop m)))
abbrev o0f := Oper → St → Hp → (St → Hp → Prop) → Prop
def doA (R : o0f) (l : List Oper) : St → Hp → (St → Hp → Prop) → Prop :=
 List.rec (motive := fun _ => St → Hp → (St → Hp → Prop) → Prop) (fun st h K => K st h) (fun o _ ih st h K => match a00 o with
  | true => R o st h fun st h => ih st h K
  | false => ih st h K) l
def doT (R : o0f) (l : List Oper) : St → Hp → (St → Hp → Prop) → Prop :=
 List.rec (motive := fun _ => St → Hp → (St → Hp → Prop) → Prop) (fun st h K => K st h) (fun o _ ih st h K => R o st h fun st h => ih st h K) l
def evT (P : Program) (R : o0f) (m : Nat) (ops : List Oper) (st : St) (h : Hp) (K : St → Hp → Prop) : Prop :=
 evU P (L2 (ops.take m)) 0 [] [] st h fun st h => doA R (ops.take m) st h fun st h => doT R (ops.drop m) st h K
inductive Ex where
 | normal | ret
 | exit (i : Nat)
structure Ann where
 vars : List Nat
 boxes : List Nat
 owns : List Nat
 nils : List (Nat × Nat × Nat × Nat) := []
 nilsB : List (Nat × Nat × Nat × Nat × Nat) := []
 kept : List Nat := []
 fuel : Bool := false
 pubs : List Nat := []
def u09 : List (Nat × Nat × Nat × Nat) → St → (St → Prop) → Prop
 | [], st, K => K st
 | (s, e, sz, by_) :: r, ⟨n, fr, bx, ow⟩, K => match rdA ⟨n, fr, bx, ow⟩ (Q0 fr s), Nat.blt s n with
  | .val (.slice none 0 0), true => A0a ow fun k => u09 r ⟨n, (s, .own k 0) :: fr, bx, ow ++ [⟨0, .live e sz by_ false []⟩]⟩ K
  | _, _ => False
def t06 : List (Nat × Nat × Nat × Nat × Nat) → St → (St → Prop) → Prop
 | [], st, K => K st
 | (i, k, e, sz, by_) :: r, ⟨n, fr, bx, ow⟩, K => match nth bx i with
  | some (.live cs ty) => match nth cs k with
   | some (.val (.slice none 0 0)) => A0a ow fun j => t06 r ⟨n, fr, M6 bx i (.live (M6 cs k (.own j 0)) ty), ow ++ [⟨0, .live e sz by_ false []⟩]⟩ K
   | _ => False
  | _ => False
def v09 : List Nat → St → Hp → (St → Hp → Prop) → Prop
 | [], st, h, K => K st h
 | s :: r, st, h, K => rfy (rdA st (Q0 st.fr s)) st h fun v st h => match st with
  | ⟨n, fr, bx, ow⟩ => match Nat.blt s n with
   | true => v09 r ⟨n, (s, .val v) :: fr, bx, ow⟩ h K
   | false => False
def i03 (x : Nat) : List Nat → Bool
 | [] => false
 | y :: r => match Nat.beq x y with
  | true => true
  | false => i03 x r
def p0f : List Oper → List Nat → List Nat
 | [], acc => acc
 | o :: r, acc => match o.dst with
  | some d => p0f r (d :: acc)
  | none => p0f r acc
def t07 : Code → List Nat → List Nat
 | .region _ ops _, acc => p0f ops.toList acc
 | .seq a b, acc => t07 a (t07 b acc)
 | .cond _ a b, acc => t07 a (t07 b acc)
 | .block _ a, acc => t07 a acc
 | .loop a, acc => t07 a acc
 | .scope a, acc => t07 a acc
 | _, acc => acc
def Y04 : List Nat → (List Nat → Prop) → Prop
 | [], K => K []
 | x :: r, K => Y04 r fun r => K (x :: r)
def p0e : List Nat → St → (List Value → Prop) → Prop
 | [], _, K => K []
 | s :: r, st, K => match rdA st (Q0 st.fr s) with
  | .val v => p0e r st fun vs => K (v :: vs)
  | _ => False
def w09 : List N2 → St → (List Value → Prop) → Prop
 | [], _, K => K []
 | .val v :: r, st, K => w09 r st fun vs => K (v :: vs)
 | .own _ _ :: r, st, K => w09 r st K
def u06 : List Nat → St → (List Value → Prop) → Prop
 | [], _, K => K []
 | i :: r, st, K => match nth st.bx i with
  | some (.live cs _) => w09 cs st fun vs => u06 r st fun ws => K (vs ++ ws)
  | _ => False
def K07 : List Nat → St → (List (List (List Value)) → Prop) → Prop
 | [], _, K => K []
 | i :: r, st, K => match nth st.ow i with
  | some ⟨_, .live _ _ _ _ xs⟩ => K07 r st fun os => K (xs :: os)
  | _ => False
def I0a (A : Ann) (st : St) (K : List Value → List (List (List Value)) → Prop) : Prop :=
 p0e A.vars st fun vs => u06 A.boxes st fun ws => K07 A.owns st fun os => K (vs ++ ws) os
def w9 : List N2 → List Value → (List N2 → List Value → Prop) → Prop
 | [], vs, K => K [] vs
 | .val _ :: r, v :: vs, K => w9 r vs fun cs rest => K (.val v :: cs) rest
 | .val _ :: _, [], _ => False
 | .own i k :: r, vs, K => w9 r vs fun cs rest => K (.own i k :: cs) rest
def n01 : List Nat → List Value → List BSt → (List BSt → Prop) → Prop
 | [], _, bx, K => K bx
 | i :: r, vs, bx, K => match nth bx i with
  | some (.live cs ty) => w9 cs vs fun cs rest => n01 r rest (M6 bx i (.live cs ty)) K
  | _ => False
def o01 : List Nat → List (List (List Value)) → List Own → (List Own → Prop) → Prop
 | [], _, ow, K => K ow
 | i :: r, xs :: os, ow, K => match nth ow i with
  | some ⟨s, .live e sz by_ nn _⟩ => o01 r os (M6 ow i ⟨s, .live e sz by_ nn xs⟩) K
  | _ => False
 | _ :: _, [], _, _ => False
def u02 {α : Type} : Nat → List α → (List α → List α → Prop) → Prop
 | 0, l, K => K [] l
 | n + 1, x :: l, K => u02 n l fun a b => K (x :: a) b
 | _ + 1, [], _ => False
def headD (A : Ann) (st : St) : List Nat → List (Nat × AV) → (List (Nat × AV) → Prop) → Prop
 | [], acc, K => K acc
 | s :: r, acc, K => match i03 s A.vars with
  | true => headD A st r acc K
  | false => match rdA st (Q0 st.fr s) with
   | .own i k => headD A st r ((s, .own i k) :: acc) K
   | .box i o => headD A st r ((s, .box i o) :: acc) K
   | _ => headD A st r ((s, .dead) :: acc) K
def q0b : List N2 → Bool
 | [] => true
 | .val _ :: r => q0b r
 | .own _ _ :: _ => false
def p01 (A : Ann) (ds : List Nat) (st : St) : List (Nat × AV) → (List (Nat × AV) → Prop) → Prop
 | [], K => K []
 | (s, av) :: r, K => match i03 s ds with
  | true => p01 A ds st r K
  | false => match rdA st av with
   | .own i k => match i03 i A.owns, i03 i A.kept with
    | true, false => p01 A ds st r fun l => K ((s, .dead) :: l)
    | _, _ => p01 A ds st r fun l => K ((s, .own i k) :: l)
   | .oel _ _ _ _ _ => p01 A ds st r fun l => K ((s, .dead) :: l)
   | .agg cs => match q0b cs with
    | true => p01 A ds st r fun l => K ((s, .agg cs) :: l)
    | false => p01 A ds st r fun l => K ((s, .dead) :: l)
   | a => p01 A ds st r fun l => K ((s, a) :: l)
def Z04 : List Nat → List Value → List (Nat × AV) → List (Nat × AV)
 | s :: r, v :: vs, acc => Z04 r vs ((s, .val v) :: acc)
 | _, _, acc => acc
def L05 (head end_ : St) : List (Nat × AV) → Bool
 | [] => true
 | (s, av) :: r => match av with
  | .own i _ => match rdA end_ (Q0 end_.fr s) with
   | .own j _ => match Nat.beq i j with
    | true => L05 head end_ r
    | false => false
   | _ => false
  | .box i o => match rdA end_ (Q0 end_.fr s) with
   | .box j p => match Nat.beq i j, Nat.beq o p with
    | true, true => L05 head end_ r
    | _, _ => false
   | _ => false
  | _ => L05 head end_ r
def J0a : AV → Bool
 | .dead => true
 | _ => false
def g0c : List (Nat × AV) → List AV
 | [] => []
 | (_, av) :: r => match J0a av with
  | true => g0c r
  | false => av :: g0c r
def L07 (fr : List (Nat × AV)) : List (Nat × AV) → List AV
 | [] => []
 | (s, av) :: r => match J0a av with
  | true => L07 fr r
  | false => Q0 fr s :: L07 fr r
def q01 (head end_ : St) : List N2 → List N2 → Bool
 | [], [] => true
 | .val _ :: r, .val _ :: r' => q01 head end_ r r'
 | .own i _ :: r, .own j k' :: r' => match Nat.beq i j, rdA end_ (.own j k') with
  | true, .own _ _ => q01 head end_ r r'
  | _, _ => false
 | _, _ => false
def k04 (os : List Nat) : List N2 → Bool
 | [] => true
 | .val _ :: r => k04 os r
 | .own i _ :: r => match i03 i os with
  | true => false
  | false => k04 os r
def K0a (os : List Nat) : BSt → Bool
 | .live cs _ => k04 os cs
 | .publ _ => true
def a05 (A : Ann) (head end_ : St) : Nat → List BSt → List BSt → Prop
 | _, [], _ => True
 | i, b :: r, b' :: r' => match i03 i A.boxes with
  | true => match b, b' with
   | .live cs ty, .live cs' ty' => match Nat.beq ty ty', q01 head end_ cs cs' with
    | true, true => a05 A head end_ (i + 1) r r'
    | _, _ => False
   | _, _ => False
  | false => match K0a A.owns b with
   | true => b' = b ∧ a05 A head end_ (i + 1) r r'
   | false => False
 | _, _ :: _, [] => False
def leB (a b : Bool) : Bool := match a with
 | true => b
 | false => true
def b05 (A : Ann) : Nat → List Own → List Own → Prop
 | _, [], _ => True
 | i, b :: r, b' :: r' => match i03 i A.owns with
  | true => match b, b' with
   | ⟨s, .live e sz by_ nn _⟩, ⟨s', .live e' sz' by' nn' _⟩ => match Nat.beq e e', Nat.beq sz sz', Nat.beq by_ by', leB nn nn', leB (i03 i A.kept) (Nat.beq s s') with
    | true, true, true, true, true => b05 A (i + 1) r r'
    | _, _, _, _, _ => False
   | _, _ => False
  | false => b' = b ∧ b05 A (i + 1) r r'
 | _, _ :: _, [] => False
def l04 : Nat → (List Value → Prop) → Prop
 | 0, K => K []
 | n + 1, K => ∀ v, l04 n fun vs => K (v :: vs)
def m04 : Nat → (List (List (List Value)) → Prop) → Prop
 | 0, K => K []
 | n + 1, K => ∀ xs, m04 n fun os => K (xs :: os)
abbrev c05 := List Value → List (List (List Value)) → Hp → Prop
abbrev c02 := List Value → List (List (List Value)) → Nat
def q0e : List Value → List Value → Bool
 | [], [] => true
 | _ :: r, _ :: r' => q0e r r'
 | _, _ => false
def x09 (A : Ann) (I : c05) (vs : List Value) (os : List (List (List Value))) (h : Hp) : Prop := match A.fuel with
 | false => I vs os h
 | true => ∃ m : Nat, I (.int .i64 m :: vs) os h
def y09 (A : Ann) (I : c05) (μ : c02) (vs : List Value) (os : List (List (List Value))) (X : Nat → Hp → Prop) : Prop := match A.fuel with
 | false => ∀ h', I vs os h' → X (μ vs os) h'
 | true => ∀ (m : Nat) (h' : Hp), I (.int .i64 m :: vs) os h' → X m h'
def r0e (A : Ann) (I : c05) (μ : c02) (m : Nat) (vs : List Value) (os : List (List (List Value))) (h : Hp) : Prop := match A.fuel with
 | false => I vs os h ∧ μ vs os < m
 | true => ∃ m' : Nat, I (.int .i64 m' :: vs) os h ∧ m' < m
def atI (A : Ann) (I : c05) (μ : c02) (m : Nat) (vs : List Value) (os : List (List (List Value))) (h : Hp) : Prop := match A.fuel with
 | false => I vs os h ∧ m = μ vs os
 | true => I (.int .i64 m :: vs) os h
theorem c0d {A : Ann} {I : c05} {μ : c02} {vs : List Value} {os : List (List (List Value))} {h : Hp} (hh : x09 A I vs os h) : ∃ m, atI A I μ m vs os h := by
 unfold x09 at hh
 unfold atI
 cases hf : A.fuel with
 | false => rw [hf] at hh; exact ⟨_, hh, rfl⟩
 | true => rw [hf] at hh; exact hh
theorem d0d {A : Ann} {I : c05} {μ : c02} {vs : List Value} {os : List (List (List Value))} {X : Nat → Hp → Prop} (hh : y09 A I μ vs os X) {m : Nat} {h : Hp} (ha : atI A I μ m vs os h) : X m h := by
 unfold y09 at hh
 unfold atI at ha
 cases hf : A.fuel with
 | false => rw [hf] at hh ha; rw [ha.2]; exact hh _ ha.1
 | true => rw [hf] at hh ha; exact hh _ _ ha
theorem s0e {A : Ann} {I : c05} {μ : c02} {m : Nat} {vs : List Value} {os : List (List (List Value))} {h : Hp} (hh : r0e A I μ m vs os h) : ∃ m', atI A I μ m' vs os h ∧ m' < m := by
 unfold r0e at hh
 unfold atI
 cases hf : A.fuel with
 | false => rw [hf] at hh; exact ⟨_, ⟨hh.1, rfl⟩, hh.2⟩
 | true => rw [hf] at hh; exact hh
def e0d (A : Ann) (dyn sta : List (Nat × AV)) (st0 : St) (I : c05) (μ : c02) (vs0 : List Value) (m : Nat) (st : St) (h : Hp) : Prop :=
 match Nat.beq st.n st0.n, L05 st0 st dyn with
 | true, true => L07 st.fr sta = g0c sta ∧ a05 A st0 st 0 st0.bx st.bx ∧ b05 A 0 st0.ow st.ow ∧
   I0a A st fun vs os => match q0e vs vs0 with
    | true => u02 A.vars.length vs fun _ v2 => n01 A.boxes v2 st0.bx fun _ => o01 A.owns os st0.ow fun _ => r0e A I μ m vs os h
    | false => False
 | _, _ => False
def r0b (body : (Ex → St → Hp → Prop) → St → Hp → Prop) (ds0 : List Nat) (Q : Ex → St → Hp → Prop) (st : St) (h : Hp) : Prop :=
 ∃ (A : Ann) (I : c05) (μ : c02), u09 A.nils st fun st => t06 A.nilsB st fun st => v09 A.pubs st h fun st h => I0a A st fun vs0 os0 => x09 A I vs0 os0 h ∧
  Y04 ds0 fun ds => headD A st ds [] fun dyn => p01 A ds st st.fr fun sta =>
   l04 vs0.length fun vs => m04 os0.length fun os => y09 A I μ vs os fun m h' =>
    u02 A.vars.length vs fun v1 v2 => n01 A.boxes v2 st.bx fun bx => o01 A.owns os st.ow fun ow =>
     body (fun e st' h'' => match e with
      | .normal => v09 A.pubs st' h'' fun st' h'' => e0d A dyn sta st I μ vs m st' h''
      | e => Q e st' h'') ⟨st.n, Z04 A.vars v1 (dyn ++ sta), bx, ow⟩ h'
def f0d (b : Bool) (X Y : Prop) : Prop := (b = true → X) ∧ (b = false → Y)
def ev (P : Program) : Code → (Ex → St → Hp → Prop) → St → Hp → Prop
 | .skip, Q, st, h => Q .normal st h
 | .region _ ops false, Q, st, h => match n0e P ops.toList with
  | true => t9 st.n ops.toList = true ∧ evU P ops.toList 0 [] [] st h fun st h => Q .normal st h
  | false => I05 P ops.toList 0 ⟨st, h, [], []⟩ fun rs => Q .normal rs.st rs.h
 | .region _ ops true, Q, st, h => ((P.follows .mixedOrders = true ∧ Region.lexB .any ops = true) ∧
   evQ P ops.toList 0 ⟨st, h, [], []⟩ fun rs => Q .normal rs.st rs.h) ∨
   ((P.follows .mixedOrders = true ∧ F6 st.n ops.toList = true) ∧ evS P ops.toList [] st h fun st h => Q .normal st h) ∨
   (match X0c ops.toList with
    | none => (P.follows .mixedOrders = true ∧ F6 st.n ops.toList = true) ∧ a9 P st h ops.toList 0 [] [] [] fun L X E => evD (N6 L st ops.toList) ops.size P X E L st h fun st h => Q .normal st h
    | some o => (P.follows .mixedOrders = true ∧ (F6 st.n (W6 ops.toList) && J05 ops.toList 0) = true) ∧ a9 P st h (W6 ops.toList) 0 [] [] [] fun L X E => evD (N6 L st (W6 ops.toList)) (W6 ops.toList).length P X E L st h fun st h => D9 P o st h fun st h => Q .normal st h) ∨
   ((P.follows .mixedOrders = true ∧ t9 st.n ops.toList = true) ∧ evU P ops.toList 0 [] [] st h fun st h => Q .normal st h) ∨
   (∃ m, (P.follows .mixedOrders = true ∧ okZ P st.n m ops.toList = true) ∧ evT P (D9 P) m ops.toList st h fun st h => Q .normal st h)
 | .seq a b, Q, st, h => ev P a (fun e st h => match e with
  | .normal => ev P b Q st h
  | e => Q e st h) st h
 | .cond c t e, Q, st, h => match rdO st c with
  | .val (.bool b) => f0d b (ev P t Q st h) (ev P e Q st h)
  | _ => False
 | .block id c, Q, st, h => ev P c (fun e st h => match e with
  | .exit i => match Nat.beq i id with
   | true => Q .normal st h
   | false => Q (.exit i) st h
  | e => Q e st h) st h
 | .loop body, Q, st, h => r0b (fun Q => ev P body Q) (t07 body []) Q st h
 | .exit id, Q, st, h => Q (.exit id) st h
 | .ret, Q, st, h => Q .ret st h
 | _, _, _, _ => False
def L0a (P : Program) : List ResultVar → St → Hp → (List Value → St → Hp → Prop) → Prop
 | [], st, h, K => K [] st h
 | .tmp t :: r, st, h, K => rfy (rdA st (Q0 st.fr t)) st h fun v st h => L0a P r st h fun vs st h => K (v :: vs) st h
 | .cell t ty :: r, st, h, K => match rdA st (Q0 st.fr t) with
  | .box i off => match nth st.bx i with
   | some (.live cs _) => g00 P ty cs off fun av => rfy av st h fun v st h => L0a P r st h fun vs st h => K (v :: vs) st h
   | _ => False
  | _ => False
def z09 : List Value → Value
 | [v] => v
 | vs => .tuple vs.toArray
def n04 : Nat → List Value → List (Nat × AV)
 | _, [] => []
 | i, v :: r => (i, .val v) :: n04 (i + 1) r
def q0f (P : Program) (fn : Func) (args : List Value) (h : Hp) (T : Value → Hp → Prop) : Prop :=
 match fn.body with
 | some c => match Nat.ble args.length fn.ntmps with
  | true => ev P c (fun e st h => match e with
   | .exit _ => False
   | _ => L0a P fn.results.toList st h fun vs _ h => T (z09 vs) h) ⟨fn.ntmps, n04 0 args, [], []⟩ h
  | false => False
 | none => False
end Go.H
