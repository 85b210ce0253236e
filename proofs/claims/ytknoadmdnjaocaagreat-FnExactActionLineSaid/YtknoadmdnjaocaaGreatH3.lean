/- Plain laws over the model: what a function's code asks: regions with guards, regions that draw their order, branches and loops. -/
import Derived.Test.YtknoadmdnjaocaaGreatH2
namespace Go.H
set_option linter.unusedVariables false
structure BE where
 j : Nat
 d : Nat
 e : Bool
 ch : List (Nat × Bool)
structure RS where
 st : St
 h : Hp
 gf : List (Nat × List (Nat × Bool) × AV)
 bs : List BE
def X09 : List (Nat × List (Nat × Bool) × AV) → Nat → Option (List (Nat × Bool) × AV)
 | [], _ => none
 | (k, x) :: r, s => match Nat.beq k s with
  | true => some x
  | false => X09 r s
def eqB (a b : Bool) : Bool := match a, b with
 | true, true => true
 | false, false => true
 | _, _ => false
def l0j : List (Nat × Bool) → List (Nat × Bool) → Bool
 | [], [] => true
 | (j, w) :: r, (j', w') :: r' => match Nat.beq j j', eqB w w' with
  | true, true => l0j r r'
  | _, _ => false
 | _, _ => false
def T0d (a : List (Nat × Bool)) : List (Nat × Bool) → Bool
 | [] => l0j a []
 | x :: r => match l0j a (x :: r) with
  | true => true
  | false => T0d a r
def rdG (rs : RS) (ch : List (Nat × Bool)) : Operand → AV
 | .tmp t => match X09 rs.gf t with
  | some (ch2, av) => match T0d ch2 ch with
   | true => rdA rs.st av
   | false => .dead
  | none => rdA rs.st (T1 rs.st.fr t)
 | x => rdO rs.st x
def u00 : List BE → Nat → Option BE
 | [], _ => none
 | b :: r, j => match Nat.beq b.j j with
  | true => some b
  | false => u00 r j
def J06 : List BE → Nat → Option BE
 | [], _ => none
 | b :: r, s => match Nat.beq b.d s with
  | true => some b
  | false => J06 r s
def lit (w e : Bool) : Bool := match w with
 | true => e
 | false => !e
def cB (bs : List BE) : List (Nat × Bool) → Option Bool
 | [] => some true
 | (j, w) :: r => match u00 bs j with
  | some b => match r with
   | [] => some (lit w b.e)
   | _ => match cB bs r with
    | some c => some (lit w b.e && c)
    | none => none
  | none => none
def C8 (bs : List BE) : Option (Nat × Bool) → Option (List (Nat × Bool))
 | none => some []
 | some (j, w) => match u00 bs j with
  | some b => some ((j, w) :: b.ch)
  | none => none
def imp (ch : List (Nat × Bool)) (c : Bool) (X : Prop) : Prop := match ch with
 | [] => X
 | _ => c = true → X
def U0d (rs : RS) (ch : List (Nat × Bool)) : List Operand → Option (List (Nat × Value))
 | [] => some []
 | .tmp t :: r => match h02 (rdG rs ch (.tmp t)) with
  | some v => match U0d rs ch r with
   | some vs => some ((t, v) :: vs)
   | none => none
  | none => none
 | .global _ :: _ => none
 | _ :: r => U0d rs ch r
def G0k (rs : RS) (ch : List (Nat × Bool)) : List Operand → St → Hp → (List (Nat × Value) → St → Hp → Prop) → Prop
 | [], st, h, K => K [] st h
 | .tmp t :: r, st, h, K => rfy (rdA st (rdG rs ch (.tmp t))) st h fun v st h => G0k rs ch r st h fun vs st h => K ((t, v) :: vs) st h
 | .global _ :: _, _, _, _ => False
 | _ :: r, st, h, K => G0k rs ch r st h K
def Q0c (P : Program) (o : Oper) (ch : List (Nat × Bool)) (c : Bool) (rs : RS) (K : AV → Prop) : Prop :=
 match T08 o.op, U0d rs ch o.op.operands.toList with
 | false, some vs => match U05 (rho vs) o with
  | some (f, l) => match okF P f with
   | true => ∃ v, imp ch c (Tr P f l.toArray rs.h fun v' h' => v' = v ∧ h' = rs.h) ∧ K (.val v)
   | false => False
  | none => match evP P (Q0d (rho vs) o) with
   | some (.value v) => K (.val v)
   | _ => False
 | false, none => ∃ r, imp ch c (G0k rs ch o.op.operands.toList rs.st rs.h fun vs _ hf => match U05 (rho vs) o with
  | some (f, l) => match okF P f with
   | true => Tr P f l.toArray hf fun v h' => v = r ∧ h' = hf
   | false => False
  | none => False) ∧ K (.val r)
 | _, _ => False
def evG (P : Program) (o : Oper) (ch : List (Nat × Bool)) (c : Bool) (rs : RS) (K : AV → Prop) : Prop :=
 match o.op with
 | .move x | .assign x => match rdG rs ch x with
  | .dead => False
  | a => K a
 | .pick (.tmp s) a b => match rdG rs ch (.tmp s), J06 rs.bs s with
  | .val (.bool e), some q => match T0d q.ch ch with
   | true => match rdG rs ((q.j, true) :: q.ch) a, rdG rs ((q.j, false) :: q.ch) b with
    | .val (.bool x), .val (.bool y) => K (.val (.bool (cond e x y)))
    | _, _ => False
   | false => False
  | _, _ => False
 | .fieldAddr t x k => match rdG rs ch x, N0c P t k with
  | .box i off, some fo => K (.box i (off + fo))
  | .hel s i sz k, some fo => K (.hel s i sz (k + fo))
  | .oel i s j sz k, some fo => K (.oel i s j sz (k + fo))
  | _, _ => False
 | .indexAddr t x i => match rdG rs ch i with
  | .val (.int _ j) => match O9 P t with
   | some e => match I5 P e with
    | some sz => match rdG rs ch x with
     | .val (.slice a n cp) => imp ch c (InB (.slice a n cp) j) ∧ K (.hel (.slice a n cp) j sz 0)
     | .own i k => match nth rs.st.ow i with
      | some ⟨_, .live _ sz' _ _ xs⟩ => match Nat.beq sz' sz with
       | true => imp ch c (0 ≤ j ∧ j < (xs.length : Int)) ∧ K (.oel i k j sz 0)
       | false => False
      | _ => False
     | _ => False
    | none => False
   | none => False
  | _ => False
 | .load t x => match rdG rs ch x with
  | .box i off => match nth rs.st.bx i with
   | some (.live cs _) => f02 P t cs off K
   | _ => False
  | .hel s idx sz k => ∃ e, imp ch c (U00 rs.h s sz idx e) ∧ f02 P t (vals e) k K
  | .oel i _ idx sz k => match nth rs.st.ow i with
   | some ⟨_, .live _ sz' _ _ xs⟩ => match Nat.beq sz' sz with
    | true => ∃ e, imp ch c (xs[idx.toNat]? = some e) ∧ f02 P t (vals e) k K
    | false => False
   | _ => False
  | _ => False
 | .build t ps => match P.underlying t, N9 P t with
  | some (.struct fs), some z => match l03 P fs.toList with
   | true => z04 P fs (rdG rs ch) ps.toList (vals z.cells.toList) fun cs => K (.agg cs)
   | false => False
  | _, _ => False
 | .index t x i => match rdG rs ch x, rdG rs ch i, P.underlying t with
  | .val (.string s), .val (.int _ j), some .string => ∃ e, imp ch c (0 ≤ j ∧ s[j.toNat]? = some e) ∧ K (.val (.int .u8 e.toNat))
  | _, _, _ => False
 | .slice t x lo hi none => match rdG rs ch x, P.underlying t with
  | .val (.string s), some .string => match L02 0 (lo.map (rdG rs ch)), L02 s.size (hi.map (rdG rs ch)) with
   | some l, some m => imp ch c (0 ≤ l ∧ l ≤ m ∧ m ≤ (s.size : Int)) ∧ K (.val (.string (s.extract l.toNat m.toNat)))
   | _, _ => False
  | .val (.slice ad n cp), _ => match O9 P t with
   | some e => match I5 P e with
    | some sz => match L02 0 (lo.map (rdG rs ch)), L02 n (hi.map (rdG rs ch)) with
     | some l, some m => ∃ v, imp ch c ((0 ≤ l ∧ l ≤ m ∧ m ≤ (n : Int) ∧ n ≤ cp) ∧ P0f sz (.slice ad n cp) l.toNat m.toNat v) ∧ K (.val v)
     | _, _ => False
    | none => False
   | none => False
  | _, _ => False
 | .binOp .eql t x y yt => match h02 (rdG rs ch x), h02 (rdG rs ch y) with
  | some (.agg xs), some (.agg ys) => ∃ b, imp ch c (U08 P o x y (.agg xs) (.agg ys) b) ∧ K (.val (.bool b))
  | some (.slice a n m), some (.slice none 0 0) => ∃ b, imp ch c (U08 P o x y (.slice a n m) (.slice none 0 0) b) ∧ K (.val (.bool b))
  | _, _ => Q0c P o ch c rs K
 | .binOp .neq t x y yt => match h02 (rdG rs ch x), h02 (rdG rs ch y) with
  | some (.agg xs), some (.agg ys) => ∃ b, imp ch c (U08 P o x y (.agg xs) (.agg ys) b) ∧ K (.val (.bool b))
  | _, _ => Q0c P o ch c rs K
 | .binOp .add t x y yt => match rdG rs ch x, rdG rs ch y with
  | .val (.string a), .val (.string b) => imp ch c (a.size + b.size ≤ 9223372036854775807) ∧ K (.val (.string (a ++ b)))
  | _, _ => Q0c P o ch c rs K
 | .binOp .quo t x y yt => match rdG rs ch x, rdG rs ch y with
  | .val (.int .i64 a), .val (.int .i64 b) => imp ch c (b ≠ 0) ∧ K (.val (.int .i64 (IntKind.i64.wrap (a.tdiv b))))
  | _, _ => Q0c P o ch c rs K
 | .binOp .rem t x y yt => match rdG rs ch x, rdG rs ch y with
  | .val (.int .i64 a), .val (.int .i64 b) => imp ch c (b ≠ 0) ∧ K (.val (.int .i64 (a.tmod b)))
  | _, _ => Q0c P o ch c rs K
 | .call { callee := .builtin .len, args := as, argTypes := ts } => match as.toList, ts.toList with
  | [x], [t] => match rdG rs ch x with
   | .own i _ => match nth rs.st.ow i, O9 P t with
    | some ⟨_, .live _ _ _ _ xs⟩, some _ => K (.val (.int .i64 xs.length))
    | _, _ => False
   | _ => Q0c P o ch c rs K
  | _, _ => False
 | _ => Q0c P o ch c rs K
def B04 (rs : RS) (d : Nat) : Bool := match X09 rs.gf d, J06 rs.bs d with
 | none, none => false
 | _, _ => true
def V0d (i d : Nat) (ch : List (Nat × Bool)) (av : AV) (bs : List BE) : List BE := match av with
 | .val (.bool e) => ⟨i, d, e, ch⟩ :: bs
 | _ => bs
def Y09 (d : Option Tmp) (i : Nat) (ch : List (Nat × Bool)) (av : AV) (rs : RS) (K : RS → Prop) : Prop :=
 match d with
 | none => K rs
 | some d => match Nat.blt d rs.st.n, B04 rs d with
  | true, false => match ch with
   | [] => K { rs with st := { rs.st with fr := (d, av) :: rs.st.fr }, bs := V0d i d ch av rs.bs }
   | _ => K { rs with st := { rs.st with fr := (d, .dead) :: rs.st.fr }, gf := (d, ch, av) :: rs.gf, bs := V0d i d ch av rs.bs }
  | _, _ => False
def R0f : Op → Bool
 | .pick .. => true
 | _ => false
def V08 (P : Program) : List Oper → Nat → RS → (RS → Prop) → Prop
 | [], _, rs, K => K rs
 | o :: r, i, rs, K => match o.guard, R0f o.op with
  | none, false => y7 P o rs.st rs.h fun av st h => Y09 o.dst i [] av { rs with st := st, h := h } fun rs => V08 P r (i + 1) rs K
  | _, _ => match C8 rs.bs o.guard with
   | some ch => match cB rs.bs ch with
    | some c => evG P o ch c rs fun av => Y09 o.dst i ch av rs fun rs => V08 P r (i + 1) rs K
    | none => False
   | none => False
def evQ (P : Program) : List Oper → Nat → RS → (RS → Prop) → Prop
 | [], _, rs, K => K rs
 | o :: r, i, rs, K => match C8 rs.bs o.guard with
  | some ch => match cB rs.bs ch with
   | some c => evG P o ch c rs fun av => Y09 o.dst i ch av rs fun rs => evQ P r (i + 1) rs K
   | none => False
  | none => False
def Sub (h h' : Hp) : Prop := ∀ b o, h b = some o → h' b = some o
def m0j (v : Value) (K : Value → Prop) : Prop := match v with
 | .bool b => K (.bool b)
 | .int k n => K (.int k n)
 | .string s => K (.string s)
 | .pointer a => K (.pointer a)
 | .slice a n c => K (.slice a n c)
 | .func f x y => K (.func f x y)
 | .agg cs => K (.agg cs)
 | .tuple vs => K (.tuple vs)
 | v => K v
theorem j0i (v : Value) (K : Value → Prop) : m0j v K = K v := by cases v <;> rfl
def M9 {α : Type} : List α → (List α → Prop) → Prop
 | [], K => K []
 | x :: r, K => M9 r fun r => K (x :: r)
theorem i00 {α : Type} : ∀ (l : List α) (K : List α → Prop), M9 l K = K l
 | [], K => rfl
 | x :: r, K => by simp only [M9, i00 r]
def i02 : Nat → (Nat → Prop) → Prop
 | 0, K => K 0
 | n + 1, K => i02 n fun m => K (m + 1)
theorem C04 : ∀ (n : Nat) (K : Nat → Prop), i02 n K = K n
 | 0, K => rfl
 | n + 1, K => by simp only [i02, C04 n]
def G00 (av : AV) (K : AV → Prop) : Prop := match av with
 | .val v => m0j v fun v => K (.val v)
 | .own i k => K (.own i k)
 | .box i k => K (.box i k)
 | .hel s i z k => i02 z fun z => i02 k fun k => K (.hel s i z k)
 | .oel j s i z k => i02 z fun z => i02 k fun k => K (.oel j s i z k)
 | .agg cs => M9 cs fun cs => K (.agg cs)
 | .dead => K .dead
theorem j00 (av : AV) (K : AV → Prop) : G00 av K = K av := by
 cases av with
 | val v => exact j0i v (fun v => K (.val v))
 | hel s i z k => simp only [G00, C04]
 | oel j s i z k => simp only [G00, C04]
 | agg cs => simp only [G00, i00]
 | _ => rfl
inductive J5 where
 | pu (av : AV)
 | ef (F : Value → Hp → Prop)
def I1 : List (Nat × J5) → Nat → Option J5
 | [], _ => none
 | (k, x) :: r, s => match Nat.beq k s with
  | true => some x
  | false => I1 r s
def rdS (L : List (Nat × J5)) (st : St) : Operand → AV
 | .tmp t => match I1 L t with
  | some (.pu av) => rdA st av
  | some (.ef _) => .dead
  | none => rdA st (T1 st.fr t)
 | x => rdO st x
def Z09 (P : Program) (t : TypeId) (cs : List V4) (off : Nat) : Option AV :=
 match M0c P t with
 | some true => match I5 P t with
  | some n => match x04 ((cs.drop off).take n) n with
   | true => some (.agg ((cs.drop off).take n))
   | false => none
  | none => none
 | some false => match nth cs off with
  | some c => some (ofCell c)
  | none => none
 | none => none
def l06 (P : Program) (L : List (Nat × J5)) (o : Oper) (st : St) : Option AV := match o.op with
 | .move x | .assign x => match rdS L st x with
  | .dead => none
  | a => some a
 | .load t x => match rdS L st x with
  | .box i off => match nth st.bx i with
   | some (.live cs _) => Z09 P t cs off
   | _ => none
  | _ => none
 | _ => none
def D04 (L : List (Nat × J5)) (st : St) (h : Hp) : List Operand → List (Nat × AV) → (List (Nat × AV) → Prop) → Prop
 | [], acc, K => K acc
 | .tmp t :: r, acc, K => match I1 L t with
  | some (.pu av) => D04 L st h r ((t, av) :: acc) K
  | some (.ef F) => ∀ v, F v h → D04 L st h r ((t, .val v) :: acc) K
  | none => D04 L st h r ((t, T1 st.fr t) :: acc) K
 | _ :: r, acc, K => D04 L st h r acc K
def W0d (h : Hp) : List (Nat × J5) → List (Nat × AV) → (List (Nat × AV) → Prop) → Prop
 | [], fr, K => K fr
 | (d, .pu av) :: r, fr, K => W0d h r ((d, av) :: fr) K
 | (d, .ef F) :: r, fr, K => ∀ v, F v h → W0d h r ((d, .val v) :: fr) K
def j02 (d : Option Tmp) (f : J5) (L : List (Nat × J5)) : List (Nat × J5) := match d with
 | some d => (d, f) :: L
 | none => L
def p0l (st : St) (h : Hp) (F : Value → Hp → Prop) : AV → St → Hp → Prop
 | .val v, st', h' => st' = st ∧ Sub h h' ∧ F v h'
 | _, _, _ => False
def evS (P : Program) : List Oper → List (Nat × J5) → St → Hp → (St → Hp → Prop) → Prop
 | [], L, ⟨n, fr, bx, ow⟩, h, K => ∀ h', Sub h h' → W0d h' L fr fun fr => K ⟨n, fr, bx, ow⟩ h'
 | o :: r, L, ⟨n, fr, bx, ow⟩, h, K => match o.guard with
  | some _ => False
  | none => match l06 P L o ⟨n, fr, bx, ow⟩ with
   | some av => G00 av fun av => evS P r (j02 o.dst (.pu av) L) ⟨n, fr, bx, ow⟩ h K
   | none => ∃ F : Value → Hp → Prop, (∀ v h1 h2, Sub h1 h2 → F v h1 → F v h2) ∧
     (∀ h', Sub h h' → D04 L ⟨n, fr, bx, ow⟩ h' o.op.operands.toList [] fun fr => y7 P o ⟨n, fr, bx, ow⟩ h' (p0l ⟨n, fr, bx, ow⟩ h' F)) ∧
     evS P r (j02 o.dst (.ef F) L) ⟨n, fr, bx, ow⟩ h K
def Q8 (i : Nat) (o : Oper) : Bool := o.after.toList.any fun e => Region.binds .any e && Nat.beq e.on i
def k00 (o : Oper) (t : Nat) : List Oper → Nat → Bool
 | [], _ => true
 | x :: r, i => match x.dst with
  | some d => match Nat.beq d t with
   | true => Q8 i o && k00 o t r (i + 1)
   | false => k00 o t r (i + 1)
  | none => k00 o t r (i + 1)
def K06 (o : Oper) (ops : List Oper) : List Operand → Bool
 | [] => true
 | .tmp t :: r => k00 o t ops 0 && K06 o ops r
 | _ :: r => K06 o ops r
def E04 (d : Nat) : List Oper → Bool
 | [] => true
 | o :: r => match o.dst with
  | some d' => !Nat.beq d d' && E04 d r
  | none => E04 d r
def X0d (n : Nat) : List Oper → Bool
 | [] => true
 | o :: r => match o.dst with
  | some d => Nat.blt d n && E04 d r && X0d n r
  | none => X0d n r
def W08 : List Oper → Nat → Bool
 | [], _ => true
 | o :: r, j => (o.after.toList.all fun e => !Region.binds .any e || Nat.blt e.on j) && W08 r (j + 1)
def Q0g (ops : List Oper) : List Oper → Bool
 | [] => true
 | o :: r => K06 o ops o.op.operands.toList && Q0g ops r
def G8 (n : Nat) (ops : List Oper) : Bool := X0d n ops && W08 ops 0 && Q0g ops ops
def R0g : List V4 → Bool
 | [] => true
 | .val _ :: r => R0g r
 | .own _ _ :: _ => false
def R0c : AV → Bool
 | .val _ => true
 | .box _ _ => true
 | .own _ _ => true
 | .agg cs => R0g cs
 | _ => false
def c03 (L : List (Nat × J5)) (st : St) : Operand → AV
 | .tmp t => match I1 L t with
  | some (.pu av) => av
  | some (.ef _) => .dead
  | none => T1 st.fr t
 | .const v => .val v
 | _ => .dead
def X08 (L : List (Nat × J5)) (st : St) : List Operand → Option (List (Nat × Value))
 | [] => some []
 | .tmp t :: r => match c03 L st (.tmp t) with
  | .val v => match X08 L st r with
   | some vs => some ((t, v) :: vs)
   | none => none
  | _ => none
 | .global _ :: _ => none
 | _ :: r => X08 L st r
def S0f (P : Program) (L : List (Nat × J5)) (o : Oper) (st : St) : Option AV := match T08 o.op, X08 L st o.op.operands.toList with
 | false, some vs => match U05 (rho vs) o with
  | some _ => none
  | none => match evP P (Q0d (rho vs) o) with
   | some (.value v) => some (.val v)
   | _ => none
 | _, _ => none
def u0m : AV → Bool
 | .val (.int _ _) => true
 | _ => false
def O0m : BinOp → Bool
 | .lss => true
 | .leq => true
 | .gtr => true
 | .geq => true
 | _ => false
def V05 (P : Program) (L : List (Nat × J5)) (o : Oper) (st : St) : Option AV := match o.op with
 | .move x => match R0c (c03 L st x) with
  | true => some (c03 L st x)
  | false => none
 | .assign x => match R0c (c03 L st x) with
  | true => some (c03 L st x)
  | false => none
 | .load t x => match c03 L st x with
  | .box i off => match nth st.bx i with
   | some (.live cs _) => match Z09 P t cs off with
    | some av => match R0c av with
     | true => some av
     | false => none
    | none => none
   | _ => none
  | _ => none
 | .fieldAddr t x k => match c03 L st x, N0c P t k with
  | .box i off, some fo => some (.box i (off + fo))
  | _, _ => none
 | .binOp op _ x y _ => match O0m op, u0m (c03 L st x), u0m (c03 L st y) with
  | true, true, true => S0f P L o st
  | _, _, _ => none
 | .call { callee := .builtin .len, args := as, argTypes := _ } => match as.toList with
  | [x] => match c03 L st x with
   | .val (.slice _ _ _) => S0f P L o st
   | _ => none
  | _ => none
 | _ => none
def p9 (L : List (Nat × J5)) (st : St) : List Oper → List Nat
 | [] => []
 | o :: r => match o.op with
  | .load _ x => match c03 L st x with
   | .box i _ => i :: p9 L st r
   | _ => p9 L st r
  | _ => p9 L st r
def W05 (bx : List BSt) : List Nat → List (Option BSt)
 | [] => []
 | i :: r => nth bx i :: W05 bx r
def F04 (L : List (Nat × J5)) (fr0 : List (Nat × AV)) : List Operand → List (Nat × AV) → (List (Nat × AV) → Prop) → Prop
 | [], acc, K => K acc
 | .tmp t :: r, acc, K => match I1 L t with
  | some (.pu av) => F04 L fr0 r ((t, av) :: acc) K
  | some (.ef _) => F04 L fr0 r ((t, .dead) :: acc) K
  | none => F04 L fr0 r ((t, T1 fr0 t) :: acc) K
 | _ :: r, acc, K => F04 L fr0 r acc K
def T0f : List (Nat × J5) → List (Nat × AV) → List (Nat × AV)
 | [], fr => fr
 | (d, .pu av) :: r, fr => (d, av) :: T0f r fr
 | (d, .ef _) :: r, fr => (d, .dead) :: T0f r fr
def S0g (av : AV) (st : St) (h : Hp) : AV → St → Hp → Prop := fun av' st' h' => av' = av ∧ st' = st ∧ h' = h
def Y0d (P : Program) (st : St) (h : Hp) (L : List (Nat × J5)) (o : Oper) (av : AV) : Prop :=
 match st with
 | ⟨n, fr, bx, ow⟩ => ∀ h', Sub h h' → F04 L fr o.op.operands.toList [] fun fr => y7 P o ⟨n, fr, bx, ow⟩ h' (S0g av ⟨n, fr, bx, ow⟩ h')
def q01 (P : Program) (st : St) (h : Hp) : List Oper → Nat → List (Nat × J5) → List (Nat × Oper) → List (Nat × Oper) → (List (Nat × J5) → List (Nat × Oper) → List (Nat × Oper) → Prop) → Prop
 | [], _, L, X, E, K => K L X E
 | o :: r, i, L, X, E, K => match o.guard with
  | some _ => False
  | none => match V05 P L o st with
   | some av => G00 av fun av => q01 P st h r (i + 1) (j02 o.dst (.pu av) L) X E K
   | none => (∃ av, Y0d P st h L o av ∧ G00 av fun av => q01 P st h r (i + 1) (j02 o.dst (.pu av) L) (X ++ [(i, o)]) E K) ∨
     q01 P st h r (i + 1) (j02 o.dst (.ef fun _ _ => True) L) X (E ++ [(i, o)]) K
def S0c (X : List (Nat × Oper)) : Nat → Nat → Oper → Bool
 | 0, i, q => Q8 i q
 | n + 1, i, q => Q8 i q || X.any fun y => Q8 y.1 q && S0c X n i y.2
def d03 (X Y : List (Nat × Oper)) : List (Nat × Oper) → Bool
 | [] => true
 | (_, q) :: _ => X.all fun x => S0c Y 8 x.1 q
def x00 : List (Nat × Oper) → Bool
 | (i, o) :: (j, o') :: r => Q8 i o' && x00 ((j, o') :: r)
 | _ => true
def k02 : Nat → Nat → Oper → Bool
 | 0, _, _ => true
 | k + 1, i, o => (Nat.beq k i || Q8 k o) && k02 k i o
def G04 (d : Nat) : List Operand → Bool
 | [] => false
 | .tmp t :: r => Nat.beq t d || G04 d r
 | _ :: r => G04 d r
def a0a (d : Nat) : List Oper → Bool
 | [] => false
 | o :: r => G04 d o.op.operands.toList || a0a d r
def n9 : List Oper → List Oper
 | [] => []
 | o :: r => match r with
  | [] => []
  | _ :: _ => o :: n9 r
def b0a : List Oper → Option Oper
 | [] => none
 | o :: r => match r with
  | [] => some o
  | _ :: _ => b0a r
def n0j (ops : List Oper) : Option Oper := match b0a ops with
 | some o => match o.guard, o.dst with
  | none, some d => match a0a d (n9 ops) && k02 (n9 ops).length (n9 ops).length o with
   | true => some o
   | false => none
  | _, _ => none
 | none => none
def G01 (P : Program) (o : Oper) (st : St) (h : Hp) (K : St → Hp → Prop) : Prop :=
 y7 P o st h fun av st h => Y09 o.dst 0 [] av ⟨st, h, [], []⟩ fun rs => K rs.st rs.h
def T0g (N i : Nat) (o : Oper) : List (Nat × Oper) → Bool
 | [] => k02 N i o
 | _ :: _ => false
def v0m (c : Nat) (b : Bool) (rd : List Nat) (bx bx' : List BSt) : Prop := match b with
 | true => True
 | false => match c with
  | 0 => W05 bx' rd = W05 bx rd
  | _ + 1 => bx' = bx
def Q0l : Nat → List Own → List Own → Hp → Hp → Prop
 | 0, _, _, _, _ => True
 | _ + 1, ow, ow', h, h' => ow' = ow ∧ Sub h h'
def evC (rd : List Nat) (N : Nat) (P : Program) : Nat → List (Nat × Oper) → List (Nat × J5) → St → Hp → (St → Hp → Prop) → Prop
 | _, [], L, ⟨n, fr, bx, ow⟩, h, K => M9 (T0f L fr) fun fr => K ⟨n, fr, bx, ow⟩ h
 | c, (i, o) :: r, L, ⟨n, fr, bx, ow⟩, h, K => F04 L fr o.op.operands.toList [] fun fr1 => y7 P o ⟨n, fr1, bx, ow⟩ h fun av st' h' => match st' with
  | ⟨_, _, bx', ow'⟩ => Q0l c ow ow' h h' ∧ v0m c (T0g N i o r) rd bx bx' ∧ G00 av fun av => M9 bx' fun bx' => M9 ow' fun ow' => evC rd N P (c - 1) r (j02 o.dst (.pu av) L) ⟨n, fr, bx', ow'⟩ h' K
abbrev FL := List (Nat × List (Nat × Bool) × J5)
def m01 : FL → Nat → Option (List (Nat × Bool) × J5)
 | [], _ => none
 | (k, x) :: r, s => match Nat.beq k s with
  | true => some x
  | false => m01 r s
def rdU (L : FL) (st : St) (ch : List (Nat × Bool)) : Operand → AV
 | .tmp t => match m01 L t with
  | some (ch2, .pu av) => match T0d ch2 ch with
   | true => rdA st av
   | false => .dead
  | some (_, .ef _) => .dead
  | none => rdA st (T1 st.fr t)
 | x => rdO st x
def X05 (P : Program) (L : FL) (bs : List BE) (ch : List (Nat × Bool)) (o : Oper) (st : St) : Option AV := match o.op with
 | .move x | .assign x => match rdU L st ch x with
  | .dead => none
  | a => some a
 | .load t x => match rdU L st ch x with
  | .box i off => match nth st.bx i with
   | some (.live cs _) => Z09 P t cs off
   | _ => none
  | _ => none
 | .fieldAddr t x k => match rdU L st ch x, N0c P t k with
  | .box i off, some fo => some (.box i (off + fo))
  | .hel s i sz k, some fo => some (.hel s i sz (k + fo))
  | _, _ => none
 | .pick (.tmp s) a b => match rdU L st ch (.tmp s), J06 bs s with
  | .val (.bool e), some q => match T0d q.ch ch with
   | true => match rdU L st ((q.j, true) :: q.ch) a, rdU L st ((q.j, false) :: q.ch) b with
    | .val (.bool x), .val (.bool y) => some (.val (.bool (cond e x y)))
    | _, _ => none
   | false => none
  | _, _ => none
 | _ => none
def i04 (L : FL) (st : St) (h : Hp) (ch : List (Nat × Bool)) : List Operand → List (Nat × AV) → (List (Nat × AV) → Prop) → Prop
 | [], acc, K => K acc
 | .tmp t :: r, acc, K => match m01 L t with
  | some (ch2, f) => match T0d ch2 ch with
   | true => match f with
    | .pu av => i04 L st h ch r ((t, av) :: acc) K
    | .ef F => ∀ v, F v h → i04 L st h ch r ((t, .val v) :: acc) K
   | false => False
  | none => i04 L st h ch r ((t, T1 st.fr t) :: acc) K
 | _ :: r, acc, K => i04 L st h ch r acc K
def B0b (h : Hp) : FL → List (Nat × AV) → (List (Nat × AV) → Prop) → Prop
 | [], fr, K => K fr
 | (d, [], .pu av) :: r, fr, K => B0b h r ((d, av) :: fr) K
 | (d, [], .ef F) :: r, fr, K => ∀ v, F v h → B0b h r ((d, .val v) :: fr) K
 | (d, _ :: _, _) :: r, fr, K => B0b h r ((d, .dead) :: fr) K
def T0c (d : Option Tmp) (ch : List (Nat × Bool)) (f : J5) (L : FL) : FL := match d with
 | some d => (d, ch, f) :: L
 | none => L
def U0c (i : Nat) (d : Option Tmp) (ch : List (Nat × Bool)) (av : AV) (bs : List BE) : List BE := match d with
 | some d => match av with
  | .val (.bool e) => ⟨i, d, e, ch⟩ :: bs
  | _ => bs
 | none => bs
def U0f (st st' : St) : Prop := st'.n = st.n ∧ st'.fr = st.fr ∧ st'.bx = st.bx ∧ ∃ t, st'.ow = st.ow ++ t
def o0j (st : St) (h : Hp) (F : Value → Hp → Prop) : AV → St → Hp → Prop := fun av st' h' => rfy av st' h' fun v st'' h'' => U0f st st'' ∧ Sub h h'' ∧ F v h''
def evU (P : Program) (l : List Oper) : Nat → FL → List BE → St → Hp → (St → Hp → Prop) → Prop :=
  List.rec (motive := fun _ => Nat → FL → List BE → St → Hp → (St → Hp → Prop) → Prop)
    (fun _ L _ st h K => match st with
      | ⟨n, fr, bx, ow⟩ => ∀ h', Sub h h' → B0b h' L fr fun fr => K ⟨n, fr, bx, ow⟩ h')
    (fun o _ ih i L bs st h K => match st with
      | ⟨n, fr, bx, ow⟩ => match C8 bs o.guard with
        | some ch => match cB bs ch with
          | some c => match X05 P L bs ch o ⟨n, fr, bx, ow⟩ with
            | some av => G00 av fun av => ih (i + 1) (T0c o.dst ch (.pu av) L) (U0c i o.dst ch av bs) ⟨n, fr, bx, ow⟩ h K
            | none => (∃ av, (∀ h', Sub h h' → imp ch c (i04 L ⟨n, fr, bx, ow⟩ h' ch o.op.operands.toList [] fun fr => y7 P o ⟨n, fr, bx, ow⟩ h' (S0g av ⟨n, fr, bx, ow⟩ h'))) ∧
                  G00 av fun av => ih (i + 1) (T0c o.dst ch (.pu av) L) (U0c i o.dst ch av bs) ⟨n, fr, bx, ow⟩ h K) ∨
                (∃ F : Value → Hp → Prop, (∀ v h1 h2, Sub h1 h2 → F v h1 → F v h2) ∧
                  (∀ h', Sub h h' → imp ch c (i04 L ⟨n, fr, bx, ow⟩ h' ch o.op.operands.toList [] fun fr => y7 P o ⟨n, fr, bx, ow⟩ h' (o0j ⟨n, fr, bx, ow⟩ h' F))) ∧
                  ih (i + 1) (T0c o.dst ch (.ef F) L) bs ⟨n, fr, bx, ow⟩ h K)
          | none => False
        | none => False) l
def J09 : List Oper → Bool
 | [] => true
 | o :: r => (match o.guard with
  | some (j, _) => Q8 j o
  | none => true) && J09 r
def A01 (n : Nat) (ops : List Oper) : Bool := G8 n ops && J09 ops
def H0k (P : Program) : List Oper → Bool
 | [] => false
 | o :: r => (match o.guard, o.op with
  | some _, .call { callee := .value _, args := _, argTypes := _ } => match P.underlying o.type with
   | some (.slice _) => true
   | some (.struct _) => true
   | some (.tuple _) => true
   | _ => false
  | _, _ => false) || H0k P r
def X01 (o : Oper) : Bool := match o.op with
 | .alloc _ => true
 | _ => false
def H8 (o : Oper) : Oper := match o.op with
 | .alloc _ => { o with op := .move (.const undef) }
 | _ => o
def S4 : List Oper → List Oper
 | [] => []
 | o :: r => H8 o :: S4 r
def okA (P : Program) (all : List Oper) : List Oper → Bool
 | [] => true
 | o :: r => (match o.op with
  | .alloc t => (match o.guard, o.dst, N9 P t with
   | none, some d, some _ => !a0a d all
   | _, _, _ => false)
  | _ => true) && okA P all r
def V0f (x : Nat) : List Nat → Bool
 | [] => false
 | y :: r => Nat.beq x y || V0f x r
def I0k (ops : List Oper) (i : Nat) : List Nat → Bool
 | [] => false
 | j :: r => (match nth ops j with
  | some o => Q8 i o
  | none => false) || I0k ops i r
def P0b (ops : List Oper) : Nat → List Nat → List Nat
 | 0, acc => acc
 | i + 1, acc => match I0k ops i acc with
  | true => P0b ops i (i :: acc)
  | false => P0b ops i acc
def L06 (o : Oper) : Option Nat := match o.guard with
 | some _ => none
 | none => match o.op with
  | .extract (.tmp t) _ => some t
  | .move (.tmp t) => some t
  | .assign (.tmp t) => some t
  | _ => none
def M06 (d : Nat) : List Oper → Bool
 | [] => false
 | o :: r => (match o.dst with
  | some e => Nat.beq e d
  | none => false) || M06 d r
def o03 (ml : List Nat) (t : Nat) : List Oper → Nat → Bool
 | [], _ => true
 | o :: r, i => (match o.dst with
  | some e => !Nat.beq e t || V0f i ml
  | none => true) && o03 ml t r (i + 1)
def p03 (i d : Nat) : List Oper → Bool
 | [] => true
 | o :: r => (!G04 d o.op.operands.toList || Q8 i o) && p03 i d r
def U0g (pre tl : List Oper) (ml : List Nat) (i : Nat) (o : Oper) : Bool := match L06 o, o.dst with
 | some t, some d => !M06 d tl && !M06 t tl && o03 ml t pre 0 && p03 i d tl
 | _, _ => false
def K09 (pre tl : List Oper) (ml : List Nat) : List Oper → Nat → Bool
 | [], _ => true
 | o :: r, i => (V0f i ml || U0g pre tl ml i o) && K09 pre tl ml r (i + 1)
def Z0d : List Oper → Bool
 | [] => true
 | o :: r => !T08 o.op && Z0d r
def p0j : Nat → List Oper → Bool
 | _, [] => true
 | k, o :: r => (match o.guard with
  | none => true
  | some _ => false) && (match r with
  | [] => true
  | o' :: _ => Q8 k o') && p0j (k + 1) r
def w0m : List Oper → Bool
 | [] => true
 | _ :: _ => false
def okZ (P : Program) (n m : Nat) (ops : List Oper) : Bool :=
 A01 n (S4 (ops.take m)) && okA P (ops.take m) (ops.take m) && W08 ops 0 && p0j m (ops.drop m) && (w0m (ops.drop m) || (K09 (ops.take m) (ops.drop m) (P0b ops m [m]) (ops.take m) 0 && Z0d (ops.drop m)))
abbrev R0l := Oper → St → Hp → (St → Hp → Prop) → Prop
def doA (R : R0l) (l : List Oper) : St → Hp → (St → Hp → Prop) → Prop :=
 List.rec (motive := fun _ => St → Hp → (St → Hp → Prop) → Prop) (fun st h K => K st h) (fun o _ ih st h K => match X01 o with
  | true => R o st h fun st h => ih st h K
  | false => ih st h K) l
def doT (R : R0l) (l : List Oper) : St → Hp → (St → Hp → Prop) → Prop :=
 List.rec (motive := fun _ => St → Hp → (St → Hp → Prop) → Prop) (fun st h K => K st h) (fun o _ ih st h K => R o st h fun st h => ih st h K) l
def evT (P : Program) (R : R0l) (m : Nat) (ops : List Oper) (st : St) (h : Hp) (K : St → Hp → Prop) : Prop :=
 evU P (S4 (ops.take m)) 0 [] [] st h fun st h => doA R (ops.take m) st h fun st h => doT R (ops.drop m) st h K
inductive Ex where
 | normal | ret
 | exit (i : Nat)
structure Ann where
 vars : List Nat
 boxes : List Nat
 owns : List Nat
 nils : List (Nat × Nat × Nat × Nat) := []
 nilsB : List (Nat × Nat × Nat × Nat × Nat) := []
 kept : List Nat := []
 fuel : Bool := false
 pubs : List Nat := []
def a0e : List (Nat × Nat × Nat × Nat) → St → (St → Prop) → Prop
 | [], st, K => K st
 | (s, e, sz, by_) :: r, ⟨n, fr, bx, ow⟩, K => match rdA ⟨n, fr, bx, ow⟩ (T1 fr s), Nat.blt s n with
  | .val (.slice none 0 0), true => N0f ow fun k => a0e r ⟨n, (s, .own k 0) :: fr, bx, ow ++ [⟨0, .live e sz by_ false []⟩]⟩ K
  | _, _ => False
def c0a : List (Nat × Nat × Nat × Nat × Nat) → St → (St → Prop) → Prop
 | [], st, K => K st
 | (i, k, e, sz, by_) :: r, ⟨n, fr, bx, ow⟩, K => match nth bx i with
  | some (.live cs ty) => match nth cs k with
   | some (.val (.slice none 0 0)) => N0f ow fun j => c0a r ⟨n, fr, P8 bx i (.live (P8 cs k (.own j 0)) ty), ow ++ [⟨0, .live e sz by_ false []⟩]⟩ K
   | _ => False
  | _ => False
def b0e : List Nat → St → Hp → (St → Hp → Prop) → Prop
 | [], st, h, K => K st h
 | s :: r, st, h, K => rfy (rdA st (T1 st.fr s)) st h fun v st h => match st with
  | ⟨n, fr, bx, ow⟩ => match Nat.blt s n with
   | true => b0e r ⟨n, (s, .val v) :: fr, bx, ow⟩ h K
   | false => False
def J05 (x : Nat) : List Nat → Bool
 | [] => false
 | y :: r => match Nat.beq x y with
  | true => true
  | false => J05 x r
def S0l : List Oper → List Nat → List Nat
 | [], acc => acc
 | o :: r, acc => match o.dst with
  | some d => S0l r (d :: acc)
  | none => S0l r acc
def C0b : Code → List Nat → List Nat
 | .region _ ops _, acc => S0l ops.toList acc
 | .seq a b, acc => C0b a (C0b b acc)
 | .cond _ a b, acc => C0b a (C0b b acc)
 | .block _ a, acc => C0b a acc
 | .loop a, acc => C0b a acc
 | .scope a, acc => C0b a acc
 | _, acc => acc
def S07 : List Nat → (List Nat → Prop) → Prop
 | [], K => K []
 | x :: r, K => S07 r fun r => K (x :: r)
def J0k : List Nat → St → (List Value → Prop) → Prop
 | [], _, K => K []
 | s :: r, st, K => match rdA st (T1 st.fr s) with
  | .val v => J0k r st fun vs => K (v :: vs)
  | _ => False
def c0e : List V4 → St → (List Value → Prop) → Prop
 | [], _, K => K []
 | .val v :: r, st, K => c0e r st fun vs => K (v :: vs)
 | .own _ _ :: r, st, K => c0e r st K
def d0a : List Nat → St → (List Value → Prop) → Prop
 | [], _, K => K []
 | i :: r, st, K => match nth st.bx i with
  | some (.live cs _) => c0e cs st fun vs => d0a r st fun ws => K (vs ++ ws)
  | _ => False
def Q0b : List Nat → St → (List (List (List Value)) → Prop) → Prop
 | [], _, K => K []
 | i :: r, st, K => match nth st.ow i with
  | some ⟨_, .live _ _ _ _ xs⟩ => Q0b r st fun os => K (xs :: os)
  | _ => False
def W0f (A : Ann) (st : St) (K : List Value → List (List (List Value)) → Prop) : Prop :=
 J0k A.vars st fun vs => d0a A.boxes st fun ws => Q0b A.owns st fun os => K (vs ++ ws) os
def B01 : List V4 → List Value → (List V4 → List Value → Prop) → Prop
 | [], vs, K => K [] vs
 | .val _ :: r, v :: vs, K => B01 r vs fun cs rest => K (.val v :: cs) rest
 | .val _ :: _, [], _ => False
 | .own i k :: r, vs, K => B01 r vs fun cs rest => K (.own i k :: cs) rest
def q03 : List Nat → List Value → List BSt → (List BSt → Prop) → Prop
 | [], _, bx, K => K bx
 | i :: r, vs, bx, K => match nth bx i with
  | some (.live cs ty) => B01 cs vs fun cs rest => q03 r rest (P8 bx i (.live cs ty)) K
  | _ => False
def r03 : List Nat → List (List (List Value)) → List Own → (List Own → Prop) → Prop
 | [], _, ow, K => K ow
 | i :: r, xs :: os, ow, K => match nth ow i with
  | some ⟨s, .live e sz by_ nn _⟩ => r03 r os (P8 ow i ⟨s, .live e sz by_ nn xs⟩) K
  | _ => False
 | _ :: _, [], _, _ => False
def H04 {α : Type} : Nat → List α → (List α → List α → Prop) → Prop
 | 0, l, K => K [] l
 | n + 1, x :: l, K => H04 n l fun a b => K (x :: a) b
 | _ + 1, [], _ => False
def Y05 (A : Ann) (st : St) : List Nat → List (Nat × AV) → (List (Nat × AV) → Prop) → Prop
 | [], acc, K => K acc
 | s :: r, acc, K => match J05 s A.vars with
  | true => Y05 A st r acc K
  | false => match rdA st (T1 st.fr s) with
   | .own i k => Y05 A st r ((s, .own i k) :: acc) K
   | .box i o => Y05 A st r ((s, .box i o) :: acc) K
   | _ => Y05 A st r ((s, .dead) :: acc) K
def V0g : List V4 → Bool
 | [] => true
 | .val _ :: r => V0g r
 | .own _ _ :: _ => false
def s03 (A : Ann) (ds : List Nat) (st : St) : List (Nat × AV) → (List (Nat × AV) → Prop) → Prop
 | [], K => K []
 | (s, av) :: r, K => match J05 s ds with
  | true => s03 A ds st r K
  | false => match rdA st av with
   | .own i k => match J05 i A.owns, J05 i A.kept with
    | true, false => s03 A ds st r fun l => K ((s, .dead) :: l)
    | _, _ => s03 A ds st r fun l => K ((s, .own i k) :: l)
   | .oel _ _ _ _ _ => s03 A ds st r fun l => K ((s, .dead) :: l)
   | .agg cs => match V0g cs with
    | true => s03 A ds st r fun l => K ((s, .agg cs) :: l)
    | false => s03 A ds st r fun l => K ((s, .dead) :: l)
   | a => s03 A ds st r fun l => K ((s, a) :: l)
def T07 : List Nat → List Value → List (Nat × AV) → List (Nat × AV)
 | s :: r, v :: vs, acc => T07 r vs ((s, .val v) :: acc)
 | _, _, acc => acc
def Y08 (head end_ : St) : List (Nat × AV) → Bool
 | [] => true
 | (s, av) :: r => match av with
  | .own i _ => match rdA end_ (T1 end_.fr s) with
   | .own j _ => match Nat.beq i j with
    | true => Y08 head end_ r
    | false => false
   | _ => false
  | .box i o => match rdA end_ (T1 end_.fr s) with
   | .box j p => match Nat.beq i j, Nat.beq o p with
    | true, true => Y08 head end_ r
    | _, _ => false
   | _ => false
  | _ => Y08 head end_ r
def X0f : AV → Bool
 | .dead => true
 | _ => false
def k0i : List (Nat × AV) → List AV
 | [] => []
 | (_, av) :: r => match X0f av with
  | true => k0i r
  | false => av :: k0i r
def R0b (fr : List (Nat × AV)) : List (Nat × AV) → List AV
 | [] => []
 | (s, av) :: r => match X0f av with
  | true => R0b fr r
  | false => T1 fr s :: R0b fr r
def t03 (head end_ : St) : List V4 → List V4 → Bool
 | [], [] => true
 | .val _ :: r, .val _ :: r' => t03 head end_ r r'
 | .own i _ :: r, .own j k' :: r' => match Nat.beq i j, rdA end_ (.own j k') with
  | true, .own _ _ => t03 head end_ r r'
  | _, _ => false
 | _, _ => false
def N06 (os : List Nat) : List V4 → Bool
 | [] => true
 | .val _ :: r => N06 os r
 | .own i _ :: r => match J05 i os with
  | true => false
  | false => N06 os r
def Y0f (os : List Nat) : BSt → Bool
 | .live cs _ => N06 os cs
 | .publ _ => true
def U07 (A : Ann) (head end_ : St) : Nat → List BSt → List BSt → Prop
 | _, [], _ => True
 | i, b :: r, b' :: r' => match J05 i A.boxes with
  | true => match b, b' with
   | .live cs ty, .live cs' ty' => match Nat.beq ty ty', t03 head end_ cs cs' with
    | true, true => U07 A head end_ (i + 1) r r'
    | _, _ => False
   | _, _ => False
  | false => match Y0f A.owns b with
   | true => b' = b ∧ U07 A head end_ (i + 1) r r'
   | false => False
 | _, _ :: _, [] => False
def leB (a b : Bool) : Bool := match a with
 | true => b
 | false => true
def V07 (A : Ann) : Nat → List Own → List Own → Prop
 | _, [], _ => True
 | i, b :: r, b' :: r' => match J05 i A.owns with
  | true => match b, b' with
   | ⟨s, .live e sz by_ nn _⟩, ⟨s', .live e' sz' by' nn' _⟩ => match Nat.beq e e', Nat.beq sz sz', Nat.beq by_ by', leB nn nn', leB (J05 i A.kept) (Nat.beq s s') with
    | true, true, true, true, true => V07 A (i + 1) r r'
    | _, _, _, _, _ => False
   | _, _ => False
  | false => b' = b ∧ V07 A (i + 1) r r'
 | _, _ :: _, [] => False
def O06 : Nat → (List Value → Prop) → Prop
 | 0, K => K []
 | n + 1, K => ∀ v, O06 n fun vs => K (v :: vs)
def P06 : Nat → (List (List (List Value)) → Prop) → Prop
 | 0, K => K []
 | n + 1, K => ∀ xs, P06 n fun os => K (xs :: os)
abbrev W07 := List Value → List (List (List Value)) → Hp → Prop
abbrev j04 := List Value → List (List (List Value)) → Nat
def K0k : List Value → List Value → Bool
 | [], [] => true
 | _ :: r, _ :: r' => K0k r r'
 | _, _ => false
def d0e (A : Ann) (I : W07) (vs : List Value) (os : List (List (List Value))) (h : Hp) : Prop := match A.fuel with
 | false => I vs os h
 | true => ∃ m : Nat, I (.int .i64 m :: vs) os h
def e0e (A : Ann) (I : W07) (μ : j04) (vs : List Value) (os : List (List (List Value))) (X : Nat → Hp → Prop) : Prop := match A.fuel with
 | false => ∀ h', I vs os h' → X (μ vs os) h'
 | true => ∀ (m : Nat) (h' : Hp), I (.int .i64 m :: vs) os h' → X m h'
def L0k (A : Ann) (I : W07) (μ : j04) (m : Nat) (vs : List Value) (os : List (List (List Value))) (h : Hp) : Prop := match A.fuel with
 | false => I vs os h ∧ μ vs os < m
 | true => ∃ m' : Nat, I (.int .i64 m' :: vs) os h ∧ m' < m
def atI (A : Ann) (I : W07) (μ : j04) (m : Nat) (vs : List Value) (os : List (List (List Value))) (h : Hp) : Prop := match A.fuel with
 | false => I vs os h ∧ m = μ vs os
 | true => I (.int .i64 m :: vs) os h
theorem q0j {A : Ann} {I : W07} {μ : j04} {vs : List Value} {os : List (List (List Value))} {h : Hp} (hh : d0e A I vs os h) : ∃ m, atI A I μ m vs os h := by
 unfold d0e at hh
 unfold atI
 cases hf : A.fuel with
 | false => rw [hf] at hh; exact ⟨_, hh, rfl⟩
 | true => rw [hf] at hh; exact hh
theorem r0j {A : Ann} {I : W07} {μ : j04} {vs : List Value} {os : List (List (List Value))} {X : Nat → Hp → Prop} (hh : e0e A I μ vs os X) {m : Nat} {h : Hp} (ha : atI A I μ m vs os h) : X m h := by
 unfold e0e at hh
 unfold atI at ha
 cases hf : A.fuel with
 | false => rw [hf] at hh ha; rw [ha.2]; exact hh _ ha.1
 | true => rw [hf] at hh ha; exact hh _ _ ha
theorem M0k {A : Ann} {I : W07} {μ : j04} {m : Nat} {vs : List Value} {os : List (List (List Value))} {h : Hp} (hh : L0k A I μ m vs os h) : ∃ m', atI A I μ m' vs os h ∧ m' < m := by
 unfold L0k at hh
 unfold atI
 cases hf : A.fuel with
 | false => rw [hf] at hh; exact ⟨_, ⟨hh.1, rfl⟩, hh.2⟩
 | true => rw [hf] at hh; exact hh
def s0j (A : Ann) (dyn sta : List (Nat × AV)) (st0 : St) (I : W07) (μ : j04) (vs0 : List Value) (m : Nat) (st : St) (h : Hp) : Prop :=
 match Nat.beq st.n st0.n, Y08 st0 st dyn with
 | true, true => R0b st.fr sta = k0i sta ∧ U07 A st0 st 0 st0.bx st.bx ∧ V07 A 0 st0.ow st.ow ∧
   W0f A st fun vs os => match K0k vs vs0 with
    | true => H04 A.vars.length vs fun _ v2 => q03 A.boxes v2 st0.bx fun _ => r03 A.owns os st0.ow fun _ => L0k A I μ m vs os h
    | false => False
 | _, _ => False
def W0g (body : (Ex → St → Hp → Prop) → St → Hp → Prop) (ds0 : List Nat) (Q : Ex → St → Hp → Prop) (st : St) (h : Hp) : Prop :=
 ∃ (A : Ann) (I : W07) (μ : j04), a0e A.nils st fun st => c0a A.nilsB st fun st => b0e A.pubs st h fun st h => W0f A st fun vs0 os0 => d0e A I vs0 os0 h ∧
  S07 ds0 fun ds => Y05 A st ds [] fun dyn => s03 A ds st st.fr fun sta =>
   O06 vs0.length fun vs => P06 os0.length fun os => e0e A I μ vs os fun m h' =>
    H04 A.vars.length vs fun v1 v2 => q03 A.boxes v2 st.bx fun bx => r03 A.owns os st.ow fun ow =>
     body (fun e st' h'' => match e with
      | .normal => b0e A.pubs st' h'' fun st' h'' => s0j A dyn sta st I μ vs m st' h''
      | e => Q e st' h'') ⟨st.n, T07 A.vars v1 (dyn ++ sta), bx, ow⟩ h'
def t0j (b : Bool) (X Y : Prop) : Prop := (b = true → X) ∧ (b = false → Y)
def ev (P : Program) : Code → (Ex → St → Hp → Prop) → St → Hp → Prop
 | .skip, Q, st, h => Q .normal st h
 | .region _ ops false, Q, st, h => match H0k P ops.toList with
  | true => A01 st.n ops.toList = true ∧ evU P ops.toList 0 [] [] st h fun st h => Q .normal st h
  | false => V08 P ops.toList 0 ⟨st, h, [], []⟩ fun rs => Q .normal rs.st rs.h
 | .region _ ops true, Q, st, h => ((P.follows .mixedOrders = true ∧ Region.lexB .any ops = true) ∧
   evQ P ops.toList 0 ⟨st, h, [], []⟩ fun rs => Q .normal rs.st rs.h) ∨
   ((P.follows .mixedOrders = true ∧ G8 st.n ops.toList = true) ∧ evS P ops.toList [] st h fun st h => Q .normal st h) ∨
   (match n0j ops.toList with
    | none => (P.follows .mixedOrders = true ∧ G8 st.n ops.toList = true) ∧ q01 P st h ops.toList 0 [] [] [] fun L X E => ∃ c, (x00 E = true ∧ d03 X (X ++ E) (E.drop c) = true) ∧ evC (p9 L st ops.toList) ops.size P c E L st h fun st h => Q .normal st h
    | some o => (P.follows .mixedOrders = true ∧ (G8 st.n (n9 ops.toList) && W08 ops.toList 0) = true) ∧ q01 P st h (n9 ops.toList) 0 [] [] [] fun L X E => ∃ c, (x00 E = true ∧ d03 X (X ++ E) (E.drop c) = true) ∧ evC (p9 L st (n9 ops.toList)) (n9 ops.toList).length P c E L st h fun st h => G01 P o st h fun st h => Q .normal st h) ∨
   ((P.follows .mixedOrders = true ∧ A01 st.n ops.toList = true) ∧ evU P ops.toList 0 [] [] st h fun st h => Q .normal st h) ∨
   (∃ m, (P.follows .mixedOrders = true ∧ okZ P st.n m ops.toList = true) ∧ evT P (G01 P) m ops.toList st h fun st h => Q .normal st h)
 | .seq a b, Q, st, h => ev P a (fun e st h => match e with
  | .normal => ev P b Q st h
  | e => Q e st h) st h
 | .cond c t e, Q, st, h => match rdO st c with
  | .val (.bool b) => t0j b (ev P t Q st h) (ev P e Q st h)
  | _ => False
 | .block id c, Q, st, h => ev P c (fun e st h => match e with
  | .exit i => match Nat.beq i id with
   | true => Q .normal st h
   | false => Q (.exit i) st h
  | e => Q e st h) st h
 | .loop body, Q, st, h => W0g (fun Q => ev P body Q) (C0b body []) Q st h
 | .exit id, Q, st, h => Q (.exit id) st h
 | .ret, Q, st, h => Q .ret st h
 | _, _, _, _ => False
def Z0f (P : Program) : List ResultVar → St → Hp → (List Value → St → Hp → Prop) → Prop
 | [], st, h, K => K [] st h
 | .tmp t :: r, st, h, K => rfy (rdA st (T1 st.fr t)) st h fun v st h => Z0f P r st h fun vs st h => K (v :: vs) st h
 | .cell t ty :: r, st, h, K => match rdA st (T1 st.fr t) with
  | .box i off => match nth st.bx i with
   | some (.live cs _) => f02 P ty cs off fun av => rfy av st h fun v st h => Z0f P r st h fun vs st h => K (v :: vs) st h
   | _ => False
  | _ => False
def f0e : List Value → Value
 | [v] => v
 | vs => .tuple vs.toArray
def Q06 : Nat → List Value → List (Nat × AV)
 | _, [] => []
 | i, v :: r => (i, .val v) :: Q06 (i + 1) r
def T0l (P : Program) (fn : Func) (args : List Value) (h : Hp) (T : Value → Hp → Prop) : Prop :=
 match fn.body with
 | some c => match Nat.ble args.length fn.ntmps with
  | true => ev P c (fun e st h => match e with
   | .exit _ => False
   | _ => Z0f P fn.results.toList st h fun vs _ h => T (f0e vs) h) ⟨fn.ntmps, Q06 0 args, [], []⟩ h
  | false => False
 | none => False
end Go.H
