/- Plain laws over the model: what a function's code asks: regions with guards, regions that draw their order, branches and loops. -/
import Derived.Test.YtfdlgbfeceodeaaGreatH2
namespace Go.H
set_option linter.unusedVariables false
structure BE where
 j : Nat
 d : Nat
 e : Bool
 ch : List (Nat × Bool)
structure RS where
 st : St
 h : Hp
 gf : List (Nat × List (Nat × Bool) × AV)
 bs : List BE
def D0a : List (Nat × List (Nat × Bool) × AV) → Nat → Option (List (Nat × Bool) × AV)
 | [], _ => none
 | (k, x) :: r, s => match Nat.beq k s with
  | true => some x
  | false => D0a r s
def eqB (a b : Bool) : Bool := match a, b with
 | true, true => true
 | false, false => true
 | _, _ => false
def v0j : List (Nat × Bool) → List (Nat × Bool) → Bool
 | [], [] => true
 | (j, w) :: r, (j', w') :: r' => match Nat.beq j j', eqB w w' with
  | true, true => v0j r r'
  | _, _ => false
 | _, _ => false
def r0e (a : List (Nat × Bool)) : List (Nat × Bool) → Bool
 | [] => v0j a []
 | x :: r => match v0j a (x :: r) with
  | true => true
  | false => r0e a r
def rdG (rs : RS) (ch : List (Nat × Bool)) : Operand → AV
 | .tmp t => match D0a rs.gf t with
  | some (ch2, av) => match r0e ch2 ch with
   | true => rdA rs.st av
   | false => .dead
  | none => rdA rs.st (D2 rs.st.fr t)
 | x => rdO rs.st x
def L00 : List BE → Nat → Option BE
 | [], _ => none
 | b :: r, j => match Nat.beq b.j j with
  | true => some b
  | false => L00 r j
def l07 : List BE → Nat → Option BE
 | [], _ => none
 | b :: r, s => match Nat.beq b.d s with
  | true => some b
  | false => l07 r s
def lit (w e : Bool) : Bool := match w with
 | true => e
 | false => !e
def cB (bs : List BE) : List (Nat × Bool) → Option Bool
 | [] => some true
 | (j, w) :: r => match L00 bs j with
  | some b => match r with
   | [] => some (lit w b.e)
   | _ => match cB bs r with
    | some c => some (lit w b.e && c)
    | none => none
  | none => none
def L8 (bs : List BE) : Option (Nat × Bool) → Option (List (Nat × Bool))
 | none => some []
 | some (j, w) => match L00 bs j with
  | some b => some ((j, w) :: b.ch)
  | none => none
def imp (ch : List (Nat × Bool)) (c : Bool) (X : Prop) : Prop := match ch with
 | [] => X
 | _ => c = true → X
def s0e (rs : RS) (ch : List (Nat × Bool)) : List Operand → Option (List (Nat × Value))
 | [] => some []
 | .tmp t :: r => match v02 (rdG rs ch (.tmp t)) with
  | some v => match s0e rs ch r with
   | some vs => some ((t, v) :: vs)
   | none => none
  | none => none
 | .global _ :: _ => none
 | _ :: r => s0e rs ch r
def M0k (rs : RS) (ch : List (Nat × Bool)) : List Operand → St → Hp → (List (Nat × Value) → St → Hp → Prop) → Prop
 | [], st, h, K => K [] st h
 | .tmp t :: r, st, h, K => rfy (rdA st (rdG rs ch (.tmp t))) st h fun v st h => M0k rs ch r st h fun vs st h => K ((t, v) :: vs) st h
 | .global _ :: _, _, _, _ => False
 | _ :: r, st, h, K => M0k rs ch r st h K
def w0d (P : Program) (o : Oper) (ch : List (Nat × Bool)) (c : Bool) (rs : RS) (K : AV → Prop) : Prop :=
 match w09 o.op, s0e rs ch o.op.operands.toList with
 | false, some vs => match m06 (rho vs) o with
  | some (f, l) => match okF P f with
   | true => ∃ v, imp ch c (Tr P f l.toArray rs.h fun v' h' => v' = v ∧ h' = rs.h) ∧ K (.val v)
   | false => False
  | none => match evP P (o0e (rho vs) o) with
   | some (.value v) => K (.val v)
   | _ => False
 | false, none => ∃ r, imp ch c (M0k rs ch o.op.operands.toList rs.st rs.h fun vs _ hf => match m06 (rho vs) o with
  | some (f, l) => match okF P f with
   | true => Tr P f l.toArray hf fun v h' => v = r ∧ h' = hf
   | false => False
  | none => False) ∧ K (.val r)
 | _, _ => False
def evG (P : Program) (o : Oper) (ch : List (Nat × Bool)) (c : Bool) (rs : RS) (K : AV → Prop) : Prop :=
 match o.op with
 | .move x | .assign x => match rdG rs ch x with
  | .dead => False
  | a => K a
 | .pick (.tmp s) a b => match rdG rs ch (.tmp s), l07 rs.bs s with
  | .val (.bool e), some q => match r0e q.ch ch with
   | true => match rdG rs ((q.j, true) :: q.ch) a, rdG rs ((q.j, false) :: q.ch) b with
    | .val (.bool x), .val (.bool y) => K (.val (.bool (cond e x y)))
    | _, _ => False
   | false => False
  | _, _ => False
 | .fieldAddr t x k => match rdG rs ch x, t0d P t k with
  | .box i off, some fo => K (.box i (off + fo))
  | .hel s i sz k, some fo => K (.hel s i sz (k + fo))
  | .oel i s j sz k, some fo => K (.oel i s j sz (k + fo))
  | _, _ => False
 | .indexAddr t x i => match rdG rs ch i with
  | .val (.int _ j) => match l00 P t with
   | some e => match L5 P e with
    | some sz => match rdG rs ch x with
     | .val (.slice a n cp) => imp ch c (InB (.slice a n cp) j) ∧ K (.hel (.slice a n cp) j sz 0)
     | .own i k => match nth rs.st.ow i with
      | some ⟨_, .live _ sz' _ _ xs⟩ => match Nat.beq sz' sz with
       | true => imp ch c (0 ≤ j ∧ j < (xs.length : Int)) ∧ K (.oel i k j sz 0)
       | false => False
      | _ => False
     | _ => False
    | none => False
   | none => False
  | _ => False
 | .load t x => match rdG rs ch x with
  | .box i off => match nth rs.st.bx i with
   | some (.live cs _) => t02 P t cs off K
   | _ => False
  | .hel s idx sz k => ∃ e, imp ch c (j7 rs.h s sz idx e) ∧ t02 P t (vals e) k K
  | .oel i _ idx sz k => match nth rs.st.ow i with
   | some ⟨_, .live _ sz' _ _ xs⟩ => match Nat.beq sz' sz with
    | true => ∃ e, imp ch c (xs[idx.toNat]? = some e) ∧ t02 P t (vals e) k K
    | false => False
   | _ => False
  | _ => False
 | .build t ps => match P.underlying t, k00 P t with
  | some (.struct fs), some z => match D03 P fs.toList with
   | true => V04 P fs (rdG rs ch) ps.toList (vals z.cells.toList) fun cs => K (.agg cs)
   | false => False
  | _, _ => False
 | .index t x i => match rdG rs ch x, rdG rs ch i, P.underlying t with
  | .val (.string s), .val (.int _ j), some .string => ∃ e, imp ch c (0 ≤ j ∧ s[j.toNat]? = some e) ∧ K (.val (.int .u8 e.toNat))
  | _, _, _ => False
 | .slice t x lo hi none => match rdG rs ch x, P.underlying t with
  | .val (.string s), some .string => match V02 0 (lo.map (rdG rs ch)), V02 s.size (hi.map (rdG rs ch)) with
   | some l, some m => imp ch c (0 ≤ l ∧ l ≤ m ∧ m ≤ (s.size : Int)) ∧ K (.val (.string (s.extract l.toNat m.toNat)))
   | _, _ => False
  | .val (.slice ad n cp), _ => match l00 P t with
   | some e => match L5 P e with
    | some sz => match V02 0 (lo.map (rdG rs ch)), V02 n (hi.map (rdG rs ch)) with
     | some l, some m => ∃ v, imp ch c ((0 ≤ l ∧ l ≤ m ∧ m ≤ (n : Int) ∧ n ≤ cp) ∧ o0g sz (.slice ad n cp) l.toNat m.toNat v) ∧ K (.val v)
     | _, _ => False
    | none => False
   | none => False
  | _, _ => False
 | .binOp .eql t x y yt => match v02 (rdG rs ch x), v02 (rdG rs ch y) with
  | some (.agg xs), some (.agg ys) => ∃ b, imp ch c (x09 P o x y (.agg xs) (.agg ys) b) ∧ K (.val (.bool b))
  | some (.slice a n m), some (.slice none 0 0) => ∃ b, imp ch c (x09 P o x y (.slice a n m) (.slice none 0 0) b) ∧ K (.val (.bool b))
  | _, _ => w0d P o ch c rs K
 | .binOp .neq t x y yt => match v02 (rdG rs ch x), v02 (rdG rs ch y) with
  | some (.agg xs), some (.agg ys) => ∃ b, imp ch c (x09 P o x y (.agg xs) (.agg ys) b) ∧ K (.val (.bool b))
  | _, _ => w0d P o ch c rs K
 | .binOp .add t x y yt => match rdG rs ch x, rdG rs ch y with
  | .val (.string a), .val (.string b) => imp ch c (a.size + b.size ≤ 9223372036854775807) ∧ K (.val (.string (a ++ b)))
  | _, _ => w0d P o ch c rs K
 | .binOp .quo t x y yt => match rdG rs ch x, rdG rs ch y with
  | .val (.int .i64 a), .val (.int .i64 b) => imp ch c (b ≠ 0) ∧ K (.val (.int .i64 (IntKind.i64.wrap (a.tdiv b))))
  | _, _ => w0d P o ch c rs K
 | .binOp .rem t x y yt => match rdG rs ch x, rdG rs ch y with
  | .val (.int .i64 a), .val (.int .i64 b) => imp ch c (b ≠ 0) ∧ K (.val (.int .i64 (a.tmod b)))
  | _, _ => w0d P o ch c rs K
 | .call { callee := .builtin .len, args := as, argTypes := ts } => match as.toList, ts.toList with
  | [x], [t] => match rdG rs ch x with
   | .own i _ => match nth rs.st.ow i, l00 P t with
    | some ⟨_, .live _ _ _ _ xs⟩, some _ => K (.val (.int .i64 xs.length))
    | _, _ => False
   | _ => w0d P o ch c rs K
  | _, _ => False
 | _ => w0d P o ch c rs K
def X04 (rs : RS) (d : Nat) : Bool := match D0a rs.gf d, l07 rs.bs d with
 | none, none => false
 | _, _ => true
def t0e (i d : Nat) (ch : List (Nat × Bool)) (av : AV) (bs : List BE) : List BE := match av with
 | .val (.bool e) => ⟨i, d, e, ch⟩ :: bs
 | _ => bs
def E0a (d : Option Tmp) (i : Nat) (ch : List (Nat × Bool)) (av : AV) (rs : RS) (K : RS → Prop) : Prop :=
 match d with
 | none => K rs
 | some d => match Nat.blt d rs.st.n, X04 rs d with
  | true, false => match ch with
   | [] => K { rs with st := { rs.st with fr := (d, av) :: rs.st.fr }, bs := t0e i d ch av rs.bs }
   | _ => K { rs with st := { rs.st with fr := (d, .dead) :: rs.st.fr }, gf := (d, ch, av) :: rs.gf, bs := t0e i d ch av rs.bs }
  | _, _ => False
def q0g : Op → Bool
 | .pick .. => true
 | _ => false
def y09 (P : Program) : List Oper → Nat → RS → (RS → Prop) → Prop
 | [], _, rs, K => K rs
 | o :: r, i, rs, K => match o.guard, q0g o.op with
  | none, false => C7 P o rs.st rs.h fun av st h => E0a o.dst i [] av { rs with st := st, h := h } fun rs => y09 P r (i + 1) rs K
  | _, _ => match L8 rs.bs o.guard with
   | some ch => match cB rs.bs ch with
    | some c => evG P o ch c rs fun av => E0a o.dst i ch av rs fun rs => y09 P r (i + 1) rs K
    | none => False
   | none => False
def evQ (P : Program) : List Oper → Nat → RS → (RS → Prop) → Prop
 | [], _, rs, K => K rs
 | o :: r, i, rs, K => match L8 rs.bs o.guard with
  | some ch => match cB rs.bs ch with
   | some c => evG P o ch c rs fun av => E0a o.dst i ch av rs fun rs => evQ P r (i + 1) rs K
   | none => False
  | none => False
def Sub (h h' : Hp) : Prop := ∀ b o, h b = some o → h' b = some o
def w0j (v : Value) (K : Value → Prop) : Prop := match v with
 | .bool b => K (.bool b)
 | .int k n => K (.int k n)
 | .string s => K (.string s)
 | .pointer a => K (.pointer a)
 | .slice a n c => K (.slice a n c)
 | .func f x y => K (.func f x y)
 | .agg cs => K (.agg cs)
 | .tuple vs => K (.tuple vs)
 | v => K v
theorem r0i (v : Value) (K : Value → Prop) : w0j v K = K v := by cases v <;> rfl
def f00 {α : Type} : List α → (List α → Prop) → Prop
 | [], K => K []
 | x :: r, K => f00 r fun r => K (x :: r)
theorem D00 {α : Type} : ∀ (l : List α) (K : List α → Prop), f00 l K = K l
 | [], K => rfl
 | x :: r, K => by simp only [f00, D00 r]
def w02 : Nat → (Nat → Prop) → Prop
 | 0, K => K 0
 | n + 1, K => w02 n fun m => K (m + 1)
theorem Y04 : ∀ (n : Nat) (K : Nat → Prop), w02 n K = K n
 | 0, K => rfl
 | n + 1, K => by simp only [w02, Y04 n]
def V00 (av : AV) (K : AV → Prop) : Prop := match av with
 | .val v => w0j v fun v => K (.val v)
 | .own i k => K (.own i k)
 | .box i k => K (.box i k)
 | .hel s i z k => w02 z fun z => w02 k fun k => K (.hel s i z k)
 | .oel j s i z k => w02 z fun z => w02 k fun k => K (.oel j s i z k)
 | .agg cs => f00 cs fun cs => K (.agg cs)
 | .dead => K .dead
theorem E00 (av : AV) (K : AV → Prop) : V00 av K = K av := by
 cases av with
 | val v => exact r0i v (fun v => K (.val v))
 | hel s i z k => simp only [V00, Y04]
 | oel j s i z k => simp only [V00, Y04]
 | agg cs => simp only [V00, D00]
 | _ => rfl
inductive M5 where
 | pu (av : AV)
 | ef (F : Value → Hp → Prop)
def H1 : List (Nat × M5) → Nat → Option M5
 | [], _ => none
 | (k, x) :: r, s => match Nat.beq k s with
  | true => some x
  | false => H1 r s
def rdS (L : List (Nat × M5)) (st : St) : Operand → AV
 | .tmp t => match H1 L t with
  | some (.pu av) => rdA st av
  | some (.ef _) => .dead
  | none => rdA st (D2 st.fr t)
 | x => rdO st x
def F0a (P : Program) (t : TypeId) (cs : List Y4) (off : Nat) : Option AV :=
 match s0d P t with
 | some true => match L5 P t with
  | some n => match T04 ((cs.drop off).take n) n with
   | true => some (.agg ((cs.drop off).take n))
   | false => none
  | none => none
 | some false => match nth cs off with
  | some c => some (ofCell c)
  | none => none
 | none => none
def E06 (P : Program) (L : List (Nat × M5)) (o : Oper) (st : St) : Option AV := match o.op with
 | .move x | .assign x => match rdS L st x with
  | .dead => none
  | a => some a
 | .load t x => match rdS L st x with
  | .box i off => match nth st.bx i with
   | some (.live cs _) => F0a P t cs off
   | _ => none
  | _ => none
 | _ => none
def Z04 (L : List (Nat × M5)) (st : St) (h : Hp) : List Operand → List (Nat × AV) → (List (Nat × AV) → Prop) → Prop
 | [], acc, K => K acc
 | .tmp t :: r, acc, K => match H1 L t with
  | some (.pu av) => Z04 L st h r ((t, av) :: acc) K
  | some (.ef F) => ∀ v, F v h → Z04 L st h r ((t, .val v) :: acc) K
  | none => Z04 L st h r ((t, D2 st.fr t) :: acc) K
 | _ :: r, acc, K => Z04 L st h r acc K
def u0e (h : Hp) : List (Nat × M5) → List (Nat × AV) → (List (Nat × AV) → Prop) → Prop
 | [], fr, K => K fr
 | (d, .pu av) :: r, fr, K => u0e h r ((d, av) :: fr) K
 | (d, .ef F) :: r, fr, K => ∀ v, F v h → u0e h r ((d, .val v) :: fr) K
def x02 (d : Option Tmp) (f : M5) (L : List (Nat × M5)) : List (Nat × M5) := match d with
 | some d => (d, f) :: L
 | none => L
def u0l (st : St) (h : Hp) (F : Value → Hp → Prop) : AV → St → Hp → Prop
 | .val v, st', h' => st' = st ∧ Sub h h' ∧ F v h'
 | _, _, _ => False
def evS (P : Program) : List Oper → List (Nat × M5) → St → Hp → (St → Hp → Prop) → Prop
 | [], L, ⟨n, fr, bx, ow⟩, h, K => ∀ h', Sub h h' → u0e h' L fr fun fr => K ⟨n, fr, bx, ow⟩ h'
 | o :: r, L, ⟨n, fr, bx, ow⟩, h, K => match o.guard with
  | some _ => False
  | none => match E06 P L o ⟨n, fr, bx, ow⟩ with
   | some av => V00 av fun av => evS P r (x02 o.dst (.pu av) L) ⟨n, fr, bx, ow⟩ h K
   | none => ∃ F : Value → Hp → Prop, (∀ v h1 h2, Sub h1 h2 → F v h1 → F v h2) ∧
     (∀ h', Sub h h' → Z04 L ⟨n, fr, bx, ow⟩ h' o.op.operands.toList [] fun fr => C7 P o ⟨n, fr, bx, ow⟩ h' (u0l ⟨n, fr, bx, ow⟩ h' F)) ∧
     evS P r (x02 o.dst (.ef F) L) ⟨n, fr, bx, ow⟩ h K
def a9 (i : Nat) (o : Oper) : Bool := o.after.toList.any fun e => Region.binds .any e && Nat.beq e.on i
def F00 (o : Oper) (t : Nat) : List Oper → Nat → Bool
 | [], _ => true
 | x :: r, i => match x.dst with
  | some d => match Nat.beq d t with
   | true => a9 i o && F00 o t r (i + 1)
   | false => F00 o t r (i + 1)
  | none => F00 o t r (i + 1)
def m07 (o : Oper) (ops : List Oper) : List Operand → Bool
 | [] => true
 | .tmp t :: r => F00 o t ops 0 && m07 o ops r
 | _ :: r => m07 o ops r
def a05 (d : Nat) : List Oper → Bool
 | [] => true
 | o :: r => match o.dst with
  | some d' => !Nat.beq d d' && a05 d r
  | none => a05 d r
def v0e (n : Nat) : List Oper → Bool
 | [] => true
 | o :: r => match o.dst with
  | some d => Nat.blt d n && a05 d r && v0e n r
  | none => v0e n r
def z09 : List Oper → Nat → Bool
 | [], _ => true
 | o :: r, j => (o.after.toList.all fun e => !Region.binds .any e || Nat.blt e.on j) && z09 r (j + 1)
def n0h (ops : List Oper) : List Oper → Bool
 | [] => true
 | o :: r => m07 o ops o.op.operands.toList && n0h ops r
def U8 (n : Nat) (ops : List Oper) : Bool := v0e n ops && z09 ops 0 && n0h ops ops
def o0h : List Y4 → Bool
 | [] => true
 | .val _ :: r => o0h r
 | .own _ _ :: _ => false
def x0d : AV → Bool
 | .val _ => true
 | .box _ _ => true
 | .own _ _ => true
 | .agg cs => o0h cs
 | _ => false
def q03 (L : List (Nat × M5)) (st : St) : Operand → AV
 | .tmp t => match H1 L t with
  | some (.pu av) => av
  | some (.ef _) => .dead
  | none => D2 st.fr t
 | .const v => .val v
 | _ => .dead
def A09 (L : List (Nat × M5)) (st : St) : List Operand → Option (List (Nat × Value))
 | [] => some []
 | .tmp t :: r => match q03 L st (.tmp t) with
  | .val v => match A09 L st r with
   | some vs => some ((t, v) :: vs)
   | none => none
  | _ => none
 | .global _ :: _ => none
 | _ :: r => A09 L st r
def r0g (P : Program) (L : List (Nat × M5)) (o : Oper) (st : St) : Option AV := match w09 o.op, A09 L st o.op.operands.toList with
 | false, some vs => match m06 (rho vs) o with
  | some _ => none
  | none => match evP P (o0e (rho vs) o) with
   | some (.value v) => some (.val v)
   | _ => none
 | _, _ => none
def p0m : AV → Bool
 | .val (.int _ _) => true
 | _ => false
def D0m : BinOp → Bool
 | .lss => true
 | .leq => true
 | .gtr => true
 | .geq => true
 | _ => false
def n06 (P : Program) (L : List (Nat × M5)) (o : Oper) (st : St) : Option AV := match o.op with
 | .move x => match x0d (q03 L st x) with
  | true => some (q03 L st x)
  | false => none
 | .assign x => match x0d (q03 L st x) with
  | true => some (q03 L st x)
  | false => none
 | .load t x => match q03 L st x with
  | .box i off => match nth st.bx i with
   | some (.live cs _) => match F0a P t cs off with
    | some av => match x0d av with
     | true => some av
     | false => none
    | none => none
   | _ => none
  | _ => none
 | .fieldAddr t x k => match q03 L st x, t0d P t k with
  | .box i off, some fo => some (.box i (off + fo))
  | _, _ => none
 | .binOp op _ x y _ => match D0m op, p0m (q03 L st x), p0m (q03 L st y) with
  | true, true, true => r0g P L o st
  | _, _, _ => none
 | .call { callee := .builtin .len, args := as, argTypes := _ } => match as.toList with
  | [x] => match q03 L st x with
   | .val (.slice _ _ _) => r0g P L o st
   | _ => none
  | _ => none
 | _ => none
def E9 (L : List (Nat × M5)) (st : St) : List Oper → List Nat
 | [] => []
 | o :: r => match o.op with
  | .load _ x => match q03 L st x with
   | .box i _ => i :: E9 L st r
   | _ => E9 L st r
  | _ => E9 L st r
def o06 (bx : List BSt) : List Nat → List (Option BSt)
 | [] => []
 | i :: r => nth bx i :: o06 bx r
def b05 (L : List (Nat × M5)) (fr0 : List (Nat × AV)) : List Operand → List (Nat × AV) → (List (Nat × AV) → Prop) → Prop
 | [], acc, K => K acc
 | .tmp t :: r, acc, K => match H1 L t with
  | some (.pu av) => b05 L fr0 r ((t, av) :: acc) K
  | some (.ef _) => b05 L fr0 r ((t, .dead) :: acc) K
  | none => b05 L fr0 r ((t, D2 fr0 t) :: acc) K
 | _ :: r, acc, K => b05 L fr0 r acc K
def s0g : List (Nat × M5) → List (Nat × AV) → List (Nat × AV)
 | [], fr => fr
 | (d, .pu av) :: r, fr => (d, av) :: s0g r fr
 | (d, .ef _) :: r, fr => (d, .dead) :: s0g r fr
def p0h (av : AV) (st : St) (h : Hp) : AV → St → Hp → Prop := fun av' st' h' => av' = av ∧ st' = st ∧ h' = h
def w0e (P : Program) (st : St) (h : Hp) (L : List (Nat × M5)) (o : Oper) (av : AV) : Prop :=
 match st with
 | ⟨n, fr, bx, ow⟩ => ∀ h', Sub h h' → b05 L fr o.op.operands.toList [] fun fr => C7 P o ⟨n, fr, bx, ow⟩ h' (p0h av ⟨n, fr, bx, ow⟩ h')
def B01 (P : Program) (st : St) (h : Hp) : List Oper → Nat → List (Nat × M5) → List (Nat × Oper) → List (Nat × Oper) → (List (Nat × M5) → List (Nat × Oper) → List (Nat × Oper) → Prop) → Prop
 | [], _, L, X, E, K => K L X E
 | o :: r, i, L, X, E, K => match o.guard with
  | some _ => False
  | none => match n06 P L o st with
   | some av => V00 av fun av => B01 P st h r (i + 1) (x02 o.dst (.pu av) L) X E K
   | none => (∃ av, w0e P st h L o av ∧ V00 av fun av => B01 P st h r (i + 1) (x02 o.dst (.pu av) L) (X ++ [(i, o)]) E K) ∨
     B01 P st h r (i + 1) (x02 o.dst (.ef fun _ _ => True) L) X (E ++ [(i, o)]) K
def y0d (X : List (Nat × Oper)) : Nat → Nat → Oper → Bool
 | 0, i, q => a9 i q
 | n + 1, i, q => a9 i q || X.any fun y => a9 y.1 q && y0d X n i y.2
def r03 (X Y : List (Nat × Oper)) : List (Nat × Oper) → Bool
 | [] => true
 | (_, q) :: _ => X.all fun x => y0d Y 8 x.1 q
def M00 : List (Nat × Oper) → Bool
 | (i, o) :: (j, o') :: r => a9 i o' && M00 ((j, o') :: r)
 | _ => true
def y02 : Nat → Nat → Oper → Bool
 | 0, _, _ => true
 | k + 1, i, o => (Nat.beq k i || a9 k o) && y02 k i o
def c05 (d : Nat) : List Operand → Bool
 | [] => false
 | .tmp t :: r => Nat.beq t d || c05 d r
 | _ :: r => c05 d r
def G0a (d : Nat) : List Oper → Bool
 | [] => false
 | o :: r => c05 d o.op.operands.toList || G0a d r
def C9 : List Oper → List Oper
 | [] => []
 | o :: r => match r with
  | [] => []
  | _ :: _ => o :: C9 r
def H0a : List Oper → Option Oper
 | [] => none
 | o :: r => match r with
  | [] => some o
  | _ :: _ => H0a r
def x0j (ops : List Oper) : Option Oper := match H0a ops with
 | some o => match o.guard, o.dst with
  | none, some d => match G0a d (C9 ops) && y02 (C9 ops).length (C9 ops).length o with
   | true => some o
   | false => none
  | _, _ => none
 | none => none
def Q01 (P : Program) (o : Oper) (st : St) (h : Hp) (K : St → Hp → Prop) : Prop :=
 C7 P o st h fun av st h => E0a o.dst 0 [] av ⟨st, h, [], []⟩ fun rs => K rs.st rs.h
def q0h (N i : Nat) (o : Oper) : List (Nat × Oper) → Bool
 | [] => y02 N i o
 | _ :: _ => false
def q0m (c : Nat) (b : Bool) (rd : List Nat) (bx bx' : List BSt) : Prop := match b with
 | true => True
 | false => match c with
  | 0 => o06 bx' rd = o06 bx rd
  | _ + 1 => bx' = bx
def M0l : Nat → List Own → List Own → Hp → Hp → Prop
 | 0, _, _, _, _ => True
 | _ + 1, ow, ow', h, h' => ow' = ow ∧ Sub h h'
def evC (rd : List Nat) (N : Nat) (P : Program) : Nat → List (Nat × Oper) → List (Nat × M5) → St → Hp → (St → Hp → Prop) → Prop
 | _, [], L, ⟨n, fr, bx, ow⟩, h, K => f00 (s0g L fr) fun fr => K ⟨n, fr, bx, ow⟩ h
 | c, (i, o) :: r, L, ⟨n, fr, bx, ow⟩, h, K => b05 L fr o.op.operands.toList [] fun fr1 => C7 P o ⟨n, fr1, bx, ow⟩ h fun av st' h' => match st' with
  | ⟨_, _, bx', ow'⟩ => M0l c ow ow' h h' ∧ q0m c (q0h N i o r) rd bx bx' ∧ V00 av fun av => f00 bx' fun bx' => f00 ow' fun ow' => evC rd N P (c - 1) r (x02 o.dst (.pu av) L) ⟨n, fr, bx', ow'⟩ h' K
abbrev FL := List (Nat × List (Nat × Bool) × M5)
def x01 : FL → Nat → Option (List (Nat × Bool) × M5)
 | [], _ => none
 | (k, x) :: r, s => match Nat.beq k s with
  | true => some x
  | false => x01 r s
def rdU (L : FL) (st : St) (ch : List (Nat × Bool)) : Operand → AV
 | .tmp t => match x01 L t with
  | some (ch2, .pu av) => match r0e ch2 ch with
   | true => rdA st av
   | false => .dead
  | some (_, .ef _) => .dead
  | none => rdA st (D2 st.fr t)
 | x => rdO st x
def p06 (P : Program) (L : FL) (bs : List BE) (ch : List (Nat × Bool)) (o : Oper) (st : St) : Option AV := match o.op with
 | .move x | .assign x => match rdU L st ch x with
  | .dead => none
  | a => some a
 | .load t x => match rdU L st ch x with
  | .box i off => match nth st.bx i with
   | some (.live cs _) => F0a P t cs off
   | _ => none
  | _ => none
 | .fieldAddr t x k => match rdU L st ch x, t0d P t k with
  | .box i off, some fo => some (.box i (off + fo))
  | .hel s i sz k, some fo => some (.hel s i sz (k + fo))
  | _, _ => none
 | .pick (.tmp s) a b => match rdU L st ch (.tmp s), l07 bs s with
  | .val (.bool e), some q => match r0e q.ch ch with
   | true => match rdU L st ((q.j, true) :: q.ch) a, rdU L st ((q.j, false) :: q.ch) b with
    | .val (.bool x), .val (.bool y) => some (.val (.bool (cond e x y)))
    | _, _ => none
   | false => none
  | _, _ => none
 | _ => none
def H04 (L : FL) (st : St) (h : Hp) (ch : List (Nat × Bool)) : List Operand → List (Nat × AV) → (List (Nat × AV) → Prop) → Prop
 | [], acc, K => K acc
 | .tmp t :: r, acc, K => match x01 L t with
  | some (ch2, f) => match r0e ch2 ch with
   | true => match f with
    | .pu av => H04 L st h ch r ((t, av) :: acc) K
    | .ef F => ∀ v, F v h → H04 L st h ch r ((t, .val v) :: acc) K
   | false => False
  | none => H04 L st h ch r ((t, D2 st.fr t) :: acc) K
 | _ :: r, acc, K => H04 L st h ch r acc K
def f0c (h : Hp) : FL → List (Nat × AV) → (List (Nat × AV) → Prop) → Prop
 | [], fr, K => K fr
 | (d, [], .pu av) :: r, fr, K => f0c h r ((d, av) :: fr) K
 | (d, [], .ef F) :: r, fr, K => ∀ v, F v h → f0c h r ((d, .val v) :: fr) K
 | (d, _ :: _, _) :: r, fr, K => f0c h r ((d, .dead) :: fr) K
def z0d (d : Option Tmp) (ch : List (Nat × Bool)) (f : M5) (L : FL) : FL := match d with
 | some d => (d, ch, f) :: L
 | none => L
def A0d (i : Nat) (d : Option Tmp) (ch : List (Nat × Bool)) (av : AV) (bs : List BE) : List BE := match d with
 | some d => match av with
  | .val (.bool e) => ⟨i, d, e, ch⟩ :: bs
  | _ => bs
 | none => bs
def t0g (st st' : St) : Prop := st'.n = st.n ∧ st'.fr = st.fr ∧ st'.bx = st.bx ∧ ∃ t, st'.ow = st.ow ++ t
def y0j (st : St) (h : Hp) (F : Value → Hp → Prop) : AV → St → Hp → Prop := fun av st' h' => rfy av st' h' fun v st'' h'' => t0g st st'' ∧ Sub h h'' ∧ F v h''
def evU (P : Program) (l : List Oper) : Nat → FL → List BE → St → Hp → (St → Hp → Prop) → Prop :=
  List.rec (motive := fun _ => Nat → FL → List BE → St → Hp → (St → Hp → Prop) → Prop)
    (fun _ L _ st h K => match st with
      | ⟨n, fr, bx, ow⟩ => ∀ h', Sub h h' → f0c h' L fr fun fr => K ⟨n, fr, bx, ow⟩ h')
    (fun o _ ih i L bs st h K => match st with
      | ⟨n, fr, bx, ow⟩ => match L8 bs o.guard with
        | some ch => match cB bs ch with
          | some c => match p06 P L bs ch o ⟨n, fr, bx, ow⟩ with
            | some av => V00 av fun av => ih (i + 1) (z0d o.dst ch (.pu av) L) (A0d i o.dst ch av bs) ⟨n, fr, bx, ow⟩ h K
            | none => (∃ av, (∀ h', Sub h h' → imp ch c (H04 L ⟨n, fr, bx, ow⟩ h' ch o.op.operands.toList [] fun fr => C7 P o ⟨n, fr, bx, ow⟩ h' (p0h av ⟨n, fr, bx, ow⟩ h'))) ∧
                  V00 av fun av => ih (i + 1) (z0d o.dst ch (.pu av) L) (A0d i o.dst ch av bs) ⟨n, fr, bx, ow⟩ h K) ∨
                (∃ F : Value → Hp → Prop, (∀ v h1 h2, Sub h1 h2 → F v h1 → F v h2) ∧
                  (∀ h', Sub h h' → imp ch c (H04 L ⟨n, fr, bx, ow⟩ h' ch o.op.operands.toList [] fun fr => C7 P o ⟨n, fr, bx, ow⟩ h' (y0j ⟨n, fr, bx, ow⟩ h' F))) ∧
                  ih (i + 1) (z0d o.dst ch (.ef F) L) bs ⟨n, fr, bx, ow⟩ h K)
          | none => False
        | none => False) l
def o0a : List Oper → Bool
 | [] => true
 | o :: r => (match o.guard with
  | some (j, _) => a9 j o
  | none => true) && o0a r
def L01 (n : Nat) (ops : List Oper) : Bool := U8 n ops && o0a ops
def N0k (P : Program) : List Oper → Bool
 | [] => false
 | o :: r => (match o.guard, o.op with
  | some _, .call { callee := .value _, args := _, argTypes := _ } => match P.underlying o.type with
   | some (.slice _) => true
   | some (.struct _) => true
   | some (.tuple _) => true
   | _ => false
  | _, _ => false) || N0k P r
def k02 (o : Oper) : Bool := match o.op with
 | .alloc _ => true
 | _ => false
def V8 (o : Oper) : Oper := match o.op with
 | .alloc _ => { o with op := .move (.const undef) }
 | _ => o
def V4 : List Oper → List Oper
 | [] => []
 | o :: r => V8 o :: V4 r
def okA (P : Program) (all : List Oper) : List Oper → Bool
 | [] => true
 | o :: r => (match o.op with
  | .alloc t => (match o.guard, o.dst, k00 P t with
   | none, some d, some _ => !G0a d all
   | _, _, _ => false)
  | _ => true) && okA P all r
def u0g (x : Nat) : List Nat → Bool
 | [] => false
 | y :: r => Nat.beq x y || u0g x r
def O0k (ops : List Oper) (i : Nat) : List Nat → Bool
 | [] => false
 | j :: r => (match nth ops j with
  | some o => a9 i o
  | none => false) || O0k ops i r
def t0c (ops : List Oper) : Nat → List Nat → List Nat
 | 0, acc => acc
 | i + 1, acc => match O0k ops i acc with
  | true => t0c ops i (i :: acc)
  | false => t0c ops i acc
def n07 (o : Oper) : Option Nat := match o.guard with
 | some _ => none
 | none => match o.op with
  | .extract (.tmp t) _ => some t
  | .move (.tmp t) => some t
  | .assign (.tmp t) => some t
  | _ => none
def o07 (d : Nat) : List Oper → Bool
 | [] => false
 | o :: r => (match o.dst with
  | some e => Nat.beq e d
  | none => false) || o07 d r
def G03 (ml : List Nat) (t : Nat) : List Oper → Nat → Bool
 | [], _ => true
 | o :: r, i => (match o.dst with
  | some e => !Nat.beq e t || u0g i ml
  | none => true) && G03 ml t r (i + 1)
def H03 (i d : Nat) : List Oper → Bool
 | [] => true
 | o :: r => (!c05 d o.op.operands.toList || a9 i o) && H03 i d r
def r0h (pre tl : List Oper) (ml : List Nat) (i : Nat) (o : Oper) : Bool := match n07 o, o.dst with
 | some t, some d => !o07 d tl && !o07 t tl && G03 ml t pre 0 && H03 i d tl
 | _, _ => false
def p0a (pre tl : List Oper) (ml : List Nat) : List Oper → Nat → Bool
 | [], _ => true
 | o :: r, i => (u0g i ml || r0h pre tl ml i o) && p0a pre tl ml r (i + 1)
def x0e : List Oper → Bool
 | [] => true
 | o :: r => !w09 o.op && x0e r
def z0j : Nat → List Oper → Bool
 | _, [] => true
 | k, o :: r => (match o.guard with
  | none => true
  | some _ => false) && (match r with
  | [] => true
  | o' :: _ => a9 k o') && z0j (k + 1) r
def r0m : List Oper → Bool
 | [] => true
 | _ :: _ => false
def okZ (P : Program) (n m : Nat) (ops : List Oper) : Bool :=
 L01 n (V4 (ops.take m)) && okA P (ops.take m) (ops.take m) && z09 ops 0 && z0j m (ops.drop m) && (r0m (ops.drop m) || (p0a (ops.take m) (ops.drop m) (t0c ops m [m]) (ops.take m) 0 && x0e (ops.drop m)))
abbrev N0l := Oper → St → Hp → (St → Hp → Prop) → Prop
def doA (R : N0l) (l : List Oper) : St → Hp → (St → Hp → Prop) → Prop :=
 List.rec (motive := fun _ => St → Hp → (St → Hp → Prop) → Prop) (fun st h K => K st h) (fun o _ ih st h K => match k02 o with
  | true => R o st h fun st h => ih st h K
  | false => ih st h K) l
def doT (R : N0l) (l : List Oper) : St → Hp → (St → Hp → Prop) → Prop :=
 List.rec (motive := fun _ => St → Hp → (St → Hp → Prop) → Prop) (fun st h K => K st h) (fun o _ ih st h K => R o st h fun st h => ih st h K) l
def evT (P : Program) (R : N0l) (m : Nat) (ops : List Oper) (st : St) (h : Hp) (K : St → Hp → Prop) : Prop :=
 evU P (V4 (ops.take m)) 0 [] [] st h fun st h => doA R (ops.take m) st h fun st h => doT R (ops.drop m) st h K
inductive Ex where
 | normal | ret
 | exit (i : Nat)
structure Ann where
 vars : List Nat
 boxes : List Nat
 owns : List Nat
 nils : List (Nat × Nat × Nat × Nat) := []
 nilsB : List (Nat × Nat × Nat × Nat × Nat) := []
 kept : List Nat := []
 fuel : Bool := false
 pubs : List Nat := []
def y0e : List (Nat × Nat × Nat × Nat) → St → (St → Prop) → Prop
 | [], st, K => K st
 | (s, e, sz, by_) :: r, ⟨n, fr, bx, ow⟩, K => match rdA ⟨n, fr, bx, ow⟩ (D2 fr s), Nat.blt s n with
  | .val (.slice none 0 0), true => m0g ow fun k => y0e r ⟨n, (s, .own k 0) :: fr, bx, ow ++ [⟨0, .live e sz by_ false []⟩]⟩ K
  | _, _ => False
def I0a : List (Nat × Nat × Nat × Nat × Nat) → St → (St → Prop) → Prop
 | [], st, K => K st
 | (i, k, e, sz, by_) :: r, ⟨n, fr, bx, ow⟩, K => match nth bx i with
  | some (.live cs ty) => match nth cs k with
   | some (.val (.slice none 0 0)) => m0g ow fun j => I0a r ⟨n, fr, Z8 bx i (.live (Z8 cs k (.own j 0)) ty), ow ++ [⟨0, .live e sz by_ false []⟩]⟩ K
   | _ => False
  | _ => False
def z0e : List Nat → St → Hp → (St → Hp → Prop) → Prop
 | [], st, h, K => K st h
 | s :: r, st, h, K => rfy (rdA st (D2 st.fr s)) st h fun v st h => match st with
  | ⟨n, fr, bx, ow⟩ => match Nat.blt s n with
   | true => z0e r ⟨n, (s, .val v) :: fr, bx, ow⟩ h K
   | false => False
def e06 (x : Nat) : List Nat → Bool
 | [] => false
 | y :: r => match Nat.beq x y with
  | true => true
  | false => e06 x r
def O0l : List Oper → List Nat → List Nat
 | [], acc => acc
 | o :: r, acc => match o.dst with
  | some d => O0l r (d :: acc)
  | none => O0l r acc
def g0c : Code → List Nat → List Nat
 | .region _ ops _, acc => O0l ops.toList acc
 | .seq a b, acc => g0c a (g0c b acc)
 | .cond _ a b, acc => g0c a (g0c b acc)
 | .block _ a, acc => g0c a acc
 | .loop a, acc => g0c a acc
 | .scope a, acc => g0c a acc
 | _, acc => acc
def y08 : List Nat → (List Nat → Prop) → Prop
 | [], K => K []
 | x :: r, K => y08 r fun r => K (x :: r)
def P0k : List Nat → St → (List Value → Prop) → Prop
 | [], _, K => K []
 | s :: r, st, K => match rdA st (D2 st.fr s) with
  | .val v => P0k r st fun vs => K (v :: vs)
  | _ => False
def A0e : List Y4 → St → (List Value → Prop) → Prop
 | [], _, K => K []
 | .val v :: r, st, K => A0e r st fun vs => K (v :: vs)
 | .own _ _ :: r, st, K => A0e r st K
def J0a : List Nat → St → (List Value → Prop) → Prop
 | [], _, K => K []
 | i :: r, st, K => match nth st.bx i with
  | some (.live cs _) => A0e cs st fun vs => J0a r st fun ws => K (vs ++ ws)
  | _ => False
def u0c : List Nat → St → (List (List (List Value)) → Prop) → Prop
 | [], _, K => K []
 | i :: r, st, K => match nth st.ow i with
  | some ⟨_, .live _ _ _ _ xs⟩ => u0c r st fun os => K (xs :: os)
  | _ => False
def v0g (A : Ann) (st : St) (K : List Value → List (List (List Value)) → Prop) : Prop :=
 P0k A.vars st fun vs => J0a A.boxes st fun ws => u0c A.owns st fun os => K (vs ++ ws) os
def M01 : List Y4 → List Value → (List Y4 → List Value → Prop) → Prop
 | [], vs, K => K [] vs
 | .val _ :: r, v :: vs, K => M01 r vs fun cs rest => K (.val v :: cs) rest
 | .val _ :: _, [], _ => False
 | .own i k :: r, vs, K => M01 r vs fun cs rest => K (.own i k :: cs) rest
def I03 : List Nat → List Value → List BSt → (List BSt → Prop) → Prop
 | [], _, bx, K => K bx
 | i :: r, vs, bx, K => match nth bx i with
  | some (.live cs ty) => M01 cs vs fun cs rest => I03 r rest (Z8 bx i (.live cs ty)) K
  | _ => False
def J03 : List Nat → List (List (List Value)) → List Own → (List Own → Prop) → Prop
 | [], _, ow, K => K ow
 | i :: r, xs :: os, ow, K => match nth ow i with
  | some ⟨s, .live e sz by_ nn _⟩ => J03 r os (Z8 ow i ⟨s, .live e sz by_ nn xs⟩) K
  | _ => False
 | _ :: _, [], _, _ => False
def d05 {α : Type} : Nat → List α → (List α → List α → Prop) → Prop
 | 0, l, K => K [] l
 | n + 1, x :: l, K => d05 n l fun a b => K (x :: a) b
 | _ + 1, [], _ => False
def q06 (A : Ann) (st : St) : List Nat → List (Nat × AV) → (List (Nat × AV) → Prop) → Prop
 | [], acc, K => K acc
 | s :: r, acc, K => match e06 s A.vars with
  | true => q06 A st r acc K
  | false => match rdA st (D2 st.fr s) with
   | .own i k => q06 A st r ((s, .own i k) :: acc) K
   | .box i o => q06 A st r ((s, .box i o) :: acc) K
   | _ => q06 A st r ((s, .dead) :: acc) K
def s0h : List Y4 → Bool
 | [] => true
 | .val _ :: r => s0h r
 | .own _ _ :: _ => false
def K03 (A : Ann) (ds : List Nat) (st : St) : List (Nat × AV) → (List (Nat × AV) → Prop) → Prop
 | [], K => K []
 | (s, av) :: r, K => match e06 s ds with
  | true => K03 A ds st r K
  | false => match rdA st av with
   | .own i k => match e06 i A.owns, e06 i A.kept with
    | true, false => K03 A ds st r fun l => K ((s, .dead) :: l)
    | _, _ => K03 A ds st r fun l => K ((s, .own i k) :: l)
   | .oel _ _ _ _ _ => K03 A ds st r fun l => K ((s, .dead) :: l)
   | .agg cs => match s0h cs with
    | true => K03 A ds st r fun l => K ((s, .agg cs) :: l)
    | false => K03 A ds st r fun l => K ((s, .dead) :: l)
   | a => K03 A ds st r fun l => K ((s, a) :: l)
def z08 : List Nat → List Value → List (Nat × AV) → List (Nat × AV)
 | s :: r, v :: vs, acc => z08 r vs ((s, .val v) :: acc)
 | _, _, acc => acc
def B09 (head end_ : St) : List (Nat × AV) → Bool
 | [] => true
 | (s, av) :: r => match av with
  | .own i _ => match rdA end_ (D2 end_.fr s) with
   | .own j _ => match Nat.beq i j with
    | true => B09 head end_ r
    | false => false
   | _ => false
  | .box i o => match rdA end_ (D2 end_.fr s) with
   | .box j p => match Nat.beq i j, Nat.beq o p with
    | true, true => B09 head end_ r
    | _, _ => false
   | _ => false
  | _ => B09 head end_ r
def w0g : AV → Bool
 | .dead => true
 | _ => false
def s0i : List (Nat × AV) → List AV
 | [] => []
 | (_, av) :: r => match w0g av with
  | true => s0i r
  | false => av :: s0i r
def v0c (fr : List (Nat × AV)) : List (Nat × AV) → List AV
 | [] => []
 | (s, av) :: r => match w0g av with
  | true => v0c fr r
  | false => D2 fr s :: v0c fr r
def L03 (head end_ : St) : List Y4 → List Y4 → Bool
 | [], [] => true
 | .val _ :: r, .val _ :: r' => L03 head end_ r r'
 | .own i _ :: r, .own j k' :: r' => match Nat.beq i j, rdA end_ (.own j k') with
  | true, .own _ _ => L03 head end_ r r'
  | _, _ => false
 | _, _ => false
def p07 (os : List Nat) : List Y4 → Bool
 | [] => true
 | .val _ :: r => p07 os r
 | .own i _ :: r => match e06 i os with
  | true => false
  | false => p07 os r
def x0g (os : List Nat) : BSt → Bool
 | .live cs _ => p07 os cs
 | .publ _ => true
def A08 (A : Ann) (head end_ : St) : Nat → List BSt → List BSt → Prop
 | _, [], _ => True
 | i, b :: r, b' :: r' => match e06 i A.boxes with
  | true => match b, b' with
   | .live cs ty, .live cs' ty' => match Nat.beq ty ty', L03 head end_ cs cs' with
    | true, true => A08 A head end_ (i + 1) r r'
    | _, _ => False
   | _, _ => False
  | false => match x0g A.owns b with
   | true => b' = b ∧ A08 A head end_ (i + 1) r r'
   | false => False
 | _, _ :: _, [] => False
def leB (a b : Bool) : Bool := match a with
 | true => b
 | false => true
def B08 (A : Ann) : Nat → List Own → List Own → Prop
 | _, [], _ => True
 | i, b :: r, b' :: r' => match e06 i A.owns with
  | true => match b, b' with
   | ⟨s, .live e sz by_ nn _⟩, ⟨s', .live e' sz' by' nn' _⟩ => match Nat.beq e e', Nat.beq sz sz', Nat.beq by_ by', leB nn nn', leB (e06 i A.kept) (Nat.beq s s') with
    | true, true, true, true, true => B08 A (i + 1) r r'
    | _, _, _, _, _ => False
   | _, _ => False
  | false => b' = b ∧ B08 A (i + 1) r r'
 | _, _ :: _, [] => False
def q07 : Nat → (List Value → Prop) → Prop
 | 0, K => K []
 | n + 1, K => ∀ v, q07 n fun vs => K (v :: vs)
def r07 : Nat → (List (List (List Value)) → Prop) → Prop
 | 0, K => K []
 | n + 1, K => ∀ xs, r07 n fun os => K (xs :: os)
abbrev C08 := List Value → List (List (List Value)) → Hp → Prop
abbrev I04 := List Value → List (List (List Value)) → Nat
def Q0k : List Value → List Value → Bool
 | [], [] => true
 | _ :: r, _ :: r' => Q0k r r'
 | _, _ => false
def B0e (A : Ann) (I : C08) (vs : List Value) (os : List (List (List Value))) (h : Hp) : Prop := match A.fuel with
 | false => I vs os h
 | true => ∃ m : Nat, I (.int .i64 m :: vs) os h
def C0e (A : Ann) (I : C08) (μ : I04) (vs : List Value) (os : List (List (List Value))) (X : Nat → Hp → Prop) : Prop := match A.fuel with
 | false => ∀ h', I vs os h' → X (μ vs os) h'
 | true => ∀ (m : Nat) (h' : Hp), I (.int .i64 m :: vs) os h' → X m h'
def R0k (A : Ann) (I : C08) (μ : I04) (m : Nat) (vs : List Value) (os : List (List (List Value))) (h : Hp) : Prop := match A.fuel with
 | false => I vs os h ∧ μ vs os < m
 | true => ∃ m' : Nat, I (.int .i64 m' :: vs) os h ∧ m' < m
def atI (A : Ann) (I : C08) (μ : I04) (m : Nat) (vs : List Value) (os : List (List (List Value))) (h : Hp) : Prop := match A.fuel with
 | false => I vs os h ∧ m = μ vs os
 | true => I (.int .i64 m :: vs) os h
theorem A0j {A : Ann} {I : C08} {μ : I04} {vs : List Value} {os : List (List (List Value))} {h : Hp} (hh : B0e A I vs os h) : ∃ m, atI A I μ m vs os h := by
 unfold B0e at hh
 unfold atI
 cases hf : A.fuel with
 | false => rw [hf] at hh; exact ⟨_, hh, rfl⟩
 | true => rw [hf] at hh; exact hh
theorem B0j {A : Ann} {I : C08} {μ : I04} {vs : List Value} {os : List (List (List Value))} {X : Nat → Hp → Prop} (hh : C0e A I μ vs os X) {m : Nat} {h : Hp} (ha : atI A I μ m vs os h) : X m h := by
 unfold C0e at hh
 unfold atI at ha
 cases hf : A.fuel with
 | false => rw [hf] at hh ha; rw [ha.2]; exact hh _ ha.1
 | true => rw [hf] at hh ha; exact hh _ _ ha
theorem S0k {A : Ann} {I : C08} {μ : I04} {m : Nat} {vs : List Value} {os : List (List (List Value))} {h : Hp} (hh : R0k A I μ m vs os h) : ∃ m', atI A I μ m' vs os h ∧ m' < m := by
 unfold R0k at hh
 unfold atI
 cases hf : A.fuel with
 | false => rw [hf] at hh; exact ⟨_, ⟨hh.1, rfl⟩, hh.2⟩
 | true => rw [hf] at hh; exact hh
def C0j (A : Ann) (dyn sta : List (Nat × AV)) (st0 : St) (I : C08) (μ : I04) (vs0 : List Value) (m : Nat) (st : St) (h : Hp) : Prop :=
 match Nat.beq st.n st0.n, B09 st0 st dyn with
 | true, true => v0c st.fr sta = s0i sta ∧ A08 A st0 st 0 st0.bx st.bx ∧ B08 A 0 st0.ow st.ow ∧
   v0g A st fun vs os => match Q0k vs vs0 with
    | true => d05 A.vars.length vs fun _ v2 => I03 A.boxes v2 st0.bx fun _ => J03 A.owns os st0.ow fun _ => R0k A I μ m vs os h
    | false => False
 | _, _ => False
def t0h (body : (Ex → St → Hp → Prop) → St → Hp → Prop) (ds0 : List Nat) (Q : Ex → St → Hp → Prop) (st : St) (h : Hp) : Prop :=
 ∃ (A : Ann) (I : C08) (μ : I04), y0e A.nils st fun st => I0a A.nilsB st fun st => z0e A.pubs st h fun st h => v0g A st fun vs0 os0 => B0e A I vs0 os0 h ∧
  y08 ds0 fun ds => q06 A st ds [] fun dyn => K03 A ds st st.fr fun sta =>
   q07 vs0.length fun vs => r07 os0.length fun os => C0e A I μ vs os fun m h' =>
    d05 A.vars.length vs fun v1 v2 => I03 A.boxes v2 st.bx fun bx => J03 A.owns os st.ow fun ow =>
     body (fun e st' h'' => match e with
      | .normal => z0e A.pubs st' h'' fun st' h'' => C0j A dyn sta st I μ vs m st' h''
      | e => Q e st' h'') ⟨st.n, z08 A.vars v1 (dyn ++ sta), bx, ow⟩ h'
def D0j (b : Bool) (X Y : Prop) : Prop := (b = true → X) ∧ (b = false → Y)
def ev (P : Program) : Code → (Ex → St → Hp → Prop) → St → Hp → Prop
 | .skip, Q, st, h => Q .normal st h
 | .region _ ops false, Q, st, h => match N0k P ops.toList with
  | true => L01 st.n ops.toList = true ∧ evU P ops.toList 0 [] [] st h fun st h => Q .normal st h
  | false => y09 P ops.toList 0 ⟨st, h, [], []⟩ fun rs => Q .normal rs.st rs.h
 | .region _ ops true, Q, st, h => ((P.follows .mixedOrders = true ∧ Region.lexB .any ops = true) ∧
   evQ P ops.toList 0 ⟨st, h, [], []⟩ fun rs => Q .normal rs.st rs.h) ∨
   ((P.follows .mixedOrders = true ∧ U8 st.n ops.toList = true) ∧ evS P ops.toList [] st h fun st h => Q .normal st h) ∨
   (match x0j ops.toList with
    | none => (P.follows .mixedOrders = true ∧ U8 st.n ops.toList = true) ∧ B01 P st h ops.toList 0 [] [] [] fun L X E => ∃ c, (M00 E = true ∧ r03 X (X ++ E) (E.drop c) = true) ∧ evC (E9 L st ops.toList) ops.size P c E L st h fun st h => Q .normal st h
    | some o => (P.follows .mixedOrders = true ∧ (U8 st.n (C9 ops.toList) && z09 ops.toList 0) = true) ∧ B01 P st h (C9 ops.toList) 0 [] [] [] fun L X E => ∃ c, (M00 E = true ∧ r03 X (X ++ E) (E.drop c) = true) ∧ evC (E9 L st (C9 ops.toList)) (C9 ops.toList).length P c E L st h fun st h => Q01 P o st h fun st h => Q .normal st h) ∨
   ((P.follows .mixedOrders = true ∧ L01 st.n ops.toList = true) ∧ evU P ops.toList 0 [] [] st h fun st h => Q .normal st h) ∨
   (∃ m, (P.follows .mixedOrders = true ∧ okZ P st.n m ops.toList = true) ∧ evT P (Q01 P) m ops.toList st h fun st h => Q .normal st h)
 | .seq a b, Q, st, h => ev P a (fun e st h => match e with
  | .normal => ev P b Q st h
  | e => Q e st h) st h
 | .cond c t e, Q, st, h => match rdO st c with
  | .val (.bool b) => D0j b (ev P t Q st h) (ev P e Q st h)
  | _ => False
 | .block id c, Q, st, h => ev P c (fun e st h => match e with
  | .exit i => match Nat.beq i id with
   | true => Q .normal st h
   | false => Q (.exit i) st h
  | e => Q e st h) st h
 | .loop body, Q, st, h => t0h (fun Q => ev P body Q) (g0c body []) Q st h
 | .exit id, Q, st, h => Q (.exit id) st h
 | .ret, Q, st, h => Q .ret st h
 | _, _, _, _ => False
def y0g (P : Program) : List ResultVar → St → Hp → (List Value → St → Hp → Prop) → Prop
 | [], st, h, K => K [] st h
 | .tmp t :: r, st, h, K => rfy (rdA st (D2 st.fr t)) st h fun v st h => y0g P r st h fun vs st h => K (v :: vs) st h
 | .cell t ty :: r, st, h, K => match rdA st (D2 st.fr t) with
  | .box i off => match nth st.bx i with
   | some (.live cs _) => t02 P ty cs off fun av => rfy av st h fun v st h => y0g P r st h fun vs st h => K (v :: vs) st h
   | _ => False
  | _ => False
def D0e : List Value → Value
 | [v] => v
 | vs => .tuple vs.toArray
def s07 : Nat → List Value → List (Nat × AV)
 | _, [] => []
 | i, v :: r => (i, .val v) :: s07 (i + 1) r
def P0l (P : Program) (fn : Func) (args : List Value) (h : Hp) (T : Value → Hp → Prop) : Prop :=
 match fn.body with
 | some c => match Nat.ble args.length fn.ntmps with
  | true => ev P c (fun e st h => match e with
   | .exit _ => False
   | _ => y0g P fn.results.toList st h fun vs _ h => T (D0e vs) h) ⟨fn.ntmps, s07 0 args, [], []⟩ h
  | false => False
 | none => False
end Go.H
