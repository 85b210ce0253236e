/- Plain laws over the model: what a function's code asks: regions with guards, regions that draw their order, branches and loops. -/
import Derived.Test.YthccjgkmmclplaaGreatH2
namespace Go.H
set_option linter.unusedVariables false

/-- a test that has come out: its operation, its slot, its value, the guards under which it ran -/
structure BE where
  j : Nat
  d : Nat
  e : Bool
  ch : List (Nat × Bool)

structure RS where
  st : St
  h : Hp
  gf : List (Nat × List (Nat × Bool) × AV)
  bs : List BE

def lookG : List (Nat × List (Nat × Bool) × AV) → Nat → Option (List (Nat × Bool) × AV)
  | [], _ => none
  | (k, x) :: r, s => match Nat.beq k s with
    | true => some x
    | false => lookG r s

def eqB (a b : Bool) : Bool := match a, b with
  | true, true => true
  | false, false => true
  | _, _ => false
def eqCh : List (Nat × Bool) → List (Nat × Bool) → Bool
  | [], [] => true
  | (j, w) :: r, (j', w') :: r' => match Nat.beq j j', eqB w w' with
    | true, true => eqCh r r'
    | _, _ => false
  | _, _ => false
def sufx (a : List (Nat × Bool)) : List (Nat × Bool) → Bool
  | [] => eqCh a []
  | x :: r => match eqCh a (x :: r) with
    | true => true
    | false => sufx a r

def rdG (rs : RS) (ch : List (Nat × Bool)) : Operand → AV
  | .tmp t => match lookG rs.gf t with
    | some (ch2, av) => match sufx ch2 ch with
      | true => rdA rs.st av
      | false => .dead
    | none => rdA rs.st (look rs.st.fr t)
  | x => rdO rs.st x

def lookE : List BE → Nat → Option BE
  | [], _ => none
  | b :: r, j => match Nat.beq b.j j with
    | true => some b
    | false => lookE r j
def slotB : List BE → Nat → Option BE
  | [], _ => none
  | b :: r, s => match Nat.beq b.d s with
    | true => some b
    | false => slotB r s
def lit (w e : Bool) : Bool := match w with
  | true => e
  | false => !e
def cB (bs : List BE) : List (Nat × Bool) → Option Bool
  | [] => some true
  | (j, w) :: r => match lookE bs j with
    | some b => match r with
      | [] => some (lit w b.e)
      | _ => match cB bs r with
        | some c => some (lit w b.e && c)
        | none => none
    | none => none

def chainOf (bs : List BE) : Option (Nat × Bool) → Option (List (Nat × Bool))
  | none => some []
  | some (j, w) => match lookE bs j with
    | some b => some ((j, w) :: b.ch)
    | none => none

/-- asked where the guards let it run -/
def imp (ch : List (Nat × Bool)) (c : Bool) (X : Prop) : Prop := match ch with
  | [] => X
  | _ => c = true → X

def valsG (rs : RS) (ch : List (Nat × Bool)) : List Operand → Option (List (Nat × Value))
  | [] => some []
  | .tmp t :: r => match plainG (rdG rs ch (.tmp t)) with
    | some v => match valsG rs ch r with
      | some vs => some ((t, v) :: vs)
      | none => none
    | none => none
  | .global _ :: _ => none
  | _ :: r => valsG rs ch r

/-- the operands that are temporaries, each made a plain value; what is the call's own is lent -/
def rfyG (rs : RS) (ch : List (Nat × Bool)) : List Operand → St → Hp → (List (Nat × Value) → St → Hp → Prop) → Prop
  | [], st, h, K => K [] st h
  | .tmp t :: r, st, h, K => rfy (rdA st (rdG rs ch (.tmp t))) st h fun v st h => rfyG rs ch r st h fun vs st h => K ((t, v) :: vs) st h
  | .global _ :: _, _, _, _ => False
  | _ :: r, st, h, K => rfyG rs ch r st h K

def semG (P : Program) (o : Oper) (ch : List (Nat × Bool)) (c : Bool) (rs : RS) (K : AV → Prop) : Prop :=
  match isSel o.op, valsG rs ch o.op.operands.toList with
  | false, some vs => match callF (rho vs) o with
    | some (f, l) => match okF P f with
      | true => ∃ v, imp ch c (Tr P f l.toArray rs.h fun v' h' => v' = v ∧ h' = rs.h) ∧ K (.val v)
      | false => False
    | none => match evP P (execL (rho vs) o) with
      | some (.value v) => K (.val v)
      | _ => False
  | false, none => ∃ r, imp ch c (rfyG rs ch o.op.operands.toList rs.st rs.h fun vs _ hf => match callF (rho vs) o with
    | some (f, l) => match okF P f with
      | true => Tr P f l.toArray hf fun v h' => v = r ∧ h' = hf
      | false => False
    | none => False) ∧ K (.val r)
  | _, _ => False

def evG (P : Program) (o : Oper) (ch : List (Nat × Bool)) (c : Bool) (rs : RS) (K : AV → Prop) : Prop :=
  match o.op with
  | .move x | .assign x => match rdG rs ch x with
    | .dead => False
    | a => K a
  | .pick (.tmp s) a b => match rdG rs ch (.tmp s), slotB rs.bs s with
    | .val (.bool e), some q => match sufx q.ch ch with
      | true => match rdG rs ((q.j, true) :: q.ch) a, rdG rs ((q.j, false) :: q.ch) b with
        | .val (.bool x), .val (.bool y) => K (.val (.bool (cond e x y)))
        | _, _ => False
      | false => False
    | _, _ => False
  | .fieldAddr t x k => match rdG rs ch x, tOff P t k with
    | .box i off, some fo => K (.box i (off + fo))
    | .hel s i sz k, some fo => K (.hel s i sz (k + fo))
    | .oel i s j sz k, some fo => K (.oel i s j sz (k + fo))
    | _, _ => False
  | .indexAddr t x i => match rdG rs ch i with
    | .val (.int _ j) => match tElem P t with
      | some e => match tSize P e with
        | some sz => match rdG rs ch x with
          | .val (.slice a n cp) => imp ch c (InB (.slice a n cp) j) ∧ K (.hel (.slice a n cp) j sz 0)
          | .own i k => match nth rs.st.ow i with
            | some ⟨_, .live _ sz' _ _ xs⟩ => match Nat.beq sz' sz with
              | true => imp ch c (0 ≤ j ∧ j < (xs.length : Int)) ∧ K (.oel i k j sz 0)
              | false => False
            | _ => False
          | _ => False
        | none => False
      | none => False
    | _ => False
  | .load t x => match rdG rs ch x with
    | .box i off => match nth rs.st.bx i with
      | some (.live cs _) => getC P t cs off K
      | _ => False
    | .hel s idx sz k => ∃ e, imp ch c (ElemAt rs.h s sz idx e) ∧ getC P t (vals e) k K
    | .oel i _ idx sz k => match nth rs.st.ow i with
      | some ⟨_, .live _ sz' _ _ xs⟩ => match Nat.beq sz' sz with
        | true => ∃ e, imp ch c (xs[idx.toNat]? = some e) ∧ getC P t (vals e) k K
        | false => False
      | _ => False
    | _ => False
  | .build t ps => match P.underlying t, tZero P t with
    | some (.struct fs), some z => match allSized P fs.toList with
      | true => fillAV P fs (rdG rs ch) ps.toList (vals z.cells.toList) fun cs => K (.agg cs)
      | false => False
    | _, _ => False
  | .index t x i => match rdG rs ch x, rdG rs ch i, P.underlying t with
    | .val (.string s), .val (.int _ j), some .string => ∃ e, imp ch c (0 ≤ j ∧ s[j.toNat]? = some e) ∧ K (.val (.int .u8 e.toNat))
    | _, _, _ => False
  | .slice t x lo hi none => match rdG rs ch x, P.underlying t with
    | .val (.string s), some .string => match bound 0 (lo.map (rdG rs ch)), bound s.size (hi.map (rdG rs ch)) with
      | some l, some m => imp ch c (0 ≤ l ∧ l ≤ m ∧ m ≤ (s.size : Int)) ∧ K (.val (.string (s.extract l.toNat m.toNat)))
      | _, _ => False
    | .val (.slice ad n cp), _ => match tElem P t with
      | some e => match tSize P e with
        | some sz => match bound 0 (lo.map (rdG rs ch)), bound n (hi.map (rdG rs ch)) with
          | some l, some m => ∃ v, imp ch c ((0 ≤ l ∧ l ≤ m ∧ m ≤ (n : Int) ∧ n ≤ cp) ∧ CutV sz (.slice ad n cp) l.toNat m.toNat v) ∧ K (.val v)
          | _, _ => False
        | none => False
      | none => False
    | _, _ => False
  | .binOp .eql t x y yt => match plainG (rdG rs ch x), plainG (rdG rs ch y) with
    | some (.agg xs), some (.agg ys) => ∃ b, imp ch c (AggOp P o x y (.agg xs) (.agg ys) b) ∧ K (.val (.bool b))
    | some (.slice a n m), some (.slice none 0 0) => ∃ b, imp ch c (AggOp P o x y (.slice a n m) (.slice none 0 0) b) ∧ K (.val (.bool b))
    | _, _ => semG P o ch c rs K
  | .binOp .neq t x y yt => match plainG (rdG rs ch x), plainG (rdG rs ch y) with
    | some (.agg xs), some (.agg ys) => ∃ b, imp ch c (AggOp P o x y (.agg xs) (.agg ys) b) ∧ K (.val (.bool b))
    | _, _ => semG P o ch c rs K
  | .binOp .add t x y yt => match rdG rs ch x, rdG rs ch y with
    | .val (.string a), .val (.string b) => imp ch c (a.size + b.size ≤ 9223372036854775807) ∧ K (.val (.string (a ++ b)))
    | _, _ => semG P o ch c rs K
  | .binOp .quo t x y yt => match rdG rs ch x, rdG rs ch y with
    | .val (.int .i64 a), .val (.int .i64 b) => imp ch c (b ≠ 0) ∧ K (.val (.int .i64 (IntKind.i64.wrap (a.tdiv b))))
    | _, _ => semG P o ch c rs K
  | .binOp .rem t x y yt => match rdG rs ch x, rdG rs ch y with
    | .val (.int .i64 a), .val (.int .i64 b) => imp ch c (b ≠ 0) ∧ K (.val (.int .i64 (a.tmod b)))
    | _, _ => semG P o ch c rs K
  | .call { callee := .builtin .len, args := as, argTypes := ts } => match as.toList, ts.toList with
    | [x], [t] => match rdG rs ch x with
      | .own i _ => match nth rs.st.ow i, tElem P t with
        | some ⟨_, .live _ _ _ _ xs⟩, some _ => K (.val (.int .i64 xs.length))
        | _, _ => False
      | _ => semG P o ch c rs K
    | _, _ => False
  | _ => semG P o ch c rs K

def usedSlot (rs : RS) (d : Nat) : Bool := match lookG rs.gf d, slotB rs.bs d with
  | none, none => false
  | _, _ => true

def addB (i d : Nat) (ch : List (Nat × Bool)) (av : AV) (bs : List BE) : List BE := match av with
  | .val (.bool e) => ⟨i, d, e, ch⟩ :: bs
  | _ => bs

def putR (d : Option Tmp) (i : Nat) (ch : List (Nat × Bool)) (av : AV) (rs : RS) (K : RS → Prop) : Prop :=
  match d with
  | none => K rs
  | some d => match Nat.blt d rs.st.n, usedSlot rs d with
    | true, false => match ch with
      | [] => K { rs with st := { rs.st with fr := (d, av) :: rs.st.fr }, bs := addB i d ch av rs.bs }
      | _ => K { rs with st := { rs.st with fr := (d, .dead) :: rs.st.fr }, gf := (d, ch, av) :: rs.gf, bs := addB i d ch av rs.bs }
    | _, _ => False

def isPick : Op → Bool
  | .pick .. => true
  | _ => false

def evReg (P : Program) : List Oper → Nat → RS → (RS → Prop) → Prop
  | [], _, rs, K => K rs
  | o :: r, i, rs, K => match o.guard, isPick o.op with
    | none, false => evOp P o rs.st rs.h fun av st h => putR o.dst i [] av { rs with st := st, h := h } fun rs => evReg P r (i + 1) rs K
    | _, _ => match chainOf rs.bs o.guard with
      | some ch => match cB rs.bs ch with
        | some c => evG P o ch c rs fun av => putR o.dst i ch av rs fun rs => evReg P r (i + 1) rs K
        | none => False
      | none => False

def evQ (P : Program) : List Oper → Nat → RS → (RS → Prop) → Prop
  | [], _, rs, K => K rs
  | o :: r, i, rs, K => match chainOf rs.bs o.guard with
    | some ch => match cB rs.bs ch with
      | some c => evG P o ch c rs fun av => putR o.dst i ch av rs fun rs => evQ P r (i + 1) rs K
      | none => False
    | none => False

/-! ## regions that draw their order: facts that last -/
/-- what is looked at there is looked at here -/
def Sub (h h' : Hp) : Prop := ∀ b o, h b = some o → h' b = some o

def forceV (v : Value) (K : Value → Prop) : Prop := match v with
  | .bool b => K (.bool b)
  | .int k n => K (.int k n)
  | .string s => K (.string s)
  | .pointer a => K (.pointer a)
  | .slice a n c => K (.slice a n c)
  | .func f x y => K (.func f x y)
  | .agg cs => K (.agg cs)
  | .tuple vs => K (.tuple vs)
  | v => K v
theorem forceV_eq (v : Value) (K : Value → Prop) : forceV v K = K v := by cases v <;> rfl

def forceL {α : Type} : List α → (List α → Prop) → Prop
  | [], K => K []
  | x :: r, K => forceL r fun r => K (x :: r)
theorem forceL_eq {α : Type} : ∀ (l : List α) (K : List α → Prop), forceL l K = K l
  | [], K => rfl
  | x :: r, K => by simp only [forceL, forceL_eq r]

def forceNat : Nat → (Nat → Prop) → Prop
  | 0, K => K 0
  | n + 1, K => forceNat n fun m => K (m + 1)
theorem forceNat_eq : ∀ (n : Nat) (K : Nat → Prop), forceNat n K = K n
  | 0, K => rfl
  | n + 1, K => by simp only [forceNat, forceNat_eq n]

def forceA (av : AV) (K : AV → Prop) : Prop := match av with
  | .val v => forceV v fun v => K (.val v)
  | .own i k => K (.own i k)
  | .box i k => K (.box i k)
  | .hel s i z k => forceNat z fun z => forceNat k fun k => K (.hel s i z k)
  | .oel j s i z k => forceNat z fun z => forceNat k fun k => K (.oel j s i z k)
  | .agg cs => forceL cs fun cs => K (.agg cs)
  | .dead => K .dead
theorem forceA_eq (av : AV) (K : AV → Prop) : forceA av K = K av := by
  cases av with
  | val v => exact forceV_eq v (fun v => K (.val v))
  | hel s i z k => simp only [forceA, forceNat_eq]
  | oel j s i z k => simp only [forceA, forceNat_eq]
  | agg cs => simp only [forceA, forceL_eq]
  | _ => rfl

/-- what is known of a slot: what it holds; or a fact that lasts while what is looked at grows -/
inductive Fact where
  | pu (av : AV)
  | ef (F : Value → Hp → Prop)

def lookS : List (Nat × Fact) → Nat → Option Fact
  | [], _ => none
  | (k, x) :: r, s => match Nat.beq k s with
    | true => some x
    | false => lookS r s

def rdS (L : List (Nat × Fact)) (st : St) : Operand → AV
  | .tmp t => match lookS L t with
    | some (.pu av) => rdA st av
    | some (.ef _) => .dead
    | none => rdA st (look st.fr t)
  | x => rdO st x

def getCo (P : Program) (t : TypeId) (cs : List Cell) (off : Nat) : Option AV :=
  match tAgg P t with
  | some true => match tSize P t with
    | some n => match lenB ((cs.drop off).take n) n with
      | true => some (.agg ((cs.drop off).take n))
      | false => none
    | none => none
  | some false => match nth cs off with
    | some c => some (ofCell c)
    | none => none
  | none => none

def pureAV (P : Program) (L : List (Nat × Fact)) (o : Oper) (st : St) : Option AV := match o.op with
  | .move x | .assign x => match rdS L st x with
    | .dead => none
    | a => some a
  | .load t x => match rdS L st x with
    | .box i off => match nth st.bx i with
      | some (.live cs _) => getCo P t cs off
      | _ => none
    | _ => none
  | _ => none

def openS (L : List (Nat × Fact)) (st : St) (h : Hp) : List Operand → List (Nat × AV) → (List (Nat × AV) → Prop) → Prop
  | [], acc, K => K acc
  | .tmp t :: r, acc, K => match lookS L t with
    | some (.pu av) => openS L st h r ((t, av) :: acc) K
    | some (.ef F) => ∀ v, F v h → openS L st h r ((t, .val v) :: acc) K
    | none => openS L st h r ((t, look st.fr t) :: acc) K
  | _ :: r, acc, K => openS L st h r acc K

def finS (h : Hp) : List (Nat × Fact) → List (Nat × AV) → (List (Nat × AV) → Prop) → Prop
  | [], fr, K => K fr
  | (d, .pu av) :: r, fr, K => finS h r ((d, av) :: fr) K
  | (d, .ef F) :: r, fr, K => ∀ v, F v h → finS h r ((d, .val v) :: fr) K

def addS (d : Option Tmp) (f : Fact) (L : List (Nat × Fact)) : List (Nat × Fact) := match d with
  | some d => (d, f) :: L
  | none => L

def stayS (st : St) (h : Hp) (F : Value → Hp → Prop) : AV → St → Hp → Prop
  | .val v, st', h' => st' = st ∧ Sub h h' ∧ F v h'
  | _, _, _ => False

def evS (P : Program) : List Oper → List (Nat × Fact) → St → Hp → (St → Hp → Prop) → Prop
  | [], L, ⟨n, fr, bx, ow⟩, h, K => ∀ h', Sub h h' → finS h' L fr fun fr => K ⟨n, fr, bx, ow⟩ h'
  | o :: r, L, ⟨n, fr, bx, ow⟩, h, K => match o.guard with
    | some _ => False
    | none => match pureAV P L o ⟨n, fr, bx, ow⟩ with
      | some av => forceA av fun av => evS P r (addS o.dst (.pu av) L) ⟨n, fr, bx, ow⟩ h K
      | none => ∃ F : Value → Hp → Prop, (∀ v h1 h2, Sub h1 h2 → F v h1 → F v h2) ∧
          (∀ h', Sub h h' → openS L ⟨n, fr, bx, ow⟩ h' o.op.operands.toList [] fun fr => evOp P o ⟨n, fr, bx, ow⟩ h' (stayS ⟨n, fr, bx, ow⟩ h' F)) ∧
          evS P r (addS o.dst (.ef F) L) ⟨n, fr, bx, ow⟩ h K

def edgeTo (i : Nat) (o : Oper) : Bool := o.after.toList.any fun e => Region.binds .any e && Nat.beq e.on i
def writersOk (o : Oper) (t : Nat) : List Oper → Nat → Bool
  | [], _ => true
  | x :: r, i => match x.dst with
    | some d => match Nat.beq d t with
      | true => edgeTo i o && writersOk o t r (i + 1)
      | false => writersOk o t r (i + 1)
    | none => writersOk o t r (i + 1)
def opndsOk (o : Oper) (ops : List Oper) : List Operand → Bool
  | [] => true
  | .tmp t :: r => writersOk o t ops 0 && opndsOk o ops r
  | _ :: r => opndsOk o ops r
def otherDst (d : Nat) : List Oper → Bool
  | [] => true
  | o :: r => match o.dst with
    | some d' => !Nat.beq d d' && otherDst d r
    | none => otherDst d r
def distB (n : Nat) : List Oper → Bool
  | [] => true
  | o :: r => match o.dst with
    | some d => Nat.blt d n && otherDst d r && distB n r
    | none => distB n r
def backB : List Oper → Nat → Bool
  | [], _ => true
  | o :: r, j => (o.after.toList.all fun e => !Region.binds .any e || Nat.blt e.on j) && backB r (j + 1)
def depsB (ops : List Oper) : List Oper → Bool
  | [] => true
  | o :: r => opndsOk o ops o.op.operands.toList && depsB ops r
def stableB (n : Nat) (ops : List Oper) : Bool := distB n ops && backB ops 0 && depsB ops ops

/-! ## regions that draw their order: what does something follows one another -/
def plainCs : List Cell → Bool
  | [] => true
  | .val _ :: r => plainCs r
  | .own _ _ :: _ => false
def stillAV : AV → Bool
  | .val _ => true
  | .box _ _ => true
  | .own _ _ => true
  | .agg cs => plainCs cs
  | _ => false
def rawS (L : List (Nat × Fact)) (st : St) : Operand → AV
  | .tmp t => match lookS L t with
    | some (.pu av) => av
    | some (.ef _) => .dead
    | none => look st.fr t
  | .const v => .val v
  | _ => .dead
/-- an operation that only looks at slots and at the call's own variables: what it yields, whenever it comes -/
def pureC (P : Program) (L : List (Nat × Fact)) (o : Oper) (st : St) : Option AV := match o.op with
  | .move x => match stillAV (rawS L st x) with
    | true => some (rawS L st x)
    | false => none
  | .assign x => match stillAV (rawS L st x) with
    | true => some (rawS L st x)
    | false => none
  | .load t x => match rawS L st x with
    | .box i off => match nth st.bx i with
      | some (.live cs _) => match getCo P t cs off with
        | some av => match stillAV av with
          | true => some av
          | false => none
        | none => none
      | _ => none
    | _ => none
  | .fieldAddr t x k => match rawS L st x, tOff P t k with
    | .box i off, some fo => some (.box i (off + fo))
    | _, _ => none
  | _ => none
def openC (L : List (Nat × Fact)) (fr0 : List (Nat × AV)) : List Operand → List (Nat × AV) → (List (Nat × AV) → Prop) → Prop
  | [], acc, K => K acc
  | .tmp t :: r, acc, K => match lookS L t with
    | some (.pu av) => openC L fr0 r ((t, av) :: acc) K
    | some (.ef _) => openC L fr0 r ((t, .dead) :: acc) K
    | none => openC L fr0 r ((t, look fr0 t) :: acc) K
  | _ :: r, acc, K => openC L fr0 r acc K
def finC : List (Nat × Fact) → List (Nat × AV) → List (Nat × AV)
  | [], fr => fr
  | (d, .pu av) :: r, fr => (d, av) :: finC r fr
  | (d, .ef _) :: r, fr => (d, .dead) :: finC r fr
def sameU (av : AV) (st : St) (h : Hp) : AV → St → Hp → Prop := fun av' st' h' => av' = av ∧ st' = st ∧ h' = h
/-- what it yields, so long as nothing has been changed -/
def lookX (P : Program) (st : St) (h : Hp) (L : List (Nat × Fact)) (o : Oper) (av : AV) : Prop :=
  match st with
  | ⟨n, fr, bx, ow⟩ => ∀ h', Sub h h' → openC L fr o.op.operands.toList [] fun fr => evOp P o ⟨n, fr, bx, ow⟩ h' (sameU av ⟨n, fr, bx, ow⟩ h')
/-- those that only look are known; the others are kept, in order -/
def splitC (P : Program) (st : St) (h : Hp) : List Oper → Nat → List (Nat × Fact) → List (Nat × Oper) → List (Nat × Oper) → (List (Nat × Fact) → List (Nat × Oper) → List (Nat × Oper) → Prop) → Prop
  | [], _, L, X, E, K => K L X E
  | o :: r, i, L, X, E, K => match o.guard with
    | some _ => False
    | none => match pureC P L o st with
      | some av => forceA av fun av => splitC P st h r (i + 1) (addS o.dst (.pu av) L) X E K
      | none => (∃ av, lookX P st h L o av ∧ forceA av fun av => splitC P st h r (i + 1) (addS o.dst (.pu av) L) (X ++ [(i, o)]) E K) ∨
          splitC P st h r (i + 1) (addS o.dst (.ef fun _ _ => True) L) X (E ++ [(i, o)]) K
/-- one comes before another, by the edges, through those that look -/
def reachB (X : List (Nat × Oper)) : Nat → Nat → Oper → Bool
  | 0, i, q => edgeTo i q
  | n + 1, i, q => edgeTo i q || X.any fun y => edgeTo y.1 q && reachB X n i y.2
/-- all that look stand ahead of the first that changes something -/
def earlyB (X : List (Nat × Oper)) : List (Nat × Oper) → Bool
  | [] => true
  | (_, q) :: _ => X.all fun x => reachB X 8 x.1 q
def chainB : List (Nat × Oper) → Bool
  | (i, o) :: (j, o') :: r => edgeTo i o' && chainB ((j, o') :: r)
  | _ => true
def edgesAll : Nat → Nat → Oper → Bool
  | 0, _, _ => true
  | k + 1, i, o => (Nat.beq k i || edgeTo k o) && edgesAll k i o
def readsT (d : Nat) : List Operand → Bool
  | [] => false
  | .tmp t :: r => Nat.beq t d || readsT d r
  | _ :: r => readsT d r
def readsO (d : Nat) : List Oper → Bool
  | [] => false
  | o :: r => readsT d o.op.operands.toList || readsO d r
def initO : List Oper → List Oper
  | [] => []
  | o :: r => match r with
    | [] => []
    | _ :: _ => o :: initO r
def lastO : List Oper → Option Oper
  | [] => none
  | o :: r => match r with
    | [] => some o
    | _ :: _ => lastO r
/-- an operation behind all others that puts a slot which others read: it is taken by itself -/
def peel (ops : List Oper) : Option Oper := match lastO ops with
  | some o => match o.guard, o.dst with
    | none, some d => match readsO d (initO ops) && edgesAll (initO ops).length (initO ops).length o with
      | true => some o
      | false => none
    | _, _ => none
  | none => none
def lastR (P : Program) (o : Oper) (st : St) (h : Hp) (K : St → Hp → Prop) : Prop :=
  evOp P o st h fun av st h => putR o.dst 0 [] av ⟨st, h, [], []⟩ fun rs => K rs.st rs.h
/-- the last of all -/
def lastB (N i : Nat) (o : Oper) : List (Nat × Oper) → Bool
  | [] => edgesAll N i o
  | _ :: _ => false
def sameB (b : Bool) (bx bx' : List BSt) : Prop := match b with
  | true => True
  | false => bx' = bx
/-- the first c of those that do something only let the heap grow -/
def cleanC : Nat → List Own → List Own → Hp → Hp → Prop
  | 0, _, _, _, _ => True
  | _ + 1, ow, ow', h, h' => ow' = ow ∧ Sub h h'
def evC (N : Nat) (P : Program) : Nat → List (Nat × Oper) → List (Nat × Fact) → St → Hp → (St → Hp → Prop) → Prop
  | _, [], L, ⟨n, fr, bx, ow⟩, h, K => forceL (finC L fr) fun fr => K ⟨n, fr, bx, ow⟩ h
  | c, (i, o) :: r, L, ⟨n, fr, bx, ow⟩, h, K => openC L fr o.op.operands.toList [] fun fr1 => evOp P o ⟨n, fr1, bx, ow⟩ h fun av st' h' => match st' with
    | ⟨_, _, bx', ow'⟩ => cleanC c ow ow' h h' ∧ sameB (lastB N i o r) bx bx' ∧ forceA av fun av => forceL bx' fun bx' => forceL ow' fun ow' => evC N P (c - 1) r (addS o.dst (.pu av) L) ⟨n, fr, bx', ow'⟩ h' K

/-! ## regions in whatever order, with guards -/
abbrev FL := List (Nat × List (Nat × Bool) × Fact)
def lookU : FL → Nat → Option (List (Nat × Bool) × Fact)
  | [], _ => none
  | (k, x) :: r, s => match Nat.beq k s with
    | true => some x
    | false => lookU r s
def rdU (L : FL) (st : St) (ch : List (Nat × Bool)) : Operand → AV
  | .tmp t => match lookU L t with
    | some (ch2, .pu av) => match sufx ch2 ch with
      | true => rdA st av
      | false => .dead
    | some (_, .ef _) => .dead
    | none => rdA st (look st.fr t)
  | x => rdO st x
/-- an operation that only looks at slots and at the call's own variables -/
def pureU (P : Program) (L : FL) (bs : List BE) (ch : List (Nat × Bool)) (o : Oper) (st : St) : Option AV := match o.op with
  | .move x | .assign x => match rdU L st ch x with
    | .dead => none
    | a => some a
  | .load t x => match rdU L st ch x with
    | .box i off => match nth st.bx i with
      | some (.live cs _) => getCo P t cs off
      | _ => none
    | _ => none
  | .fieldAddr t x k => match rdU L st ch x, tOff P t k with
    | .box i off, some fo => some (.box i (off + fo))
    | .hel s i sz k, some fo => some (.hel s i sz (k + fo))
    | _, _ => none
  | .pick (.tmp s) a b => match rdU L st ch (.tmp s), slotB bs s with
    | .val (.bool e), some q => match sufx q.ch ch with
      | true => match rdU L st ((q.j, true) :: q.ch) a, rdU L st ((q.j, false) :: q.ch) b with
        | .val (.bool x), .val (.bool y) => some (.val (.bool (cond e x y)))
        | _, _ => none
      | false => none
    | _, _ => none
  | _ => none
def openU (L : FL) (st : St) (h : Hp) (ch : List (Nat × Bool)) : List Operand → List (Nat × AV) → (List (Nat × AV) → Prop) → Prop
  | [], acc, K => K acc
  | .tmp t :: r, acc, K => match lookU L t with
    | some (ch2, f) => match sufx ch2 ch with
      | true => match f with
        | .pu av => openU L st h ch r ((t, av) :: acc) K
        | .ef F => ∀ v, F v h → openU L st h ch r ((t, .val v) :: acc) K
      | false => False
    | none => openU L st h ch r ((t, look st.fr t) :: acc) K
  | _ :: r, acc, K => openU L st h ch r acc K
def finU (h : Hp) : FL → List (Nat × AV) → (List (Nat × AV) → Prop) → Prop
  | [], fr, K => K fr
  | (d, [], .pu av) :: r, fr, K => finU h r ((d, av) :: fr) K
  | (d, [], .ef F) :: r, fr, K => ∀ v, F v h → finU h r ((d, .val v) :: fr) K
  | (d, _ :: _, _) :: r, fr, K => finU h r ((d, .dead) :: fr) K
def addU (d : Option Tmp) (ch : List (Nat × Bool)) (f : Fact) (L : FL) : FL := match d with
  | some d => (d, ch, f) :: L
  | none => L
def addT (i : Nat) (d : Option Tmp) (ch : List (Nat × Bool)) (av : AV) (bs : List BE) : List BE := match d with
  | some d => match av with
    | .val (.bool e) => ⟨i, d, e, ch⟩ :: bs
    | _ => bs
  | none => bs
def tailOw (st st' : St) : Prop := st'.n = st.n ∧ st'.fr = st.fr ∧ st'.bx = st.bx ∧ ∃ t, st'.ow = st.ow ++ t
def stayU (st : St) (h : Hp) (F : Value → Hp → Prop) : AV → St → Hp → Prop := fun av st' h' => rfy av st' h' fun v st'' h'' => tailOw st st'' ∧ Sub h h'' ∧ F v h''
def evU (P : Program) (l : List Oper) : Nat → FL → List BE → St → Hp → (St → Hp → Prop) → Prop :=
  List.rec (motive := fun _ => Nat → FL → List BE → St → Hp → (St → Hp → Prop) → Prop)
    (fun _ L _ st h K => match st with
      | ⟨n, fr, bx, ow⟩ => ∀ h', Sub h h' → finU h' L fr fun fr => K ⟨n, fr, bx, ow⟩ h')
    (fun o _ ih i L bs st h K => match st with
      | ⟨n, fr, bx, ow⟩ => match chainOf bs o.guard with
        | some ch => match cB bs ch with
          | some c => match pureU P L bs ch o ⟨n, fr, bx, ow⟩ with
            | some av => forceA av fun av => ih (i + 1) (addU o.dst ch (.pu av) L) (addT i o.dst ch av bs) ⟨n, fr, bx, ow⟩ h K
            | none => (∃ av, (∀ h', Sub h h' → imp ch c (openU L ⟨n, fr, bx, ow⟩ h' ch o.op.operands.toList [] fun fr => evOp P o ⟨n, fr, bx, ow⟩ h' (sameU av ⟨n, fr, bx, ow⟩ h'))) ∧
                  forceA av fun av => ih (i + 1) (addU o.dst ch (.pu av) L) (addT i o.dst ch av bs) ⟨n, fr, bx, ow⟩ h K) ∨
                (∃ F : Value → Hp → Prop, (∀ v h1 h2, Sub h1 h2 → F v h1 → F v h2) ∧
                  (∀ h', Sub h h' → imp ch c (openU L ⟨n, fr, bx, ow⟩ h' ch o.op.operands.toList [] fun fr => evOp P o ⟨n, fr, bx, ow⟩ h' (stayU ⟨n, fr, bx, ow⟩ h' F))) ∧
                  ih (i + 1) (addU o.dst ch (.ef F) L) bs ⟨n, fr, bx, ow⟩ h K)
          | none => False
        | none => False) l
def guardsB : List Oper → Bool
  | [] => true
  | o :: r => (match o.guard with
    | some (j, _) => edgeTo j o
    | none => true) && guardsB r
def stableU (n : Nat) (ops : List Oper) : Bool := stableB n ops && guardsB ops
/-- an operation under a guard that may yield memory -/
def memU (P : Program) : List Oper → Bool
  | [] => false
  | o :: r => (match o.guard, o.op with
    | some _, .call { callee := .value _, args := _, argTypes := _ } => match P.underlying o.type with
      | some (.slice _) => true
      | some (.struct _) => true
      | some (.tuple _) => true
      | _ => false
    | _, _ => false) || memU P r

/-! ## code -/
inductive Ex where
  | normal | ret
  | exit (i : Nat)

structure Ann where
  vars : List Nat
  boxes : List Nat
  owns : List Nat
  nils : List (Nat × Nat × Nat × Nat) := []
  nilsB : List (Nat × Nat × Nat × Nat × Nat) := []
  kept : List Nat := []
  fuel : Bool := false
  pubs : List Nat := []

/-- slots that hold nil: slices of the call's own from here on: slot, type of an element, its cells, its bytes -/
def adopt : List (Nat × Nat × Nat × Nat) → St → (St → Prop) → Prop
  | [], st, K => K st
  | (s, e, sz, by_) :: r, ⟨n, fr, bx, ow⟩, K => match rdA ⟨n, fr, bx, ow⟩ (look fr s), Nat.blt s n with
    | .val (.slice none 0 0), true => lenK ow fun k => adopt r ⟨n, (s, .own k 0) :: fr, bx, ow ++ [⟨0, .live e sz by_ false []⟩]⟩ K
    | _, _ => False
/-- the same for a cell of a variable: variable, cell, type of an element, its cells, its bytes -/
def adoptB : List (Nat × Nat × Nat × Nat × Nat) → St → (St → Prop) → Prop
  | [], st, K => K st
  | (i, k, e, sz, by_) :: r, ⟨n, fr, bx, ow⟩, K => match nth bx i with
    | some (.live cs ty) => match nth cs k with
      | some (.val (.slice none 0 0)) => lenK ow fun j => adoptB r ⟨n, fr, updN bx i (.live (updN cs k (.own j 0)) ty), ow ++ [⟨0, .live e sz by_ false []⟩]⟩ K
      | _ => False
    | _ => False

/-- slots whose slices, the call's own so far, are looked at from here on -/
def pubS : List Nat → St → Hp → (St → Hp → Prop) → Prop
  | [], st, h, K => K st h
  | s :: r, st, h, K => rfy (rdA st (look st.fr s)) st h fun v st h => match st with
    | ⟨n, fr, bx, ow⟩ => match Nat.blt s n with
      | true => pubS r ⟨n, (s, .val v) :: fr, bx, ow⟩ h K
      | false => False

def memN (x : Nat) : List Nat → Bool
  | [] => false
  | y :: r => match Nat.beq x y with
    | true => true
    | false => memN x r

def dstL : List Oper → List Nat → List Nat
  | [], acc => acc
  | o :: r, acc => match o.dst with
    | some d => dstL r (d :: acc)
    | none => dstL r acc
def dsts : Code → List Nat → List Nat
  | .region _ ops _, acc => dstL ops.toList acc
  | .seq a b, acc => dsts a (dsts b acc)
  | .cond _ a b, acc => dsts a (dsts b acc)
  | .block _ a, acc => dsts a acc
  | .loop a, acc => dsts a acc
  | .scope a, acc => dsts a acc
  | _, acc => acc

/-- a list written out -/
def forceN : List Nat → (List Nat → Prop) → Prop
  | [], K => K []
  | x :: r, K => forceN r fun r => K (x :: r)

def getV : List Nat → St → (List Value → Prop) → Prop
  | [], _, K => K []
  | s :: r, st, K => match rdA st (look st.fr s) with
    | .val v => getV r st fun vs => K (v :: vs)
    | _ => False
/-- the plain cells of a variable that the call keeps; its other cells: the call's own slices, as they stand -/
def cellV : List Cell → St → (List Value → Prop) → Prop
  | [], _, K => K []
  | .val v :: r, st, K => cellV r st fun vs => K (v :: vs)
  | .own _ _ :: r, st, K => cellV r st K
def getBx : List Nat → St → (List Value → Prop) → Prop
  | [], _, K => K []
  | i :: r, st, K => match nth st.bx i with
    | some (.live cs _) => cellV cs st fun vs => getBx r st fun ws => K (vs ++ ws)
    | _ => False
def getOw : List Nat → St → (List (List (List Value)) → Prop) → Prop
  | [], _, K => K []
  | i :: r, st, K => match nth st.ow i with
    | some ⟨_, .live _ _ _ _ xs⟩ => getOw r st fun os => K (xs :: os)
    | _ => False
def getA (A : Ann) (st : St) (K : List Value → List (List (List Value)) → Prop) : Prop :=
  getV A.vars st fun vs => getBx A.boxes st fun ws => getOw A.owns st fun os => K (vs ++ ws) os

/-- plain cells anew, in order -/
def cellSet : List Cell → List Value → (List Cell → List Value → Prop) → Prop
  | [], vs, K => K [] vs
  | .val _ :: r, v :: vs, K => cellSet r vs fun cs rest => K (.val v :: cs) rest
  | .val _ :: _, [], _ => False
  | .own i k :: r, vs, K => cellSet r vs fun cs rest => K (.own i k :: cs) rest
def setBx : List Nat → List Value → List BSt → (List BSt → Prop) → Prop
  | [], _, bx, K => K bx
  | i :: r, vs, bx, K => match nth bx i with
    | some (.live cs ty) => cellSet cs vs fun cs rest => setBx r rest (updN bx i (.live cs ty)) K
    | _ => False
def setOw : List Nat → List (List (List Value)) → List Own → (List Own → Prop) → Prop
  | [], _, ow, K => K ow
  | i :: r, xs :: os, ow, K => match nth ow i with
    | some ⟨s, .live e sz by_ nn _⟩ => setOw r os (updN ow i ⟨s, .live e sz by_ nn xs⟩) K
    | _ => False
  | _ :: _, [], _, _ => False
def splitV {α : Type} : Nat → List α → (List α → List α → Prop) → Prop
  | 0, l, K => K [] l
  | n + 1, x :: l, K => splitV n l fun a b => K (x :: a) b
  | _ + 1, [], _ => False

/-- the slots that the body writes: those of the loop's state, the call's own slices and variables as they stand, the others unknown -/
def headD (A : Ann) (st : St) : List Nat → List (Nat × AV) → (List (Nat × AV) → Prop) → Prop
  | [], acc, K => K acc
  | s :: r, acc, K => match memN s A.vars with
    | true => headD A st r acc K
    | false => match rdA st (look st.fr s) with
      | .own i k => headD A st r ((s, .own i k) :: acc) K
      | .box i o => headD A st r ((s, .box i o) :: acc) K
      | _ => headD A st r ((s, .dead) :: acc) K
def noOwn : List Cell → Bool
  | [] => true
  | .val _ :: r => noOwn r
  | .own _ _ :: _ => false
/-- the slots that it does not write -/
def headS (A : Ann) (ds : List Nat) (st : St) : List (Nat × AV) → (List (Nat × AV) → Prop) → Prop
  | [], K => K []
  | (s, av) :: r, K => match memN s ds with
    | true => headS A ds st r K
    | false => match rdA st av with
      | .own i k => match memN i A.owns, memN i A.kept with
        | true, false => headS A ds st r fun l => K ((s, .dead) :: l)
        | _, _ => headS A ds st r fun l => K ((s, .own i k) :: l)
      | .oel _ _ _ _ _ => headS A ds st r fun l => K ((s, .dead) :: l)
      | .agg cs => match noOwn cs with
        | true => headS A ds st r fun l => K ((s, .agg cs) :: l)
        | false => headS A ds st r fun l => K ((s, .dead) :: l)
      | a => headS A ds st r fun l => K ((s, a) :: l)
def zipV : List Nat → List Value → List (Nat × AV) → List (Nat × AV)
  | s :: r, v :: vs, acc => zipV r vs ((s, .val v) :: acc)
  | _, _, acc => acc

/-- the written slots that hold the call's own slices and variables hold them again -/
def sameD (head end_ : St) : List (Nat × AV) → Bool
  | [] => true
  | (s, av) :: r => match av with
    | .own i _ => match rdA end_ (look end_.fr s) with
      | .own j _ => match Nat.beq i j with
        | true => sameD head end_ r
        | false => false
      | _ => false
    | .box i o => match rdA end_ (look end_.fr s) with
      | .box j p => match Nat.beq i j, Nat.beq o p with
        | true, true => sameD head end_ r
        | _, _ => false
      | _ => false
    | _ => sameD head end_ r

def isDead : AV → Bool
  | .dead => true
  | _ => false
/-- what is known of slots that are not written -/
def avsL : List (Nat × AV) → List AV
  | [] => []
  | (_, av) :: r => match isDead av with
    | true => avsL r
    | false => av :: avsL r
def lookL (fr : List (Nat × AV)) : List (Nat × AV) → List AV
  | [] => []
  | (s, av) :: r => match isDead av with
    | true => lookL fr r
    | false => look fr s :: lookL fr r

def sameCells (head end_ : St) : List Cell → List Cell → Bool
  | [], [] => true
  | .val _ :: r, .val _ :: r' => sameCells head end_ r r'
  | .own i _ :: r, .own j k' :: r' => match Nat.beq i j, rdA end_ (.own j k') with
    | true, .own _ _ => sameCells head end_ r r'
    | _, _ => false
  | _, _ => false

def clearCs (os : List Nat) : List Cell → Bool
  | [] => true
  | .val _ :: r => clearCs os r
  | .own i _ :: r => match memN i os with
    | true => false
    | false => clearCs os r
def clearB (os : List Nat) : BSt → Bool
  | .live cs _ => clearCs os cs
  | .publ _ => true
def sameBx (A : Ann) (head end_ : St) : Nat → List BSt → List BSt → Prop
  | _, [], _ => True
  | i, b :: r, b' :: r' => match memN i A.boxes with
    | true => match b, b' with
      | .live cs ty, .live cs' ty' => match Nat.beq ty ty', sameCells head end_ cs cs' with
        | true, true => sameBx A head end_ (i + 1) r r'
        | _, _ => False
      | _, _ => False
    | false => match clearB A.owns b with
      | true => b' = b ∧ sameBx A head end_ (i + 1) r r'
      | false => False
  | _, _ :: _, [] => False
def leB (a b : Bool) : Bool := match a with
  | true => b
  | false => true
def sameOw (A : Ann) : Nat → List Own → List Own → Prop
  | _, [], _ => True
  | i, b :: r, b' :: r' => match memN i A.owns with
    | true => match b, b' with
      | ⟨s, .live e sz by_ nn _⟩, ⟨s', .live e' sz' by' nn' _⟩ => match Nat.beq e e', Nat.beq sz sz', Nat.beq by_ by', leB nn nn', leB (memN i A.kept) (Nat.beq s s') with
        | true, true, true, true, true => sameOw A (i + 1) r r'
        | _, _, _, _, _ => False
      | _, _ => False
    | false => b' = b ∧ sameOw A (i + 1) r r'
  | _, _ :: _, [] => False

def forallV : Nat → (List Value → Prop) → Prop
  | 0, K => K []
  | n + 1, K => ∀ v, forallV n fun vs => K (v :: vs)
def forallO : Nat → (List (List (List Value)) → Prop) → Prop
  | 0, K => K []
  | n + 1, K => ∀ xs, forallO n fun os => K (xs :: os)

abbrev LInv := List Value → List (List (List Value)) → Hp → Prop
abbrev LMeas := List Value → List (List (List Value)) → Nat

def lenL : List Value → List Value → Bool
  | [], [] => true
  | _ :: r, _ :: r' => lenL r r'
  | _, _ => false
/-- what holds at the head; with a count of the rounds left, where the invariant bears one -/
def headI (A : Ann) (I : LInv) (vs : List Value) (os : List (List (List Value))) (h : Hp) : Prop := match A.fuel with
  | false => I vs os h
  | true => ∃ m : Nat, I (.int .i64 m :: vs) os h
def headK (A : Ann) (I : LInv) (μ : LMeas) (vs : List Value) (os : List (List (List Value))) (X : Nat → Hp → Prop) : Prop := match A.fuel with
  | false => ∀ h', I vs os h' → X (μ vs os) h'
  | true => ∀ (m : Nat) (h' : Hp), I (.int .i64 m :: vs) os h' → X m h'
def endI (A : Ann) (I : LInv) (μ : LMeas) (m : Nat) (vs : List Value) (os : List (List (List Value))) (h : Hp) : Prop := match A.fuel with
  | false => I vs os h ∧ μ vs os < m
  | true => ∃ m' : Nat, I (.int .i64 m' :: vs) os h ∧ m' < m
def atI (A : Ann) (I : LInv) (μ : LMeas) (m : Nat) (vs : List Value) (os : List (List (List Value))) (h : Hp) : Prop := match A.fuel with
  | false => I vs os h ∧ m = μ vs os
  | true => I (.int .i64 m :: vs) os h
theorem headI_at {A : Ann} {I : LInv} {μ : LMeas} {vs : List Value} {os : List (List (List Value))} {h : Hp} (hh : headI A I vs os h) : ∃ m, atI A I μ m vs os h := by
  unfold headI at hh
  unfold atI
  cases hf : A.fuel with
  | false => rw [hf] at hh; exact ⟨_, hh, rfl⟩
  | true => rw [hf] at hh; exact hh
theorem headK_at {A : Ann} {I : LInv} {μ : LMeas} {vs : List Value} {os : List (List (List Value))} {X : Nat → Hp → Prop} (hh : headK A I μ vs os X) {m : Nat} {h : Hp} (ha : atI A I μ m vs os h) : X m h := by
  unfold headK at hh
  unfold atI at ha
  cases hf : A.fuel with
  | false => rw [hf] at hh ha; rw [ha.2]; exact hh _ ha.1
  | true => rw [hf] at hh ha; exact hh _ _ ha
theorem endI_at {A : Ann} {I : LInv} {μ : LMeas} {m : Nat} {vs : List Value} {os : List (List (List Value))} {h : Hp} (hh : endI A I μ m vs os h) : ∃ m', atI A I μ m' vs os h ∧ m' < m := by
  unfold endI at hh
  unfold atI
  cases hf : A.fuel with
  | false => rw [hf] at hh; exact ⟨_, ⟨hh.1, rfl⟩, hh.2⟩
  | true => rw [hf] at hh; exact hh
/-- back at the head -/
def endL (A : Ann) (dyn sta : List (Nat × AV)) (st0 : St) (I : LInv) (μ : LMeas) (vs0 : List Value) (m : Nat) (st : St) (h : Hp) : Prop :=
  match Nat.beq st.n st0.n, sameD st0 st dyn with
  | true, true => lookL st.fr sta = avsL sta ∧ sameBx A st0 st 0 st0.bx st.bx ∧ sameOw A 0 st0.ow st.ow ∧
      getA A st fun vs os => match lenL vs vs0 with
        | true => splitV A.vars.length vs fun _ v2 => setBx A.boxes v2 st0.bx fun _ => setOw A.owns os st0.ow fun _ => endI A I μ m vs os h
        | false => False
  | _, _ => False

def loopF (body : (Ex → St → Hp → Prop) → St → Hp → Prop) (ds0 : List Nat) (Q : Ex → St → Hp → Prop) (st : St) (h : Hp) : Prop :=
  ∃ (A : Ann) (I : LInv) (μ : LMeas), adopt A.nils st fun st => adoptB A.nilsB st fun st => pubS A.pubs st h fun st h => getA A st fun vs0 os0 => headI A I vs0 os0 h ∧
    forceN ds0 fun ds => headD A st ds [] fun dyn => headS A ds st st.fr fun sta =>
      forallV vs0.length fun vs => forallO os0.length fun os => headK A I μ vs os fun m h' =>
        splitV A.vars.length vs fun v1 v2 => setBx A.boxes v2 st.bx fun bx => setOw A.owns os st.ow fun ow =>
          body (fun e st' h'' => match e with
            | .normal => pubS A.pubs st' h'' fun st' h'' => endL A dyn sta st I μ vs m st' h''
            | e => Q e st' h'') ⟨st.n, zipV A.vars v1 (dyn ++ sta), bx, ow⟩ h'

def condP (b : Bool) (X Y : Prop) : Prop := (b = true → X) ∧ (b = false → Y)

def ev (P : Program) : Code → (Ex → St → Hp → Prop) → St → Hp → Prop
  | .skip, Q, st, h => Q .normal st h
  | .region _ ops false, Q, st, h => match memU P ops.toList with
    | true => stableU st.n ops.toList = true ∧ evU P ops.toList 0 [] [] st h fun st h => Q .normal st h
    | false => evReg P ops.toList 0 ⟨st, h, [], []⟩ fun rs => Q .normal rs.st rs.h
  | .region _ ops true, Q, st, h => ((P.follows .mixedOrders = true ∧ Region.lexB .any ops = true) ∧
      evQ P ops.toList 0 ⟨st, h, [], []⟩ fun rs => Q .normal rs.st rs.h) ∨
      ((P.follows .mixedOrders = true ∧ stableB st.n ops.toList = true) ∧ evS P ops.toList [] st h fun st h => Q .normal st h) ∨
      (match peel ops.toList with
        | none => (P.follows .mixedOrders = true ∧ stableB st.n ops.toList = true) ∧ splitC P st h ops.toList 0 [] [] [] fun L X E => ∃ c, (chainB E = true ∧ earlyB X (E.drop c) = true) ∧ evC ops.size P c E L st h fun st h => Q .normal st h
        | some o => (P.follows .mixedOrders = true ∧ (stableB st.n (initO ops.toList) && backB ops.toList 0) = true) ∧ splitC P st h (initO ops.toList) 0 [] [] [] fun L X E => ∃ c, (chainB E = true ∧ earlyB X (E.drop c) = true) ∧ evC (initO ops.toList).length P c E L st h fun st h => lastR P o st h fun st h => Q .normal st h) ∨
      ((P.follows .mixedOrders = true ∧ stableU st.n ops.toList = true) ∧ evU P ops.toList 0 [] [] st h fun st h => Q .normal st h)
  | .seq a b, Q, st, h => ev P a (fun e st h => match e with
    | .normal => ev P b Q st h
    | e => Q e st h) st h
  | .cond c t e, Q, st, h => match rdO st c with
    | .val (.bool b) => condP b (ev P t Q st h) (ev P e Q st h)
    | _ => False
  | .block id c, Q, st, h => ev P c (fun e st h => match e with
    | .exit i => match Nat.beq i id with
      | true => Q .normal st h
      | false => Q (.exit i) st h
    | e => Q e st h) st h
  | .loop body, Q, st, h => loopF (fun Q => ev P body Q) (dsts body []) Q st h
  | .exit id, Q, st, h => Q (.exit id) st h
  | .ret, Q, st, h => Q .ret st h
  | _, _, _, _ => False

/-- the results -/
def resK (P : Program) : List ResultVar → St → Hp → (List Value → St → Hp → Prop) → Prop
  | [], st, h, K => K [] st h
  | .tmp t :: r, st, h, K => rfy (rdA st (look st.fr t)) st h fun v st h => resK P r st h fun vs st h => K (v :: vs) st h
  | .cell t ty :: r, st, h, K => match rdA st (look st.fr t) with
    | .box i off => match nth st.bx i with
      | some (.live cs _) => getC P ty cs off fun av => rfy av st h fun v st h => resK P r st h fun vs st h => K (v :: vs) st h
      | _ => False
    | _ => False

def packV : List Value → Value
  | [v] => v
  | vs => .tuple vs.toArray

def args0 : Nat → List Value → List (Nat × AV)
  | _, [] => []
  | i, v :: r => (i, .val v) :: args0 (i + 1) r

def evFn (P : Program) (fn : Func) (args : List Value) (h : Hp) (T : Value → Hp → Prop) : Prop :=
  match fn.body with
  | some c => match Nat.ble args.length fn.ntmps with
    | true => ev P c (fun e st h => match e with
      | .exit _ => False
      | _ => resK P fn.results.toList st h fun vs _ h => T (packV vs) h) ⟨fn.ntmps, args0 0 args, [], []⟩ h
    | false => False
  | none => False
end Go.H
