/- Plain laws over the model: what a function's code asks: regions with guards, regions that draw their order, branches and loops. -/
import Derived.Test.YtfdlgbfeceodeaaGreatH2
namespace Go.H
set_option linter.unusedVariables false
structure BE where
 j : Nat
 d : Nat
 e : Bool
 ch : List (Nat × Bool)
structure RS where
 st : St
 h : Hp
 gf : List (Nat × List (Nat × Bool) × AV)
 bs : List BE
def J09 : List (Nat × List (Nat × Bool) × AV) → Nat → Option (List (Nat × Bool) × AV)
 | [], _ => none
 | (k, x) :: r, s => match Nat.beq k s with
  | true => some x
  | false => J09 r s
def eqB (a b : Bool) : Bool := match a, b with
 | true, true => true
 | false, false => true
 | _, _ => false
def Y0h : List (Nat × Bool) → List (Nat × Bool) → Bool
 | [], [] => true
 | (j, w) :: r, (j', w') :: r' => match Nat.beq j j', eqB w w' with
  | true, true => Y0h r r'
  | _, _ => false
 | _, _ => false
def r0d (a : List (Nat × Bool)) : List (Nat × Bool) → Bool
 | [] => Y0h a []
 | x :: r => match Y0h a (x :: r) with
  | true => true
  | false => r0d a r
def rdG (rs : RS) (ch : List (Nat × Bool)) : Operand → AV
 | .tmp t => match J09 rs.gf t with
  | some (ch2, av) => match r0d ch2 ch with
   | true => rdA rs.st av
   | false => .dead
  | none => rdA rs.st (Y1 rs.st.fr t)
 | x => rdO rs.st x
def o00 : List BE → Nat → Option BE
 | [], _ => none
 | b :: r, j => match Nat.beq b.j j with
  | true => some b
  | false => o00 r j
def C06 : List BE → Nat → Option BE
 | [], _ => none
 | b :: r, s => match Nat.beq b.d s with
  | true => some b
  | false => C06 r s
def lit (w e : Bool) : Bool := match w with
 | true => e
 | false => !e
def cB (bs : List BE) : List (Nat × Bool) → Option Bool
 | [] => some true
 | (j, w) :: r => match o00 bs j with
  | some b => match r with
   | [] => some (lit w b.e)
   | _ => match cB bs r with
    | some c => some (lit w b.e && c)
    | none => none
  | none => none
def n8 (bs : List BE) : Option (Nat × Bool) → Option (List (Nat × Bool))
 | none => some []
 | some (j, w) => match o00 bs j with
  | some b => some ((j, w) :: b.ch)
  | none => none
def imp (ch : List (Nat × Bool)) (c : Bool) (X : Prop) : Prop := match ch with
 | [] => X
 | _ => c = true → X
def s0d (rs : RS) (ch : List (Nat × Bool)) : List Operand → Option (List (Nat × Value))
 | [] => some []
 | .tmp t :: r => match S01 (rdG rs ch (.tmp t)) with
  | some v => match s0d rs ch r with
   | some vs => some ((t, v) :: vs)
   | none => none
  | none => none
 | .global _ :: _ => none
 | _ :: r => s0d rs ch r
def m0j (rs : RS) (ch : List (Nat × Bool)) : List Operand → St → Hp → (List (Nat × Value) → St → Hp → Prop) → Prop
 | [], st, h, K => K [] st h
 | .tmp t :: r, st, h, K => rfy (rdA st (rdG rs ch (.tmp t))) st h fun v st h => m0j rs ch r st h fun vs st h => K ((t, v) :: vs) st h
 | .global _ :: _, _, _, _ => False
 | _ :: r, st, h, K => m0j rs ch r st h K
def y0c (P : Program) (o : Oper) (ch : List (Nat × Bool)) (c : Bool) (rs : RS) (K : AV → Prop) : Prop :=
 match L08 o.op, s0d rs ch o.op.operands.toList with
 | false, some vs => match D05 (rho vs) o with
  | some (f, l) => match okF P f with
   | true => ∃ v, imp ch c (Tr P f l.toArray rs.h fun v' h' => v' = v ∧ h' = rs.h) ∧ K (.val v)
   | false => False
  | none => match evP P (o0d (rho vs) o) with
   | some (.value v) => K (.val v)
   | _ => False
 | false, none => ∃ r, imp ch c (m0j rs ch o.op.operands.toList rs.st rs.h fun vs _ hf => match D05 (rho vs) o with
  | some (f, l) => match okF P f with
   | true => Tr P f l.toArray hf fun v h' => v = r ∧ h' = hf
   | false => False
  | none => False) ∧ K (.val r)
 | _, _ => False
def evG (P : Program) (o : Oper) (ch : List (Nat × Bool)) (c : Bool) (rs : RS) (K : AV → Prop) : Prop :=
 match o.op with
 | .move x | .assign x => match rdG rs ch x with
  | .dead => False
  | a => K a
 | .pick (.tmp s) a b => match rdG rs ch (.tmp s), C06 rs.bs s with
  | .val (.bool e), some q => match r0d q.ch ch with
   | true => match rdG rs ((q.j, true) :: q.ch) a, rdG rs ((q.j, false) :: q.ch) b with
    | .val (.bool x), .val (.bool y) => K (.val (.bool (cond e x y)))
    | _, _ => False
   | false => False
  | _, _ => False
 | .fieldAddr t x k => match rdG rs ch x, v0c P t k with
  | .box i off, some fo => K (.box i (off + fo))
  | .hel s i sz k, some fo => K (.hel s i sz (k + fo))
  | .oel i s j sz k, some fo => K (.oel i s j sz (k + fo))
  | _, _ => False
 | .indexAddr t x i => match rdG rs ch i with
  | .val (.int _ j) => match K9 P t with
   | some e => match A5 P e with
    | some sz => match rdG rs ch x with
     | .val (.slice a n cp) => imp ch c (InB (.slice a n cp) j) ∧ K (.hel (.slice a n cp) j sz 0)
     | .own i k => match nth rs.st.ow i with
      | some ⟨_, .live _ sz' _ _ xs⟩ => match Nat.beq sz' sz with
       | true => imp ch c (0 ≤ j ∧ j < (xs.length : Int)) ∧ K (.oel i k j sz 0)
       | false => False
      | _ => False
     | _ => False
    | none => False
   | none => False
  | _ => False
 | .load t x => match rdG rs ch x with
  | .box i off => match nth rs.st.bx i with
   | some (.live cs _) => Q01 P t cs off K
   | _ => False
  | .hel s idx sz k => ∃ e, imp ch c (V6 rs.h s sz idx e) ∧ Q01 P t (vals e) k K
  | .oel i _ idx sz k => match nth rs.st.ow i with
   | some ⟨_, .live _ sz' _ _ xs⟩ => match Nat.beq sz' sz with
    | true => ∃ e, imp ch c (xs[idx.toNat]? = some e) ∧ Q01 P t (vals e) k K
    | false => False
   | _ => False
  | _ => False
 | .build t ps => match P.underlying t, J9 P t with
  | some (.struct fs), some z => match T02 P fs.toList with
   | true => q04 P fs (rdG rs ch) ps.toList (vals z.cells.toList) fun cs => K (.agg cs)
   | false => False
  | _, _ => False
 | .index t x i => match rdG rs ch x, rdG rs ch i, P.underlying t with
  | .val (.string s), .val (.int _ j), some .string => ∃ e, imp ch c (0 ≤ j ∧ s[j.toNat]? = some e) ∧ K (.val (.int .u8 e.toNat))
  | _, _, _ => False
 | .slice t x lo hi none => match rdG rs ch x, P.underlying t with
  | .val (.string s), some .string => match p02 0 (lo.map (rdG rs ch)), p02 s.size (hi.map (rdG rs ch)) with
   | some l, some m => imp ch c (0 ≤ l ∧ l ≤ m ∧ m ≤ (s.size : Int)) ∧ K (.val (.string (s.extract l.toNat m.toNat)))
   | _, _ => False
  | .val (.slice ad n cp), _ => match K9 P t with
   | some e => match A5 P e with
    | some sz => match p02 0 (lo.map (rdG rs ch)), p02 n (hi.map (rdG rs ch)) with
     | some l, some m => ∃ v, imp ch c ((0 ≤ l ∧ l ≤ m ∧ m ≤ (n : Int) ∧ n ≤ cp) ∧ i0f sz (.slice ad n cp) l.toNat m.toNat v) ∧ K (.val v)
     | _, _ => False
    | none => False
   | none => False
  | _, _ => False
 | .binOp .eql t x y yt => match S01 (rdG rs ch x), S01 (rdG rs ch y) with
  | some (.agg xs), some (.agg ys) => ∃ b, imp ch c (M08 P o x y (.agg xs) (.agg ys) b) ∧ K (.val (.bool b))
  | some (.slice a n m), some (.slice none 0 0) => ∃ b, imp ch c (M08 P o x y (.slice a n m) (.slice none 0 0) b) ∧ K (.val (.bool b))
  | _, _ => y0c P o ch c rs K
 | .binOp .neq t x y yt => match S01 (rdG rs ch x), S01 (rdG rs ch y) with
  | some (.agg xs), some (.agg ys) => ∃ b, imp ch c (M08 P o x y (.agg xs) (.agg ys) b) ∧ K (.val (.bool b))
  | _, _ => y0c P o ch c rs K
 | .binOp .add t x y yt => match rdG rs ch x, rdG rs ch y with
  | .val (.string a), .val (.string b) => imp ch c (a.size + b.size ≤ 9223372036854775807) ∧ K (.val (.string (a ++ b)))
  | _, _ => y0c P o ch c rs K
 | .binOp .quo t x y yt => match rdG rs ch x, rdG rs ch y with
  | .val (.int .i64 a), .val (.int .i64 b) => imp ch c (b ≠ 0) ∧ K (.val (.int .i64 (IntKind.i64.wrap (a.tdiv b))))
  | _, _ => y0c P o ch c rs K
 | .binOp .rem t x y yt => match rdG rs ch x, rdG rs ch y with
  | .val (.int .i64 a), .val (.int .i64 b) => imp ch c (b ≠ 0) ∧ K (.val (.int .i64 (a.tmod b)))
  | _, _ => y0c P o ch c rs K
 | .call { callee := .builtin .len, args := as, argTypes := ts } => match as.toList, ts.toList with
  | [x], [t] => match rdG rs ch x with
   | .own i _ => match nth rs.st.ow i, K9 P t with
    | some ⟨_, .live _ _ _ _ xs⟩, some _ => K (.val (.int .i64 xs.length))
    | _, _ => False
   | _ => y0c P o ch c rs K
  | _, _ => False
 | _ => y0c P o ch c rs K
def s04 (rs : RS) (d : Nat) : Bool := match J09 rs.gf d, C06 rs.bs d with
 | none, none => false
 | _, _ => true
def t0d (i d : Nat) (ch : List (Nat × Bool)) (av : AV) (bs : List BE) : List BE := match av with
 | .val (.bool e) => ⟨i, d, e, ch⟩ :: bs
 | _ => bs
def K09 (d : Option Tmp) (i : Nat) (ch : List (Nat × Bool)) (av : AV) (rs : RS) (K : RS → Prop) : Prop :=
 match d with
 | none => K rs
 | some d => match Nat.blt d rs.st.n, s04 rs d with
  | true, false => match ch with
   | [] => K { rs with st := { rs.st with fr := (d, av) :: rs.st.fr }, bs := t0d i d ch av rs.bs }
   | _ => K { rs with st := { rs.st with fr := (d, .dead) :: rs.st.fr }, gf := (d, ch, av) :: rs.gf, bs := t0d i d ch av rs.bs }
  | _, _ => False
def k0f : Op → Bool
 | .pick .. => true
 | _ => false
def N08 (P : Program) : List Oper → Nat → RS → (RS → Prop) → Prop
 | [], _, rs, K => K rs
 | o :: r, i, rs, K => match o.guard, k0f o.op with
  | none, false => p7 P o rs.st rs.h fun av st h => K09 o.dst i [] av { rs with st := st, h := h } fun rs => N08 P r (i + 1) rs K
  | _, _ => match n8 rs.bs o.guard with
   | some ch => match cB rs.bs ch with
    | some c => evG P o ch c rs fun av => K09 o.dst i ch av rs fun rs => N08 P r (i + 1) rs K
    | none => False
   | none => False
def evQ (P : Program) : List Oper → Nat → RS → (RS → Prop) → Prop
 | [], _, rs, K => K rs
 | o :: r, i, rs, K => match n8 rs.bs o.guard with
  | some ch => match cB rs.bs ch with
   | some c => evG P o ch c rs fun av => K09 o.dst i ch av rs fun rs => evQ P r (i + 1) rs K
   | none => False
  | none => False
def Sub (h h' : Hp) : Prop := ∀ b o, h b = some o → h' b = some o
def Z0h (v : Value) (K : Value → Prop) : Prop := match v with
 | .bool b => K (.bool b)
 | .int k n => K (.int k n)
 | .string s => K (.string s)
 | .pointer a => K (.pointer a)
 | .slice a n c => K (.slice a n c)
 | .func f x y => K (.func f x y)
 | .agg cs => K (.agg cs)
 | .tuple vs => K (.tuple vs)
 | v => K v
theorem f0h (v : Value) (K : Value → Prop) : Z0h v K = K v := by cases v <;> rfl
def E9 {α : Type} : List α → (List α → Prop) → Prop
 | [], K => K []
 | x :: r, K => E9 r fun r => K (x :: r)
theorem f00 {α : Type} : ∀ (l : List α) (K : List α → Prop), E9 l K = K l
 | [], K => rfl
 | x :: r, K => by simp only [E9, f00 r]
def T01 : Nat → (Nat → Prop) → Prop
 | 0, K => K 0
 | n + 1, K => T01 n fun m => K (m + 1)
theorem t04 : ∀ (n : Nat) (K : Nat → Prop), T01 n K = K n
 | 0, K => rfl
 | n + 1, K => by simp only [T01, t04 n]
def w00 (av : AV) (K : AV → Prop) : Prop := match av with
 | .val v => Z0h v fun v => K (.val v)
 | .own i k => K (.own i k)
 | .box i k => K (.box i k)
 | .hel s i z k => T01 z fun z => T01 k fun k => K (.hel s i z k)
 | .oel j s i z k => T01 z fun z => T01 k fun k => K (.oel j s i z k)
 | .agg cs => E9 cs fun cs => K (.agg cs)
 | .dead => K .dead
theorem g00 (av : AV) (K : AV → Prop) : w00 av K = K av := by
 cases av with
 | val v => exact f0h v (fun v => K (.val v))
 | hel s i z k => simp only [w00, t04]
 | oel j s i z k => simp only [w00, t04]
 | agg cs => simp only [w00, f00]
 | _ => rfl
inductive B5 where
 | pu (av : AV)
 | ef (F : Value → Hp → Prop)
def G1 : List (Nat × B5) → Nat → Option B5
 | [], _ => none
 | (k, x) :: r, s => match Nat.beq k s with
  | true => some x
  | false => G1 r s
def rdS (L : List (Nat × B5)) (st : St) : Operand → AV
 | .tmp t => match G1 L t with
  | some (.pu av) => rdA st av
  | some (.ef _) => .dead
  | none => rdA st (Y1 st.fr t)
 | x => rdO st x
def L09 (P : Program) (t : TypeId) (cs : List R4) (off : Nat) : Option AV :=
 match u0c P t with
 | some true => match A5 P t with
  | some n => match o04 ((cs.drop off).take n) n with
   | true => some (.agg ((cs.drop off).take n))
   | false => none
  | none => none
 | some false => match nth cs off with
  | some c => some (ofCell c)
  | none => none
 | none => none
def X05 (P : Program) (L : List (Nat × B5)) (o : Oper) (st : St) : Option AV := match o.op with
 | .move x | .assign x => match rdS L st x with
  | .dead => none
  | a => some a
 | .load t x => match rdS L st x with
  | .box i off => match nth st.bx i with
   | some (.live cs _) => L09 P t cs off
   | _ => none
  | _ => none
 | _ => none
def u04 (L : List (Nat × B5)) (st : St) (h : Hp) : List Operand → List (Nat × AV) → (List (Nat × AV) → Prop) → Prop
 | [], acc, K => K acc
 | .tmp t :: r, acc, K => match G1 L t with
  | some (.pu av) => u04 L st h r ((t, av) :: acc) K
  | some (.ef F) => ∀ v, F v h → u04 L st h r ((t, .val v) :: acc) K
  | none => u04 L st h r ((t, Y1 st.fr t) :: acc) K
 | _ :: r, acc, K => u04 L st h r acc K
def u0d (h : Hp) : List (Nat × B5) → List (Nat × AV) → (List (Nat × AV) → Prop) → Prop
 | [], fr, K => K fr
 | (d, .pu av) :: r, fr, K => u0d h r ((d, av) :: fr) K
 | (d, .ef F) :: r, fr, K => ∀ v, F v h → u0d h r ((d, .val v) :: fr) K
def U01 (d : Option Tmp) (f : B5) (L : List (Nat × B5)) : List (Nat × B5) := match d with
 | some d => (d, f) :: L
 | none => L
def X0j (st : St) (h : Hp) (F : Value → Hp → Prop) : AV → St → Hp → Prop
 | .val v, st', h' => st' = st ∧ Sub h h' ∧ F v h'
 | _, _, _ => False
def evS (P : Program) : List Oper → List (Nat × B5) → St → Hp → (St → Hp → Prop) → Prop
 | [], L, ⟨n, fr, bx, ow⟩, h, K => ∀ h', Sub h h' → u0d h' L fr fun fr => K ⟨n, fr, bx, ow⟩ h'
 | o :: r, L, ⟨n, fr, bx, ow⟩, h, K => match o.guard with
  | some _ => False
  | none => match X05 P L o ⟨n, fr, bx, ow⟩ with
   | some av => w00 av fun av => evS P r (U01 o.dst (.pu av) L) ⟨n, fr, bx, ow⟩ h K
   | none => ∃ F : Value → Hp → Prop, (∀ v h1 h2, Sub h1 h2 → F v h1 → F v h2) ∧
     (∀ h', Sub h h' → u04 L ⟨n, fr, bx, ow⟩ h' o.op.operands.toList [] fun fr => p7 P o ⟨n, fr, bx, ow⟩ h' (X0j ⟨n, fr, bx, ow⟩ h' F)) ∧
     evS P r (U01 o.dst (.ef F) L) ⟨n, fr, bx, ow⟩ h K
def C8 (i : Nat) (o : Oper) : Bool := o.after.toList.any fun e => Region.binds .any e && Nat.beq e.on i
def i00 (o : Oper) (t : Nat) : List Oper → Nat → Bool
 | [], _ => true
 | x :: r, i => match x.dst with
  | some d => match Nat.beq d t with
   | true => C8 i o && i00 o t r (i + 1)
   | false => i00 o t r (i + 1)
  | none => i00 o t r (i + 1)
def D06 (o : Oper) (ops : List Oper) : List Operand → Bool
 | [] => true
 | .tmp t :: r => i00 o t ops 0 && D06 o ops r
 | _ :: r => D06 o ops r
def v04 (d : Nat) : List Oper → Bool
 | [] => true
 | o :: r => match o.dst with
  | some d' => !Nat.beq d d' && v04 d r
  | none => v04 d r
def v0d (n : Nat) : List Oper → Bool
 | [] => true
 | o :: r => match o.dst with
  | some d => Nat.blt d n && v04 d r && v0d n r
  | none => v0d n r
def O08 : List Oper → Nat → Bool
 | [], _ => true
 | o :: r, j => (o.after.toList.all fun e => !Region.binds .any e || Nat.blt e.on j) && O08 r (j + 1)
def c0g (ops : List Oper) : List Oper → Bool
 | [] => true
 | o :: r => D06 o ops o.op.operands.toList && c0g ops r
def w8 (n : Nat) (ops : List Oper) : Bool := v0d n ops && O08 ops 0 && c0g ops ops
def d0g : List R4 → Bool
 | [] => true
 | .val _ :: r => d0g r
 | .own _ _ :: _ => false
def z0c : AV → Bool
 | .val _ => true
 | .box _ _ => true
 | .own _ _ => true
 | .agg cs => d0g cs
 | _ => false
def I02 (L : List (Nat × B5)) (st : St) : Operand → AV
 | .tmp t => match G1 L t with
  | some (.pu av) => av
  | some (.ef _) => .dead
  | none => Y1 st.fr t
 | .const v => .val v
 | _ => .dead
def P08 (L : List (Nat × B5)) (st : St) : List Operand → Option (List (Nat × Value))
 | [] => some []
 | .tmp t :: r => match I02 L st (.tmp t) with
  | .val v => match P08 L st r with
   | some vs => some ((t, v) :: vs)
   | none => none
  | _ => none
 | .global _ :: _ => none
 | _ :: r => P08 L st r
def l0f (P : Program) (L : List (Nat × B5)) (o : Oper) (st : St) : Option AV := match L08 o.op, P08 L st o.op.operands.toList with
 | false, some vs => match D05 (rho vs) o with
  | some _ => none
  | none => match evP P (o0d (rho vs) o) with
   | some (.value v) => some (.val v)
   | _ => none
 | _, _ => none
def U0k : AV → Bool
 | .val (.int _ _) => true
 | _ => false
def k0l : BinOp → Bool
 | .lss => true
 | .leq => true
 | .gtr => true
 | .geq => true
 | _ => false
def E05 (P : Program) (L : List (Nat × B5)) (o : Oper) (st : St) : Option AV := match o.op with
 | .move x => match z0c (I02 L st x) with
  | true => some (I02 L st x)
  | false => none
 | .assign x => match z0c (I02 L st x) with
  | true => some (I02 L st x)
  | false => none
 | .load t x => match I02 L st x with
  | .box i off => match nth st.bx i with
   | some (.live cs _) => match L09 P t cs off with
    | some av => match z0c av with
     | true => some av
     | false => none
    | none => none
   | _ => none
  | _ => none
 | .fieldAddr t x k => match I02 L st x, v0c P t k with
  | .box i off, some fo => some (.box i (off + fo))
  | _, _ => none
 | .binOp op _ x y _ => match k0l op, U0k (I02 L st x), U0k (I02 L st y) with
  | true, true, true => l0f P L o st
  | _, _, _ => none
 | .call { callee := .builtin .len, args := as, argTypes := _ } => match as.toList with
  | [x] => match I02 L st x with
   | .val (.slice _ _ _) => l0f P L o st
   | _ => none
  | _ => none
 | _ => none
def T8 (L : List (Nat × B5)) (st : St) : List Oper → List Nat
 | [] => []
 | o :: r => match o.op with
  | .load _ x => match I02 L st x with
   | .box i _ => i :: T8 L st r
   | _ => T8 L st r
  | _ => T8 L st r
def F05 (bx : List BSt) : List Nat → List (Option BSt)
 | [] => []
 | i :: r => nth bx i :: F05 bx r
def w04 (L : List (Nat × B5)) (fr0 : List (Nat × AV)) : List Operand → List (Nat × AV) → (List (Nat × AV) → Prop) → Prop
 | [], acc, K => K acc
 | .tmp t :: r, acc, K => match G1 L t with
  | some (.pu av) => w04 L fr0 r ((t, av) :: acc) K
  | some (.ef _) => w04 L fr0 r ((t, .dead) :: acc) K
  | none => w04 L fr0 r ((t, Y1 fr0 t) :: acc) K
 | _ :: r, acc, K => w04 L fr0 r acc K
def m0f : List (Nat × B5) → List (Nat × AV) → List (Nat × AV)
 | [], fr => fr
 | (d, .pu av) :: r, fr => (d, av) :: m0f r fr
 | (d, .ef _) :: r, fr => (d, .dead) :: m0f r fr
def e0g (av : AV) (st : St) (h : Hp) : AV → St → Hp → Prop := fun av' st' h' => av' = av ∧ st' = st ∧ h' = h
def w0d (P : Program) (st : St) (h : Hp) (L : List (Nat × B5)) (o : Oper) (av : AV) : Prop :=
 match st with
 | ⟨n, fr, bx, ow⟩ => ∀ h', Sub h h' → w04 L fr o.op.operands.toList [] fun fr => p7 P o ⟨n, fr, bx, ow⟩ h' (e0g av ⟨n, fr, bx, ow⟩ h')
def Z00 (P : Program) (st : St) (h : Hp) : List Oper → Nat → List (Nat × B5) → List (Nat × Oper) → List (Nat × Oper) → (List (Nat × B5) → List (Nat × Oper) → List (Nat × Oper) → Prop) → Prop
 | [], _, L, X, E, K => K L X E
 | o :: r, i, L, X, E, K => match o.guard with
  | some _ => False
  | none => match E05 P L o st with
   | some av => w00 av fun av => Z00 P st h r (i + 1) (U01 o.dst (.pu av) L) X E K
   | none => (∃ av, w0d P st h L o av ∧ w00 av fun av => Z00 P st h r (i + 1) (U01 o.dst (.pu av) L) (X ++ [(i, o)]) E K) ∨
     Z00 P st h r (i + 1) (U01 o.dst (.ef fun _ _ => True) L) X (E ++ [(i, o)]) K
def A0c (X : List (Nat × Oper)) : Nat → Nat → Oper → Bool
 | 0, i, q => C8 i q
 | n + 1, i, q => C8 i q || X.any fun y => C8 y.1 q && A0c X n i y.2
def J02 (X Y : List (Nat × Oper)) : List (Nat × Oper) → Bool
 | [] => true
 | (_, q) :: _ => X.all fun x => A0c Y 8 x.1 q
def p00 : List (Nat × Oper) → Bool
 | (i, o) :: (j, o') :: r => C8 i o' && p00 ((j, o') :: r)
 | _ => true
def V01 : Nat → Nat → Oper → Bool
 | 0, _, _ => true
 | k + 1, i, o => (Nat.beq k i || C8 k o) && V01 k i o
def x04 (d : Nat) : List Operand → Bool
 | [] => false
 | .tmp t :: r => Nat.beq t d || x04 d r
 | _ :: r => x04 d r
def M09 (d : Nat) : List Oper → Bool
 | [] => false
 | o :: r => x04 d o.op.operands.toList || M09 d r
def Q8 : List Oper → List Oper
 | [] => []
 | o :: r => match r with
  | [] => []
  | _ :: _ => o :: Q8 r
def N09 : List Oper → Option Oper
 | [] => none
 | o :: r => match r with
  | [] => some o
  | _ :: _ => N09 r
def a0i (ops : List Oper) : Option Oper := match N09 ops with
 | some o => match o.guard, o.dst with
  | none, some d => match M09 d (Q8 ops) && V01 (Q8 ops).length (Q8 ops).length o with
   | true => some o
   | false => none
  | _, _ => none
 | none => none
def p01 (P : Program) (o : Oper) (st : St) (h : Hp) (K : St → Hp → Prop) : Prop :=
 p7 P o st h fun av st h => K09 o.dst 0 [] av ⟨st, h, [], []⟩ fun rs => K rs.st rs.h
def f0g (N i : Nat) (o : Oper) : List (Nat × Oper) → Bool
 | [] => V01 N i o
 | _ :: _ => false
def V0k (c : Nat) (b : Bool) (rd : List Nat) (bx bx' : List BSt) : Prop := match b with
 | true => True
 | false => match c with
  | 0 => F05 bx' rd = F05 bx rd
  | _ + 1 => bx' = bx
def p0k : Nat → List Own → List Own → Hp → Hp → Prop
 | 0, _, _, _, _ => True
 | _ + 1, ow, ow', h, h' => ow' = ow ∧ Sub h h'
def evC (rd : List Nat) (N : Nat) (P : Program) : Nat → List (Nat × Oper) → List (Nat × B5) → St → Hp → (St → Hp → Prop) → Prop
 | _, [], L, ⟨n, fr, bx, ow⟩, h, K => E9 (m0f L fr) fun fr => K ⟨n, fr, bx, ow⟩ h
 | c, (i, o) :: r, L, ⟨n, fr, bx, ow⟩, h, K => w04 L fr o.op.operands.toList [] fun fr1 => p7 P o ⟨n, fr1, bx, ow⟩ h fun av st' h' => match st' with
  | ⟨_, _, bx', ow'⟩ => p0k c ow ow' h h' ∧ V0k c (f0g N i o r) rd bx bx' ∧ w00 av fun av => E9 bx' fun bx' => E9 ow' fun ow' => evC rd N P (c - 1) r (U01 o.dst (.pu av) L) ⟨n, fr, bx', ow'⟩ h' K
abbrev FL := List (Nat × List (Nat × Bool) × B5)
def V00 : FL → Nat → Option (List (Nat × Bool) × B5)
 | [], _ => none
 | (k, x) :: r, s => match Nat.beq k s with
  | true => some x
  | false => V00 r s
def rdU (L : FL) (st : St) (ch : List (Nat × Bool)) : Operand → AV
 | .tmp t => match V00 L t with
  | some (ch2, .pu av) => match r0d ch2 ch with
   | true => rdA st av
   | false => .dead
  | some (_, .ef _) => .dead
  | none => rdA st (Y1 st.fr t)
 | x => rdO st x
def G05 (P : Program) (L : FL) (bs : List BE) (ch : List (Nat × Bool)) (o : Oper) (st : St) : Option AV := match o.op with
 | .move x | .assign x => match rdU L st ch x with
  | .dead => none
  | a => some a
 | .load t x => match rdU L st ch x with
  | .box i off => match nth st.bx i with
   | some (.live cs _) => L09 P t cs off
   | _ => none
  | _ => none
 | .fieldAddr t x k => match rdU L st ch x, v0c P t k with
  | .box i off, some fo => some (.box i (off + fo))
  | .hel s i sz k, some fo => some (.hel s i sz (k + fo))
  | _, _ => none
 | .pick (.tmp s) a b => match rdU L st ch (.tmp s), C06 bs s with
  | .val (.bool e), some q => match r0d q.ch ch with
   | true => match rdU L st ((q.j, true) :: q.ch) a, rdU L st ((q.j, false) :: q.ch) b with
    | .val (.bool x), .val (.bool y) => some (.val (.bool (cond e x y)))
    | _, _ => none
   | false => none
  | _, _ => none
 | _ => none
def a04 (L : FL) (st : St) (h : Hp) (ch : List (Nat × Bool)) : List Operand → List (Nat × AV) → (List (Nat × AV) → Prop) → Prop
 | [], acc, K => K acc
 | .tmp t :: r, acc, K => match V00 L t with
  | some (ch2, f) => match r0d ch2 ch with
   | true => match f with
    | .pu av => a04 L st h ch r ((t, av) :: acc) K
    | .ef F => ∀ v, F v h → a04 L st h ch r ((t, .val v) :: acc) K
   | false => False
  | none => a04 L st h ch r ((t, Y1 st.fr t) :: acc) K
 | _ :: r, acc, K => a04 L st h ch r acc K
def j0b (h : Hp) : FL → List (Nat × AV) → (List (Nat × AV) → Prop) → Prop
 | [], fr, K => K fr
 | (d, [], .pu av) :: r, fr, K => j0b h r ((d, av) :: fr) K
 | (d, [], .ef F) :: r, fr, K => ∀ v, F v h → j0b h r ((d, .val v) :: fr) K
 | (d, _ :: _, _) :: r, fr, K => j0b h r ((d, .dead) :: fr) K
def B0c (d : Option Tmp) (ch : List (Nat × Bool)) (f : B5) (L : FL) : FL := match d with
 | some d => (d, ch, f) :: L
 | none => L
def C0c (i : Nat) (d : Option Tmp) (ch : List (Nat × Bool)) (av : AV) (bs : List BE) : List BE := match d with
 | some d => match av with
  | .val (.bool e) => ⟨i, d, e, ch⟩ :: bs
  | _ => bs
 | none => bs
def n0f (st st' : St) : Prop := st'.n = st.n ∧ st'.fr = st.fr ∧ st'.bx = st.bx ∧ ∃ t, st'.ow = st.ow ++ t
def b0i (st : St) (h : Hp) (F : Value → Hp → Prop) : AV → St → Hp → Prop := fun av st' h' => rfy av st' h' fun v st'' h'' => n0f st st'' ∧ Sub h h'' ∧ F v h''
def evU (P : Program) (l : List Oper) : Nat → FL → List BE → St → Hp → (St → Hp → Prop) → Prop :=
  List.rec (motive := fun _ => Nat → FL → List BE → St → Hp → (St → Hp → Prop) → Prop)
    (fun _ L _ st h K => match st with
      | ⟨n, fr, bx, ow⟩ => ∀ h', Sub h h' → j0b h' L fr fun fr => K ⟨n, fr, bx, ow⟩ h')
    (fun o _ ih i L bs st h K => match st with
      | ⟨n, fr, bx, ow⟩ => match n8 bs o.guard with
        | some ch => match cB bs ch with
          | some c => match G05 P L bs ch o ⟨n, fr, bx, ow⟩ with
            | some av => w00 av fun av => ih (i + 1) (B0c o.dst ch (.pu av) L) (C0c i o.dst ch av bs) ⟨n, fr, bx, ow⟩ h K
            | none => (∃ av, (∀ h', Sub h h' → imp ch c (a04 L ⟨n, fr, bx, ow⟩ h' ch o.op.operands.toList [] fun fr => p7 P o ⟨n, fr, bx, ow⟩ h' (e0g av ⟨n, fr, bx, ow⟩ h'))) ∧
                  w00 av fun av => ih (i + 1) (B0c o.dst ch (.pu av) L) (C0c i o.dst ch av bs) ⟨n, fr, bx, ow⟩ h K) ∨
                (∃ F : Value → Hp → Prop, (∀ v h1 h2, Sub h1 h2 → F v h1 → F v h2) ∧
                  (∀ h', Sub h h' → imp ch c (a04 L ⟨n, fr, bx, ow⟩ h' ch o.op.operands.toList [] fun fr => p7 P o ⟨n, fr, bx, ow⟩ h' (b0i ⟨n, fr, bx, ow⟩ h' F))) ∧
                  ih (i + 1) (B0c o.dst ch (.ef F) L) bs ⟨n, fr, bx, ow⟩ h K)
          | none => False
        | none => False) l
def x09 : List Oper → Bool
 | [] => true
 | o :: r => (match o.guard with
  | some (j, _) => C8 j o
  | none => true) && x09 r
def j01 (n : Nat) (ops : List Oper) : Bool := w8 n ops && x09 ops
def n0j (P : Program) : List Oper → Bool
 | [] => false
 | o :: r => (match o.guard, o.op with
  | some _, .call { callee := .value _, args := _, argTypes := _ } => match P.underlying o.type with
   | some (.slice _) => true
   | some (.struct _) => true
   | some (.tuple _) => true
   | _ => false
  | _, _ => false) || n0j P r
def I01 (o : Oper) : Bool := match o.op with
 | .alloc _ => true
 | _ => false
def y8 (o : Oper) : Oper := match o.op with
 | .alloc _ => { o with op := .move (.const undef) }
 | _ => o
def O4 : List Oper → List Oper
 | [] => []
 | o :: r => y8 o :: O4 r
def okA (P : Program) (all : List Oper) : List Oper → Bool
 | [] => true
 | o :: r => (match o.op with
  | .alloc t => (match o.guard, o.dst, J9 P t with
   | none, some d, some _ => !M09 d all
   | _, _, _ => false)
  | _ => true) && okA P all r
def o0f (x : Nat) : List Nat → Bool
 | [] => false
 | y :: r => Nat.beq x y || o0f x r
def o0j (ops : List Oper) (i : Nat) : List Nat → Bool
 | [] => false
 | j :: r => (match nth ops j with
  | some o => C8 i o
  | none => false) || o0j ops i r
def v0b (ops : List Oper) : Nat → List Nat → List Nat
 | 0, acc => acc
 | i + 1, acc => match o0j ops i acc with
  | true => v0b ops i (i :: acc)
  | false => v0b ops i acc
def E06 (o : Oper) : Option Nat := match o.guard with
 | some _ => none
 | none => match o.op with
  | .extract (.tmp t) _ => some t
  | .move (.tmp t) => some t
  | .assign (.tmp t) => some t
  | _ => none
def F06 (d : Nat) : List Oper → Bool
 | [] => false
 | o :: r => (match o.dst with
  | some e => Nat.beq e d
  | none => false) || F06 d r
def W02 (ml : List Nat) (t : Nat) : List Oper → Nat → Bool
 | [], _ => true
 | o :: r, i => (match o.dst with
  | some e => !Nat.beq e t || o0f i ml
  | none => true) && W02 ml t r (i + 1)
def X02 (i d : Nat) : List Oper → Bool
 | [] => true
 | o :: r => (!x04 d o.op.operands.toList || C8 i o) && X02 i d r
def g0g (pre tl : List Oper) (ml : List Nat) (i : Nat) (o : Oper) : Bool := match E06 o, o.dst with
 | some t, some d => !F06 d tl && !F06 t tl && W02 ml t pre 0 && X02 i d tl
 | _, _ => false
def y09 (pre tl : List Oper) (ml : List Nat) : List Oper → Nat → Bool
 | [], _ => true
 | o :: r, i => (o0f i ml || g0g pre tl ml i o) && y09 pre tl ml r (i + 1)
def x0d : List Oper → Bool
 | [] => true
 | o :: r => !L08 o.op && x0d r
def c0i : Nat → List Oper → Bool
 | _, [] => true
 | k, o :: r => (match o.guard with
  | none => true
  | some _ => false) && (match r with
  | [] => true
  | o' :: _ => C8 k o') && c0i (k + 1) r
def W0k : List Oper → Bool
 | [] => true
 | _ :: _ => false
def okZ (P : Program) (n m : Nat) (ops : List Oper) : Bool :=
 j01 n (O4 (ops.take m)) && okA P (ops.take m) (ops.take m) && O08 ops 0 && c0i m (ops.drop m) && (W0k (ops.drop m) || (y09 (ops.take m) (ops.drop m) (v0b ops m [m]) (ops.take m) 0 && x0d (ops.drop m)))
abbrev q0k := Oper → St → Hp → (St → Hp → Prop) → Prop
def doA (R : q0k) (l : List Oper) : St → Hp → (St → Hp → Prop) → Prop :=
 List.rec (motive := fun _ => St → Hp → (St → Hp → Prop) → Prop) (fun st h K => K st h) (fun o _ ih st h K => match I01 o with
  | true => R o st h fun st h => ih st h K
  | false => ih st h K) l
def doT (R : q0k) (l : List Oper) : St → Hp → (St → Hp → Prop) → Prop :=
 List.rec (motive := fun _ => St → Hp → (St → Hp → Prop) → Prop) (fun st h K => K st h) (fun o _ ih st h K => R o st h fun st h => ih st h K) l
def evT (P : Program) (R : q0k) (m : Nat) (ops : List Oper) (st : St) (h : Hp) (K : St → Hp → Prop) : Prop :=
 evU P (O4 (ops.take m)) 0 [] [] st h fun st h => doA R (ops.take m) st h fun st h => doT R (ops.drop m) st h K
inductive Ex where
 | normal | ret
 | exit (i : Nat)
structure Ann where
 vars : List Nat
 boxes : List Nat
 owns : List Nat
 nils : List (Nat × Nat × Nat × Nat) := []
 nilsB : List (Nat × Nat × Nat × Nat × Nat) := []
 kept : List Nat := []
 fuel : Bool := false
 pubs : List Nat := []
def y0d : List (Nat × Nat × Nat × Nat) → St → (St → Prop) → Prop
 | [], st, K => K st
 | (s, e, sz, by_) :: r, ⟨n, fr, bx, ow⟩, K => match rdA ⟨n, fr, bx, ow⟩ (Y1 fr s), Nat.blt s n with
  | .val (.slice none 0 0), true => g0f ow fun k => y0d r ⟨n, (s, .own k 0) :: fr, bx, ow ++ [⟨0, .live e sz by_ false []⟩]⟩ K
  | _, _ => False
def O09 : List (Nat × Nat × Nat × Nat × Nat) → St → (St → Prop) → Prop
 | [], st, K => K st
 | (i, k, e, sz, by_) :: r, ⟨n, fr, bx, ow⟩, K => match nth bx i with
  | some (.live cs ty) => match nth cs k with
   | some (.val (.slice none 0 0)) => g0f ow fun j => O09 r ⟨n, fr, B8 bx i (.live (B8 cs k (.own j 0)) ty), ow ++ [⟨0, .live e sz by_ false []⟩]⟩ K
   | _ => False
  | _ => False
def z0d : List Nat → St → Hp → (St → Hp → Prop) → Prop
 | [], st, h, K => K st h
 | s :: r, st, h, K => rfy (rdA st (Y1 st.fr s)) st h fun v st h => match st with
  | ⟨n, fr, bx, ow⟩ => match Nat.blt s n with
   | true => z0d r ⟨n, (s, .val v) :: fr, bx, ow⟩ h K
   | false => False
def x05 (x : Nat) : List Nat → Bool
 | [] => false
 | y :: r => match Nat.beq x y with
  | true => true
  | false => x05 x r
def r0k : List Oper → List Nat → List Nat
 | [], acc => acc
 | o :: r, acc => match o.dst with
  | some d => r0k r (d :: acc)
  | none => r0k r acc
def k0b : Code → List Nat → List Nat
 | .region _ ops _, acc => r0k ops.toList acc
 | .seq a b, acc => k0b a (k0b b acc)
 | .cond _ a b, acc => k0b a (k0b b acc)
 | .block _ a, acc => k0b a acc
 | .loop a, acc => k0b a acc
 | .scope a, acc => k0b a acc
 | _, acc => acc
def Q07 : List Nat → (List Nat → Prop) → Prop
 | [], K => K []
 | x :: r, K => Q07 r fun r => K (x :: r)
def p0j : List Nat → St → (List Value → Prop) → Prop
 | [], _, K => K []
 | s :: r, st, K => match rdA st (Y1 st.fr s) with
  | .val v => p0j r st fun vs => K (v :: vs)
  | _ => False
def A0d : List R4 → St → (List Value → Prop) → Prop
 | [], _, K => K []
 | .val v :: r, st, K => A0d r st fun vs => K (v :: vs)
 | .own _ _ :: r, st, K => A0d r st K
def P09 : List Nat → St → (List Value → Prop) → Prop
 | [], _, K => K []
 | i :: r, st, K => match nth st.bx i with
  | some (.live cs _) => A0d cs st fun vs => P09 r st fun ws => K (vs ++ ws)
  | _ => False
def w0b : List Nat → St → (List (List (List Value)) → Prop) → Prop
 | [], _, K => K []
 | i :: r, st, K => match nth st.ow i with
  | some ⟨_, .live _ _ _ _ xs⟩ => w0b r st fun os => K (xs :: os)
  | _ => False
def p0f (A : Ann) (st : St) (K : List Value → List (List (List Value)) → Prop) : Prop :=
 p0j A.vars st fun vs => P09 A.boxes st fun ws => w0b A.owns st fun os => K (vs ++ ws) os
def k01 : List R4 → List Value → (List R4 → List Value → Prop) → Prop
 | [], vs, K => K [] vs
 | .val _ :: r, v :: vs, K => k01 r vs fun cs rest => K (.val v :: cs) rest
 | .val _ :: _, [], _ => False
 | .own i k :: r, vs, K => k01 r vs fun cs rest => K (.own i k :: cs) rest
def Y02 : List Nat → List Value → List BSt → (List BSt → Prop) → Prop
 | [], _, bx, K => K bx
 | i :: r, vs, bx, K => match nth bx i with
  | some (.live cs ty) => k01 cs vs fun cs rest => Y02 r rest (B8 bx i (.live cs ty)) K
  | _ => False
def Z02 : List Nat → List (List (List Value)) → List Own → (List Own → Prop) → Prop
 | [], _, ow, K => K ow
 | i :: r, xs :: os, ow, K => match nth ow i with
  | some ⟨s, .live e sz by_ nn _⟩ => Z02 r os (B8 ow i ⟨s, .live e sz by_ nn xs⟩) K
  | _ => False
 | _ :: _, [], _, _ => False
def y04 {α : Type} : Nat → List α → (List α → List α → Prop) → Prop
 | 0, l, K => K [] l
 | n + 1, x :: l, K => y04 n l fun a b => K (x :: a) b
 | _ + 1, [], _ => False
def H05 (A : Ann) (st : St) : List Nat → List (Nat × AV) → (List (Nat × AV) → Prop) → Prop
 | [], acc, K => K acc
 | s :: r, acc, K => match x05 s A.vars with
  | true => H05 A st r acc K
  | false => match rdA st (Y1 st.fr s) with
   | .own i k => H05 A st r ((s, .own i k) :: acc) K
   | .box i o => H05 A st r ((s, .box i o) :: acc) K
   | _ => H05 A st r ((s, .dead) :: acc) K
def i0g : List R4 → Bool
 | [] => true
 | .val _ :: r => i0g r
 | .own _ _ :: _ => false
def a03 (A : Ann) (ds : List Nat) (st : St) : List (Nat × AV) → (List (Nat × AV) → Prop) → Prop
 | [], K => K []
 | (s, av) :: r, K => match x05 s ds with
  | true => a03 A ds st r K
  | false => match rdA st av with
   | .own i k => match x05 i A.owns, x05 i A.kept with
    | true, false => a03 A ds st r fun l => K ((s, .dead) :: l)
    | _, _ => a03 A ds st r fun l => K ((s, .own i k) :: l)
   | .oel _ _ _ _ _ => a03 A ds st r fun l => K ((s, .dead) :: l)
   | .agg cs => match i0g cs with
    | true => a03 A ds st r fun l => K ((s, .agg cs) :: l)
    | false => a03 A ds st r fun l => K ((s, .dead) :: l)
   | a => a03 A ds st r fun l => K ((s, a) :: l)
def R07 : List Nat → List Value → List (Nat × AV) → List (Nat × AV)
 | s :: r, v :: vs, acc => R07 r vs ((s, .val v) :: acc)
 | _, _, acc => acc
def Q08 (head end_ : St) : List (Nat × AV) → Bool
 | [] => true
 | (s, av) :: r => match av with
  | .own i _ => match rdA end_ (Y1 end_.fr s) with
   | .own j _ => match Nat.beq i j with
    | true => Q08 head end_ r
    | false => false
   | _ => false
  | .box i o => match rdA end_ (Y1 end_.fr s) with
   | .box j p => match Nat.beq i j, Nat.beq o p with
    | true, true => Q08 head end_ r
    | _, _ => false
   | _ => false
  | _ => Q08 head end_ r
def q0f : AV → Bool
 | .dead => true
 | _ => false
def g0h : List (Nat × AV) → List AV
 | [] => []
 | (_, av) :: r => match q0f av with
  | true => g0h r
  | false => av :: g0h r
def x0b (fr : List (Nat × AV)) : List (Nat × AV) → List AV
 | [] => []
 | (s, av) :: r => match q0f av with
  | true => x0b fr r
  | false => Y1 fr s :: x0b fr r
def b03 (head end_ : St) : List R4 → List R4 → Bool
 | [], [] => true
 | .val _ :: r, .val _ :: r' => b03 head end_ r r'
 | .own i _ :: r, .own j k' :: r' => match Nat.beq i j, rdA end_ (.own j k') with
  | true, .own _ _ => b03 head end_ r r'
  | _, _ => false
 | _, _ => false
def G06 (os : List Nat) : List R4 → Bool
 | [] => true
 | .val _ :: r => G06 os r
 | .own i _ :: r => match x05 i os with
  | true => false
  | false => G06 os r
def r0f (os : List Nat) : BSt → Bool
 | .live cs _ => G06 os cs
 | .publ _ => true
def S07 (A : Ann) (head end_ : St) : Nat → List BSt → List BSt → Prop
 | _, [], _ => True
 | i, b :: r, b' :: r' => match x05 i A.boxes with
  | true => match b, b' with
   | .live cs ty, .live cs' ty' => match Nat.beq ty ty', b03 head end_ cs cs' with
    | true, true => S07 A head end_ (i + 1) r r'
    | _, _ => False
   | _, _ => False
  | false => match r0f A.owns b with
   | true => b' = b ∧ S07 A head end_ (i + 1) r r'
   | false => False
 | _, _ :: _, [] => False
def leB (a b : Bool) : Bool := match a with
 | true => b
 | false => true
def T07 (A : Ann) : Nat → List Own → List Own → Prop
 | _, [], _ => True
 | i, b :: r, b' :: r' => match x05 i A.owns with
  | true => match b, b' with
   | ⟨s, .live e sz by_ nn _⟩, ⟨s', .live e' sz' by' nn' _⟩ => match Nat.beq e e', Nat.beq sz sz', Nat.beq by_ by', leB nn nn', leB (x05 i A.kept) (Nat.beq s s') with
    | true, true, true, true, true => T07 A (i + 1) r r'
    | _, _, _, _, _ => False
   | _, _ => False
  | false => b' = b ∧ T07 A (i + 1) r r'
 | _, _ :: _, [] => False
def H06 : Nat → (List Value → Prop) → Prop
 | 0, K => K []
 | n + 1, K => ∀ v, H06 n fun vs => K (v :: vs)
def I06 : Nat → (List (List (List Value)) → Prop) → Prop
 | 0, K => K []
 | n + 1, K => ∀ xs, I06 n fun os => K (xs :: os)
abbrev U07 := List Value → List (List (List Value)) → Hp → Prop
abbrev b04 := List Value → List (List (List Value)) → Nat
def q0j : List Value → List Value → Bool
 | [], [] => true
 | _ :: r, _ :: r' => q0j r r'
 | _, _ => false
def B0d (A : Ann) (I : U07) (vs : List Value) (os : List (List (List Value))) (h : Hp) : Prop := match A.fuel with
 | false => I vs os h
 | true => ∃ m : Nat, I (.int .i64 m :: vs) os h
def C0d (A : Ann) (I : U07) (μ : b04) (vs : List Value) (os : List (List (List Value))) (X : Nat → Hp → Prop) : Prop := match A.fuel with
 | false => ∀ h', I vs os h' → X (μ vs os) h'
 | true => ∀ (m : Nat) (h' : Hp), I (.int .i64 m :: vs) os h' → X m h'
def r0j (A : Ann) (I : U07) (μ : b04) (m : Nat) (vs : List Value) (os : List (List (List Value))) (h : Hp) : Prop := match A.fuel with
 | false => I vs os h ∧ μ vs os < m
 | true => ∃ m' : Nat, I (.int .i64 m' :: vs) os h ∧ m' < m
def atI (A : Ann) (I : U07) (μ : b04) (m : Nat) (vs : List Value) (os : List (List (List Value))) (h : Hp) : Prop := match A.fuel with
 | false => I vs os h ∧ m = μ vs os
 | true => I (.int .i64 m :: vs) os h
theorem d0i {A : Ann} {I : U07} {μ : b04} {vs : List Value} {os : List (List (List Value))} {h : Hp} (hh : B0d A I vs os h) : ∃ m, atI A I μ m vs os h := by
 unfold B0d at hh
 unfold atI
 cases hf : A.fuel with
 | false => rw [hf] at hh; exact ⟨_, hh, rfl⟩
 | true => rw [hf] at hh; exact hh
theorem e0i {A : Ann} {I : U07} {μ : b04} {vs : List Value} {os : List (List (List Value))} {X : Nat → Hp → Prop} (hh : C0d A I μ vs os X) {m : Nat} {h : Hp} (ha : atI A I μ m vs os h) : X m h := by
 unfold C0d at hh
 unfold atI at ha
 cases hf : A.fuel with
 | false => rw [hf] at hh ha; rw [ha.2]; exact hh _ ha.1
 | true => rw [hf] at hh ha; exact hh _ _ ha
theorem s0j {A : Ann} {I : U07} {μ : b04} {m : Nat} {vs : List Value} {os : List (List (List Value))} {h : Hp} (hh : r0j A I μ m vs os h) : ∃ m', atI A I μ m' vs os h ∧ m' < m := by
 unfold r0j at hh
 unfold atI
 cases hf : A.fuel with
 | false => rw [hf] at hh; exact ⟨_, ⟨hh.1, rfl⟩, hh.2⟩
 | true => rw [hf] at hh; exact hh
def f0i (A : Ann) (dyn sta : List (Nat × AV)) (st0 : St) (I : U07) (μ : b04) (vs0 : List Value) (m : Nat) (st : St) (h : Hp) : Prop :=
 match Nat.beq st.n st0.n, Q08 st0 st dyn with
 | true, true => x0b st.fr sta = g0h sta ∧ S07 A st0 st 0 st0.bx st.bx ∧ T07 A 0 st0.ow st.ow ∧
   p0f A st fun vs os => match q0j vs vs0 with
    | true => y04 A.vars.length vs fun _ v2 => Y02 A.boxes v2 st0.bx fun _ => Z02 A.owns os st0.ow fun _ => r0j A I μ m vs os h
    | false => False
 | _, _ => False
def j0g (body : (Ex → St → Hp → Prop) → St → Hp → Prop) (ds0 : List Nat) (Q : Ex → St → Hp → Prop) (st : St) (h : Hp) : Prop :=
 ∃ (A : Ann) (I : U07) (μ : b04), y0d A.nils st fun st => O09 A.nilsB st fun st => z0d A.pubs st h fun st h => p0f A st fun vs0 os0 => B0d A I vs0 os0 h ∧
  Q07 ds0 fun ds => H05 A st ds [] fun dyn => a03 A ds st st.fr fun sta =>
   H06 vs0.length fun vs => I06 os0.length fun os => C0d A I μ vs os fun m h' =>
    y04 A.vars.length vs fun v1 v2 => Y02 A.boxes v2 st.bx fun bx => Z02 A.owns os st.ow fun ow =>
     body (fun e st' h'' => match e with
      | .normal => z0d A.pubs st' h'' fun st' h'' => f0i A dyn sta st I μ vs m st' h''
      | e => Q e st' h'') ⟨st.n, R07 A.vars v1 (dyn ++ sta), bx, ow⟩ h'
def g0i (b : Bool) (X Y : Prop) : Prop := (b = true → X) ∧ (b = false → Y)
def ev (P : Program) : Code → (Ex → St → Hp → Prop) → St → Hp → Prop
 | .skip, Q, st, h => Q .normal st h
 | .region _ ops false, Q, st, h => match n0j P ops.toList with
  | true => j01 st.n ops.toList = true ∧ evU P ops.toList 0 [] [] st h fun st h => Q .normal st h
  | false => N08 P ops.toList 0 ⟨st, h, [], []⟩ fun rs => Q .normal rs.st rs.h
 | .region _ ops true, Q, st, h => ((P.follows .mixedOrders = true ∧ Region.lexB .any ops = true) ∧
   evQ P ops.toList 0 ⟨st, h, [], []⟩ fun rs => Q .normal rs.st rs.h) ∨
   ((P.follows .mixedOrders = true ∧ w8 st.n ops.toList = true) ∧ evS P ops.toList [] st h fun st h => Q .normal st h) ∨
   (match a0i ops.toList with
    | none => (P.follows .mixedOrders = true ∧ w8 st.n ops.toList = true) ∧ Z00 P st h ops.toList 0 [] [] [] fun L X E => ∃ c, (p00 E = true ∧ J02 X (X ++ E) (E.drop c) = true) ∧ evC (T8 L st ops.toList) ops.size P c E L st h fun st h => Q .normal st h
    | some o => (P.follows .mixedOrders = true ∧ (w8 st.n (Q8 ops.toList) && O08 ops.toList 0) = true) ∧ Z00 P st h (Q8 ops.toList) 0 [] [] [] fun L X E => ∃ c, (p00 E = true ∧ J02 X (X ++ E) (E.drop c) = true) ∧ evC (T8 L st (Q8 ops.toList)) (Q8 ops.toList).length P c E L st h fun st h => p01 P o st h fun st h => Q .normal st h) ∨
   ((P.follows .mixedOrders = true ∧ j01 st.n ops.toList = true) ∧ evU P ops.toList 0 [] [] st h fun st h => Q .normal st h) ∨
   (∃ m, (P.follows .mixedOrders = true ∧ okZ P st.n m ops.toList = true) ∧ evT P (p01 P) m ops.toList st h fun st h => Q .normal st h)
 | .seq a b, Q, st, h => ev P a (fun e st h => match e with
  | .normal => ev P b Q st h
  | e => Q e st h) st h
 | .cond c t e, Q, st, h => match rdO st c with
  | .val (.bool b) => g0i b (ev P t Q st h) (ev P e Q st h)
  | _ => False
 | .block id c, Q, st, h => ev P c (fun e st h => match e with
  | .exit i => match Nat.beq i id with
   | true => Q .normal st h
   | false => Q (.exit i) st h
  | e => Q e st h) st h
 | .loop body, Q, st, h => j0g (fun Q => ev P body Q) (k0b body []) Q st h
 | .exit id, Q, st, h => Q (.exit id) st h
 | .ret, Q, st, h => Q .ret st h
 | _, _, _, _ => False
def s0f (P : Program) : List ResultVar → St → Hp → (List Value → St → Hp → Prop) → Prop
 | [], st, h, K => K [] st h
 | .tmp t :: r, st, h, K => rfy (rdA st (Y1 st.fr t)) st h fun v st h => s0f P r st h fun vs st h => K (v :: vs) st h
 | .cell t ty :: r, st, h, K => match rdA st (Y1 st.fr t) with
  | .box i off => match nth st.bx i with
   | some (.live cs _) => Q01 P ty cs off fun av => rfy av st h fun v st h => s0f P r st h fun vs st h => K (v :: vs) st h
   | _ => False
  | _ => False
def D0d : List Value → Value
 | [v] => v
 | vs => .tuple vs.toArray
def J06 : Nat → List Value → List (Nat × AV)
 | _, [] => []
 | i, v :: r => (i, .val v) :: J06 (i + 1) r
def s0k (P : Program) (fn : Func) (args : List Value) (h : Hp) (T : Value → Hp → Prop) : Prop :=
 match fn.body with
 | some c => match Nat.ble args.length fn.ntmps with
  | true => ev P c (fun e st h => match e with
   | .exit _ => False
   | _ => s0f P fn.results.toList st h fun vs _ h => T (D0d vs) h) ⟨fn.ntmps, J06 0 args, [], []⟩ h
  | false => False
 | none => False
end Go.H
