/- Plain laws over the model: what a function's code asks: regions with guards, regions that draw their order, branches and loops. -/
import Derived.Test.YtfdlgbfeceodeaaGreatH2
namespace Go.H
set_option linter.unusedVariables false
structure BE where
 j : Nat
 d : Nat
 e : Bool
 ch : List (Nat × Bool)
structure RS where
 st : St
 h : Hp
 gf : List (Nat × List (Nat × Bool) × AV)
 bs : List BE
def P09 : List (Nat × List (Nat × Bool) × AV) → Nat → Option (List (Nat × Bool) × AV)
 | [], _ => none
 | (k, x) :: r, s => match Nat.beq k s with
  | true => some x
  | false => P09 r s
def eqB (a b : Bool) : Bool := match a, b with
 | true, true => true
 | false, false => true
 | _, _ => false
def h0i : List (Nat × Bool) → List (Nat × Bool) → Bool
 | [], [] => true
 | (j, w) :: r, (j', w') :: r' => match Nat.beq j j', eqB w w' with
  | true, true => h0i r r'
  | _, _ => false
 | _, _ => false
def s0d (a : List (Nat × Bool)) : List (Nat × Bool) → Bool
 | [] => h0i a []
 | x :: r => match h0i a (x :: r) with
  | true => true
  | false => s0d a r
def rdG (rs : RS) (ch : List (Nat × Bool)) : Operand → AV
 | .tmp t => match P09 rs.gf t with
  | some (ch2, av) => match s0d ch2 ch with
   | true => rdA rs.st av
   | false => .dead
  | none => rdA rs.st (Y1 rs.st.fr t)
 | x => rdO rs.st x
def q00 : List BE → Nat → Option BE
 | [], _ => none
 | b :: r, j => match Nat.beq b.j j with
  | true => some b
  | false => q00 r j
def H06 : List BE → Nat → Option BE
 | [], _ => none
 | b :: r, s => match Nat.beq b.d s with
  | true => some b
  | false => H06 r s
def lit (w e : Bool) : Bool := match w with
 | true => e
 | false => !e
def cB (bs : List BE) : List (Nat × Bool) → Option Bool
 | [] => some true
 | (j, w) :: r => match q00 bs j with
  | some b => match r with
   | [] => some (lit w b.e)
   | _ => match cB bs r with
    | some c => some (lit w b.e && c)
    | none => none
  | none => none
def p8 (bs : List BE) : Option (Nat × Bool) → Option (List (Nat × Bool))
 | none => some []
 | some (j, w) => match q00 bs j with
  | some b => some ((j, w) :: b.ch)
  | none => none
def imp (ch : List (Nat × Bool)) (c : Bool) (X : Prop) : Prop := match ch with
 | [] => X
 | _ => c = true → X
def t0d (rs : RS) (ch : List (Nat × Bool)) : List Operand → Option (List (Nat × Value))
 | [] => some []
 | .tmp t :: r => match W01 (rdG rs ch (.tmp t)) with
  | some v => match t0d rs ch r with
   | some vs => some ((t, v) :: vs)
   | none => none
  | none => none
 | .global _ :: _ => none
 | _ :: r => t0d rs ch r
def t0j (rs : RS) (ch : List (Nat × Bool)) : List Operand → St → Hp → (List (Nat × Value) → St → Hp → Prop) → Prop
 | [], st, h, K => K [] st h
 | .tmp t :: r, st, h, K => rfy (rdA st (rdG rs ch (.tmp t))) st h fun v st h => t0j rs ch r st h fun vs st h => K ((t, v) :: vs) st h
 | .global _ :: _, _, _, _ => False
 | _ :: r, st, h, K => t0j rs ch r st h K
def z0c (P : Program) (o : Oper) (ch : List (Nat × Bool)) (c : Bool) (rs : RS) (K : AV → Prop) : Prop :=
 match R08 o.op, t0d rs ch o.op.operands.toList with
 | false, some vs => match H05 (rho vs) o with
  | some (f, l) => match okF P f with
   | true => ∃ v, imp ch c (Tr P f l.toArray rs.h fun v' h' => v' = v ∧ h' = rs.h) ∧ K (.val v)
   | false => False
  | none => match evP P (p0d (rho vs) o) with
   | some (.value v) => K (.val v)
   | _ => False
 | false, none => ∃ r, imp ch c (t0j rs ch o.op.operands.toList rs.st rs.h fun vs _ hf => match H05 (rho vs) o with
  | some (f, l) => match okF P f with
   | true => Tr P f l.toArray hf fun v h' => v = r ∧ h' = hf
   | false => False
  | none => False) ∧ K (.val r)
 | _, _ => False
def evG (P : Program) (o : Oper) (ch : List (Nat × Bool)) (c : Bool) (rs : RS) (K : AV → Prop) : Prop :=
 match o.op with
 | .move x | .assign x => match rdG rs ch x with
  | .dead => False
  | a => K a
 | .pick (.tmp s) a b => match rdG rs ch (.tmp s), H06 rs.bs s with
  | .val (.bool e), some q => match s0d q.ch ch with
   | true => match rdG rs ((q.j, true) :: q.ch) a, rdG rs ((q.j, false) :: q.ch) b with
    | .val (.bool x), .val (.bool y) => K (.val (.bool (cond e x y)))
    | _, _ => False
   | false => False
  | _, _ => False
 | .fieldAddr t x k => match rdG rs ch x, w0c P t k with
  | .box i off, some fo => K (.box i (off + fo))
  | .hel s i sz k, some fo => K (.hel s i sz (k + fo))
  | .oel i s j sz k, some fo => K (.oel i s j sz (k + fo))
  | _, _ => False
 | .indexAddr t x i => match rdG rs ch i with
  | .val (.int _ j) => match N9 P t with
   | some e => match w5 P e with
    | some sz => match rdG rs ch x with
     | .val (.slice a n cp) => imp ch c (InB (.slice a n cp) j) ∧ K (.hel (.slice a n cp) j sz 0)
     | .own i k => match nth rs.st.ow i with
      | some ⟨_, .live _ sz' _ _ xs⟩ => match Nat.beq sz' sz with
       | true => imp ch c (0 ≤ j ∧ j < (xs.length : Int)) ∧ K (.oel i k j sz 0)
       | false => False
      | _ => False
     | _ => False
    | none => False
   | none => False
  | _ => False
 | .load t x => match rdG rs ch x with
  | .box i off => match nth rs.st.bx i with
   | some (.live cs _) => U01 P t cs off K
   | _ => False
  | .hel s idx sz k => ∃ e, imp ch c (V6 rs.h s sz idx e) ∧ U01 P t (vals e) k K
  | .oel i _ idx sz k => match nth rs.st.ow i with
   | some ⟨_, .live _ sz' _ _ xs⟩ => match Nat.beq sz' sz with
    | true => ∃ e, imp ch c (xs[idx.toNat]? = some e) ∧ U01 P t (vals e) k K
    | false => False
   | _ => False
  | _ => False
 | .build t ps => match P.underlying t, M9 P t with
  | some (.struct fs), some z => match a03 P fs.toList with
   | true => v04 P fs (rdG rs ch) ps.toList (vals z.cells.toList) fun cs => K (.agg cs)
   | false => False
  | _, _ => False
 | .index t x i => match rdG rs ch x, rdG rs ch i, P.underlying t with
  | .val (.string s), .val (.int _ j), some .string => ∃ e, imp ch c (0 ≤ j ∧ s[j.toNat]? = some e) ∧ K (.val (.int .u8 e.toNat))
  | _, _, _ => False
 | .slice t x lo hi none => match rdG rs ch x, P.underlying t with
  | .val (.string s), some .string => match u02 0 (lo.map (rdG rs ch)), u02 s.size (hi.map (rdG rs ch)) with
   | some l, some m => imp ch c (0 ≤ l ∧ l ≤ m ∧ m ≤ (s.size : Int)) ∧ K (.val (.string (s.extract l.toNat m.toNat)))
   | _, _ => False
  | .val (.slice ad n cp), _ => match N9 P t with
   | some e => match w5 P e with
    | some sz => match u02 0 (lo.map (rdG rs ch)), u02 n (hi.map (rdG rs ch)) with
     | some l, some m => ∃ v, imp ch c ((0 ≤ l ∧ l ≤ m ∧ m ≤ (n : Int) ∧ n ≤ cp) ∧ l0f sz (.slice ad n cp) l.toNat m.toNat v) ∧ K (.val v)
     | _, _ => False
    | none => False
   | none => False
  | _, _ => False
 | .binOp .eql t x y yt => match W01 (rdG rs ch x), W01 (rdG rs ch y) with
  | some (.agg xs), some (.agg ys) => ∃ b, imp ch c (S08 P o x y (.agg xs) (.agg ys) b) ∧ K (.val (.bool b))
  | some (.slice a n m), some (.slice none 0 0) => ∃ b, imp ch c (S08 P o x y (.slice a n m) (.slice none 0 0) b) ∧ K (.val (.bool b))
  | _, _ => z0c P o ch c rs K
 | .binOp .neq t x y yt => match W01 (rdG rs ch x), W01 (rdG rs ch y) with
  | some (.agg xs), some (.agg ys) => ∃ b, imp ch c (S08 P o x y (.agg xs) (.agg ys) b) ∧ K (.val (.bool b))
  | _, _ => z0c P o ch c rs K
 | .binOp .add t x y yt => match rdG rs ch x, rdG rs ch y with
  | .val (.string a), .val (.string b) => imp ch c (a.size + b.size ≤ 9223372036854775807) ∧ K (.val (.string (a ++ b)))
  | _, _ => z0c P o ch c rs K
 | .binOp .quo t x y yt => match rdG rs ch x, rdG rs ch y with
  | .val (.int .i64 a), .val (.int .i64 b) => imp ch c (b ≠ 0) ∧ K (.val (.int .i64 (IntKind.i64.wrap (a.tdiv b))))
  | _, _ => z0c P o ch c rs K
 | .binOp .rem t x y yt => match rdG rs ch x, rdG rs ch y with
  | .val (.int .i64 a), .val (.int .i64 b) => imp ch c (b ≠ 0) ∧ K (.val (.int .i64 (a.tmod b)))
  | _, _ => z0c P o ch c rs K
 | .call { callee := .builtin .len, args := as, argTypes := ts } => match as.toList, ts.toList with
  | [x], [t] => match rdG rs ch x with
   | .own i _ => match nth rs.st.ow i, N9 P t with
    | some ⟨_, .live _ _ _ _ xs⟩, some _ => K (.val (.int .i64 xs.length))
    | _, _ => False
   | _ => z0c P o ch c rs K
  | _, _ => False
 | _ => z0c P o ch c rs K
def x04 (rs : RS) (d : Nat) : Bool := match P09 rs.gf d, H06 rs.bs d with
 | none, none => false
 | _, _ => true
def u0d (i d : Nat) (ch : List (Nat × Bool)) (av : AV) (bs : List BE) : List BE := match av with
 | .val (.bool e) => ⟨i, d, e, ch⟩ :: bs
 | _ => bs
def Q09 (d : Option Tmp) (i : Nat) (ch : List (Nat × Bool)) (av : AV) (rs : RS) (K : RS → Prop) : Prop :=
 match d with
 | none => K rs
 | some d => match Nat.blt d rs.st.n, x04 rs d with
  | true, false => match ch with
   | [] => K { rs with st := { rs.st with fr := (d, av) :: rs.st.fr }, bs := u0d i d ch av rs.bs }
   | _ => K { rs with st := { rs.st with fr := (d, .dead) :: rs.st.fr }, gf := (d, ch, av) :: rs.gf, bs := u0d i d ch av rs.bs }
  | _, _ => False
def n0f : Op → Bool
 | .pick .. => true
 | _ => false
def T08 (P : Program) : List Oper → Nat → RS → (RS → Prop) → Prop
 | [], _, rs, K => K rs
 | o :: r, i, rs, K => match o.guard, n0f o.op with
  | none, false => p7 P o rs.st rs.h fun av st h => Q09 o.dst i [] av { rs with st := st, h := h } fun rs => T08 P r (i + 1) rs K
  | _, _ => match p8 rs.bs o.guard with
   | some ch => match cB rs.bs ch with
    | some c => evG P o ch c rs fun av => Q09 o.dst i ch av rs fun rs => T08 P r (i + 1) rs K
    | none => False
   | none => False
def evQ (P : Program) : List Oper → Nat → RS → (RS → Prop) → Prop
 | [], _, rs, K => K rs
 | o :: r, i, rs, K => match p8 rs.bs o.guard with
  | some ch => match cB rs.bs ch with
   | some c => evG P o ch c rs fun av => Q09 o.dst i ch av rs fun rs => evQ P r (i + 1) rs K
   | none => False
  | none => False
def Sub (h h' : Hp) : Prop := ∀ b o, h b = some o → h' b = some o
def i0i (v : Value) (K : Value → Prop) : Prop := match v with
 | .bool b => K (.bool b)
 | .int k n => K (.int k n)
 | .string s => K (.string s)
 | .pointer a => K (.pointer a)
 | .slice a n c => K (.slice a n c)
 | .func f x y => K (.func f x y)
 | .agg cs => K (.agg cs)
 | .tuple vs => K (.tuple vs)
 | v => K v
theorem m0h (v : Value) (K : Value → Prop) : i0i v K = K v := by cases v <;> rfl
def H9 {α : Type} : List α → (List α → Prop) → Prop
 | [], K => K []
 | x :: r, K => H9 r fun r => K (x :: r)
theorem i00 {α : Type} : ∀ (l : List α) (K : List α → Prop), H9 l K = K l
 | [], K => rfl
 | x :: r, K => by simp only [H9, i00 r]
def X01 : Nat → (Nat → Prop) → Prop
 | 0, K => K 0
 | n + 1, K => X01 n fun m => K (m + 1)
theorem y04 : ∀ (n : Nat) (K : Nat → Prop), X01 n K = K n
 | 0, K => rfl
 | n + 1, K => by simp only [X01, y04 n]
def x00 (av : AV) (K : AV → Prop) : Prop := match av with
 | .val v => i0i v fun v => K (.val v)
 | .own i k => K (.own i k)
 | .box i k => K (.box i k)
 | .hel s i z k => X01 z fun z => X01 k fun k => K (.hel s i z k)
 | .oel j s i z k => X01 z fun z => X01 k fun k => K (.oel j s i z k)
 | .agg cs => H9 cs fun cs => K (.agg cs)
 | .dead => K .dead
theorem j00 (av : AV) (K : AV → Prop) : x00 av K = K av := by
 cases av with
 | val v => exact m0h v (fun v => K (.val v))
 | hel s i z k => simp only [x00, y04]
 | oel j s i z k => simp only [x00, y04]
 | agg cs => simp only [x00, i00]
 | _ => rfl
inductive A5 where
 | pu (av : AV)
 | ef (F : Value → Hp → Prop)
def G1 : List (Nat × A5) → Nat → Option A5
 | [], _ => none
 | (k, x) :: r, s => match Nat.beq k s with
  | true => some x
  | false => G1 r s
def rdS (L : List (Nat × A5)) (st : St) : Operand → AV
 | .tmp t => match G1 L t with
  | some (.pu av) => rdA st av
  | some (.ef _) => .dead
  | none => rdA st (Y1 st.fr t)
 | x => rdO st x
def R09 (P : Program) (t : TypeId) (cs : List R4) (off : Nat) : Option AV :=
 match v0c P t with
 | some true => match w5 P t with
  | some n => match t04 ((cs.drop off).take n) n with
   | true => some (.agg ((cs.drop off).take n))
   | false => none
  | none => none
 | some false => match nth cs off with
  | some c => some (ofCell c)
  | none => none
 | none => none
def a06 (P : Program) (L : List (Nat × A5)) (o : Oper) (st : St) : Option AV := match o.op with
 | .move x | .assign x => match rdS L st x with
  | .dead => none
  | a => some a
 | .load t x => match rdS L st x with
  | .box i off => match nth st.bx i with
   | some (.live cs _) => R09 P t cs off
   | _ => none
  | _ => none
 | _ => none
def z04 (L : List (Nat × A5)) (st : St) (h : Hp) : List Operand → List (Nat × AV) → (List (Nat × AV) → Prop) → Prop
 | [], acc, K => K acc
 | .tmp t :: r, acc, K => match G1 L t with
  | some (.pu av) => z04 L st h r ((t, av) :: acc) K
  | some (.ef F) => ∀ v, F v h → z04 L st h r ((t, .val v) :: acc) K
  | none => z04 L st h r ((t, Y1 st.fr t) :: acc) K
 | _ :: r, acc, K => z04 L st h r acc K
def v0d (h : Hp) : List (Nat × A5) → List (Nat × AV) → (List (Nat × AV) → Prop) → Prop
 | [], fr, K => K fr
 | (d, .pu av) :: r, fr, K => v0d h r ((d, av) :: fr) K
 | (d, .ef F) :: r, fr, K => ∀ v, F v h → v0d h r ((d, .val v) :: fr) K
def Y01 (d : Option Tmp) (f : A5) (L : List (Nat × A5)) : List (Nat × A5) := match d with
 | some d => (d, f) :: L
 | none => L
def e0k (st : St) (h : Hp) (F : Value → Hp → Prop) : AV → St → Hp → Prop
 | .val v, st', h' => st' = st ∧ Sub h h' ∧ F v h'
 | _, _, _ => False
def evS (P : Program) : List Oper → List (Nat × A5) → St → Hp → (St → Hp → Prop) → Prop
 | [], L, ⟨n, fr, bx, ow⟩, h, K => ∀ h', Sub h h' → v0d h' L fr fun fr => K ⟨n, fr, bx, ow⟩ h'
 | o :: r, L, ⟨n, fr, bx, ow⟩, h, K => match o.guard with
  | some _ => False
  | none => match a06 P L o ⟨n, fr, bx, ow⟩ with
   | some av => x00 av fun av => evS P r (Y01 o.dst (.pu av) L) ⟨n, fr, bx, ow⟩ h K
   | none => ∃ F : Value → Hp → Prop, (∀ v h1 h2, Sub h1 h2 → F v h1 → F v h2) ∧
     (∀ h', Sub h h' → z04 L ⟨n, fr, bx, ow⟩ h' o.op.operands.toList [] fun fr => p7 P o ⟨n, fr, bx, ow⟩ h' (e0k ⟨n, fr, bx, ow⟩ h' F)) ∧
     evS P r (Y01 o.dst (.ef F) L) ⟨n, fr, bx, ow⟩ h K
def E8 (i : Nat) (o : Oper) : Bool := o.after.toList.any fun e => Region.binds .any e && Nat.beq e.on i
def k00 (o : Oper) (t : Nat) : List Oper → Nat → Bool
 | [], _ => true
 | x :: r, i => match x.dst with
  | some d => match Nat.beq d t with
   | true => E8 i o && k00 o t r (i + 1)
   | false => k00 o t r (i + 1)
  | none => k00 o t r (i + 1)
def I06 (o : Oper) (ops : List Oper) : List Operand → Bool
 | [] => true
 | .tmp t :: r => k00 o t ops 0 && I06 o ops r
 | _ :: r => I06 o ops r
def A04 (d : Nat) : List Oper → Bool
 | [] => true
 | o :: r => match o.dst with
  | some d' => !Nat.beq d d' && A04 d r
  | none => A04 d r
def w0d (n : Nat) : List Oper → Bool
 | [] => true
 | o :: r => match o.dst with
  | some d => Nat.blt d n && A04 d r && w0d n r
  | none => w0d n r
def U08 : List Oper → Nat → Bool
 | [], _ => true
 | o :: r, j => (o.after.toList.all fun e => !Region.binds .any e || Nat.blt e.on j) && U08 r (j + 1)
def k0g (ops : List Oper) : List Oper → Bool
 | [] => true
 | o :: r => I06 o ops o.op.operands.toList && k0g ops r
def z8 (n : Nat) (ops : List Oper) : Bool := w0d n ops && U08 ops 0 && k0g ops ops
def l0g : List R4 → Bool
 | [] => true
 | .val _ :: r => l0g r
 | .own _ _ :: _ => false
def A0c : AV → Bool
 | .val _ => true
 | .box _ _ => true
 | .own _ _ => true
 | .agg cs => l0g cs
 | _ => false
def O02 (L : List (Nat × A5)) (st : St) : Operand → AV
 | .tmp t => match G1 L t with
  | some (.pu av) => av
  | some (.ef _) => .dead
  | none => Y1 st.fr t
 | .const v => .val v
 | _ => .dead
def V08 (L : List (Nat × A5)) (st : St) : List Operand → Option (List (Nat × Value))
 | [] => some []
 | .tmp t :: r => match O02 L st (.tmp t) with
  | .val v => match V08 L st r with
   | some vs => some ((t, v) :: vs)
   | none => none
  | _ => none
 | .global _ :: _ => none
 | _ :: r => V08 L st r
def o0f (P : Program) (L : List (Nat × A5)) (o : Oper) (st : St) : Option AV := match R08 o.op, V08 L st o.op.operands.toList with
 | false, some vs => match H05 (rho vs) o with
  | some _ => none
  | none => match evP P (p0d (rho vs) o) with
   | some (.value v) => some (.val v)
   | _ => none
 | _, _ => none
def c0l : AV → Bool
 | .val (.int _ _) => true
 | _ => false
def s0l : BinOp → Bool
 | .lss => true
 | .leq => true
 | .gtr => true
 | .geq => true
 | _ => false
def I05 (P : Program) (L : List (Nat × A5)) (o : Oper) (st : St) : Option AV := match o.op with
 | .move x => match A0c (O02 L st x) with
  | true => some (O02 L st x)
  | false => none
 | .assign x => match A0c (O02 L st x) with
  | true => some (O02 L st x)
  | false => none
 | .load t x => match O02 L st x with
  | .box i off => match nth st.bx i with
   | some (.live cs _) => match R09 P t cs off with
    | some av => match A0c av with
     | true => some av
     | false => none
    | none => none
   | _ => none
  | _ => none
 | .fieldAddr t x k => match O02 L st x, w0c P t k with
  | .box i off, some fo => some (.box i (off + fo))
  | _, _ => none
 | .binOp op _ x y _ => match s0l op, c0l (O02 L st x), c0l (O02 L st y) with
  | true, true, true => o0f P L o st
  | _, _, _ => none
 | .call { callee := .builtin .len, args := as, argTypes := _ } => match as.toList with
  | [x] => match O02 L st x with
   | .val (.slice _ _ _) => o0f P L o st
   | _ => none
  | _ => none
 | _ => none
def V8 (L : List (Nat × A5)) (st : St) : List Oper → List Nat
 | [] => []
 | o :: r => match o.op with
  | .load _ x => match O02 L st x with
   | .box i _ => i :: V8 L st r
   | _ => V8 L st r
  | _ => V8 L st r
def J05 (bx : List BSt) : List Nat → List (Option BSt)
 | [] => []
 | i :: r => nth bx i :: J05 bx r
def B04 (L : List (Nat × A5)) (fr0 : List (Nat × AV)) : List Operand → List (Nat × AV) → (List (Nat × AV) → Prop) → Prop
 | [], acc, K => K acc
 | .tmp t :: r, acc, K => match G1 L t with
  | some (.pu av) => B04 L fr0 r ((t, av) :: acc) K
  | some (.ef _) => B04 L fr0 r ((t, .dead) :: acc) K
  | none => B04 L fr0 r ((t, Y1 fr0 t) :: acc) K
 | _ :: r, acc, K => B04 L fr0 r acc K
def p0f : List (Nat × A5) → List (Nat × AV) → List (Nat × AV)
 | [], fr => fr
 | (d, .pu av) :: r, fr => (d, av) :: p0f r fr
 | (d, .ef _) :: r, fr => (d, .dead) :: p0f r fr
def m0g (av : AV) (st : St) (h : Hp) : AV → St → Hp → Prop := fun av' st' h' => av' = av ∧ st' = st ∧ h' = h
def x0d (P : Program) (st : St) (h : Hp) (L : List (Nat × A5)) (o : Oper) (av : AV) : Prop :=
 match st with
 | ⟨n, fr, bx, ow⟩ => ∀ h', Sub h h' → B04 L fr o.op.operands.toList [] fun fr => p7 P o ⟨n, fr, bx, ow⟩ h' (m0g av ⟨n, fr, bx, ow⟩ h')
def b01 (P : Program) (st : St) (h : Hp) : List Oper → Nat → List (Nat × A5) → List (Nat × Oper) → List (Nat × Oper) → (List (Nat × A5) → List (Nat × Oper) → List (Nat × Oper) → Prop) → Prop
 | [], _, L, X, E, K => K L X E
 | o :: r, i, L, X, E, K => match o.guard with
  | some _ => False
  | none => match I05 P L o st with
   | some av => x00 av fun av => b01 P st h r (i + 1) (Y01 o.dst (.pu av) L) X E K
   | none => (∃ av, x0d P st h L o av ∧ x00 av fun av => b01 P st h r (i + 1) (Y01 o.dst (.pu av) L) (X ++ [(i, o)]) E K) ∨
     b01 P st h r (i + 1) (Y01 o.dst (.ef fun _ _ => True) L) X (E ++ [(i, o)]) K
def B0c (X : List (Nat × Oper)) : Nat → Nat → Oper → Bool
 | 0, i, q => E8 i q
 | n + 1, i, q => E8 i q || X.any fun y => E8 y.1 q && B0c X n i y.2
def P02 (X Y : List (Nat × Oper)) : List (Nat × Oper) → Bool
 | [] => true
 | (_, q) :: _ => X.all fun x => B0c Y 8 x.1 q
def r00 : List (Nat × Oper) → Bool
 | (i, o) :: (j, o') :: r => E8 i o' && r00 ((j, o') :: r)
 | _ => true
def Z01 : Nat → Nat → Oper → Bool
 | 0, _, _ => true
 | k + 1, i, o => (Nat.beq k i || E8 k o) && Z01 k i o
def C04 (d : Nat) : List Operand → Bool
 | [] => false
 | .tmp t :: r => Nat.beq t d || C04 d r
 | _ :: r => C04 d r
def S09 (d : Nat) : List Oper → Bool
 | [] => false
 | o :: r => C04 d o.op.operands.toList || S09 d r
def S8 : List Oper → List Oper
 | [] => []
 | o :: r => match r with
  | [] => []
  | _ :: _ => o :: S8 r
def T09 : List Oper → Option Oper
 | [] => none
 | o :: r => match r with
  | [] => some o
  | _ :: _ => T09 r
def j0i (ops : List Oper) : Option Oper := match T09 ops with
 | some o => match o.guard, o.dst with
  | none, some d => match S09 d (S8 ops) && Z01 (S8 ops).length (S8 ops).length o with
   | true => some o
   | false => none
  | _, _ => none
 | none => none
def u01 (P : Program) (o : Oper) (st : St) (h : Hp) (K : St → Hp → Prop) : Prop :=
 p7 P o st h fun av st h => Q09 o.dst 0 [] av ⟨st, h, [], []⟩ fun rs => K rs.st rs.h
def n0g (N i : Nat) (o : Oper) : List (Nat × Oper) → Bool
 | [] => Z01 N i o
 | _ :: _ => false
def d0l (c : Nat) (b : Bool) (rd : List Nat) (bx bx' : List BSt) : Prop := match b with
 | true => True
 | false => match c with
  | 0 => J05 bx' rd = J05 bx rd
  | _ + 1 => bx' = bx
def w0k : Nat → List Own → List Own → Hp → Hp → Prop
 | 0, _, _, _, _ => True
 | _ + 1, ow, ow', h, h' => ow' = ow ∧ Sub h h'
def evC (rd : List Nat) (N : Nat) (P : Program) : Nat → List (Nat × Oper) → List (Nat × A5) → St → Hp → (St → Hp → Prop) → Prop
 | _, [], L, ⟨n, fr, bx, ow⟩, h, K => H9 (p0f L fr) fun fr => K ⟨n, fr, bx, ow⟩ h
 | c, (i, o) :: r, L, ⟨n, fr, bx, ow⟩, h, K => B04 L fr o.op.operands.toList [] fun fr1 => p7 P o ⟨n, fr1, bx, ow⟩ h fun av st' h' => match st' with
  | ⟨_, _, bx', ow'⟩ => w0k c ow ow' h h' ∧ d0l c (n0g N i o r) rd bx bx' ∧ x00 av fun av => H9 bx' fun bx' => H9 ow' fun ow' => evC rd N P (c - 1) r (Y01 o.dst (.pu av) L) ⟨n, fr, bx', ow'⟩ h' K
abbrev FL := List (Nat × List (Nat × Bool) × A5)
def X00 : FL → Nat → Option (List (Nat × Bool) × A5)
 | [], _ => none
 | (k, x) :: r, s => match Nat.beq k s with
  | true => some x
  | false => X00 r s
def rdU (L : FL) (st : St) (ch : List (Nat × Bool)) : Operand → AV
 | .tmp t => match X00 L t with
  | some (ch2, .pu av) => match s0d ch2 ch with
   | true => rdA st av
   | false => .dead
  | some (_, .ef _) => .dead
  | none => rdA st (Y1 st.fr t)
 | x => rdO st x
def K05 (P : Program) (L : FL) (bs : List BE) (ch : List (Nat × Bool)) (o : Oper) (st : St) : Option AV := match o.op with
 | .move x | .assign x => match rdU L st ch x with
  | .dead => none
  | a => some a
 | .load t x => match rdU L st ch x with
  | .box i off => match nth st.bx i with
   | some (.live cs _) => R09 P t cs off
   | _ => none
  | _ => none
 | .fieldAddr t x k => match rdU L st ch x, w0c P t k with
  | .box i off, some fo => some (.box i (off + fo))
  | .hel s i sz k, some fo => some (.hel s i sz (k + fo))
  | _, _ => none
 | .pick (.tmp s) a b => match rdU L st ch (.tmp s), H06 bs s with
  | .val (.bool e), some q => match s0d q.ch ch with
   | true => match rdU L st ((q.j, true) :: q.ch) a, rdU L st ((q.j, false) :: q.ch) b with
    | .val (.bool x), .val (.bool y) => some (.val (.bool (cond e x y)))
    | _, _ => none
   | false => none
  | _, _ => none
 | _ => none
def f04 (L : FL) (st : St) (h : Hp) (ch : List (Nat × Bool)) : List Operand → List (Nat × AV) → (List (Nat × AV) → Prop) → Prop
 | [], acc, K => K acc
 | .tmp t :: r, acc, K => match X00 L t with
  | some (ch2, f) => match s0d ch2 ch with
   | true => match f with
    | .pu av => f04 L st h ch r ((t, av) :: acc) K
    | .ef F => ∀ v, F v h → f04 L st h ch r ((t, .val v) :: acc) K
   | false => False
  | none => f04 L st h ch r ((t, Y1 st.fr t) :: acc) K
 | _ :: r, acc, K => f04 L st h ch r acc K
def o0b (h : Hp) : FL → List (Nat × AV) → (List (Nat × AV) → Prop) → Prop
 | [], fr, K => K fr
 | (d, [], .pu av) :: r, fr, K => o0b h r ((d, av) :: fr) K
 | (d, [], .ef F) :: r, fr, K => ∀ v, F v h → o0b h r ((d, .val v) :: fr) K
 | (d, _ :: _, _) :: r, fr, K => o0b h r ((d, .dead) :: fr) K
def C0c (d : Option Tmp) (ch : List (Nat × Bool)) (f : A5) (L : FL) : FL := match d with
 | some d => (d, ch, f) :: L
 | none => L
def D0c (i : Nat) (d : Option Tmp) (ch : List (Nat × Bool)) (av : AV) (bs : List BE) : List BE := match d with
 | some d => match av with
  | .val (.bool e) => ⟨i, d, e, ch⟩ :: bs
  | _ => bs
 | none => bs
def q0f (st st' : St) : Prop := st'.n = st.n ∧ st'.fr = st.fr ∧ st'.bx = st.bx ∧ ∃ t, st'.ow = st.ow ++ t
def k0i (st : St) (h : Hp) (F : Value → Hp → Prop) : AV → St → Hp → Prop := fun av st' h' => rfy av st' h' fun v st'' h'' => q0f st st'' ∧ Sub h h'' ∧ F v h''
def evU (P : Program) (l : List Oper) : Nat → FL → List BE → St → Hp → (St → Hp → Prop) → Prop :=
  List.rec (motive := fun _ => Nat → FL → List BE → St → Hp → (St → Hp → Prop) → Prop)
    (fun _ L _ st h K => match st with
      | ⟨n, fr, bx, ow⟩ => ∀ h', Sub h h' → o0b h' L fr fun fr => K ⟨n, fr, bx, ow⟩ h')
    (fun o _ ih i L bs st h K => match st with
      | ⟨n, fr, bx, ow⟩ => match p8 bs o.guard with
        | some ch => match cB bs ch with
          | some c => match K05 P L bs ch o ⟨n, fr, bx, ow⟩ with
            | some av => x00 av fun av => ih (i + 1) (C0c o.dst ch (.pu av) L) (D0c i o.dst ch av bs) ⟨n, fr, bx, ow⟩ h K
            | none => (∃ av, (∀ h', Sub h h' → imp ch c (f04 L ⟨n, fr, bx, ow⟩ h' ch o.op.operands.toList [] fun fr => p7 P o ⟨n, fr, bx, ow⟩ h' (m0g av ⟨n, fr, bx, ow⟩ h'))) ∧
                  x00 av fun av => ih (i + 1) (C0c o.dst ch (.pu av) L) (D0c i o.dst ch av bs) ⟨n, fr, bx, ow⟩ h K) ∨
                (∃ F : Value → Hp → Prop, (∀ v h1 h2, Sub h1 h2 → F v h1 → F v h2) ∧
                  (∀ h', Sub h h' → imp ch c (f04 L ⟨n, fr, bx, ow⟩ h' ch o.op.operands.toList [] fun fr => p7 P o ⟨n, fr, bx, ow⟩ h' (k0i ⟨n, fr, bx, ow⟩ h' F))) ∧
                  ih (i + 1) (C0c o.dst ch (.ef F) L) bs ⟨n, fr, bx, ow⟩ h K)
          | none => False
        | none => False) l
def D09 : List Oper → Bool
 | [] => true
 | o :: r => (match o.guard with
  | some (j, _) => E8 j o
  | none => true) && D09 r
def m01 (n : Nat) (ops : List Oper) : Bool := z8 n ops && D09 ops
def u0j (P : Program) : List Oper → Bool
 | [] => false
 | o :: r => (match o.guard, o.op with
  | some _, .call { callee := .value _, args := _, argTypes := _ } => match P.underlying o.type with
   | some (.slice _) => true
   | some (.struct _) => true
   | some (.tuple _) => true
   | _ => false
  | _, _ => false) || u0j P r
def L01 (o : Oper) : Bool := match o.op with
 | .alloc _ => true
 | _ => false
def A8 (o : Oper) : Oper := match o.op with
 | .alloc _ => { o with op := .move (.const undef) }
 | _ => o
def N4 : List Oper → List Oper
 | [] => []
 | o :: r => A8 o :: N4 r
def okA (P : Program) (all : List Oper) : List Oper → Bool
 | [] => true
 | o :: r => (match o.op with
  | .alloc t => (match o.guard, o.dst, M9 P t with
   | none, some d, some _ => !S09 d all
   | _, _, _ => false)
  | _ => true) && okA P all r
def r0f (x : Nat) : List Nat → Bool
 | [] => false
 | y :: r => Nat.beq x y || r0f x r
def v0j (ops : List Oper) (i : Nat) : List Nat → Bool
 | [] => false
 | j :: r => (match nth ops j with
  | some o => E8 i o
  | none => false) || v0j ops i r
def A0b (ops : List Oper) : Nat → List Nat → List Nat
 | 0, acc => acc
 | i + 1, acc => match v0j ops i acc with
  | true => A0b ops i (i :: acc)
  | false => A0b ops i acc
def J06 (o : Oper) : Option Nat := match o.guard with
 | some _ => none
 | none => match o.op with
  | .extract (.tmp t) _ => some t
  | .move (.tmp t) => some t
  | .assign (.tmp t) => some t
  | _ => none
def K06 (d : Nat) : List Oper → Bool
 | [] => false
 | o :: r => (match o.dst with
  | some e => Nat.beq e d
  | none => false) || K06 d r
def d03 (ml : List Nat) (t : Nat) : List Oper → Nat → Bool
 | [], _ => true
 | o :: r, i => (match o.dst with
  | some e => !Nat.beq e t || r0f i ml
  | none => true) && d03 ml t r (i + 1)
def e03 (i d : Nat) : List Oper → Bool
 | [] => true
 | o :: r => (!C04 d o.op.operands.toList || E8 i o) && e03 i d r
def o0g (pre tl : List Oper) (ml : List Nat) (i : Nat) (o : Oper) : Bool := match J06 o, o.dst with
 | some t, some d => !K06 d tl && !K06 t tl && d03 ml t pre 0 && e03 i d tl
 | _, _ => false
def E09 (pre tl : List Oper) (ml : List Nat) : List Oper → Nat → Bool
 | [], _ => true
 | o :: r, i => (r0f i ml || o0g pre tl ml i o) && E09 pre tl ml r (i + 1)
def y0d : List Oper → Bool
 | [] => true
 | o :: r => !R08 o.op && y0d r
def l0i : Nat → List Oper → Bool
 | _, [] => true
 | k, o :: r => (match o.guard with
  | none => true
  | some _ => false) && (match r with
  | [] => true
  | o' :: _ => E8 k o') && l0i (k + 1) r
def e0l : List Oper → Bool
 | [] => true
 | _ :: _ => false
def okZ (P : Program) (n m : Nat) (ops : List Oper) : Bool :=
 m01 n (N4 (ops.take m)) && okA P (ops.take m) (ops.take m) && U08 ops 0 && l0i m (ops.drop m) && (e0l (ops.drop m) || (E09 (ops.take m) (ops.drop m) (A0b ops m [m]) (ops.take m) 0 && y0d (ops.drop m)))
abbrev x0k := Oper → St → Hp → (St → Hp → Prop) → Prop
def doA (R : x0k) (l : List Oper) : St → Hp → (St → Hp → Prop) → Prop :=
 List.rec (motive := fun _ => St → Hp → (St → Hp → Prop) → Prop) (fun st h K => K st h) (fun o _ ih st h K => match L01 o with
  | true => R o st h fun st h => ih st h K
  | false => ih st h K) l
def doT (R : x0k) (l : List Oper) : St → Hp → (St → Hp → Prop) → Prop :=
 List.rec (motive := fun _ => St → Hp → (St → Hp → Prop) → Prop) (fun st h K => K st h) (fun o _ ih st h K => R o st h fun st h => ih st h K) l
def evT (P : Program) (R : x0k) (m : Nat) (ops : List Oper) (st : St) (h : Hp) (K : St → Hp → Prop) : Prop :=
 evU P (N4 (ops.take m)) 0 [] [] st h fun st h => doA R (ops.take m) st h fun st h => doT R (ops.drop m) st h K
inductive Ex where
 | normal | ret
 | exit (i : Nat)
structure Ann where
 vars : List Nat
 boxes : List Nat
 owns : List Nat
 nils : List (Nat × Nat × Nat × Nat) := []
 nilsB : List (Nat × Nat × Nat × Nat × Nat) := []
 kept : List Nat := []
 fuel : Bool := false
 pubs : List Nat := []
def z0d : List (Nat × Nat × Nat × Nat) → St → (St → Prop) → Prop
 | [], st, K => K st
 | (s, e, sz, by_) :: r, ⟨n, fr, bx, ow⟩, K => match rdA ⟨n, fr, bx, ow⟩ (Y1 fr s), Nat.blt s n with
  | .val (.slice none 0 0), true => j0f ow fun k => z0d r ⟨n, (s, .own k 0) :: fr, bx, ow ++ [⟨0, .live e sz by_ false []⟩]⟩ K
  | _, _ => False
def U09 : List (Nat × Nat × Nat × Nat × Nat) → St → (St → Prop) → Prop
 | [], st, K => K st
 | (i, k, e, sz, by_) :: r, ⟨n, fr, bx, ow⟩, K => match nth bx i with
  | some (.live cs ty) => match nth cs k with
   | some (.val (.slice none 0 0)) => j0f ow fun j => U09 r ⟨n, fr, D8 bx i (.live (D8 cs k (.own j 0)) ty), ow ++ [⟨0, .live e sz by_ false []⟩]⟩ K
   | _ => False
  | _ => False
def A0d : List Nat → St → Hp → (St → Hp → Prop) → Prop
 | [], st, h, K => K st h
 | s :: r, st, h, K => rfy (rdA st (Y1 st.fr s)) st h fun v st h => match st with
  | ⟨n, fr, bx, ow⟩ => match Nat.blt s n with
   | true => A0d r ⟨n, (s, .val v) :: fr, bx, ow⟩ h K
   | false => False
def B05 (x : Nat) : List Nat → Bool
 | [] => false
 | y :: r => match Nat.beq x y with
  | true => true
  | false => B05 x r
def y0k : List Oper → List Nat → List Nat
 | [], acc => acc
 | o :: r, acc => match o.dst with
  | some d => y0k r (d :: acc)
  | none => y0k r acc
def p0b : Code → List Nat → List Nat
 | .region _ ops _, acc => y0k ops.toList acc
 | .seq a b, acc => p0b a (p0b b acc)
 | .cond _ a b, acc => p0b a (p0b b acc)
 | .block _ a, acc => p0b a acc
 | .loop a, acc => p0b a acc
 | .scope a, acc => p0b a acc
 | _, acc => acc
def U07 : List Nat → (List Nat → Prop) → Prop
 | [], K => K []
 | x :: r, K => U07 r fun r => K (x :: r)
def w0j : List Nat → St → (List Value → Prop) → Prop
 | [], _, K => K []
 | s :: r, st, K => match rdA st (Y1 st.fr s) with
  | .val v => w0j r st fun vs => K (v :: vs)
  | _ => False
def B0d : List R4 → St → (List Value → Prop) → Prop
 | [], _, K => K []
 | .val v :: r, st, K => B0d r st fun vs => K (v :: vs)
 | .own _ _ :: r, st, K => B0d r st K
def V09 : List Nat → St → (List Value → Prop) → Prop
 | [], _, K => K []
 | i :: r, st, K => match nth st.bx i with
  | some (.live cs _) => B0d cs st fun vs => V09 r st fun ws => K (vs ++ ws)
  | _ => False
def B0b : List Nat → St → (List (List (List Value)) → Prop) → Prop
 | [], _, K => K []
 | i :: r, st, K => match nth st.ow i with
  | some ⟨_, .live _ _ _ _ xs⟩ => B0b r st fun os => K (xs :: os)
  | _ => False
def s0f (A : Ann) (st : St) (K : List Value → List (List (List Value)) → Prop) : Prop :=
 w0j A.vars st fun vs => V09 A.boxes st fun ws => B0b A.owns st fun os => K (vs ++ ws) os
def n01 : List R4 → List Value → (List R4 → List Value → Prop) → Prop
 | [], vs, K => K [] vs
 | .val _ :: r, v :: vs, K => n01 r vs fun cs rest => K (.val v :: cs) rest
 | .val _ :: _, [], _ => False
 | .own i k :: r, vs, K => n01 r vs fun cs rest => K (.own i k :: cs) rest
def f03 : List Nat → List Value → List BSt → (List BSt → Prop) → Prop
 | [], _, bx, K => K bx
 | i :: r, vs, bx, K => match nth bx i with
  | some (.live cs ty) => n01 cs vs fun cs rest => f03 r rest (D8 bx i (.live cs ty)) K
  | _ => False
def g03 : List Nat → List (List (List Value)) → List Own → (List Own → Prop) → Prop
 | [], _, ow, K => K ow
 | i :: r, xs :: os, ow, K => match nth ow i with
  | some ⟨s, .live e sz by_ nn _⟩ => g03 r os (D8 ow i ⟨s, .live e sz by_ nn xs⟩) K
  | _ => False
 | _ :: _, [], _, _ => False
def D04 {α : Type} : Nat → List α → (List α → List α → Prop) → Prop
 | 0, l, K => K [] l
 | n + 1, x :: l, K => D04 n l fun a b => K (x :: a) b
 | _ + 1, [], _ => False
def L05 (A : Ann) (st : St) : List Nat → List (Nat × AV) → (List (Nat × AV) → Prop) → Prop
 | [], acc, K => K acc
 | s :: r, acc, K => match B05 s A.vars with
  | true => L05 A st r acc K
  | false => match rdA st (Y1 st.fr s) with
   | .own i k => L05 A st r ((s, .own i k) :: acc) K
   | .box i o => L05 A st r ((s, .box i o) :: acc) K
   | _ => L05 A st r ((s, .dead) :: acc) K
def p0g : List R4 → Bool
 | [] => true
 | .val _ :: r => p0g r
 | .own _ _ :: _ => false
def h03 (A : Ann) (ds : List Nat) (st : St) : List (Nat × AV) → (List (Nat × AV) → Prop) → Prop
 | [], K => K []
 | (s, av) :: r, K => match B05 s ds with
  | true => h03 A ds st r K
  | false => match rdA st av with
   | .own i k => match B05 i A.owns, B05 i A.kept with
    | true, false => h03 A ds st r fun l => K ((s, .dead) :: l)
    | _, _ => h03 A ds st r fun l => K ((s, .own i k) :: l)
   | .oel _ _ _ _ _ => h03 A ds st r fun l => K ((s, .dead) :: l)
   | .agg cs => match p0g cs with
    | true => h03 A ds st r fun l => K ((s, .agg cs) :: l)
    | false => h03 A ds st r fun l => K ((s, .dead) :: l)
   | a => h03 A ds st r fun l => K ((s, a) :: l)
def V07 : List Nat → List Value → List (Nat × AV) → List (Nat × AV)
 | s :: r, v :: vs, acc => V07 r vs ((s, .val v) :: acc)
 | _, _, acc => acc
def W08 (head end_ : St) : List (Nat × AV) → Bool
 | [] => true
 | (s, av) :: r => match av with
  | .own i _ => match rdA end_ (Y1 end_.fr s) with
   | .own j _ => match Nat.beq i j with
    | true => W08 head end_ r
    | false => false
   | _ => false
  | .box i o => match rdA end_ (Y1 end_.fr s) with
   | .box j p => match Nat.beq i j, Nat.beq o p with
    | true, true => W08 head end_ r
    | _, _ => false
   | _ => false
  | _ => W08 head end_ r
def t0f : AV → Bool
 | .dead => true
 | _ => false
def n0h : List (Nat × AV) → List AV
 | [] => []
 | (_, av) :: r => match t0f av with
  | true => n0h r
  | false => av :: n0h r
def C0b (fr : List (Nat × AV)) : List (Nat × AV) → List AV
 | [] => []
 | (s, av) :: r => match t0f av with
  | true => C0b fr r
  | false => Y1 fr s :: C0b fr r
def i03 (head end_ : St) : List R4 → List R4 → Bool
 | [], [] => true
 | .val _ :: r, .val _ :: r' => i03 head end_ r r'
 | .own i _ :: r, .own j k' :: r' => match Nat.beq i j, rdA end_ (.own j k') with
  | true, .own _ _ => i03 head end_ r r'
  | _, _ => false
 | _, _ => false
def L06 (os : List Nat) : List R4 → Bool
 | [] => true
 | .val _ :: r => L06 os r
 | .own i _ :: r => match B05 i os with
  | true => false
  | false => L06 os r
def u0f (os : List Nat) : BSt → Bool
 | .live cs _ => L06 os cs
 | .publ _ => true
def W07 (A : Ann) (head end_ : St) : Nat → List BSt → List BSt → Prop
 | _, [], _ => True
 | i, b :: r, b' :: r' => match B05 i A.boxes with
  | true => match b, b' with
   | .live cs ty, .live cs' ty' => match Nat.beq ty ty', i03 head end_ cs cs' with
    | true, true => W07 A head end_ (i + 1) r r'
    | _, _ => False
   | _, _ => False
  | false => match u0f A.owns b with
   | true => b' = b ∧ W07 A head end_ (i + 1) r r'
   | false => False
 | _, _ :: _, [] => False
def leB (a b : Bool) : Bool := match a with
 | true => b
 | false => true
def X07 (A : Ann) : Nat → List Own → List Own → Prop
 | _, [], _ => True
 | i, b :: r, b' :: r' => match B05 i A.owns with
  | true => match b, b' with
   | ⟨s, .live e sz by_ nn _⟩, ⟨s', .live e' sz' by' nn' _⟩ => match Nat.beq e e', Nat.beq sz sz', Nat.beq by_ by', leB nn nn', leB (B05 i A.kept) (Nat.beq s s') with
    | true, true, true, true, true => X07 A (i + 1) r r'
    | _, _, _, _, _ => False
   | _, _ => False
  | false => b' = b ∧ X07 A (i + 1) r r'
 | _, _ :: _, [] => False
def M06 : Nat → (List Value → Prop) → Prop
 | 0, K => K []
 | n + 1, K => ∀ v, M06 n fun vs => K (v :: vs)
def N06 : Nat → (List (List (List Value)) → Prop) → Prop
 | 0, K => K []
 | n + 1, K => ∀ xs, N06 n fun os => K (xs :: os)
abbrev Y07 := List Value → List (List (List Value)) → Hp → Prop
abbrev g04 := List Value → List (List (List Value)) → Nat
def x0j : List Value → List Value → Bool
 | [], [] => true
 | _ :: r, _ :: r' => x0j r r'
 | _, _ => false
def C0d (A : Ann) (I : Y07) (vs : List Value) (os : List (List (List Value))) (h : Hp) : Prop := match A.fuel with
 | false => I vs os h
 | true => ∃ m : Nat, I (.int .i64 m :: vs) os h
def D0d (A : Ann) (I : Y07) (μ : g04) (vs : List Value) (os : List (List (List Value))) (X : Nat → Hp → Prop) : Prop := match A.fuel with
 | false => ∀ h', I vs os h' → X (μ vs os) h'
 | true => ∀ (m : Nat) (h' : Hp), I (.int .i64 m :: vs) os h' → X m h'
def y0j (A : Ann) (I : Y07) (μ : g04) (m : Nat) (vs : List Value) (os : List (List (List Value))) (h : Hp) : Prop := match A.fuel with
 | false => I vs os h ∧ μ vs os < m
 | true => ∃ m' : Nat, I (.int .i64 m' :: vs) os h ∧ m' < m
def atI (A : Ann) (I : Y07) (μ : g04) (m : Nat) (vs : List Value) (os : List (List (List Value))) (h : Hp) : Prop := match A.fuel with
 | false => I vs os h ∧ m = μ vs os
 | true => I (.int .i64 m :: vs) os h
theorem m0i {A : Ann} {I : Y07} {μ : g04} {vs : List Value} {os : List (List (List Value))} {h : Hp} (hh : C0d A I vs os h) : ∃ m, atI A I μ m vs os h := by
 unfold C0d at hh
 unfold atI
 cases hf : A.fuel with
 | false => rw [hf] at hh; exact ⟨_, hh, rfl⟩
 | true => rw [hf] at hh; exact hh
theorem n0i {A : Ann} {I : Y07} {μ : g04} {vs : List Value} {os : List (List (List Value))} {X : Nat → Hp → Prop} (hh : D0d A I μ vs os X) {m : Nat} {h : Hp} (ha : atI A I μ m vs os h) : X m h := by
 unfold D0d at hh
 unfold atI at ha
 cases hf : A.fuel with
 | false => rw [hf] at hh ha; rw [ha.2]; exact hh _ ha.1
 | true => rw [hf] at hh ha; exact hh _ _ ha
theorem z0j {A : Ann} {I : Y07} {μ : g04} {m : Nat} {vs : List Value} {os : List (List (List Value))} {h : Hp} (hh : y0j A I μ m vs os h) : ∃ m', atI A I μ m' vs os h ∧ m' < m := by
 unfold y0j at hh
 unfold atI
 cases hf : A.fuel with
 | false => rw [hf] at hh; exact ⟨_, ⟨hh.1, rfl⟩, hh.2⟩
 | true => rw [hf] at hh; exact hh
def o0i (A : Ann) (dyn sta : List (Nat × AV)) (st0 : St) (I : Y07) (μ : g04) (vs0 : List Value) (m : Nat) (st : St) (h : Hp) : Prop :=
 match Nat.beq st.n st0.n, W08 st0 st dyn with
 | true, true => C0b st.fr sta = n0h sta ∧ W07 A st0 st 0 st0.bx st.bx ∧ X07 A 0 st0.ow st.ow ∧
   s0f A st fun vs os => match x0j vs vs0 with
    | true => D04 A.vars.length vs fun _ v2 => f03 A.boxes v2 st0.bx fun _ => g03 A.owns os st0.ow fun _ => y0j A I μ m vs os h
    | false => False
 | _, _ => False
def q0g (body : (Ex → St → Hp → Prop) → St → Hp → Prop) (ds0 : List Nat) (Q : Ex → St → Hp → Prop) (st : St) (h : Hp) : Prop :=
 ∃ (A : Ann) (I : Y07) (μ : g04), z0d A.nils st fun st => U09 A.nilsB st fun st => A0d A.pubs st h fun st h => s0f A st fun vs0 os0 => C0d A I vs0 os0 h ∧
  U07 ds0 fun ds => L05 A st ds [] fun dyn => h03 A ds st st.fr fun sta =>
   M06 vs0.length fun vs => N06 os0.length fun os => D0d A I μ vs os fun m h' =>
    D04 A.vars.length vs fun v1 v2 => f03 A.boxes v2 st.bx fun bx => g03 A.owns os st.ow fun ow =>
     body (fun e st' h'' => match e with
      | .normal => A0d A.pubs st' h'' fun st' h'' => o0i A dyn sta st I μ vs m st' h''
      | e => Q e st' h'') ⟨st.n, V07 A.vars v1 (dyn ++ sta), bx, ow⟩ h'
def p0i (b : Bool) (X Y : Prop) : Prop := (b = true → X) ∧ (b = false → Y)
def ev (P : Program) : Code → (Ex → St → Hp → Prop) → St → Hp → Prop
 | .skip, Q, st, h => Q .normal st h
 | .region _ ops false, Q, st, h => match u0j P ops.toList with
  | true => m01 st.n ops.toList = true ∧ evU P ops.toList 0 [] [] st h fun st h => Q .normal st h
  | false => T08 P ops.toList 0 ⟨st, h, [], []⟩ fun rs => Q .normal rs.st rs.h
 | .region _ ops true, Q, st, h => ((P.follows .mixedOrders = true ∧ Region.lexB .any ops = true) ∧
   evQ P ops.toList 0 ⟨st, h, [], []⟩ fun rs => Q .normal rs.st rs.h) ∨
   ((P.follows .mixedOrders = true ∧ z8 st.n ops.toList = true) ∧ evS P ops.toList [] st h fun st h => Q .normal st h) ∨
   (match j0i ops.toList with
    | none => (P.follows .mixedOrders = true ∧ z8 st.n ops.toList = true) ∧ b01 P st h ops.toList 0 [] [] [] fun L X E => ∃ c, (r00 E = true ∧ P02 X (X ++ E) (E.drop c) = true) ∧ evC (V8 L st ops.toList) ops.size P c E L st h fun st h => Q .normal st h
    | some o => (P.follows .mixedOrders = true ∧ (z8 st.n (S8 ops.toList) && U08 ops.toList 0) = true) ∧ b01 P st h (S8 ops.toList) 0 [] [] [] fun L X E => ∃ c, (r00 E = true ∧ P02 X (X ++ E) (E.drop c) = true) ∧ evC (V8 L st (S8 ops.toList)) (S8 ops.toList).length P c E L st h fun st h => u01 P o st h fun st h => Q .normal st h) ∨
   ((P.follows .mixedOrders = true ∧ m01 st.n ops.toList = true) ∧ evU P ops.toList 0 [] [] st h fun st h => Q .normal st h) ∨
   (∃ m, (P.follows .mixedOrders = true ∧ okZ P st.n m ops.toList = true) ∧ evT P (u01 P) m ops.toList st h fun st h => Q .normal st h)
 | .seq a b, Q, st, h => ev P a (fun e st h => match e with
  | .normal => ev P b Q st h
  | e => Q e st h) st h
 | .cond c t e, Q, st, h => match rdO st c with
  | .val (.bool b) => p0i b (ev P t Q st h) (ev P e Q st h)
  | _ => False
 | .block id c, Q, st, h => ev P c (fun e st h => match e with
  | .exit i => match Nat.beq i id with
   | true => Q .normal st h
   | false => Q (.exit i) st h
  | e => Q e st h) st h
 | .loop body, Q, st, h => q0g (fun Q => ev P body Q) (p0b body []) Q st h
 | .exit id, Q, st, h => Q (.exit id) st h
 | .ret, Q, st, h => Q .ret st h
 | _, _, _, _ => False
def v0f (P : Program) : List ResultVar → St → Hp → (List Value → St → Hp → Prop) → Prop
 | [], st, h, K => K [] st h
 | .tmp t :: r, st, h, K => rfy (rdA st (Y1 st.fr t)) st h fun v st h => v0f P r st h fun vs st h => K (v :: vs) st h
 | .cell t ty :: r, st, h, K => match rdA st (Y1 st.fr t) with
  | .box i off => match nth st.bx i with
   | some (.live cs _) => U01 P ty cs off fun av => rfy av st h fun v st h => v0f P r st h fun vs st h => K (v :: vs) st h
   | _ => False
  | _ => False
def E0d : List Value → Value
 | [v] => v
 | vs => .tuple vs.toArray
def O06 : Nat → List Value → List (Nat × AV)
 | _, [] => []
 | i, v :: r => (i, .val v) :: O06 (i + 1) r
def z0k (P : Program) (fn : Func) (args : List Value) (h : Hp) (T : Value → Hp → Prop) : Prop :=
 match fn.body with
 | some c => match Nat.ble args.length fn.ntmps with
  | true => ev P c (fun e st h => match e with
   | .exit _ => False
   | _ => v0f P fn.results.toList st h fun vs _ h => T (E0d vs) h) ⟨fn.ntmps, O06 0 args, [], []⟩ h
  | false => False
 | none => False
end Go.H
