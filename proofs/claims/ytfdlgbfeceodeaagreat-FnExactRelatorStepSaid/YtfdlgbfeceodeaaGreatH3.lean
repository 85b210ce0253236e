/- Plain laws over the model: what a function's code asks: regions with guards, regions that draw their order, branches and loops. -/
import Derived.Test.YtfdlgbfeceodeaaGreatH2
namespace Go.H
set_option linter.unusedVariables false
structure BE where
 j : Nat
 d : Nat
 e : Bool
 ch : List (Nat × Bool)
structure RS where
 st : St
 h : Hp
 gf : List (Nat × List (Nat × Bool) × AV)
 bs : List BE
def s08 : List (Nat × List (Nat × Bool) × AV) → Nat → Option (List (Nat × Bool) × AV)
 | [], _ => none
 | (k, x) :: r, s => match Nat.beq k s with
  | true => some x
  | false => s08 r s
def eqB (a b : Bool) : Bool := match a, b with
 | true, true => true
 | false, false => true
 | _, _ => false
def z0f : List (Nat × Bool) → List (Nat × Bool) → Bool
 | [], [] => true
 | (j, w) :: r, (j', w') :: r' => match Nat.beq j j', eqB w w' with
  | true, true => z0f r r'
  | _, _ => false
 | _, _ => false
def M0b (a : List (Nat × Bool)) : List (Nat × Bool) → Bool
 | [] => z0f a []
 | x :: r => match z0f a (x :: r) with
  | true => true
  | false => M0b a r
def rdG (rs : RS) (ch : List (Nat × Bool)) : Operand → AV
 | .tmp t => match s08 rs.gf t with
  | some (ch2, av) => match M0b ch2 ch with
   | true => rdA rs.st av
   | false => .dead
  | none => rdA rs.st (P1 rs.st.fr t)
 | x => rdO rs.st x
def Q9 : List BE → Nat → Option BE
 | [], _ => none
 | b :: r, j => match Nat.beq b.j j with
  | true => some b
  | false => Q9 r j
def w05 : List BE → Nat → Option BE
 | [], _ => none
 | b :: r, s => match Nat.beq b.d s with
  | true => some b
  | false => w05 r s
def lit (w e : Bool) : Bool := match w with
 | true => e
 | false => !e
def cB (bs : List BE) : List (Nat × Bool) → Option Bool
 | [] => some true
 | (j, w) :: r => match Q9 bs j with
  | some b => match r with
   | [] => some (lit w b.e)
   | _ => match cB bs r with
    | some c => some (lit w b.e && c)
    | none => none
  | none => none
def w7 (bs : List BE) : Option (Nat × Bool) → Option (List (Nat × Bool))
 | none => some []
 | some (j, w) => match Q9 bs j with
  | some b => some ((j, w) :: b.ch)
  | none => none
def imp (ch : List (Nat × Bool)) (c : Bool) (X : Prop) : Prop := match ch with
 | [] => X
 | _ => c = true → X
def N0b (rs : RS) (ch : List (Nat × Bool)) : List Operand → Option (List (Nat × Value))
 | [] => some []
 | .tmp t :: r => match B01 (rdG rs ch (.tmp t)) with
  | some v => match N0b rs ch r with
   | some vs => some ((t, v) :: vs)
   | none => none
  | none => none
 | .global _ :: _ => none
 | _ :: r => N0b rs ch r
def v0g (rs : RS) (ch : List (Nat × Bool)) : List Operand → St → Hp → (List (Nat × Value) → St → Hp → Prop) → Prop
 | [], st, h, K => K [] st h
 | .tmp t :: r, st, h, K => rfy (rdA st (rdG rs ch (.tmp t))) st h fun v st h => v0g rs ch r st h fun vs st h => K ((t, v) :: vs) st h
 | .global _ :: _, _, _, _ => False
 | _ :: r, st, h, K => v0g rs ch r st h K
def c0b (P : Program) (o : Oper) (ch : List (Nat × Bool)) (c : Bool) (rs : RS) (K : AV → Prop) : Prop :=
 match z07 o.op, N0b rs ch o.op.operands.toList with
 | false, some vs => match H04 (rho vs) o with
  | some (f, l) => match okF P f with
   | true => ∃ v, imp ch c (Tr P f l.toArray rs.h fun v' h' => v' = v ∧ h' = rs.h) ∧ K (.val v)
   | false => False
  | none => match evP P (J0b (rho vs) o) with
   | some (.value v) => K (.val v)
   | _ => False
 | false, none => ∃ r, imp ch c (v0g rs ch o.op.operands.toList rs.st rs.h fun vs _ hf => match H04 (rho vs) o with
  | some (f, l) => match okF P f with
   | true => Tr P f l.toArray hf fun v h' => v = r ∧ h' = hf
   | false => False
  | none => False) ∧ K (.val r)
 | _, _ => False
def evG (P : Program) (o : Oper) (ch : List (Nat × Bool)) (c : Bool) (rs : RS) (K : AV → Prop) : Prop :=
 match o.op with
 | .move x | .assign x => match rdG rs ch x with
  | .dead => False
  | a => K a
 | .pick (.tmp s) a b => match rdG rs ch (.tmp s), w05 rs.bs s with
  | .val (.bool e), some q => match M0b q.ch ch with
   | true => match rdG rs ((q.j, true) :: q.ch) a, rdG rs ((q.j, false) :: q.ch) b with
    | .val (.bool x), .val (.bool y) => K (.val (.bool (cond e x y)))
    | _, _ => False
   | false => False
  | _, _ => False
 | .fieldAddr t x k => match rdG rs ch x, Z0a P t k with
  | .box i off, some fo => K (.box i (off + fo))
  | .hel s i sz k, some fo => K (.hel s i sz (k + fo))
  | .oel i s j sz k, some fo => K (.oel i s j sz (k + fo))
  | _, _ => False
 | .indexAddr t x i => match rdG rs ch i with
  | .val (.int _ j) => match n9 P t with
   | some e => match M4 P e with
    | some sz => match rdG rs ch x with
     | .val (.slice a n cp) => imp ch c (InB (.slice a n cp) j) ∧ K (.hel (.slice a n cp) j sz 0)
     | .own i k => match nth rs.st.ow i with
      | some ⟨_, .live _ sz' _ _ xs⟩ => match Nat.beq sz' sz with
       | true => imp ch c (0 ≤ j ∧ j < (xs.length : Int)) ∧ K (.oel i k j sz 0)
       | false => False
      | _ => False
     | _ => False
    | none => False
   | none => False
  | _ => False
 | .load t x => match rdG rs ch x with
  | .box i off => match nth rs.st.bx i with
   | some (.live cs _) => z01 P t cs off K
   | _ => False
  | .hel s idx sz k => ∃ e, imp ch c (p6 rs.h s sz idx e) ∧ z01 P t (vals e) k K
  | .oel i _ idx sz k => match nth rs.st.ow i with
   | some ⟨_, .live _ sz' _ _ xs⟩ => match Nat.beq sz' sz with
    | true => ∃ e, imp ch c (xs[idx.toNat]? = some e) ∧ z01 P t (vals e) k K
    | false => False
   | _ => False
  | _ => False
 | .build t ps => match P.underlying t, l9 P t with
  | some (.struct fs), some z => match E02 P fs.toList with
   | true => F03 P fs (rdG rs ch) ps.toList (vals z.cells.toList) fun cs => K (.agg cs)
   | false => False
  | _, _ => False
 | .index t x i => match rdG rs ch x, rdG rs ch i, P.underlying t with
  | .val (.string s), .val (.int _ j), some .string => ∃ e, imp ch c (0 ≤ j ∧ s[j.toNat]? = some e) ∧ K (.val (.int .u8 e.toNat))
  | _, _, _ => False
 | .slice t x lo hi none => match rdG rs ch x, P.underlying t with
  | .val (.string s), some .string => match Y01 0 (lo.map (rdG rs ch)), Y01 s.size (hi.map (rdG rs ch)) with
   | some l, some m => imp ch c (0 ≤ l ∧ l ≤ m ∧ m ≤ (s.size : Int)) ∧ K (.val (.string (s.extract l.toNat m.toNat)))
   | _, _ => False
  | .val (.slice ad n cp), _ => match n9 P t with
   | some e => match M4 P e with
    | some sz => match Y01 0 (lo.map (rdG rs ch)), Y01 n (hi.map (rdG rs ch)) with
     | some l, some m => ∃ v, imp ch c ((0 ≤ l ∧ l ≤ m ∧ m ≤ (n : Int) ∧ n ≤ cp) ∧ i0d sz (.slice ad n cp) l.toNat m.toNat v) ∧ K (.val v)
     | _, _ => False
    | none => False
   | none => False
  | _, _ => False
 | .binOp .eql t x y yt => match B01 (rdG rs ch x), B01 (rdG rs ch y) with
  | some (.agg xs), some (.agg ys) => ∃ b, imp ch c (r08 P o x y (.agg xs) (.agg ys) b) ∧ K (.val (.bool b))
  | some (.slice a n m), some (.slice none 0 0) => ∃ b, imp ch c (r08 P o x y (.slice a n m) (.slice none 0 0) b) ∧ K (.val (.bool b))
  | _, _ => c0b P o ch c rs K
 | .binOp .neq t x y yt => match B01 (rdG rs ch x), B01 (rdG rs ch y) with
  | some (.agg xs), some (.agg ys) => ∃ b, imp ch c (r08 P o x y (.agg xs) (.agg ys) b) ∧ K (.val (.bool b))
  | _, _ => c0b P o ch c rs K
 | .binOp .add t x y yt => match rdG rs ch x, rdG rs ch y with
  | .val (.string a), .val (.string b) => imp ch c (a.size + b.size ≤ 9223372036854775807) ∧ K (.val (.string (a ++ b)))
  | _, _ => c0b P o ch c rs K
 | .binOp .quo t x y yt => match rdG rs ch x, rdG rs ch y with
  | .val (.int .i64 a), .val (.int .i64 b) => imp ch c (b ≠ 0) ∧ K (.val (.int .i64 (IntKind.i64.wrap (a.tdiv b))))
  | _, _ => c0b P o ch c rs K
 | .binOp .rem t x y yt => match rdG rs ch x, rdG rs ch y with
  | .val (.int .i64 a), .val (.int .i64 b) => imp ch c (b ≠ 0) ∧ K (.val (.int .i64 (a.tmod b)))
  | _, _ => c0b P o ch c rs K
 | .call { callee := .builtin .len, args := as, argTypes := ts } => match as.toList, ts.toList with
  | [x], [t] => match rdG rs ch x with
   | .own i _ => match nth rs.st.ow i, n9 P t with
    | some ⟨_, .live _ _ _ _ xs⟩, some _ => K (.val (.int .i64 xs.length))
    | _, _ => False
   | _ => c0b P o ch c rs K
  | _, _ => False
 | _ => c0b P o ch c rs K
def G03 (rs : RS) (d : Nat) : Bool := match s08 rs.gf d, w05 rs.bs d with
 | none, none => false
 | _, _ => true
def O0b (i d : Nat) (ch : List (Nat × Bool)) (av : AV) (bs : List BE) : List BE := match av with
 | .val (.bool e) => ⟨i, d, e, ch⟩ :: bs
 | _ => bs
def t08 (d : Option Tmp) (i : Nat) (ch : List (Nat × Bool)) (av : AV) (rs : RS) (K : RS → Prop) : Prop :=
 match d with
 | none => K rs
 | some d => match Nat.blt d rs.st.n, G03 rs d with
  | true, false => match ch with
   | [] => K { rs with st := { rs.st with fr := (d, av) :: rs.st.fr }, bs := O0b i d ch av rs.bs }
   | _ => K { rs with st := { rs.st with fr := (d, .dead) :: rs.st.fr }, gf := (d, ch, av) :: rs.gf, bs := O0b i d ch av rs.bs }
  | _, _ => False
def k0d : Op → Bool
 | .pick .. => true
 | _ => false
def A07 (P : Program) : List Oper → Nat → RS → (RS → Prop) → Prop
 | [], _, rs, K => K rs
 | o :: r, i, rs, K => match o.guard, k0d o.op with
  | none, false => r6 P o rs.st rs.h fun av st h => t08 o.dst i [] av { rs with st := st, h := h } fun rs => A07 P r (i + 1) rs K
  | _, _ => match w7 rs.bs o.guard with
   | some ch => match cB rs.bs ch with
    | some c => evG P o ch c rs fun av => t08 o.dst i ch av rs fun rs => A07 P r (i + 1) rs K
    | none => False
   | none => False
def evQ (P : Program) : List Oper → Nat → RS → (RS → Prop) → Prop
 | [], _, rs, K => K rs
 | o :: r, i, rs, K => match w7 rs.bs o.guard with
  | some ch => match cB rs.bs ch with
   | some c => evG P o ch c rs fun av => t08 o.dst i ch av rs fun rs => evQ P r (i + 1) rs K
   | none => False
  | none => False
def Sub (h h' : Hp) : Prop := ∀ b o, h b = some o → h' b = some o
def A0f (v : Value) (K : Value → Prop) : Prop := match v with
 | .bool b => K (.bool b)
 | .int k n => K (.int k n)
 | .string s => K (.string s)
 | .pointer a => K (.pointer a)
 | .slice a n c => K (.slice a n c)
 | .func f x y => K (.func f x y)
 | .agg cs => K (.agg cs)
 | .tuple vs => K (.tuple vs)
 | v => K v
theorem G0e (v : Value) (K : Value → Prop) : A0f v K = K v := by cases v <;> rfl
def Y8 {α : Type} : List α → (List α → Prop) → Prop
 | [], K => K []
 | x :: r, K => Y8 r fun r => K (x :: r)
theorem I9 {α : Type} : ∀ (l : List α) (K : List α → Prop), Y8 l K = K l
 | [], K => rfl
 | x :: r, K => by simp only [Y8, I9 r]
def C01 : Nat → (Nat → Prop) → Prop
 | 0, K => K 0
 | n + 1, K => C01 n fun m => K (m + 1)
theorem H03 : ∀ (n : Nat) (K : Nat → Prop), C01 n K = K n
 | 0, K => rfl
 | n + 1, K => by simp only [C01, H03 n]
def d00 (av : AV) (K : AV → Prop) : Prop := match av with
 | .val v => A0f v fun v => K (.val v)
 | .own i k => K (.own i k)
 | .box i k => K (.box i k)
 | .hel s i z k => C01 z fun z => C01 k fun k => K (.hel s i z k)
 | .oel j s i z k => C01 z fun z => C01 k fun k => K (.oel j s i z k)
 | .agg cs => Y8 cs fun cs => K (.agg cs)
 | .dead => K .dead
theorem J9 (av : AV) (K : AV → Prop) : d00 av K = K av := by
 cases av with
 | val v => exact G0e v (fun v => K (.val v))
 | hel s i z k => simp only [d00, H03]
 | oel j s i z k => simp only [d00, H03]
 | agg cs => simp only [d00, I9]
 | _ => rfl
inductive N4 where
 | pu (av : AV)
 | ef (F : Value → Hp → Prop)
def j1 : List (Nat × N4) → Nat → Option N4
 | [], _ => none
 | (k, x) :: r, s => match Nat.beq k s with
  | true => some x
  | false => j1 r s
def rdS (L : List (Nat × N4)) (st : St) : Operand → AV
 | .tmp t => match j1 L t with
  | some (.pu av) => rdA st av
  | some (.ef _) => .dead
  | none => rdA st (P1 st.fr t)
 | x => rdO st x
def u08 (P : Program) (t : TypeId) (cs : List d4) (off : Nat) : Option AV :=
 match Y0a P t with
 | some true => match M4 P t with
  | some n => match D03 ((cs.drop off).take n) n with
   | true => some (.agg ((cs.drop off).take n))
   | false => none
  | none => none
 | some false => match nth cs off with
  | some c => some (ofCell c)
  | none => none
 | none => none
def Y04 (P : Program) (L : List (Nat × N4)) (o : Oper) (st : St) : Option AV := match o.op with
 | .move x | .assign x => match rdS L st x with
  | .dead => none
  | a => some a
 | .load t x => match rdS L st x with
  | .box i off => match nth st.bx i with
   | some (.live cs _) => u08 P t cs off
   | _ => none
  | _ => none
 | _ => none
def I03 (L : List (Nat × N4)) (st : St) (h : Hp) : List Operand → List (Nat × AV) → (List (Nat × AV) → Prop) → Prop
 | [], acc, K => K acc
 | .tmp t :: r, acc, K => match j1 L t with
  | some (.pu av) => I03 L st h r ((t, av) :: acc) K
  | some (.ef F) => ∀ v, F v h → I03 L st h r ((t, .val v) :: acc) K
  | none => I03 L st h r ((t, P1 st.fr t) :: acc) K
 | _ :: r, acc, K => I03 L st h r acc K
def P0b (h : Hp) : List (Nat × N4) → List (Nat × AV) → (List (Nat × AV) → Prop) → Prop
 | [], fr, K => K fr
 | (d, .pu av) :: r, fr, K => P0b h r ((d, av) :: fr) K
 | (d, .ef F) :: r, fr, K => ∀ v, F v h → P0b h r ((d, .val v) :: fr) K
def D01 (d : Option Tmp) (f : N4) (L : List (Nat × N4)) : List (Nat × N4) := match d with
 | some d => (d, f) :: L
 | none => L
def g0h (st : St) (h : Hp) (F : Value → Hp → Prop) : AV → St → Hp → Prop
 | .val v, st', h' => st' = st ∧ Sub h h' ∧ F v h'
 | _, _, _ => False
def evS (P : Program) : List Oper → List (Nat × N4) → St → Hp → (St → Hp → Prop) → Prop
 | [], L, ⟨n, fr, bx, ow⟩, h, K => ∀ h', Sub h h' → P0b h' L fr fun fr => K ⟨n, fr, bx, ow⟩ h'
 | o :: r, L, ⟨n, fr, bx, ow⟩, h, K => match o.guard with
  | some _ => False
  | none => match Y04 P L o ⟨n, fr, bx, ow⟩ with
   | some av => d00 av fun av => evS P r (D01 o.dst (.pu av) L) ⟨n, fr, bx, ow⟩ h K
   | none => ∃ F : Value → Hp → Prop, (∀ v h1 h2, Sub h1 h2 → F v h1 → F v h2) ∧
     (∀ h', Sub h h' → I03 L ⟨n, fr, bx, ow⟩ h' o.op.operands.toList [] fun fr => r6 P o ⟨n, fr, bx, ow⟩ h' (g0h ⟨n, fr, bx, ow⟩ h' F)) ∧
     evS P r (D01 o.dst (.ef F) L) ⟨n, fr, bx, ow⟩ h K
def P7 (i : Nat) (o : Oper) : Bool := o.after.toList.any fun e => Region.binds .any e && Nat.beq e.on i
def K9 (o : Oper) (t : Nat) : List Oper → Nat → Bool
 | [], _ => true
 | x :: r, i => match x.dst with
  | some d => match Nat.beq d t with
   | true => P7 i o && K9 o t r (i + 1)
   | false => K9 o t r (i + 1)
  | none => K9 o t r (i + 1)
def x05 (o : Oper) (ops : List Oper) : List Operand → Bool
 | [] => true
 | .tmp t :: r => K9 o t ops 0 && x05 o ops r
 | _ :: r => x05 o ops r
def J03 (d : Nat) : List Oper → Bool
 | [] => true
 | o :: r => match o.dst with
  | some d' => !Nat.beq d d' && J03 d r
  | none => J03 d r
def Q0b (n : Nat) : List Oper → Bool
 | [] => true
 | o :: r => match o.dst with
  | some d => Nat.blt d n && J03 d r && Q0b n r
  | none => Q0b n r
def B07 : List Oper → Nat → Bool
 | [], _ => true
 | o :: r, j => (o.after.toList.all fun e => !Region.binds .any e || Nat.blt e.on j) && B07 r (j + 1)
def R0d (ops : List Oper) : List Oper → Bool
 | [] => true
 | o :: r => x05 o ops o.op.operands.toList && R0d ops r
def J7 (n : Nat) (ops : List Oper) : Bool := Q0b n ops && B07 ops 0 && R0d ops ops
def S0d : List d4 → Bool
 | [] => true
 | .val _ :: r => S0d r
 | .own _ _ :: _ => false
def d0b : AV → Bool
 | .val _ => true
 | .box _ _ => true
 | .own _ _ => true
 | .agg cs => S0d cs
 | _ => false
def v02 (L : List (Nat × N4)) (st : St) : Operand → AV
 | .tmp t => match j1 L t with
  | some (.pu av) => av
  | some (.ef _) => .dead
  | none => P1 st.fr t
 | .const v => .val v
 | _ => .dead
def C07 (L : List (Nat × N4)) (st : St) : List Operand → Option (List (Nat × Value))
 | [] => some []
 | .tmp t :: r => match v02 L st (.tmp t) with
  | .val v => match C07 L st r with
   | some vs => some ((t, v) :: vs)
   | none => none
  | _ => none
 | .global _ :: _ => none
 | _ :: r => C07 L st r
def l0d (P : Program) (L : List (Nat × N4)) (o : Oper) (st : St) : Option AV := match z07 o.op, C07 L st o.op.operands.toList with
 | false, some vs => match H04 (rho vs) o with
  | some _ => none
  | none => match evP P (J0b (rho vs) o) with
   | some (.value v) => some (.val v)
   | _ => none
 | _, _ => none
def b0i : AV → Bool
 | .val (.int _ _) => true
 | _ => false
def q0i : BinOp → Bool
 | .lss => true
 | .leq => true
 | .gtr => true
 | .geq => true
 | _ => false
def I04 (P : Program) (L : List (Nat × N4)) (o : Oper) (st : St) : Option AV := match o.op with
 | .move x => match d0b (v02 L st x) with
  | true => some (v02 L st x)
  | false => none
 | .assign x => match d0b (v02 L st x) with
  | true => some (v02 L st x)
  | false => none
 | .load t x => match v02 L st x with
  | .box i off => match nth st.bx i with
   | some (.live cs _) => match u08 P t cs off with
    | some av => match d0b av with
     | true => some av
     | false => none
    | none => none
   | _ => none
  | _ => none
 | .fieldAddr t x k => match v02 L st x, Z0a P t k with
  | .box i off, some fo => some (.box i (off + fo))
  | _, _ => none
 | .binOp op _ x y _ => match q0i op, b0i (v02 L st x), b0i (v02 L st y) with
  | true, true, true => l0d P L o st
  | _, _, _ => none
 | .call { callee := .builtin .len, args := as, argTypes := _ } => match as.toList with
  | [x] => match v02 L st x with
   | .val (.slice _ _ _) => l0d P L o st
   | _ => none
  | _ => none
 | _ => none
def F8 (L : List (Nat × N4)) (st : St) : List Oper → List Nat
 | [] => []
 | o :: r => match o.op with
  | .load _ x => match v02 L st x with
   | .box i _ => i :: F8 L st r
   | _ => F8 L st r
  | _ => F8 L st r
def J04 (bx : List BSt) : List Nat → List (Option BSt)
 | [] => []
 | i :: r => nth bx i :: J04 bx r
def K03 (L : List (Nat × N4)) (fr0 : List (Nat × AV)) : List Operand → List (Nat × AV) → (List (Nat × AV) → Prop) → Prop
 | [], acc, K => K acc
 | .tmp t :: r, acc, K => match j1 L t with
  | some (.pu av) => K03 L fr0 r ((t, av) :: acc) K
  | some (.ef _) => K03 L fr0 r ((t, .dead) :: acc) K
  | none => K03 L fr0 r ((t, P1 fr0 t) :: acc) K
 | _ :: r, acc, K => K03 L fr0 r acc K
def m0d : List (Nat × N4) → List (Nat × AV) → List (Nat × AV)
 | [], fr => fr
 | (d, .pu av) :: r, fr => (d, av) :: m0d r fr
 | (d, .ef _) :: r, fr => (d, .dead) :: m0d r fr
def T0d (av : AV) (st : St) (h : Hp) : AV → St → Hp → Prop := fun av' st' h' => av' = av ∧ st' = st ∧ h' = h
def R0b (P : Program) (st : St) (h : Hp) (L : List (Nat × N4)) (o : Oper) (av : AV) : Prop :=
 match st with
 | ⟨n, fr, bx, ow⟩ => ∀ h', Sub h h' → K03 L fr o.op.operands.toList [] fun fr => r6 P o ⟨n, fr, bx, ow⟩ h' (T0d av ⟨n, fr, bx, ow⟩ h')
def K00 (P : Program) (st : St) (h : Hp) : List Oper → Nat → List (Nat × N4) → List (Nat × Oper) → List (Nat × Oper) → (List (Nat × N4) → List (Nat × Oper) → List (Nat × Oper) → Prop) → Prop
 | [], _, L, X, E, K => K L X E
 | o :: r, i, L, X, E, K => match o.guard with
  | some _ => False
  | none => match I04 P L o st with
   | some av => d00 av fun av => K00 P st h r (i + 1) (D01 o.dst (.pu av) L) X E K
   | none => (∃ av, R0b P st h L o av ∧ d00 av fun av => K00 P st h r (i + 1) (D01 o.dst (.pu av) L) (X ++ [(i, o)]) E K) ∨
     K00 P st h r (i + 1) (D01 o.dst (.ef fun _ _ => True) L) X (E ++ [(i, o)]) K
def e0b (X : List (Nat × Oper)) : Nat → Nat → Oper → Bool
 | 0, i, q => P7 i q
 | n + 1, i, q => P7 i q || X.any fun y => P7 y.1 q && e0b X n i y.2
def w02 (X Y : List (Nat × Oper)) : List (Nat × Oper) → Bool
 | [] => true
 | (_, q) :: _ => X.all fun x => e0b Y 8 x.1 q
def U9 : List (Nat × Oper) → Bool
 | (i, o) :: (j, o') :: r => P7 i o' && U9 ((j, o') :: r)
 | _ => true
def E01 : Nat → Nat → Oper → Bool
 | 0, _, _ => true
 | k + 1, i, o => (Nat.beq k i || P7 k o) && E01 k i o
def L03 (d : Nat) : List Operand → Bool
 | [] => false
 | .tmp t :: r => Nat.beq t d || L03 d r
 | _ :: r => L03 d r
def v08 (d : Nat) : List Oper → Bool
 | [] => false
 | o :: r => L03 d o.op.operands.toList || v08 d r
def B8 : List Oper → List Oper
 | [] => []
 | o :: r => match r with
  | [] => []
  | _ :: _ => o :: B8 r
def w08 : List Oper → Option Oper
 | [] => none
 | o :: r => match r with
  | [] => some o
  | _ :: _ => w08 r
def B0f (ops : List Oper) : Option Oper := match w08 ops with
 | some o => match o.guard, o.dst with
  | none, some d => match v08 d (B8 ops) && E01 (B8 ops).length (B8 ops).length o with
   | true => some o
   | false => none
  | _, _ => none
 | none => none
def b01 (P : Program) (o : Oper) (st : St) (h : Hp) (K : St → Hp → Prop) : Prop :=
 r6 P o st h fun av st h => t08 o.dst 0 [] av ⟨st, h, [], []⟩ fun rs => K rs.st rs.h
def U0d (N i : Nat) (o : Oper) : List (Nat × Oper) → Bool
 | [] => E01 N i o
 | _ :: _ => false
def c0i (c : Nat) (b : Bool) (rd : List Nat) (bx bx' : List BSt) : Prop := match b with
 | true => True
 | false => match c with
  | 0 => J04 bx' rd = J04 bx rd
  | _ + 1 => bx' = bx
def t0h : Nat → List Own → List Own → Hp → Hp → Prop
 | 0, _, _, _, _ => True
 | _ + 1, ow, ow', h, h' => ow' = ow ∧ Sub h h'
def evC (rd : List Nat) (N : Nat) (P : Program) : Nat → List (Nat × Oper) → List (Nat × N4) → St → Hp → (St → Hp → Prop) → Prop
 | _, [], L, ⟨n, fr, bx, ow⟩, h, K => Y8 (m0d L fr) fun fr => K ⟨n, fr, bx, ow⟩ h
 | c, (i, o) :: r, L, ⟨n, fr, bx, ow⟩, h, K => K03 L fr o.op.operands.toList [] fun fr1 => r6 P o ⟨n, fr1, bx, ow⟩ h fun av st' h' => match st' with
  | ⟨_, _, bx', ow'⟩ => t0h c ow ow' h h' ∧ c0i c (U0d N i o r) rd bx bx' ∧ d00 av fun av => Y8 bx' fun bx' => Y8 ow' fun ow' => evC rd N P (c - 1) r (D01 o.dst (.pu av) L) ⟨n, fr, bx', ow'⟩ h' K
abbrev FL := List (Nat × List (Nat × Bool) × N4)
def E00 : FL → Nat → Option (List (Nat × Bool) × N4)
 | [], _ => none
 | (k, x) :: r, s => match Nat.beq k s with
  | true => some x
  | false => E00 r s
def rdU (L : FL) (st : St) (ch : List (Nat × Bool)) : Operand → AV
 | .tmp t => match E00 L t with
  | some (ch2, .pu av) => match M0b ch2 ch with
   | true => rdA st av
   | false => .dead
  | some (_, .ef _) => .dead
  | none => rdA st (P1 st.fr t)
 | x => rdO st x
def K04 (P : Program) (L : FL) (bs : List BE) (ch : List (Nat × Bool)) (o : Oper) (st : St) : Option AV := match o.op with
 | .move x | .assign x => match rdU L st ch x with
  | .dead => none
  | a => some a
 | .load t x => match rdU L st ch x with
  | .box i off => match nth st.bx i with
   | some (.live cs _) => u08 P t cs off
   | _ => none
  | _ => none
 | .fieldAddr t x k => match rdU L st ch x, Z0a P t k with
  | .box i off, some fo => some (.box i (off + fo))
  | .hel s i sz k, some fo => some (.hel s i sz (k + fo))
  | _, _ => none
 | .pick (.tmp s) a b => match rdU L st ch (.tmp s), w05 bs s with
  | .val (.bool e), some q => match M0b q.ch ch with
   | true => match rdU L st ((q.j, true) :: q.ch) a, rdU L st ((q.j, false) :: q.ch) b with
    | .val (.bool x), .val (.bool y) => some (.val (.bool (cond e x y)))
    | _, _ => none
   | false => none
  | _, _ => none
 | _ => none
def w03 (L : FL) (st : St) (h : Hp) (ch : List (Nat × Bool)) : List Operand → List (Nat × AV) → (List (Nat × AV) → Prop) → Prop
 | [], acc, K => K acc
 | .tmp t :: r, acc, K => match E00 L t with
  | some (ch2, f) => match M0b ch2 ch with
   | true => match f with
    | .pu av => w03 L st h ch r ((t, av) :: acc) K
    | .ef F => ∀ v, F v h → w03 L st h ch r ((t, .val v) :: acc) K
   | false => False
  | none => w03 L st h ch r ((t, P1 st.fr t) :: acc) K
 | _ :: r, acc, K => w03 L st h ch r acc K
def Y09 (h : Hp) : FL → List (Nat × AV) → (List (Nat × AV) → Prop) → Prop
 | [], fr, K => K fr
 | (d, [], .pu av) :: r, fr, K => Y09 h r ((d, av) :: fr) K
 | (d, [], .ef F) :: r, fr, K => ∀ v, F v h → Y09 h r ((d, .val v) :: fr) K
 | (d, _ :: _, _) :: r, fr, K => Y09 h r ((d, .dead) :: fr) K
def f0b (d : Option Tmp) (ch : List (Nat × Bool)) (f : N4) (L : FL) : FL := match d with
 | some d => (d, ch, f) :: L
 | none => L
def g0b (i : Nat) (d : Option Tmp) (ch : List (Nat × Bool)) (av : AV) (bs : List BE) : List BE := match d with
 | some d => match av with
  | .val (.bool e) => ⟨i, d, e, ch⟩ :: bs
  | _ => bs
 | none => bs
def n0d (st st' : St) : Prop := st'.n = st.n ∧ st'.fr = st.fr ∧ st'.bx = st.bx ∧ ∃ t, st'.ow = st.ow ++ t
def C0f (st : St) (h : Hp) (F : Value → Hp → Prop) : AV → St → Hp → Prop := fun av st' h' => rfy av st' h' fun v st'' h'' => n0d st st'' ∧ Sub h h'' ∧ F v h''
def evU (P : Program) (l : List Oper) : Nat → FL → List BE → St → Hp → (St → Hp → Prop) → Prop :=
  List.rec (motive := fun _ => Nat → FL → List BE → St → Hp → (St → Hp → Prop) → Prop)
    (fun _ L _ st h K => match st with
      | ⟨n, fr, bx, ow⟩ => ∀ h', Sub h h' → Y09 h' L fr fun fr => K ⟨n, fr, bx, ow⟩ h')
    (fun o _ ih i L bs st h K => match st with
      | ⟨n, fr, bx, ow⟩ => match w7 bs o.guard with
        | some ch => match cB bs ch with
          | some c => match K04 P L bs ch o ⟨n, fr, bx, ow⟩ with
            | some av => d00 av fun av => ih (i + 1) (f0b o.dst ch (.pu av) L) (g0b i o.dst ch av bs) ⟨n, fr, bx, ow⟩ h K
            | none => (∃ av, (∀ h', Sub h h' → imp ch c (w03 L ⟨n, fr, bx, ow⟩ h' ch o.op.operands.toList [] fun fr => r6 P o ⟨n, fr, bx, ow⟩ h' (T0d av ⟨n, fr, bx, ow⟩ h'))) ∧
                  d00 av fun av => ih (i + 1) (f0b o.dst ch (.pu av) L) (g0b i o.dst ch av bs) ⟨n, fr, bx, ow⟩ h K) ∨
                (∃ F : Value → Hp → Prop, (∀ v h1 h2, Sub h1 h2 → F v h1 → F v h2) ∧
                  (∀ h', Sub h h' → imp ch c (w03 L ⟨n, fr, bx, ow⟩ h' ch o.op.operands.toList [] fun fr => r6 P o ⟨n, fr, bx, ow⟩ h' (C0f ⟨n, fr, bx, ow⟩ h' F))) ∧
                  ih (i + 1) (f0b o.dst ch (.ef F) L) bs ⟨n, fr, bx, ow⟩ h K)
          | none => False
        | none => False) l
def e08 : List Oper → Bool
 | [] => true
 | o :: r => (match o.guard with
  | some (j, _) => P7 j o
  | none => true) && e08 r
def W00 (n : Nat) (ops : List Oper) : Bool := J7 n ops && e08 ops
def w0g (P : Program) : List Oper → Bool
 | [] => false
 | o :: r => (match o.guard, o.op with
  | some _, .call { callee := .value _, args := _, argTypes := _ } => match P.underlying o.type with
   | some (.slice _) => true
   | some (.struct _) => true
   | some (.tuple _) => true
   | _ => false
  | _, _ => false) || w0g P r
def t01 (o : Oper) : Bool := match o.op with
 | .alloc _ => true
 | _ => false
def K7 (o : Oper) : Oper := match o.op with
 | .alloc _ => { o with op := .move (.const undef) }
 | _ => o
def Y3 : List Oper → List Oper
 | [] => []
 | o :: r => K7 o :: Y3 r
def okA (P : Program) (all : List Oper) : List Oper → Bool
 | [] => true
 | o :: r => (match o.op with
  | .alloc t => (match o.guard, o.dst, l9 P t with
   | none, some d, some _ => !v08 d all
   | _, _, _ => false)
  | _ => true) && okA P all r
def o0d (x : Nat) : List Nat → Bool
 | [] => false
 | y :: r => Nat.beq x y || o0d x r
def x0g (ops : List Oper) (i : Nat) : List Nat → Bool
 | [] => false
 | j :: r => (match nth ops j with
  | some o => P7 i o
  | none => false) || x0g ops i r
def n0a (ops : List Oper) : Nat → List Nat → List Nat
 | 0, acc => acc
 | i + 1, acc => match x0g ops i acc with
  | true => n0a ops i (i :: acc)
  | false => n0a ops i acc
def y05 (o : Oper) : Option Nat := match o.guard with
 | some _ => none
 | none => match o.op with
  | .extract (.tmp t) _ => some t
  | .move (.tmp t) => some t
  | .assign (.tmp t) => some t
  | _ => none
def z05 (d : Nat) : List Oper → Bool
 | [] => false
 | o :: r => (match o.dst with
  | some e => Nat.beq e d
  | none => false) || z05 d r
def H02 (ml : List Nat) (t : Nat) : List Oper → Nat → Bool
 | [], _ => true
 | o :: r, i => (match o.dst with
  | some e => !Nat.beq e t || o0d i ml
  | none => true) && H02 ml t r (i + 1)
def I02 (i d : Nat) : List Oper → Bool
 | [] => true
 | o :: r => (!L03 d o.op.operands.toList || P7 i o) && I02 i d r
def V0d (pre tl : List Oper) (ml : List Nat) (i : Nat) (o : Oper) : Bool := match y05 o, o.dst with
 | some t, some d => !z05 d tl && !z05 t tl && H02 ml t pre 0 && I02 i d tl
 | _, _ => false
def f08 (pre tl : List Oper) (ml : List Nat) : List Oper → Nat → Bool
 | [], _ => true
 | o :: r, i => (o0d i ml || V0d pre tl ml i o) && f08 pre tl ml r (i + 1)
def S0b : List Oper → Bool
 | [] => true
 | o :: r => !z07 o.op && S0b r
def D0f : Nat → List Oper → Bool
 | _, [] => true
 | k, o :: r => (match o.guard with
  | none => true
  | some _ => false) && (match r with
  | [] => true
  | o' :: _ => P7 k o') && D0f (k + 1) r
def d0i : List Oper → Bool
 | [] => true
 | _ :: _ => false
def okZ (P : Program) (n m : Nat) (ops : List Oper) : Bool :=
 W00 n (Y3 (ops.take m)) && okA P (ops.take m) (ops.take m) && B07 ops 0 && D0f m (ops.drop m) && (d0i (ops.drop m) || (f08 (ops.take m) (ops.drop m) (n0a ops m [m]) (ops.take m) 0 && S0b (ops.drop m)))
abbrev u0h := Oper → St → Hp → (St → Hp → Prop) → Prop
def doA (R : u0h) (l : List Oper) : St → Hp → (St → Hp → Prop) → Prop :=
 List.rec (motive := fun _ => St → Hp → (St → Hp → Prop) → Prop) (fun st h K => K st h) (fun o _ ih st h K => match t01 o with
  | true => R o st h fun st h => ih st h K
  | false => ih st h K) l
def doT (R : u0h) (l : List Oper) : St → Hp → (St → Hp → Prop) → Prop :=
 List.rec (motive := fun _ => St → Hp → (St → Hp → Prop) → Prop) (fun st h K => K st h) (fun o _ ih st h K => R o st h fun st h => ih st h K) l
def evT (P : Program) (R : u0h) (m : Nat) (ops : List Oper) (st : St) (h : Hp) (K : St → Hp → Prop) : Prop :=
 evU P (Y3 (ops.take m)) 0 [] [] st h fun st h => doA R (ops.take m) st h fun st h => doT R (ops.drop m) st h K
inductive Ex where
 | normal | ret
 | exit (i : Nat)
structure Ann where
 vars : List Nat
 boxes : List Nat
 owns : List Nat
 nils : List (Nat × Nat × Nat × Nat) := []
 nilsB : List (Nat × Nat × Nat × Nat × Nat) := []
 kept : List Nat := []
 fuel : Bool := false
 pubs : List Nat := []
def T0b : List (Nat × Nat × Nat × Nat) → St → (St → Prop) → Prop
 | [], st, K => K st
 | (s, e, sz, by_) :: r, ⟨n, fr, bx, ow⟩, K => match rdA ⟨n, fr, bx, ow⟩ (P1 fr s), Nat.blt s n with
  | .val (.slice none 0 0), true => g0d ow fun k => T0b r ⟨n, (s, .own k 0) :: fr, bx, ow ++ [⟨0, .live e sz by_ false []⟩]⟩ K
  | _, _ => False
def x08 : List (Nat × Nat × Nat × Nat × Nat) → St → (St → Prop) → Prop
 | [], st, K => K st
 | (i, k, e, sz, by_) :: r, ⟨n, fr, bx, ow⟩, K => match nth bx i with
  | some (.live cs ty) => match nth cs k with
   | some (.val (.slice none 0 0)) => g0d ow fun j => x08 r ⟨n, fr, O7 bx i (.live (O7 cs k (.own j 0)) ty), ow ++ [⟨0, .live e sz by_ false []⟩]⟩ K
   | _ => False
  | _ => False
def U0b : List Nat → St → Hp → (St → Hp → Prop) → Prop
 | [], st, h, K => K st h
 | s :: r, st, h, K => rfy (rdA st (P1 st.fr s)) st h fun v st h => match st with
  | ⟨n, fr, bx, ow⟩ => match Nat.blt s n with
   | true => U0b r ⟨n, (s, .val v) :: fr, bx, ow⟩ h K
   | false => False
def C04 (x : Nat) : List Nat → Bool
 | [] => false
 | y :: r => match Nat.beq x y with
  | true => true
  | false => C04 x r
def v0h : List Oper → List Nat → List Nat
 | [], acc => acc
 | o :: r, acc => match o.dst with
  | some d => v0h r (d :: acc)
  | none => v0h r acc
def Z09 : Code → List Nat → List Nat
 | .region _ ops _, acc => v0h ops.toList acc
 | .seq a b, acc => Z09 a (Z09 b acc)
 | .cond _ a b, acc => Z09 a (Z09 b acc)
 | .block _ a, acc => Z09 a acc
 | .loop a, acc => Z09 a acc
 | .scope a, acc => Z09 a acc
 | _, acc => acc
def E06 : List Nat → (List Nat → Prop) → Prop
 | [], K => K []
 | x :: r, K => E06 r fun r => K (x :: r)
def y0g : List Nat → St → (List Value → Prop) → Prop
 | [], _, K => K []
 | s :: r, st, K => match rdA st (P1 st.fr s) with
  | .val v => y0g r st fun vs => K (v :: vs)
  | _ => False
def V0b : List d4 → St → (List Value → Prop) → Prop
 | [], _, K => K []
 | .val v :: r, st, K => V0b r st fun vs => K (v :: vs)
 | .own _ _ :: r, st, K => V0b r st K
def y08 : List Nat → St → (List Value → Prop) → Prop
 | [], _, K => K []
 | i :: r, st, K => match nth st.bx i with
  | some (.live cs _) => V0b cs st fun vs => y08 r st fun ws => K (vs ++ ws)
  | _ => False
def o0a : List Nat → St → (List (List (List Value)) → Prop) → Prop
 | [], _, K => K []
 | i :: r, st, K => match nth st.ow i with
  | some ⟨_, .live _ _ _ _ xs⟩ => o0a r st fun os => K (xs :: os)
  | _ => False
def p0d (A : Ann) (st : St) (K : List Value → List (List (List Value)) → Prop) : Prop :=
 y0g A.vars st fun vs => y08 A.boxes st fun ws => o0a A.owns st fun os => K (vs ++ ws) os
def X00 : List d4 → List Value → (List d4 → List Value → Prop) → Prop
 | [], vs, K => K [] vs
 | .val _ :: r, v :: vs, K => X00 r vs fun cs rest => K (.val v :: cs) rest
 | .val _ :: _, [], _ => False
 | .own i k :: r, vs, K => X00 r vs fun cs rest => K (.own i k :: cs) rest
def J02 : List Nat → List Value → List BSt → (List BSt → Prop) → Prop
 | [], _, bx, K => K bx
 | i :: r, vs, bx, K => match nth bx i with
  | some (.live cs ty) => X00 cs vs fun cs rest => J02 r rest (O7 bx i (.live cs ty)) K
  | _ => False
def K02 : List Nat → List (List (List Value)) → List Own → (List Own → Prop) → Prop
 | [], _, ow, K => K ow
 | i :: r, xs :: os, ow, K => match nth ow i with
  | some ⟨s, .live e sz by_ nn _⟩ => K02 r os (O7 ow i ⟨s, .live e sz by_ nn xs⟩) K
  | _ => False
 | _ :: _, [], _, _ => False
def M03 {α : Type} : Nat → List α → (List α → List α → Prop) → Prop
 | 0, l, K => K [] l
 | n + 1, x :: l, K => M03 n l fun a b => K (x :: a) b
 | _ + 1, [], _ => False
def L04 (A : Ann) (st : St) : List Nat → List (Nat × AV) → (List (Nat × AV) → Prop) → Prop
 | [], acc, K => K acc
 | s :: r, acc, K => match C04 s A.vars with
  | true => L04 A st r acc K
  | false => match rdA st (P1 st.fr s) with
   | .own i k => L04 A st r ((s, .own i k) :: acc) K
   | .box i o => L04 A st r ((s, .box i o) :: acc) K
   | _ => L04 A st r ((s, .dead) :: acc) K
def W0d : List d4 → Bool
 | [] => true
 | .val _ :: r => W0d r
 | .own _ _ :: _ => false
def L02 (A : Ann) (ds : List Nat) (st : St) : List (Nat × AV) → (List (Nat × AV) → Prop) → Prop
 | [], K => K []
 | (s, av) :: r, K => match C04 s ds with
  | true => L02 A ds st r K
  | false => match rdA st av with
   | .own i k => match C04 i A.owns, C04 i A.kept with
    | true, false => L02 A ds st r fun l => K ((s, .dead) :: l)
    | _, _ => L02 A ds st r fun l => K ((s, .own i k) :: l)
   | .oel _ _ _ _ _ => L02 A ds st r fun l => K ((s, .dead) :: l)
   | .agg cs => match W0d cs with
    | true => L02 A ds st r fun l => K ((s, .agg cs) :: l)
    | false => L02 A ds st r fun l => K ((s, .dead) :: l)
   | a => L02 A ds st r fun l => K ((s, a) :: l)
def F06 : List Nat → List Value → List (Nat × AV) → List (Nat × AV)
 | s :: r, v :: vs, acc => F06 r vs ((s, .val v) :: acc)
 | _, _, acc => acc
def D07 (head end_ : St) : List (Nat × AV) → Bool
 | [] => true
 | (s, av) :: r => match av with
  | .own i _ => match rdA end_ (P1 end_.fr s) with
   | .own j _ => match Nat.beq i j with
    | true => D07 head end_ r
    | false => false
   | _ => false
  | .box i o => match rdA end_ (P1 end_.fr s) with
   | .box j p => match Nat.beq i j, Nat.beq o p with
    | true, true => D07 head end_ r
    | _, _ => false
   | _ => false
  | _ => D07 head end_ r
def q0d : AV → Bool
 | .dead => true
 | _ => false
def H0e : List (Nat × AV) → List AV
 | [] => []
 | (_, av) :: r => match q0d av with
  | true => H0e r
  | false => av :: H0e r
def p0a (fr : List (Nat × AV)) : List (Nat × AV) → List AV
 | [] => []
 | (s, av) :: r => match q0d av with
  | true => p0a fr r
  | false => P1 fr s :: p0a fr r
def M02 (head end_ : St) : List d4 → List d4 → Bool
 | [], [] => true
 | .val _ :: r, .val _ :: r' => M02 head end_ r r'
 | .own i _ :: r, .own j k' :: r' => match Nat.beq i j, rdA end_ (.own j k') with
  | true, .own _ _ => M02 head end_ r r'
  | _, _ => false
 | _, _ => false
def A05 (os : List Nat) : List d4 → Bool
 | [] => true
 | .val _ :: r => A05 os r
 | .own i _ :: r => match C04 i os with
  | true => false
  | false => A05 os r
def r0d (os : List Nat) : BSt → Bool
 | .live cs _ => A05 os cs
 | .publ _ => true
def G06 (A : Ann) (head end_ : St) : Nat → List BSt → List BSt → Prop
 | _, [], _ => True
 | i, b :: r, b' :: r' => match C04 i A.boxes with
  | true => match b, b' with
   | .live cs ty, .live cs' ty' => match Nat.beq ty ty', M02 head end_ cs cs' with
    | true, true => G06 A head end_ (i + 1) r r'
    | _, _ => False
   | _, _ => False
  | false => match r0d A.owns b with
   | true => b' = b ∧ G06 A head end_ (i + 1) r r'
   | false => False
 | _, _ :: _, [] => False
def leB (a b : Bool) : Bool := match a with
 | true => b
 | false => true
def H06 (A : Ann) : Nat → List Own → List Own → Prop
 | _, [], _ => True
 | i, b :: r, b' :: r' => match C04 i A.owns with
  | true => match b, b' with
   | ⟨s, .live e sz by_ nn _⟩, ⟨s', .live e' sz' by' nn' _⟩ => match Nat.beq e e', Nat.beq sz sz', Nat.beq by_ by', leB nn nn', leB (C04 i A.kept) (Nat.beq s s') with
    | true, true, true, true, true => H06 A (i + 1) r r'
    | _, _, _, _, _ => False
   | _, _ => False
  | false => b' = b ∧ H06 A (i + 1) r r'
 | _, _ :: _, [] => False
def B05 : Nat → (List Value → Prop) → Prop
 | 0, K => K []
 | n + 1, K => ∀ v, B05 n fun vs => K (v :: vs)
def C05 : Nat → (List (List (List Value)) → Prop) → Prop
 | 0, K => K []
 | n + 1, K => ∀ xs, C05 n fun os => K (xs :: os)
abbrev I06 := List Value → List (List (List Value)) → Hp → Prop
abbrev x03 := List Value → List (List (List Value)) → Nat
def z0g : List Value → List Value → Bool
 | [], [] => true
 | _ :: r, _ :: r' => z0g r r'
 | _, _ => false
def W0b (A : Ann) (I : I06) (vs : List Value) (os : List (List (List Value))) (h : Hp) : Prop := match A.fuel with
 | false => I vs os h
 | true => ∃ m : Nat, I (.int .i64 m :: vs) os h
def X0b (A : Ann) (I : I06) (μ : x03) (vs : List Value) (os : List (List (List Value))) (X : Nat → Hp → Prop) : Prop := match A.fuel with
 | false => ∀ h', I vs os h' → X (μ vs os) h'
 | true => ∀ (m : Nat) (h' : Hp), I (.int .i64 m :: vs) os h' → X m h'
def A0g (A : Ann) (I : I06) (μ : x03) (m : Nat) (vs : List Value) (os : List (List (List Value))) (h : Hp) : Prop := match A.fuel with
 | false => I vs os h ∧ μ vs os < m
 | true => ∃ m' : Nat, I (.int .i64 m' :: vs) os h ∧ m' < m
def atI (A : Ann) (I : I06) (μ : x03) (m : Nat) (vs : List Value) (os : List (List (List Value))) (h : Hp) : Prop := match A.fuel with
 | false => I vs os h ∧ m = μ vs os
 | true => I (.int .i64 m :: vs) os h
theorem E0f {A : Ann} {I : I06} {μ : x03} {vs : List Value} {os : List (List (List Value))} {h : Hp} (hh : W0b A I vs os h) : ∃ m, atI A I μ m vs os h := by
 unfold W0b at hh
 unfold atI
 cases hf : A.fuel with
 | false => rw [hf] at hh; exact ⟨_, hh, rfl⟩
 | true => rw [hf] at hh; exact hh
theorem F0f {A : Ann} {I : I06} {μ : x03} {vs : List Value} {os : List (List (List Value))} {X : Nat → Hp → Prop} (hh : X0b A I μ vs os X) {m : Nat} {h : Hp} (ha : atI A I μ m vs os h) : X m h := by
 unfold X0b at hh
 unfold atI at ha
 cases hf : A.fuel with
 | false => rw [hf] at hh ha; rw [ha.2]; exact hh _ ha.1
 | true => rw [hf] at hh ha; exact hh _ _ ha
theorem B0g {A : Ann} {I : I06} {μ : x03} {m : Nat} {vs : List Value} {os : List (List (List Value))} {h : Hp} (hh : A0g A I μ m vs os h) : ∃ m', atI A I μ m' vs os h ∧ m' < m := by
 unfold A0g at hh
 unfold atI
 cases hf : A.fuel with
 | false => rw [hf] at hh; exact ⟨_, ⟨hh.1, rfl⟩, hh.2⟩
 | true => rw [hf] at hh; exact hh
def G0f (A : Ann) (dyn sta : List (Nat × AV)) (st0 : St) (I : I06) (μ : x03) (vs0 : List Value) (m : Nat) (st : St) (h : Hp) : Prop :=
 match Nat.beq st.n st0.n, D07 st0 st dyn with
 | true, true => p0a st.fr sta = H0e sta ∧ G06 A st0 st 0 st0.bx st.bx ∧ H06 A 0 st0.ow st.ow ∧
   p0d A st fun vs os => match z0g vs vs0 with
    | true => M03 A.vars.length vs fun _ v2 => J02 A.boxes v2 st0.bx fun _ => K02 A.owns os st0.ow fun _ => A0g A I μ m vs os h
    | false => False
 | _, _ => False
def X0d (body : (Ex → St → Hp → Prop) → St → Hp → Prop) (ds0 : List Nat) (Q : Ex → St → Hp → Prop) (st : St) (h : Hp) : Prop :=
 ∃ (A : Ann) (I : I06) (μ : x03), T0b A.nils st fun st => x08 A.nilsB st fun st => U0b A.pubs st h fun st h => p0d A st fun vs0 os0 => W0b A I vs0 os0 h ∧
  E06 ds0 fun ds => L04 A st ds [] fun dyn => L02 A ds st st.fr fun sta =>
   B05 vs0.length fun vs => C05 os0.length fun os => X0b A I μ vs os fun m h' =>
    M03 A.vars.length vs fun v1 v2 => J02 A.boxes v2 st.bx fun bx => K02 A.owns os st.ow fun ow =>
     body (fun e st' h'' => match e with
      | .normal => U0b A.pubs st' h'' fun st' h'' => G0f A dyn sta st I μ vs m st' h''
      | e => Q e st' h'') ⟨st.n, F06 A.vars v1 (dyn ++ sta), bx, ow⟩ h'
def H0f (b : Bool) (X Y : Prop) : Prop := (b = true → X) ∧ (b = false → Y)
def ev (P : Program) : Code → (Ex → St → Hp → Prop) → St → Hp → Prop
 | .skip, Q, st, h => Q .normal st h
 | .region _ ops false, Q, st, h => match w0g P ops.toList with
  | true => W00 st.n ops.toList = true ∧ evU P ops.toList 0 [] [] st h fun st h => Q .normal st h
  | false => A07 P ops.toList 0 ⟨st, h, [], []⟩ fun rs => Q .normal rs.st rs.h
 | .region _ ops true, Q, st, h => ((P.follows .mixedOrders = true ∧ Region.lexB .any ops = true) ∧
   evQ P ops.toList 0 ⟨st, h, [], []⟩ fun rs => Q .normal rs.st rs.h) ∨
   ((P.follows .mixedOrders = true ∧ J7 st.n ops.toList = true) ∧ evS P ops.toList [] st h fun st h => Q .normal st h) ∨
   (match B0f ops.toList with
    | none => (P.follows .mixedOrders = true ∧ J7 st.n ops.toList = true) ∧ K00 P st h ops.toList 0 [] [] [] fun L X E => ∃ c, (U9 E = true ∧ w02 X (X ++ E) (E.drop c) = true) ∧ evC (F8 L st ops.toList) ops.size P c E L st h fun st h => Q .normal st h
    | some o => (P.follows .mixedOrders = true ∧ (J7 st.n (B8 ops.toList) && B07 ops.toList 0) = true) ∧ K00 P st h (B8 ops.toList) 0 [] [] [] fun L X E => ∃ c, (U9 E = true ∧ w02 X (X ++ E) (E.drop c) = true) ∧ evC (F8 L st (B8 ops.toList)) (B8 ops.toList).length P c E L st h fun st h => b01 P o st h fun st h => Q .normal st h) ∨
   ((P.follows .mixedOrders = true ∧ W00 st.n ops.toList = true) ∧ evU P ops.toList 0 [] [] st h fun st h => Q .normal st h) ∨
   (∃ m, (P.follows .mixedOrders = true ∧ okZ P st.n m ops.toList = true) ∧ evT P (b01 P) m ops.toList st h fun st h => Q .normal st h)
 | .seq a b, Q, st, h => ev P a (fun e st h => match e with
  | .normal => ev P b Q st h
  | e => Q e st h) st h
 | .cond c t e, Q, st, h => match rdO st c with
  | .val (.bool b) => H0f b (ev P t Q st h) (ev P e Q st h)
  | _ => False
 | .block id c, Q, st, h => ev P c (fun e st h => match e with
  | .exit i => match Nat.beq i id with
   | true => Q .normal st h
   | false => Q (.exit i) st h
  | e => Q e st h) st h
 | .loop body, Q, st, h => X0d (fun Q => ev P body Q) (Z09 body []) Q st h
 | .exit id, Q, st, h => Q (.exit id) st h
 | .ret, Q, st, h => Q .ret st h
 | _, _, _, _ => False
def s0d (P : Program) : List ResultVar → St → Hp → (List Value → St → Hp → Prop) → Prop
 | [], st, h, K => K [] st h
 | .tmp t :: r, st, h, K => rfy (rdA st (P1 st.fr t)) st h fun v st h => s0d P r st h fun vs st h => K (v :: vs) st h
 | .cell t ty :: r, st, h, K => match rdA st (P1 st.fr t) with
  | .box i off => match nth st.bx i with
   | some (.live cs _) => z01 P ty cs off fun av => rfy av st h fun v st h => s0d P r st h fun vs st h => K (v :: vs) st h
   | _ => False
  | _ => False
def Y0b : List Value → Value
 | [v] => v
 | vs => .tuple vs.toArray
def D05 : Nat → List Value → List (Nat × AV)
 | _, [] => []
 | i, v :: r => (i, .val v) :: D05 (i + 1) r
def w0h (P : Program) (fn : Func) (args : List Value) (h : Hp) (T : Value → Hp → Prop) : Prop :=
 match fn.body with
 | some c => match Nat.ble args.length fn.ntmps with
  | true => ev P c (fun e st h => match e with
   | .exit _ => False
   | _ => s0d P fn.results.toList st h fun vs _ h => T (Y0b vs) h) ⟨fn.ntmps, D05 0 args, [], []⟩ h
  | false => False
 | none => False
end Go.H
