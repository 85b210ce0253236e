/- Plain laws over the model: what a function's code asks: regions with guards, regions that draw their order, branches and loops. -/
import Derived.Test.YtknoadmdnjaocaaGreatH2
namespace Go.H
set_option linter.unusedVariables false
structure BE where
 j : Nat
 d : Nat
 e : Bool
 ch : List (Nat × Bool)
structure RS where
 st : St
 h : Hp
 gf : List (Nat × List (Nat × Bool) × AV)
 bs : List BE
def X08 : List (Nat × List (Nat × Bool) × AV) → Nat → Option (List (Nat × Bool) × AV)
 | [], _ => none
 | (k, x) :: r, s => match Nat.beq k s with
  | true => some x
  | false => X08 r s
def eqB (a b : Bool) : Bool := match a, b with
 | true, true => true
 | false, false => true
 | _, _ => false
def c0i : List (Nat × Bool) → List (Nat × Bool) → Bool
 | [], [] => true
 | (j, w) :: r, (j', w') :: r' => match Nat.beq j j', eqB w w' with
  | true, true => c0i r r'
  | _, _ => false
 | _, _ => false
def Z0c (a : List (Nat × Bool)) : List (Nat × Bool) → Bool
 | [] => c0i a []
 | x :: r => match c0i a (x :: r) with
  | true => true
  | false => Z0c a r
def rdG (rs : RS) (ch : List (Nat × Bool)) : Operand → AV
 | .tmp t => match X08 rs.gf t with
  | some (ch2, av) => match Z0c ch2 ch with
   | true => rdA rs.st av
   | false => .dead
  | none => rdA rs.st (V1 rs.st.fr t)
 | x => rdO rs.st x
def T9 : List BE → Nat → Option BE
 | [], _ => none
 | b :: r, j => match Nat.beq b.j j with
  | true => some b
  | false => T9 r j
def R05 : List BE → Nat → Option BE
 | [], _ => none
 | b :: r, s => match Nat.beq b.d s with
  | true => some b
  | false => R05 r s
def lit (w e : Bool) : Bool := match w with
 | true => e
 | false => !e
def cB (bs : List BE) : List (Nat × Bool) → Option Bool
 | [] => some true
 | (j, w) :: r => match T9 bs j with
  | some b => match r with
   | [] => some (lit w b.e)
   | _ => match cB bs r with
    | some c => some (lit w b.e && c)
    | none => none
  | none => none
def O7 (bs : List BE) : Option (Nat × Bool) → Option (List (Nat × Bool))
 | none => some []
 | some (j, w) => match T9 bs j with
  | some b => some ((j, w) :: b.ch)
  | none => none
def imp (ch : List (Nat × Bool)) (c : Bool) (X : Prop) : Prop := match ch with
 | [] => X
 | _ => c = true → X
def a0d (rs : RS) (ch : List (Nat × Bool)) : List Operand → Option (List (Nat × Value))
 | [] => some []
 | .tmp t :: r => match y01 (rdG rs ch (.tmp t)) with
  | some v => match a0d rs ch r with
   | some vs => some ((t, v) :: vs)
   | none => none
  | none => none
 | .global _ :: _ => none
 | _ :: r => a0d rs ch r
def A0j (rs : RS) (ch : List (Nat × Bool)) : List Operand → St → Hp → (List (Nat × Value) → St → Hp → Prop) → Prop
 | [], st, h, K => K [] st h
 | .tmp t :: r, st, h, K => rfy (rdA st (rdG rs ch (.tmp t))) st h fun v st h => A0j rs ch r st h fun vs st h => K ((t, v) :: vs) st h
 | .global _ :: _, _, _, _ => False
 | _ :: r, st, h, K => A0j rs ch r st h K
def V0b (P : Program) (o : Oper) (ch : List (Nat × Bool)) (c : Bool) (rs : RS) (K : AV → Prop) : Prop :=
 match U07 o.op, a0d rs ch o.op.operands.toList with
 | false, some vs => match Y04 (rho vs) o with
  | some (f, l) => match okF P f with
   | true => ∃ v, imp ch c (Tr P f l.toArray rs.h fun v' h' => v' = v ∧ h' = rs.h) ∧ K (.val v)
   | false => False
  | none => match evP P (X0c (rho vs) o) with
   | some (.value v) => K (.val v)
   | _ => False
 | false, none => ∃ r, imp ch c (A0j rs ch o.op.operands.toList rs.st rs.h fun vs _ hf => match Y04 (rho vs) o with
  | some (f, l) => match okF P f with
   | true => Tr P f l.toArray hf fun v h' => v = r ∧ h' = hf
   | false => False
  | none => False) ∧ K (.val r)
 | _, _ => False
def evG (P : Program) (o : Oper) (ch : List (Nat × Bool)) (c : Bool) (rs : RS) (K : AV → Prop) : Prop :=
 match o.op with
 | .move x | .assign x => match rdG rs ch x with
  | .dead => False
  | a => K a
 | .pick (.tmp s) a b => match rdG rs ch (.tmp s), R05 rs.bs s with
  | .val (.bool e), some q => match Z0c q.ch ch with
   | true => match rdG rs ((q.j, true) :: q.ch) a, rdG rs ((q.j, false) :: q.ch) b with
    | .val (.bool x), .val (.bool y) => K (.val (.bool (cond e x y)))
    | _, _ => False
   | false => False
  | _, _ => False
 | .fieldAddr t x k => match rdG rs ch x, S0b P t k with
  | .box i off, some fo => K (.box i (off + fo))
  | .hel s i sz k, some fo => K (.hel s i sz (k + fo))
  | .oel i s j sz k, some fo => K (.oel i s j sz (k + fo))
  | _, _ => False
 | .indexAddr t x i => match rdG rs ch i with
  | .val (.int _ j) => match w8 P t with
   | some e => match L4 P e with
    | some sz => match rdG rs ch x with
     | .val (.slice a n cp) => imp ch c (InB (.slice a n cp) j) ∧ K (.hel (.slice a n cp) j sz 0)
     | .own i k => match nth rs.st.ow i with
      | some ⟨_, .live _ sz' _ _ xs⟩ => match Nat.beq sz' sz with
       | true => imp ch c (0 ≤ j ∧ j < (xs.length : Int)) ∧ K (.oel i k j sz 0)
       | false => False
      | _ => False
     | _ => False
    | none => False
   | none => False
  | _ => False
 | .load t x => match rdG rs ch x with
  | .box i off => match nth rs.st.bx i with
   | some (.live cs _) => w01 P t cs off K
   | _ => False
  | .hel s idx sz k => ∃ e, imp ch c (t00 rs.h s sz idx e) ∧ w01 P t (vals e) k K
  | .oel i _ idx sz k => match nth rs.st.ow i with
   | some ⟨_, .live _ sz' _ _ xs⟩ => match Nat.beq sz' sz with
    | true => ∃ e, imp ch c (xs[idx.toNat]? = some e) ∧ w01 P t (vals e) k K
    | false => False
   | _ => False
  | _ => False
 | .build t ps => match P.underlying t, F8 P t with
  | some (.struct fs), some z => match z02 P fs.toList with
   | true => N03 P fs (rdG rs ch) ps.toList (vals z.cells.toList) fun cs => K (.agg cs)
   | false => False
  | _, _ => False
 | .index t x i => match rdG rs ch x, rdG rs ch i, P.underlying t with
  | .val (.string s), .val (.int _ j), some .string => ∃ e, imp ch c (0 ≤ j ∧ s[j.toNat]? = some e) ∧ K (.val (.int .u8 e.toNat))
  | _, _, _ => False
 | .slice t x lo hi none => match rdG rs ch x, P.underlying t with
  | .val (.string s), some .string => match X01 0 (lo.map (rdG rs ch)), X01 s.size (hi.map (rdG rs ch)) with
   | some l, some m => imp ch c (0 ≤ l ∧ l ≤ m ∧ m ≤ (s.size : Int)) ∧ K (.val (.string (s.extract l.toNat m.toNat)))
   | _, _ => False
  | .val (.slice ad n cp), _ => match w8 P t with
   | some e => match L4 P e with
    | some sz => match X01 0 (lo.map (rdG rs ch)), X01 n (hi.map (rdG rs ch)) with
     | some l, some m => ∃ v, imp ch c ((0 ≤ l ∧ l ≤ m ∧ m ≤ (n : Int) ∧ n ≤ cp) ∧ T0e sz (.slice ad n cp) l.toNat m.toNat v) ∧ K (.val v)
     | _, _ => False
    | none => False
   | none => False
  | _, _ => False
 | .binOp .eql t x y yt => match y01 (rdG rs ch x), y01 (rdG rs ch y) with
  | some (.agg xs), some (.agg ys) => ∃ b, imp ch c (Q05 P o x y (.agg xs) (.agg ys) b) ∧ K (.val (.bool b))
  | some (.slice a n m), some (.slice none 0 0) => ∃ b, imp ch c (Q05 P o x y (.slice a n m) (.slice none 0 0) b) ∧ K (.val (.bool b))
  | _, _ => V0b P o ch c rs K
 | .binOp .neq t x y yt => match y01 (rdG rs ch x), y01 (rdG rs ch y) with
  | some (.agg xs), some (.agg ys) => ∃ b, imp ch c (Q05 P o x y (.agg xs) (.agg ys) b) ∧ K (.val (.bool b))
  | _, _ => V0b P o ch c rs K
 | .binOp .add t x y yt => match rdG rs ch x, rdG rs ch y with
  | .val (.string a), .val (.string b) => imp ch c (a.size + b.size ≤ 9223372036854775807) ∧ K (.val (.string (a ++ b)))
  | _, _ => V0b P o ch c rs K
 | .binOp .quo t x y yt => match rdG rs ch x, rdG rs ch y with
  | .val (.int .i64 a), .val (.int .i64 b) => imp ch c (b ≠ 0) ∧ K (.val (.int .i64 (IntKind.i64.wrap (a.tdiv b))))
  | _, _ => V0b P o ch c rs K
 | .binOp .rem t x y yt => match rdG rs ch x, rdG rs ch y with
  | .val (.int .i64 a), .val (.int .i64 b) => imp ch c (b ≠ 0) ∧ K (.val (.int .i64 (a.tmod b)))
  | _, _ => V0b P o ch c rs K
 | .call { callee := .builtin .len, args := as, argTypes := ts } => match as.toList, ts.toList with
  | [x], [t] => match rdG rs ch x with
   | .own i _ => match nth rs.st.ow i, w8 P t with
    | some ⟨_, .live _ _ _ _ xs⟩, some _ => K (.val (.int .i64 xs.length))
    | _, _ => False
   | _ => V0b P o ch c rs K
  | _, _ => False
 | _ => V0b P o ch c rs K
def O03 (rs : RS) (d : Nat) : Bool := match X08 rs.gf d, R05 rs.bs d with
 | none, none => false
 | _, _ => true
def b0d (i d : Nat) (ch : List (Nat × Bool)) (av : AV) (bs : List BE) : List BE := match av with
 | .val (.bool e) => ⟨i, d, e, ch⟩ :: bs
 | _ => bs
def Y08 (d : Option Tmp) (i : Nat) (ch : List (Nat × Bool)) (av : AV) (rs : RS) (K : RS → Prop) : Prop :=
 match d with
 | none => K rs
 | some d => match Nat.blt d rs.st.n, O03 rs d with
  | true, false => match ch with
   | [] => K { rs with st := { rs.st with fr := (d, av) :: rs.st.fr }, bs := b0d i d ch av rs.bs }
   | _ => K { rs with st := { rs.st with fr := (d, .dead) :: rs.st.fr }, gf := (d, ch, av) :: rs.gf, bs := b0d i d ch av rs.bs }
  | _, _ => False
def V0e : Op → Bool
 | .pick .. => true
 | _ => false
def V07 (P : Program) : List Oper → Nat → RS → (RS → Prop) → Prop
 | [], _, rs, K => K rs
 | o :: r, i, rs, K => match o.guard, V0e o.op with
  | none, false => d7 P o rs.st rs.h fun av st h => Y08 o.dst i [] av { rs with st := st, h := h } fun rs => V07 P r (i + 1) rs K
  | _, _ => match O7 rs.bs o.guard with
   | some ch => match cB rs.bs ch with
    | some c => evG P o ch c rs fun av => Y08 o.dst i ch av rs fun rs => V07 P r (i + 1) rs K
    | none => False
   | none => False
def evQ (P : Program) : List Oper → Nat → RS → (RS → Prop) → Prop
 | [], _, rs, K => K rs
 | o :: r, i, rs, K => match O7 rs.bs o.guard with
  | some ch => match cB rs.bs ch with
   | some c => evG P o ch c rs fun av => Y08 o.dst i ch av rs fun rs => evQ P r (i + 1) rs K
   | none => False
  | none => False
def Sub (h h' : Hp) : Prop := ∀ b o, h b = some o → h' b = some o
def d0i (v : Value) (K : Value → Prop) : Prop := match v with
 | .bool b => K (.bool b)
 | .int k n => K (.int k n)
 | .string s => K (.string s)
 | .pointer a => K (.pointer a)
 | .slice a n c => K (.slice a n c)
 | .func f x y => K (.func f x y)
 | .agg cs => K (.agg cs)
 | .tuple vs => K (.tuple vs)
 | v => K v
theorem Y0g (v : Value) (K : Value → Prop) : d0i v K = K v := by cases v <;> rfl
def Z8 {α : Type} : List α → (List α → Prop) → Prop
 | [], K => K []
 | x :: r, K => Z8 r fun r => K (x :: r)
theorem J9 {α : Type} : ∀ (l : List α) (K : List α → Prop), Z8 l K = K l
 | [], K => rfl
 | x :: r, K => by simp only [Z8, J9 r]
def z01 : Nat → (Nat → Prop) → Prop
 | 0, K => K 0
 | n + 1, K => z01 n fun m => K (m + 1)
theorem P03 : ∀ (n : Nat) (K : Nat → Prop), z01 n K = K n
 | 0, K => rfl
 | n + 1, K => by simp only [z01, P03 n]
def i00 (av : AV) (K : AV → Prop) : Prop := match av with
 | .val v => d0i v fun v => K (.val v)
 | .own i k => K (.own i k)
 | .box i k => K (.box i k)
 | .hel s i z k => z01 z fun z => z01 k fun k => K (.hel s i z k)
 | .oel j s i z k => z01 z fun z => z01 k fun k => K (.oel j s i z k)
 | .agg cs => Z8 cs fun cs => K (.agg cs)
 | .dead => K .dead
theorem K9 (av : AV) (K : AV → Prop) : i00 av K = K av := by
 cases av with
 | val v => exact Y0g v (fun v => K (.val v))
 | hel s i z k => simp only [i00, P03]
 | oel j s i z k => simp only [i00, P03]
 | agg cs => simp only [i00, J9]
 | _ => rfl
inductive Z4 where
 | pu (av : AV)
 | ef (F : Value → Hp → Prop)
def I1 : List (Nat × Z4) → Nat → Option Z4
 | [], _ => none
 | (k, x) :: r, s => match Nat.beq k s with
  | true => some x
  | false => I1 r s
def rdS (L : List (Nat × Z4)) (st : St) : Operand → AV
 | .tmp t => match I1 L t with
  | some (.pu av) => rdA st av
  | some (.ef _) => .dead
  | none => rdA st (V1 st.fr t)
 | x => rdO st x
def Z08 (P : Program) (t : TypeId) (cs : List D4) (off : Nat) : Option AV :=
 match R0b P t with
 | some true => match L4 P t with
  | some n => match G03 ((cs.drop off).take n) n with
   | true => some (.agg ((cs.drop off).take n))
   | false => none
  | none => none
 | some false => match nth cs off with
  | some c => some (ofCell c)
  | none => none
 | none => none
def r05 (P : Program) (L : List (Nat × Z4)) (o : Oper) (st : St) : Option AV := match o.op with
 | .move x | .assign x => match rdS L st x with
  | .dead => none
  | a => some a
 | .load t x => match rdS L st x with
  | .box i off => match nth st.bx i with
   | some (.live cs _) => Z08 P t cs off
   | _ => none
  | _ => none
 | _ => none
def Q03 (L : List (Nat × Z4)) (st : St) (h : Hp) : List Operand → List (Nat × AV) → (List (Nat × AV) → Prop) → Prop
 | [], acc, K => K acc
 | .tmp t :: r, acc, K => match I1 L t with
  | some (.pu av) => Q03 L st h r ((t, av) :: acc) K
  | some (.ef F) => ∀ v, F v h → Q03 L st h r ((t, .val v) :: acc) K
  | none => Q03 L st h r ((t, V1 st.fr t) :: acc) K
 | _ :: r, acc, K => Q03 L st h r acc K
def c0d (h : Hp) : List (Nat × Z4) → List (Nat × AV) → (List (Nat × AV) → Prop) → Prop
 | [], fr, K => K fr
 | (d, .pu av) :: r, fr, K => c0d h r ((d, av) :: fr) K
 | (d, .ef F) :: r, fr, K => ∀ v, F v h → c0d h r ((d, .val v) :: fr) K
def A01 (d : Option Tmp) (f : Z4) (L : List (Nat × Z4)) : List (Nat × Z4) := match d with
 | some d => (d, f) :: L
 | none => L
def l0k (st : St) (h : Hp) (F : Value → Hp → Prop) : AV → St → Hp → Prop
 | .val v, st', h' => st' = st ∧ Sub h h' ∧ F v h'
 | _, _, _ => False
def evS (P : Program) : List Oper → List (Nat × Z4) → St → Hp → (St → Hp → Prop) → Prop
 | [], L, ⟨n, fr, bx, ow⟩, h, K => ∀ h', Sub h h' → c0d h' L fr fun fr => K ⟨n, fr, bx, ow⟩ h'
 | o :: r, L, ⟨n, fr, bx, ow⟩, h, K => match o.guard with
  | some _ => False
  | none => match r05 P L o ⟨n, fr, bx, ow⟩ with
   | some av => i00 av fun av => evS P r (A01 o.dst (.pu av) L) ⟨n, fr, bx, ow⟩ h K
   | none => ∃ F : Value → Hp → Prop, (∀ v h1 h2, Sub h1 h2 → F v h1 → F v h2) ∧
     (∀ h', Sub h h' → Q03 L ⟨n, fr, bx, ow⟩ h' o.op.operands.toList [] fun fr => d7 P o ⟨n, fr, bx, ow⟩ h' (l0k ⟨n, fr, bx, ow⟩ h' F)) ∧
     evS P r (A01 o.dst (.ef F) L) ⟨n, fr, bx, ow⟩ h K
def a8 (i : Nat) (o : Oper) : Bool := o.after.toList.any fun e => Region.binds .any e && Nat.beq e.on i
def L9 (o : Oper) (t : Nat) : List Oper → Nat → Bool
 | [], _ => true
 | x :: r, i => match x.dst with
  | some d => match Nat.beq d t with
   | true => a8 i o && L9 o t r (i + 1)
   | false => L9 o t r (i + 1)
  | none => L9 o t r (i + 1)
def S05 (o : Oper) (ops : List Oper) : List Operand → Bool
 | [] => true
 | .tmp t :: r => L9 o t ops 0 && S05 o ops r
 | _ :: r => S05 o ops r
def R03 (d : Nat) : List Oper → Bool
 | [] => true
 | o :: r => match o.dst with
  | some d' => !Nat.beq d d' && R03 d r
  | none => R03 d r
def d0d (n : Nat) : List Oper → Bool
 | [] => true
 | o :: r => match o.dst with
  | some d => Nat.blt d n && R03 d r && d0d n r
  | none => d0d n r
def W07 : List Oper → Nat → Bool
 | [], _ => true
 | o :: r, j => (o.after.toList.all fun e => !Region.binds .any e || Nat.blt e.on j) && W07 r (j + 1)
def U0f (ops : List Oper) : List Oper → Bool
 | [] => true
 | o :: r => S05 o ops o.op.operands.toList && U0f ops r
def W7 (n : Nat) (ops : List Oper) : Bool := d0d n ops && W07 ops 0 && U0f ops ops
def V0f : List D4 → Bool
 | [] => true
 | .val _ :: r => V0f r
 | .own _ _ :: _ => false
def W0b : AV → Bool
 | .val _ => true
 | .box _ _ => true
 | .own _ _ => true
 | .agg cs => V0f cs
 | _ => false
def p02 (L : List (Nat × Z4)) (st : St) : Operand → AV
 | .tmp t => match I1 L t with
  | some (.pu av) => av
  | some (.ef _) => .dead
  | none => V1 st.fr t
 | .const v => .val v
 | _ => .dead
def X07 (L : List (Nat × Z4)) (st : St) : List Operand → Option (List (Nat × Value))
 | [] => some []
 | .tmp t :: r => match p02 L st (.tmp t) with
  | .val v => match X07 L st r with
   | some vs => some ((t, v) :: vs)
   | none => none
  | _ => none
 | .global _ :: _ => none
 | _ :: r => X07 L st r
def W0e (P : Program) (L : List (Nat × Z4)) (o : Oper) (st : St) : Option AV := match U07 o.op, X07 L st o.op.operands.toList with
 | false, some vs => match Y04 (rho vs) o with
  | some _ => none
  | none => match evP P (X0c (rho vs) o) with
   | some (.value v) => some (.val v)
   | _ => none
 | _, _ => none
def o0l : AV → Bool
 | .val (.int _ _) => true
 | _ => false
def C0l : BinOp → Bool
 | .lss => true
 | .leq => true
 | .gtr => true
 | .geq => true
 | _ => false
def Z04 (P : Program) (L : List (Nat × Z4)) (o : Oper) (st : St) : Option AV := match o.op with
 | .move x => match W0b (p02 L st x) with
  | true => some (p02 L st x)
  | false => none
 | .assign x => match W0b (p02 L st x) with
  | true => some (p02 L st x)
  | false => none
 | .load t x => match p02 L st x with
  | .box i off => match nth st.bx i with
   | some (.live cs _) => match Z08 P t cs off with
    | some av => match W0b av with
     | true => some av
     | false => none
    | none => none
   | _ => none
  | _ => none
 | .fieldAddr t x k => match p02 L st x, S0b P t k with
  | .box i off, some fo => some (.box i (off + fo))
  | _, _ => none
 | .binOp op _ x y _ => match C0l op, o0l (p02 L st x), o0l (p02 L st y) with
  | true, true, true => W0e P L o st
  | _, _, _ => none
 | .call { callee := .builtin .len, args := as, argTypes := _ } => match as.toList with
  | [x] => match p02 L st x with
   | .val (.slice _ _ _) => W0e P L o st
   | _ => none
  | _ => none
 | _ => none
def A8 (L : List (Nat × Z4)) (st : St) : List Oper → List Nat
 | [] => []
 | o :: r => match o.op with
  | .load _ x => match p02 L st x with
   | .box i _ => i :: A8 L st r
   | _ => A8 L st r
  | _ => A8 L st r
def a05 (bx : List BSt) : List Nat → List (Option BSt)
 | [] => []
 | i :: r => nth bx i :: a05 bx r
def S03 (L : List (Nat × Z4)) (fr0 : List (Nat × AV)) : List Operand → List (Nat × AV) → (List (Nat × AV) → Prop) → Prop
 | [], acc, K => K acc
 | .tmp t :: r, acc, K => match I1 L t with
  | some (.pu av) => S03 L fr0 r ((t, av) :: acc) K
  | some (.ef _) => S03 L fr0 r ((t, .dead) :: acc) K
  | none => S03 L fr0 r ((t, V1 fr0 t) :: acc) K
 | _ :: r, acc, K => S03 L fr0 r acc K
def X0e : List (Nat × Z4) → List (Nat × AV) → List (Nat × AV)
 | [], fr => fr
 | (d, .pu av) :: r, fr => (d, av) :: X0e r fr
 | (d, .ef _) :: r, fr => (d, .dead) :: X0e r fr
def W0f (av : AV) (st : St) (h : Hp) : AV → St → Hp → Prop := fun av' st' h' => av' = av ∧ st' = st ∧ h' = h
def e0d (P : Program) (st : St) (h : Hp) (L : List (Nat × Z4)) (o : Oper) (av : AV) : Prop :=
 match st with
 | ⟨n, fr, bx, ow⟩ => ∀ h', Sub h h' → S03 L fr o.op.operands.toList [] fun fr => d7 P o ⟨n, fr, bx, ow⟩ h' (W0f av ⟨n, fr, bx, ow⟩ h')
def N00 (P : Program) (st : St) (h : Hp) : List Oper → Nat → List (Nat × Z4) → List (Nat × Oper) → List (Nat × Oper) → (List (Nat × Z4) → List (Nat × Oper) → List (Nat × Oper) → Prop) → Prop
 | [], _, L, X, E, K => K L X E
 | o :: r, i, L, X, E, K => match o.guard with
  | some _ => False
  | none => match Z04 P L o st with
   | some av => i00 av fun av => N00 P st h r (i + 1) (A01 o.dst (.pu av) L) X E K
   | none => (∃ av, e0d P st h L o av ∧ i00 av fun av => N00 P st h r (i + 1) (A01 o.dst (.pu av) L) (X ++ [(i, o)]) E K) ∨
     N00 P st h r (i + 1) (A01 o.dst (.ef fun _ _ => True) L) X (E ++ [(i, o)]) K
def X0b (X : List (Nat × Oper)) : Nat → Nat → Oper → Bool
 | 0, i, q => a8 i q
 | n + 1, i, q => a8 i q || X.any fun y => a8 y.1 q && X0b X n i y.2
def q02 (X Y : List (Nat × Oper)) : List (Nat × Oper) → Bool
 | [] => true
 | (_, q) :: _ => X.all fun x => X0b Y 8 x.1 q
def W9 : List (Nat × Oper) → Bool
 | (i, o) :: (j, o') :: r => a8 i o' && W9 ((j, o') :: r)
 | _ => true
def B01 : Nat → Nat → Oper → Bool
 | 0, _, _ => true
 | k + 1, i, o => (Nat.beq k i || a8 k o) && B01 k i o
def T03 (d : Nat) : List Operand → Bool
 | [] => false
 | .tmp t :: r => Nat.beq t d || T03 d r
 | _ :: r => T03 d r
def a09 (d : Nat) : List Oper → Bool
 | [] => false
 | o :: r => T03 d o.op.operands.toList || a09 d r
def y8 : List Oper → List Oper
 | [] => []
 | o :: r => match r with
  | [] => []
  | _ :: _ => o :: y8 r
def b09 : List Oper → Option Oper
 | [] => none
 | o :: r => match r with
  | [] => some o
  | _ :: _ => b09 r
def e0i (ops : List Oper) : Option Oper := match b09 ops with
 | some o => match o.guard, o.dst with
  | none, some d => match a09 d (y8 ops) && B01 (y8 ops).length (y8 ops).length o with
   | true => some o
   | false => none
  | _, _ => none
 | none => none
def Y00 (P : Program) (o : Oper) (st : St) (h : Hp) (K : St → Hp → Prop) : Prop :=
 d7 P o st h fun av st h => Y08 o.dst 0 [] av ⟨st, h, [], []⟩ fun rs => K rs.st rs.h
def X0f (N i : Nat) (o : Oper) : List (Nat × Oper) → Bool
 | [] => B01 N i o
 | _ :: _ => false
def p0l (c : Nat) (b : Bool) (rd : List Nat) (bx bx' : List BSt) : Prop := match b with
 | true => True
 | false => match c with
  | 0 => a05 bx' rd = a05 bx rd
  | _ + 1 => bx' = bx
def L0k : Nat → List Own → List Own → Hp → Hp → Prop
 | 0, _, _, _, _ => True
 | _ + 1, ow, ow', h, h' => ow' = ow ∧ Sub h h'
def evC (rd : List Nat) (N : Nat) (P : Program) : Nat → List (Nat × Oper) → List (Nat × Z4) → St → Hp → (St → Hp → Prop) → Prop
 | _, [], L, ⟨n, fr, bx, ow⟩, h, K => Z8 (X0e L fr) fun fr => K ⟨n, fr, bx, ow⟩ h
 | c, (i, o) :: r, L, ⟨n, fr, bx, ow⟩, h, K => S03 L fr o.op.operands.toList [] fun fr1 => d7 P o ⟨n, fr1, bx, ow⟩ h fun av st' h' => match st' with
  | ⟨_, _, bx', ow'⟩ => L0k c ow ow' h h' ∧ p0l c (X0f N i o r) rd bx bx' ∧ i00 av fun av => Z8 bx' fun bx' => Z8 ow' fun ow' => evC rd N P (c - 1) r (A01 o.dst (.pu av) L) ⟨n, fr, bx', ow'⟩ h' K
abbrev FL := List (Nat × List (Nat × Bool) × Z4)
def J00 : FL → Nat → Option (List (Nat × Bool) × Z4)
 | [], _ => none
 | (k, x) :: r, s => match Nat.beq k s with
  | true => some x
  | false => J00 r s
def rdU (L : FL) (st : St) (ch : List (Nat × Bool)) : Operand → AV
 | .tmp t => match J00 L t with
  | some (ch2, .pu av) => match Z0c ch2 ch with
   | true => rdA st av
   | false => .dead
  | some (_, .ef _) => .dead
  | none => rdA st (V1 st.fr t)
 | x => rdO st x
def b05 (P : Program) (L : FL) (bs : List BE) (ch : List (Nat × Bool)) (o : Oper) (st : St) : Option AV := match o.op with
 | .move x | .assign x => match rdU L st ch x with
  | .dead => none
  | a => some a
 | .load t x => match rdU L st ch x with
  | .box i off => match nth st.bx i with
   | some (.live cs _) => Z08 P t cs off
   | _ => none
  | _ => none
 | .fieldAddr t x k => match rdU L st ch x, S0b P t k with
  | .box i off, some fo => some (.box i (off + fo))
  | .hel s i sz k, some fo => some (.hel s i sz (k + fo))
  | _, _ => none
 | .pick (.tmp s) a b => match rdU L st ch (.tmp s), R05 bs s with
  | .val (.bool e), some q => match Z0c q.ch ch with
   | true => match rdU L st ((q.j, true) :: q.ch) a, rdU L st ((q.j, false) :: q.ch) b with
    | .val (.bool x), .val (.bool y) => some (.val (.bool (cond e x y)))
    | _, _ => none
   | false => none
  | _, _ => none
 | _ => none
def A03 (L : FL) (st : St) (h : Hp) (ch : List (Nat × Bool)) : List Operand → List (Nat × AV) → (List (Nat × AV) → Prop) → Prop
 | [], acc, K => K acc
 | .tmp t :: r, acc, K => match J00 L t with
  | some (ch2, f) => match Z0c ch2 ch with
   | true => match f with
    | .pu av => A03 L st h ch r ((t, av) :: acc) K
    | .ef F => ∀ v, F v h → A03 L st h ch r ((t, .val v) :: acc) K
   | false => False
  | none => A03 L st h ch r ((t, V1 st.fr t) :: acc) K
 | _ :: r, acc, K => A03 L st h ch r acc K
def D0a (h : Hp) : FL → List (Nat × AV) → (List (Nat × AV) → Prop) → Prop
 | [], fr, K => K fr
 | (d, [], .pu av) :: r, fr, K => D0a h r ((d, av) :: fr) K
 | (d, [], .ef F) :: r, fr, K => ∀ v, F v h → D0a h r ((d, .val v) :: fr) K
 | (d, _ :: _, _) :: r, fr, K => D0a h r ((d, .dead) :: fr) K
def Y0b (d : Option Tmp) (ch : List (Nat × Bool)) (f : Z4) (L : FL) : FL := match d with
 | some d => (d, ch, f) :: L
 | none => L
def Z0b (i : Nat) (d : Option Tmp) (ch : List (Nat × Bool)) (av : AV) (bs : List BE) : List BE := match d with
 | some d => match av with
  | .val (.bool e) => ⟨i, d, e, ch⟩ :: bs
  | _ => bs
 | none => bs
def Y0e (st st' : St) : Prop := st'.n = st.n ∧ st'.fr = st.fr ∧ st'.bx = st.bx ∧ ∃ t, st'.ow = st.ow ++ t
def f0i (st : St) (h : Hp) (F : Value → Hp → Prop) : AV → St → Hp → Prop := fun av st' h' => rfy av st' h' fun v st'' h'' => Y0e st st'' ∧ Sub h h'' ∧ F v h''
def g0i (P : Program) (t n : Nat) (st : St) (h : Hp) (K : AV → St → Hp → Prop) : Prop :=
 match w8 P t with
 | some e => match L4 P e, Nat.beq n 0 with
  | some (_ + 1), true => ∀ g, h g = none → K (.val (.slice (some ⟨g, 0, none⟩) 0 0)) st (h.set g (.cells #[] e (0, 0)))
  | _, _ => False
 | none => False
def h0i (P : Program) (t : TypeId) (a b : Operand) (st : St) (h : Hp) (K : AV → St → Hp → Prop) : Prop :=
 match w8 P t with
 | some e => match L4 P e, q05 P e, F8 P e with
  | some (sz + 1), some (by_ + 1), some z => match G03 z.cells.toList (sz + 1) with
   | true => match rdO st a with
    | .val (.slice (some ⟨g, o, none⟩) 0 0) => O0a st h (sz + 1) (rdO st b) fun ys => P05 ys.length (by_ + 1) ∧
      ((ys = [] → K (.val (.slice (some ⟨g, o, none⟩) 0 0)) st h) ∧ ∀ v h', Q0 h h' v e (sz + 1) true ys → K (.val v) st h')
    | _ => False
   | false => False
  | _, _, _ => False
 | none => False
def f0d (P : Program) (o : Oper) (st : St) (h : Hp) (K : AV → St → Hp → Prop) : Prop :=
 match o.op with
 | .buildSlice t n ps => match ps.toList with
  | [] => g0i P t n st h K
  | _ :: _ => d7 P o st h K
 | .call { callee := .builtin .append, args := as, argTypes := ts } => match as.toList, ts.toList with
  | [a, b], [t, t'] => match Nat.beq t t' with
   | true => h0i P t a b st h K
   | false => False
  | _, _ => False
 | _ => d7 P o st h K
def evU (P : Program) (l : List Oper) : Nat → FL → List BE → St → Hp → (St → Hp → Prop) → Prop :=
  List.rec (motive := fun _ => Nat → FL → List BE → St → Hp → (St → Hp → Prop) → Prop)
    (fun _ L _ st h K => match st with
      | ⟨n, fr, bx, ow⟩ => ∀ h', Sub h h' → D0a h' L fr fun fr => K ⟨n, fr, bx, ow⟩ h')
    (fun o _ ih i L bs st h K => match st with
      | ⟨n, fr, bx, ow⟩ => match O7 bs o.guard with
        | some ch => match cB bs ch with
          | some c => match b05 P L bs ch o ⟨n, fr, bx, ow⟩ with
            | some av => i00 av fun av => ih (i + 1) (Y0b o.dst ch (.pu av) L) (Z0b i o.dst ch av bs) ⟨n, fr, bx, ow⟩ h K
            | none => (∃ av, (∀ h', Sub h h' → imp ch c (A03 L ⟨n, fr, bx, ow⟩ h' ch o.op.operands.toList [] fun fr => d7 P o ⟨n, fr, bx, ow⟩ h' (W0f av ⟨n, fr, bx, ow⟩ h'))) ∧
                  i00 av fun av => ih (i + 1) (Y0b o.dst ch (.pu av) L) (Z0b i o.dst ch av bs) ⟨n, fr, bx, ow⟩ h K) ∨
                (∃ F : Value → Hp → Prop, (∀ v h1 h2, Sub h1 h2 → F v h1 → F v h2) ∧
                  (∀ h', Sub h h' → imp ch c (A03 L ⟨n, fr, bx, ow⟩ h' ch o.op.operands.toList [] fun fr => f0d P o ⟨n, fr, bx, ow⟩ h' (f0i ⟨n, fr, bx, ow⟩ h' F))) ∧
                  ih (i + 1) (Y0b o.dst ch (.ef F) L) bs ⟨n, fr, bx, ow⟩ h K)
          | none => False
        | none => False) l
def K08 : List Oper → Bool
 | [] => true
 | o :: r => (match o.guard with
  | some (j, _) => a8 j o
  | none => true) && K08 r
def U00 (n : Nat) (ops : List Oper) : Bool := W7 n ops && K08 ops
def B0j (P : Program) : List Oper → Bool
 | [] => false
 | o :: r => (match o.guard, o.op with
  | some _, .call { callee := .value _, args := _, argTypes := _ } => match P.underlying o.type with
   | some (.slice _) => true
   | some (.struct _) => true
   | some (.tuple _) => true
   | _ => false
  | _, _ => false) || B0j P r
def n01 (o : Oper) : Bool := match o.op with
 | .alloc _ => true
 | _ => false
def Y7 (o : Oper) : Oper := match o.op with
 | .alloc _ => { o with op := .move (.const undef) }
 | _ => o
def B4 : List Oper → List Oper
 | [] => []
 | o :: r => Y7 o :: B4 r
def okA (P : Program) (all : List Oper) : List Oper → Bool
 | [] => true
 | o :: r => (match o.op with
  | .alloc t => (match o.guard, o.dst, F8 P t with
   | none, some d, some _ => !a09 d all
   | _, _, _ => false)
  | _ => true) && okA P all r
def Z0e (x : Nat) : List Nat → Bool
 | [] => false
 | y :: r => Nat.beq x y || Z0e x r
def C0j (ops : List Oper) (i : Nat) : List Nat → Bool
 | [] => false
 | j :: r => (match nth ops j with
  | some o => a8 i o
  | none => false) || C0j ops i r
def P0a (ops : List Oper) : Nat → List Nat → List Nat
 | 0, acc => acc
 | i + 1, acc => match C0j ops i acc with
  | true => P0a ops i (i :: acc)
  | false => P0a ops i acc
def T05 (o : Oper) : Option Nat := match o.guard with
 | some _ => none
 | none => match o.op with
  | .extract (.tmp t) _ => some t
  | .move (.tmp t) => some t
  | .assign (.tmp t) => some t
  | _ => none
def U05 (d : Nat) : List Oper → Bool
 | [] => false
 | o :: r => (match o.dst with
  | some e => Nat.beq e d
  | none => false) || U05 d r
def C02 (ml : List Nat) (t : Nat) : List Oper → Nat → Bool
 | [], _ => true
 | o :: r, i => (match o.dst with
  | some e => !Nat.beq e t || Z0e i ml
  | none => true) && C02 ml t r (i + 1)
def D02 (i d : Nat) : List Oper → Bool
 | [] => true
 | o :: r => (!T03 d o.op.operands.toList || a8 i o) && D02 i d r
def Y0f (pre tl : List Oper) (ml : List Nat) (i : Nat) (o : Oper) : Bool := match T05 o, o.dst with
 | some t, some d => !U05 d tl && !U05 t tl && C02 ml t pre 0 && D02 i d tl
 | _, _ => false
def L08 (pre tl : List Oper) (ml : List Nat) : List Oper → Nat → Bool
 | [], _ => true
 | o :: r, i => (Z0e i ml || Y0f pre tl ml i o) && L08 pre tl ml r (i + 1)
def g0d : List Oper → Bool
 | [] => true
 | o :: r => !U07 o.op && g0d r
def i0i : Nat → List Oper → Bool
 | _, [] => true
 | k, o :: r => (match o.guard with
  | none => true
  | some _ => false) && (match r with
  | [] => true
  | o' :: _ => a8 k o') && i0i (k + 1) r
def q0l : List Oper → Bool
 | [] => true
 | _ :: _ => false
def okZ (P : Program) (n m : Nat) (ops : List Oper) : Bool :=
 U00 n (B4 (ops.take m)) && okA P (ops.take m) (ops.take m) && W07 ops 0 && i0i m (ops.drop m) && (q0l (ops.drop m) || (L08 (ops.take m) (ops.drop m) (P0a ops m [m]) (ops.take m) 0 && g0d (ops.drop m)))
abbrev M0k := Oper → St → Hp → (St → Hp → Prop) → Prop
def doA (R : M0k) (l : List Oper) : St → Hp → (St → Hp → Prop) → Prop :=
 List.rec (motive := fun _ => St → Hp → (St → Hp → Prop) → Prop) (fun st h K => K st h) (fun o _ ih st h K => match n01 o with
  | true => R o st h fun st h => ih st h K
  | false => ih st h K) l
def doT (R : M0k) (l : List Oper) : St → Hp → (St → Hp → Prop) → Prop :=
 List.rec (motive := fun _ => St → Hp → (St → Hp → Prop) → Prop) (fun st h K => K st h) (fun o _ ih st h K => R o st h fun st h => ih st h K) l
def evT (P : Program) (R : M0k) (m : Nat) (ops : List Oper) (st : St) (h : Hp) (K : St → Hp → Prop) : Prop :=
 evU P (B4 (ops.take m)) 0 [] [] st h fun st h => doA R (ops.take m) st h fun st h => doT R (ops.drop m) st h K
inductive Ex where
 | normal | ret
 | exit (i : Nat)
structure Ann where
 vars : List Nat
 boxes : List Nat
 owns : List Nat
 nils : List (Nat × Nat × Nat × Nat) := []
 nilsB : List (Nat × Nat × Nat × Nat × Nat) := []
 kept : List Nat := []
 fuel : Bool := false
 pubs : List Nat := []
def h0d : List (Nat × Nat × Nat × Nat) → St → (St → Prop) → Prop
 | [], st, K => K st
 | (s, e, sz, by_) :: r, ⟨n, fr, bx, ow⟩, K => match rdA ⟨n, fr, bx, ow⟩ (V1 fr s), Nat.blt s n with
  | .val (.slice none 0 0), true => R0e ow fun k => h0d r ⟨n, (s, .own k 0) :: fr, bx, ow ++ [⟨0, .live e sz by_ false []⟩]⟩ K
  | _, _ => False
def c09 : List (Nat × Nat × Nat × Nat × Nat) → St → (St → Prop) → Prop
 | [], st, K => K st
 | (i, k, e, sz, by_) :: r, ⟨n, fr, bx, ow⟩, K => match nth bx i with
  | some (.live cs ty) => match nth cs k with
   | some (.val (.slice none 0 0)) => R0e ow fun j => c09 r ⟨n, fr, Z7 bx i (.live (Z7 cs k (.own j 0)) ty), ow ++ [⟨0, .live e sz by_ false []⟩]⟩ K
   | _ => False
  | _ => False
def i0d : List Nat → St → Hp → (St → Hp → Prop) → Prop
 | [], st, h, K => K st h
 | s :: r, st, h, K => rfy (rdA st (V1 st.fr s)) st h fun v st h => match st with
  | ⟨n, fr, bx, ow⟩ => match Nat.blt s n with
   | true => i0d r ⟨n, (s, .val v) :: fr, bx, ow⟩ h K
   | false => False
def T04 (x : Nat) : List Nat → Bool
 | [] => false
 | y :: r => match Nat.beq x y with
  | true => true
  | false => T04 x r
def N0k : List Oper → List Nat → List Nat
 | [], acc => acc
 | o :: r, acc => match o.dst with
  | some d => N0k r (d :: acc)
  | none => N0k r acc
def E0a : Code → List Nat → List Nat
 | .region _ ops _, acc => N0k ops.toList acc
 | .seq a b, acc => E0a a (E0a b acc)
 | .cond _ a b, acc => E0a a (E0a b acc)
 | .block _ a, acc => E0a a acc
 | .loop a, acc => E0a a acc
 | .scope a, acc => E0a a acc
 | _, acc => acc
def X06 : List Nat → (List Nat → Prop) → Prop
 | [], K => K []
 | x :: r, K => X06 r fun r => K (x :: r)
def D0j : List Nat → St → (List Value → Prop) → Prop
 | [], _, K => K []
 | s :: r, st, K => match rdA st (V1 st.fr s) with
  | .val v => D0j r st fun vs => K (v :: vs)
  | _ => False
def j0d : List D4 → St → (List Value → Prop) → Prop
 | [], _, K => K []
 | .val v :: r, st, K => j0d r st fun vs => K (v :: vs)
 | .own _ _ :: r, st, K => j0d r st K
def d09 : List Nat → St → (List Value → Prop) → Prop
 | [], _, K => K []
 | i :: r, st, K => match nth st.bx i with
  | some (.live cs _) => j0d cs st fun vs => d09 r st fun ws => K (vs ++ ws)
  | _ => False
def Q0a : List Nat → St → (List (List (List Value)) → Prop) → Prop
 | [], _, K => K []
 | i :: r, st, K => match nth st.ow i with
  | some ⟨_, .live _ _ _ _ xs⟩ => Q0a r st fun os => K (xs :: os)
  | _ => False
def a0f (A : Ann) (st : St) (K : List Value → List (List (List Value)) → Prop) : Prop :=
 D0j A.vars st fun vs => d09 A.boxes st fun ws => Q0a A.owns st fun os => K (vs ++ ws) os
def V00 : List D4 → List Value → (List D4 → List Value → Prop) → Prop
 | [], vs, K => K [] vs
 | .val _ :: r, v :: vs, K => V00 r vs fun cs rest => K (.val v :: cs) rest
 | .val _ :: _, [], _ => False
 | .own i k :: r, vs, K => V00 r vs fun cs rest => K (.own i k :: cs) rest
def E02 : List Nat → List Value → List BSt → (List BSt → Prop) → Prop
 | [], _, bx, K => K bx
 | i :: r, vs, bx, K => match nth bx i with
  | some (.live cs ty) => V00 cs vs fun cs rest => E02 r rest (Z7 bx i (.live cs ty)) K
  | _ => False
def F02 : List Nat → List (List (List Value)) → List Own → (List Own → Prop) → Prop
 | [], _, ow, K => K ow
 | i :: r, xs :: os, ow, K => match nth ow i with
  | some ⟨s, .live e sz by_ nn _⟩ => F02 r os (Z7 ow i ⟨s, .live e sz by_ nn xs⟩) K
  | _ => False
 | _ :: _, [], _, _ => False
def U03 {α : Type} : Nat → List α → (List α → List α → Prop) → Prop
 | 0, l, K => K [] l
 | n + 1, x :: l, K => U03 n l fun a b => K (x :: a) b
 | _ + 1, [], _ => False
def c05 (A : Ann) (st : St) : List Nat → List (Nat × AV) → (List (Nat × AV) → Prop) → Prop
 | [], acc, K => K acc
 | s :: r, acc, K => match T04 s A.vars with
  | true => c05 A st r acc K
  | false => match rdA st (V1 st.fr s) with
   | .own i k => c05 A st r ((s, .own i k) :: acc) K
   | .box i o => c05 A st r ((s, .box i o) :: acc) K
   | _ => c05 A st r ((s, .dead) :: acc) K
def Z0f : List D4 → Bool
 | [] => true
 | .val _ :: r => Z0f r
 | .own _ _ :: _ => false
def G02 (A : Ann) (ds : List Nat) (st : St) : List (Nat × AV) → (List (Nat × AV) → Prop) → Prop
 | [], K => K []
 | (s, av) :: r, K => match T04 s ds with
  | true => G02 A ds st r K
  | false => match rdA st av with
   | .own i k => match T04 i A.owns, T04 i A.kept with
    | true, false => G02 A ds st r fun l => K ((s, .dead) :: l)
    | _, _ => G02 A ds st r fun l => K ((s, .own i k) :: l)
   | .oel _ _ _ _ _ => G02 A ds st r fun l => K ((s, .dead) :: l)
   | .agg cs => match Z0f cs with
    | true => G02 A ds st r fun l => K ((s, .agg cs) :: l)
    | false => G02 A ds st r fun l => K ((s, .dead) :: l)
   | a => G02 A ds st r fun l => K ((s, a) :: l)
def Y06 : List Nat → List Value → List (Nat × AV) → List (Nat × AV)
 | s :: r, v :: vs, acc => Y06 r vs ((s, .val v) :: acc)
 | _, _, acc => acc
def Y07 (head end_ : St) : List (Nat × AV) → Bool
 | [] => true
 | (s, av) :: r => match av with
  | .own i _ => match rdA end_ (V1 end_.fr s) with
   | .own j _ => match Nat.beq i j with
    | true => Y07 head end_ r
    | false => false
   | _ => false
  | .box i o => match rdA end_ (V1 end_.fr s) with
   | .box j p => match Nat.beq i j, Nat.beq o p with
    | true, true => Y07 head end_ r
    | _, _ => false
   | _ => false
  | _ => Y07 head end_ r
def b0f : AV → Bool
 | .dead => true
 | _ => false
def Z0g : List (Nat × AV) → List AV
 | [] => []
 | (_, av) :: r => match b0f av with
  | true => Z0g r
  | false => av :: Z0g r
def R0a (fr : List (Nat × AV)) : List (Nat × AV) → List AV
 | [] => []
 | (s, av) :: r => match b0f av with
  | true => R0a fr r
  | false => V1 fr s :: R0a fr r
def H02 (head end_ : St) : List D4 → List D4 → Bool
 | [], [] => true
 | .val _ :: r, .val _ :: r' => H02 head end_ r r'
 | .own i _ :: r, .own j k' :: r' => match Nat.beq i j, rdA end_ (.own j k') with
  | true, .own _ _ => H02 head end_ r r'
  | _, _ => false
 | _, _ => false
def V05 (os : List Nat) : List D4 → Bool
 | [] => true
 | .val _ :: r => V05 os r
 | .own i _ :: r => match T04 i os with
  | true => false
  | false => V05 os r
def c0f (os : List Nat) : BSt → Bool
 | .live cs _ => V05 os cs
 | .publ _ => true
def Z06 (A : Ann) (head end_ : St) : Nat → List BSt → List BSt → Prop
 | _, [], _ => True
 | i, b :: r, b' :: r' => match T04 i A.boxes with
  | true => match b, b' with
   | .live cs ty, .live cs' ty' => match Nat.beq ty ty', H02 head end_ cs cs' with
    | true, true => Z06 A head end_ (i + 1) r r'
    | _, _ => False
   | _, _ => False
  | false => match c0f A.owns b with
   | true => b' = b ∧ Z06 A head end_ (i + 1) r r'
   | false => False
 | _, _ :: _, [] => False
def leB (a b : Bool) : Bool := match a with
 | true => b
 | false => true
def a07 (A : Ann) : Nat → List Own → List Own → Prop
 | _, [], _ => True
 | i, b :: r, b' :: r' => match T04 i A.owns with
  | true => match b, b' with
   | ⟨s, .live e sz by_ nn _⟩, ⟨s', .live e' sz' by' nn' _⟩ => match Nat.beq e e', Nat.beq sz sz', Nat.beq by_ by', leB nn nn', leB (T04 i A.kept) (Nat.beq s s') with
    | true, true, true, true, true => a07 A (i + 1) r r'
    | _, _, _, _, _ => False
   | _, _ => False
  | false => b' = b ∧ a07 A (i + 1) r r'
 | _, _ :: _, [] => False
def W05 : Nat → (List Value → Prop) → Prop
 | 0, K => K []
 | n + 1, K => ∀ v, W05 n fun vs => K (v :: vs)
def X05 : Nat → (List (List (List Value)) → Prop) → Prop
 | 0, K => K []
 | n + 1, K => ∀ xs, X05 n fun os => K (xs :: os)
abbrev b07 := List Value → List (List (List Value)) → Hp → Prop
abbrev B03 := List Value → List (List (List Value)) → Nat
def E0j : List Value → List Value → Bool
 | [], [] => true
 | _ :: r, _ :: r' => E0j r r'
 | _, _ => false
def k0d (A : Ann) (I : b07) (vs : List Value) (os : List (List (List Value))) (h : Hp) : Prop := match A.fuel with
 | false => I vs os h
 | true => ∃ m : Nat, I (.int .i64 m :: vs) os h
def l0d (A : Ann) (I : b07) (μ : B03) (vs : List Value) (os : List (List (List Value))) (X : Nat → Hp → Prop) : Prop := match A.fuel with
 | false => ∀ h', I vs os h' → X (μ vs os) h'
 | true => ∀ (m : Nat) (h' : Hp), I (.int .i64 m :: vs) os h' → X m h'
def F0j (A : Ann) (I : b07) (μ : B03) (m : Nat) (vs : List Value) (os : List (List (List Value))) (h : Hp) : Prop := match A.fuel with
 | false => I vs os h ∧ μ vs os < m
 | true => ∃ m' : Nat, I (.int .i64 m' :: vs) os h ∧ m' < m
def atI (A : Ann) (I : b07) (μ : B03) (m : Nat) (vs : List Value) (os : List (List (List Value))) (h : Hp) : Prop := match A.fuel with
 | false => I vs os h ∧ m = μ vs os
 | true => I (.int .i64 m :: vs) os h
theorem j0i {A : Ann} {I : b07} {μ : B03} {vs : List Value} {os : List (List (List Value))} {h : Hp} (hh : k0d A I vs os h) : ∃ m, atI A I μ m vs os h := by
 unfold k0d at hh
 unfold atI
 cases hf : A.fuel with
 | false => rw [hf] at hh; exact ⟨_, hh, rfl⟩
 | true => rw [hf] at hh; exact hh
theorem k0i {A : Ann} {I : b07} {μ : B03} {vs : List Value} {os : List (List (List Value))} {X : Nat → Hp → Prop} (hh : l0d A I μ vs os X) {m : Nat} {h : Hp} (ha : atI A I μ m vs os h) : X m h := by
 unfold l0d at hh
 unfold atI at ha
 cases hf : A.fuel with
 | false => rw [hf] at hh ha; rw [ha.2]; exact hh _ ha.1
 | true => rw [hf] at hh ha; exact hh _ _ ha
theorem G0j {A : Ann} {I : b07} {μ : B03} {m : Nat} {vs : List Value} {os : List (List (List Value))} {h : Hp} (hh : F0j A I μ m vs os h) : ∃ m', atI A I μ m' vs os h ∧ m' < m := by
 unfold F0j at hh
 unfold atI
 cases hf : A.fuel with
 | false => rw [hf] at hh; exact ⟨_, ⟨hh.1, rfl⟩, hh.2⟩
 | true => rw [hf] at hh; exact hh
def l0i (A : Ann) (dyn sta : List (Nat × AV)) (st0 : St) (I : b07) (μ : B03) (vs0 : List Value) (m : Nat) (st : St) (h : Hp) : Prop :=
 match Nat.beq st.n st0.n, Y07 st0 st dyn with
 | true, true => R0a st.fr sta = Z0g sta ∧ Z06 A st0 st 0 st0.bx st.bx ∧ a07 A 0 st0.ow st.ow ∧
   a0f A st fun vs os => match E0j vs vs0 with
    | true => U03 A.vars.length vs fun _ v2 => E02 A.boxes v2 st0.bx fun _ => F02 A.owns os st0.ow fun _ => F0j A I μ m vs os h
    | false => False
 | _, _ => False
def a0g (body : (Ex → St → Hp → Prop) → St → Hp → Prop) (ds0 : List Nat) (Q : Ex → St → Hp → Prop) (st : St) (h : Hp) : Prop :=
 ∃ (A : Ann) (I : b07) (μ : B03), h0d A.nils st fun st => c09 A.nilsB st fun st => i0d A.pubs st h fun st h => a0f A st fun vs0 os0 => k0d A I vs0 os0 h ∧
  X06 ds0 fun ds => c05 A st ds [] fun dyn => G02 A ds st st.fr fun sta =>
   W05 vs0.length fun vs => X05 os0.length fun os => l0d A I μ vs os fun m h' =>
    U03 A.vars.length vs fun v1 v2 => E02 A.boxes v2 st.bx fun bx => F02 A.owns os st.ow fun ow =>
     body (fun e st' h'' => match e with
      | .normal => i0d A.pubs st' h'' fun st' h'' => l0i A dyn sta st I μ vs m st' h''
      | e => Q e st' h'') ⟨st.n, Y06 A.vars v1 (dyn ++ sta), bx, ow⟩ h'
def m0i (b : Bool) (X Y : Prop) : Prop := (b = true → X) ∧ (b = false → Y)
def ev (P : Program) : Code → (Ex → St → Hp → Prop) → St → Hp → Prop
 | .skip, Q, st, h => Q .normal st h
 | .region _ ops false, Q, st, h => match B0j P ops.toList with
  | true => U00 st.n ops.toList = true ∧ evU P ops.toList 0 [] [] st h fun st h => Q .normal st h
  | false => V07 P ops.toList 0 ⟨st, h, [], []⟩ fun rs => Q .normal rs.st rs.h
 | .region _ ops true, Q, st, h => ((P.follows .mixedOrders = true ∧ Region.lexB .any ops = true) ∧
   evQ P ops.toList 0 ⟨st, h, [], []⟩ fun rs => Q .normal rs.st rs.h) ∨
   ((P.follows .mixedOrders = true ∧ W7 st.n ops.toList = true) ∧ evS P ops.toList [] st h fun st h => Q .normal st h) ∨
   (match e0i ops.toList with
    | none => (P.follows .mixedOrders = true ∧ W7 st.n ops.toList = true) ∧ N00 P st h ops.toList 0 [] [] [] fun L X E => ∃ c, (W9 E = true ∧ q02 X (X ++ E) (E.drop c) = true) ∧ evC (A8 L st ops.toList) ops.size P c E L st h fun st h => Q .normal st h
    | some o => (P.follows .mixedOrders = true ∧ (W7 st.n (y8 ops.toList) && W07 ops.toList 0) = true) ∧ N00 P st h (y8 ops.toList) 0 [] [] [] fun L X E => ∃ c, (W9 E = true ∧ q02 X (X ++ E) (E.drop c) = true) ∧ evC (A8 L st (y8 ops.toList)) (y8 ops.toList).length P c E L st h fun st h => Y00 P o st h fun st h => Q .normal st h) ∨
   ((P.follows .mixedOrders = true ∧ U00 st.n ops.toList = true) ∧ evU P ops.toList 0 [] [] st h fun st h => Q .normal st h) ∨
   (∃ m, (P.follows .mixedOrders = true ∧ okZ P st.n m ops.toList = true) ∧ evT P (Y00 P) m ops.toList st h fun st h => Q .normal st h)
 | .seq a b, Q, st, h => ev P a (fun e st h => match e with
  | .normal => ev P b Q st h
  | e => Q e st h) st h
 | .cond c t e, Q, st, h => match rdO st c with
  | .val (.bool b) => m0i b (ev P t Q st h) (ev P e Q st h)
  | _ => False
 | .block id c, Q, st, h => ev P c (fun e st h => match e with
  | .exit i => match Nat.beq i id with
   | true => Q .normal st h
   | false => Q (.exit i) st h
  | e => Q e st h) st h
 | .loop body, Q, st, h => a0g (fun Q => ev P body Q) (E0a body []) Q st h
 | .exit id, Q, st, h => Q (.exit id) st h
 | .ret, Q, st, h => Q .ret st h
 | _, _, _, _ => False
def d0f (P : Program) : List ResultVar → St → Hp → (List Value → St → Hp → Prop) → Prop
 | [], st, h, K => K [] st h
 | .tmp t :: r, st, h, K => rfy (rdA st (V1 st.fr t)) st h fun v st h => d0f P r st h fun vs st h => K (v :: vs) st h
 | .cell t ty :: r, st, h, K => match rdA st (V1 st.fr t) with
  | .box i off => match nth st.bx i with
   | some (.live cs _) => w01 P ty cs off fun av => rfy av st h fun v st h => d0f P r st h fun vs st h => K (v :: vs) st h
   | _ => False
  | _ => False
def m0d : List Value → Value
 | [v] => v
 | vs => .tuple vs.toArray
def Y05 : Nat → List Value → List (Nat × AV)
 | _, [] => []
 | i, v :: r => (i, .val v) :: Y05 (i + 1) r
def O0k (P : Program) (fn : Func) (args : List Value) (h : Hp) (T : Value → Hp → Prop) : Prop :=
 match fn.body with
 | some c => match Nat.ble args.length fn.ntmps with
  | true => ev P c (fun e st h => match e with
   | .exit _ => False
   | _ => d0f P fn.results.toList st h fun vs _ h => T (m0d vs) h) ⟨fn.ntmps, Y05 0 args, [], []⟩ h
  | false => False
 | none => False
end Go.H
