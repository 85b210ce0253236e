/- Plain laws over the model: what a function's code asks: regions with guards, regions that draw their order, branches and loops. -/
import Derived.Test.YtknoadmdnjaocaaGreatH2
namespace Go.H
set_option linter.unusedVariables false
structure BE where
 j : Nat
 d : Nat
 e : Bool
 ch : List (Nat × Bool)
structure RS where
 st : St
 h : Hp
 gf : List (Nat × List (Nat × Bool) × AV)
 bs : List BE
def F08 : List (Nat × List (Nat × Bool) × AV) → Nat → Option (List (Nat × Bool) × AV)
 | [], _ => none
 | (k, x) :: r, s => match Nat.beq k s with
  | true => some x
  | false => F08 r s
def eqB (a b : Bool) : Bool := match a, b with
 | true, true => true
 | false, false => true
 | _, _ => false
def a0i : List (Nat × Bool) → List (Nat × Bool) → Bool
 | [], [] => true
 | (j, w) :: r, (j', w') :: r' => match Nat.beq j j', eqB w w' with
  | true, true => a0i r r'
  | _, _ => false
 | _, _ => false
def G0c (a : List (Nat × Bool)) : List (Nat × Bool) → Bool
 | [] => a0i a []
 | x :: r => match a0i a (x :: r) with
  | true => true
  | false => G0c a r
def rdG (rs : RS) (ch : List (Nat × Bool)) : Operand → AV
 | .tmp t => match F08 rs.gf t with
  | some (ch2, av) => match G0c ch2 ch with
   | true => rdA rs.st av
   | false => .dead
  | none => rdA rs.st (Q1 rs.st.fr t)
 | x => rdO rs.st x
def p9 : List BE → Nat → Option BE
 | [], _ => none
 | b :: r, j => match Nat.beq b.j j with
  | true => some b
  | false => p9 r j
def U05 : List BE → Nat → Option BE
 | [], _ => none
 | b :: r, s => match Nat.beq b.d s with
  | true => some b
  | false => U05 r s
def lit (w e : Bool) : Bool := match w with
 | true => e
 | false => !e
def cB (bs : List BE) : List (Nat × Bool) → Option Bool
 | [] => some true
 | (j, w) :: r => match p9 bs j with
  | some b => match r with
   | [] => some (lit w b.e)
   | _ => match cB bs r with
    | some c => some (lit w b.e && c)
    | none => none
  | none => none
def t7 (bs : List BE) : Option (Nat × Bool) → Option (List (Nat × Bool))
 | none => some []
 | some (j, w) => match p9 bs j with
  | some b => some ((j, w) :: b.ch)
  | none => none
def imp (ch : List (Nat × Bool)) (c : Bool) (X : Prop) : Prop := match ch with
 | [] => X
 | _ => c = true → X
def H0c (rs : RS) (ch : List (Nat × Bool)) : List Operand → Option (List (Nat × Value))
 | [] => some []
 | .tmp t :: r => match y01 (rdG rs ch (.tmp t)) with
  | some v => match H0c rs ch r with
   | some vs => some ((t, v) :: vs)
   | none => none
  | none => none
 | .global _ :: _ => none
 | _ :: r => H0c rs ch r
def D0j (rs : RS) (ch : List (Nat × Bool)) : List Operand → St → Hp → (List (Nat × Value) → St → Hp → Prop) → Prop
 | [], st, h, K => K [] st h
 | .tmp t :: r, st, h, K => rfy (rdA st (rdG rs ch (.tmp t))) st h fun v st h => D0j rs ch r st h fun vs st h => K ((t, v) :: vs) st h
 | .global _ :: _, _, _, _ => False
 | _ :: r, st, h, K => D0j rs ch r st h K
def I0b (P : Program) (o : Oper) (ch : List (Nat × Bool)) (c : Bool) (rs : RS) (K : AV → Prop) : Prop :=
 match R07 o.op, H0c rs ch o.op.operands.toList with
 | false, some vs => match Z04 (rho vs) o with
  | some (f, l) => match okF P f with
   | true => ∃ v, imp ch c (Tr P f l.toArray rs.h fun v' h' => v' = v ∧ h' = rs.h) ∧ K (.val v)
   | false => False
  | none => match evP P (D0c (rho vs) o) with
   | some (.value v) => K (.val v)
   | _ => False
 | false, none => ∃ r, imp ch c (D0j rs ch o.op.operands.toList rs.st rs.h fun vs _ hf => match Z04 (rho vs) o with
  | some (f, l) => match okF P f with
   | true => Tr P f l.toArray hf fun v h' => v = r ∧ h' = hf
   | false => False
  | none => False) ∧ K (.val r)
 | _, _ => False
def evG (P : Program) (o : Oper) (ch : List (Nat × Bool)) (c : Bool) (rs : RS) (K : AV → Prop) : Prop :=
 match o.op with
 | .move x | .assign x => match rdG rs ch x with
  | .dead => False
  | a => K a
 | .pick (.tmp s) a b => match rdG rs ch (.tmp s), U05 rs.bs s with
  | .val (.bool e), some q => match G0c q.ch ch with
   | true => match rdG rs ((q.j, true) :: q.ch) a, rdG rs ((q.j, false) :: q.ch) b with
    | .val (.bool x), .val (.bool y) => K (.val (.bool (cond e x y)))
    | _, _ => False
   | false => False
  | _, _ => False
 | .fieldAddr t x k => match rdG rs ch x, F0b P t k with
  | .box i off, some fo => K (.box i (off + fo))
  | .hel s i sz k, some fo => K (.hel s i sz (k + fo))
  | .oel i s j sz k, some fo => K (.oel i s j sz (k + fo))
  | _, _ => False
 | .indexAddr t x i => match rdG rs ch i with
  | .val (.int _ j) => match P8 P t with
   | some e => match U4 P e with
    | some sz => match rdG rs ch x with
     | .val (.slice a n cp) => imp ch c (InB (.slice a n cp) j) ∧ K (.hel (.slice a n cp) j sz 0)
     | .own i k => match nth rs.st.ow i with
      | some ⟨_, .live _ sz' _ _ xs⟩ => match Nat.beq sz' sz with
       | true => imp ch c (0 ≤ j ∧ j < (xs.length : Int)) ∧ K (.oel i k j sz 0)
       | false => False
      | _ => False
     | _ => False
    | none => False
   | none => False
  | _ => False
 | .load t x => match rdG rs ch x with
  | .box i off => match nth rs.st.bx i with
   | some (.live cs _) => w01 P t cs off K
   | _ => False
  | .hel s idx sz k => ∃ e, imp ch c (L9 rs.h s sz idx e) ∧ w01 P t (vals e) k K
  | .oel i _ idx sz k => match nth rs.st.ow i with
   | some ⟨_, .live _ sz' _ _ xs⟩ => match Nat.beq sz' sz with
    | true => ∃ e, imp ch c (xs[idx.toNat]? = some e) ∧ w01 P t (vals e) k K
    | false => False
   | _ => False
  | _ => False
 | .build t ps => match P.underlying t, O8 P t with
  | some (.struct fs), some z => match x02 P fs.toList with
   | true => K03 P fs (rdG rs ch) ps.toList (vals z.cells.toList) fun cs => K (.agg cs)
   | false => False
  | _, _ => False
 | .index t x i => match rdG rs ch x, rdG rs ch i, P.underlying t with
  | .val (.string s), .val (.int _ j), some .string => ∃ e, imp ch c (0 ≤ j ∧ s[j.toNat]? = some e) ∧ K (.val (.int .u8 e.toNat))
  | _, _, _ => False
 | .slice t x lo hi none => match rdG rs ch x, P.underlying t with
  | .val (.string s), some .string => match V01 0 (lo.map (rdG rs ch)), V01 s.size (hi.map (rdG rs ch)) with
   | some l, some m => imp ch c (0 ≤ l ∧ l ≤ m ∧ m ≤ (s.size : Int)) ∧ K (.val (.string (s.extract l.toNat m.toNat)))
   | _, _ => False
  | .val (.slice ad n cp), _ => match P8 P t with
   | some e => match U4 P e with
    | some sz => match V01 0 (lo.map (rdG rs ch)), V01 n (hi.map (rdG rs ch)) with
     | some l, some m => ∃ v, imp ch c ((0 ≤ l ∧ l ≤ m ∧ m ≤ (n : Int) ∧ n ≤ cp) ∧ u0e sz (.slice ad n cp) l.toNat m.toNat v) ∧ K (.val v)
     | _, _ => False
    | none => False
   | none => False
  | _, _ => False
 | .binOp .eql t x y yt => match y01 (rdG rs ch x), y01 (rdG rs ch y) with
  | some (.agg xs), some (.agg ys) => ∃ b, imp ch c (S07 P o x y (.agg xs) (.agg ys) b) ∧ K (.val (.bool b))
  | some (.slice a n m), some (.slice none 0 0) => ∃ b, imp ch c (S07 P o x y (.slice a n m) (.slice none 0 0) b) ∧ K (.val (.bool b))
  | _, _ => I0b P o ch c rs K
 | .binOp .neq t x y yt => match y01 (rdG rs ch x), y01 (rdG rs ch y) with
  | some (.agg xs), some (.agg ys) => ∃ b, imp ch c (S07 P o x y (.agg xs) (.agg ys) b) ∧ K (.val (.bool b))
  | _, _ => I0b P o ch c rs K
 | .binOp .add t x y yt => match rdG rs ch x, rdG rs ch y with
  | .val (.string a), .val (.string b) => imp ch c (a.size + b.size ≤ 9223372036854775807) ∧ K (.val (.string (a ++ b)))
  | _, _ => I0b P o ch c rs K
 | .binOp .quo t x y yt => match rdG rs ch x, rdG rs ch y with
  | .val (.int .i64 a), .val (.int .i64 b) => imp ch c (b ≠ 0) ∧ K (.val (.int .i64 (IntKind.i64.wrap (a.tdiv b))))
  | _, _ => I0b P o ch c rs K
 | .binOp .rem t x y yt => match rdG rs ch x, rdG rs ch y with
  | .val (.int .i64 a), .val (.int .i64 b) => imp ch c (b ≠ 0) ∧ K (.val (.int .i64 (a.tmod b)))
  | _, _ => I0b P o ch c rs K
 | .call { callee := .builtin .len, args := as, argTypes := ts } => match as.toList, ts.toList with
  | [x], [t] => match rdG rs ch x with
   | .own i _ => match nth rs.st.ow i, P8 P t with
    | some ⟨_, .live _ _ _ _ xs⟩, some _ => K (.val (.int .i64 xs.length))
    | _, _ => False
   | _ => I0b P o ch c rs K
  | _, _ => False
 | _ => I0b P o ch c rs K
def L03 (rs : RS) (d : Nat) : Bool := match F08 rs.gf d, U05 rs.bs d with
 | none, none => false
 | _, _ => true
def I0c (i d : Nat) (ch : List (Nat × Bool)) (av : AV) (bs : List BE) : List BE := match av with
 | .val (.bool e) => ⟨i, d, e, ch⟩ :: bs
 | _ => bs
def G08 (d : Option Tmp) (i : Nat) (ch : List (Nat × Bool)) (av : AV) (rs : RS) (K : RS → Prop) : Prop :=
 match d with
 | none => K rs
 | some d => match Nat.blt d rs.st.n, L03 rs d with
  | true, false => match ch with
   | [] => K { rs with st := { rs.st with fr := (d, av) :: rs.st.fr }, bs := I0c i d ch av rs.bs }
   | _ => K { rs with st := { rs.st with fr := (d, .dead) :: rs.st.fr }, gf := (d, ch, av) :: rs.gf, bs := I0c i d ch av rs.bs }
  | _, _ => False
def w0e : Op → Bool
 | .pick .. => true
 | _ => false
def T07 (P : Program) : List Oper → Nat → RS → (RS → Prop) → Prop
 | [], _, rs, K => K rs
 | o :: r, i, rs, K => match o.guard, w0e o.op with
  | none, false => C6 P o rs.st rs.h fun av st h => G08 o.dst i [] av { rs with st := st, h := h } fun rs => T07 P r (i + 1) rs K
  | _, _ => match t7 rs.bs o.guard with
   | some ch => match cB rs.bs ch with
    | some c => evG P o ch c rs fun av => G08 o.dst i ch av rs fun rs => T07 P r (i + 1) rs K
    | none => False
   | none => False
def evQ (P : Program) : List Oper → Nat → RS → (RS → Prop) → Prop
 | [], _, rs, K => K rs
 | o :: r, i, rs, K => match t7 rs.bs o.guard with
  | some ch => match cB rs.bs ch with
   | some c => evG P o ch c rs fun av => G08 o.dst i ch av rs fun rs => evQ P r (i + 1) rs K
   | none => False
  | none => False
def Sub (h h' : Hp) : Prop := ∀ b o, h b = some o → h' b = some o
def b0i (v : Value) (K : Value → Prop) : Prop := match v with
 | .bool b => K (.bool b)
 | .int k n => K (.int k n)
 | .string s => K (.string s)
 | .pointer a => K (.pointer a)
 | .slice a n c => K (.slice a n c)
 | .func f x y => K (.func f x y)
 | .agg cs => K (.agg cs)
 | .tuple vs => K (.tuple vs)
 | v => K v
theorem O0g (v : Value) (K : Value → Prop) : b0i v K = K v := by cases v <;> rfl
def M8 {α : Type} : List α → (List α → Prop) → Prop
 | [], K => K []
 | x :: r, K => M8 r fun r => K (x :: r)
theorem a9 {α : Type} : ∀ (l : List α) (K : List α → Prop), M8 l K = K l
 | [], K => rfl
 | x :: r, K => by simp only [M8, a9 r]
def z01 : Nat → (Nat → Prop) → Prop
 | 0, K => K 0
 | n + 1, K => z01 n fun m => K (m + 1)
theorem M03 : ∀ (n : Nat) (K : Nat → Prop), z01 n K = K n
 | 0, K => rfl
 | n + 1, K => by simp only [z01, M03 n]
def M9 (av : AV) (K : AV → Prop) : Prop := match av with
 | .val v => b0i v fun v => K (.val v)
 | .own i k => K (.own i k)
 | .box i k => K (.box i k)
 | .hel s i z k => z01 z fun z => z01 k fun k => K (.hel s i z k)
 | .oel j s i z k => z01 z fun z => z01 k fun k => K (.oel j s i z k)
 | .agg cs => M8 cs fun cs => K (.agg cs)
 | .dead => K .dead
theorem b9 (av : AV) (K : AV → Prop) : M9 av K = K av := by
 cases av with
 | val v => exact O0g v (fun v => K (.val v))
 | hel s i z k => simp only [M9, M03]
 | oel j s i z k => simp only [M9, M03]
 | agg cs => simp only [M9, a9]
 | _ => rfl
inductive V4 where
 | pu (av : AV)
 | ef (F : Value → Hp → Prop)
def I1 : List (Nat × V4) → Nat → Option V4
 | [], _ => none
 | (k, x) :: r, s => match Nat.beq k s with
  | true => some x
  | false => I1 r s
def rdS (L : List (Nat × V4)) (st : St) : Operand → AV
 | .tmp t => match I1 L t with
  | some (.pu av) => rdA st av
  | some (.ef _) => .dead
  | none => rdA st (Q1 st.fr t)
 | x => rdO st x
def H08 (P : Program) (t : TypeId) (cs : List G4) (off : Nat) : Option AV :=
 match E0b P t with
 | some true => match U4 P t with
  | some n => match I03 ((cs.drop off).take n) n with
   | true => some (.agg ((cs.drop off).take n))
   | false => none
  | none => none
 | some false => match nth cs off with
  | some c => some (ofCell c)
  | none => none
 | none => none
def q05 (P : Program) (L : List (Nat × V4)) (o : Oper) (st : St) : Option AV := match o.op with
 | .move x | .assign x => match rdS L st x with
  | .dead => none
  | a => some a
 | .load t x => match rdS L st x with
  | .box i off => match nth st.bx i with
   | some (.live cs _) => H08 P t cs off
   | _ => none
  | _ => none
 | _ => none
def N03 (L : List (Nat × V4)) (st : St) (h : Hp) : List Operand → List (Nat × AV) → (List (Nat × AV) → Prop) → Prop
 | [], acc, K => K acc
 | .tmp t :: r, acc, K => match I1 L t with
  | some (.pu av) => N03 L st h r ((t, av) :: acc) K
  | some (.ef F) => ∀ v, F v h → N03 L st h r ((t, .val v) :: acc) K
  | none => N03 L st h r ((t, Q1 st.fr t) :: acc) K
 | _ :: r, acc, K => N03 L st h r acc K
def J0c (h : Hp) : List (Nat × V4) → List (Nat × AV) → (List (Nat × AV) → Prop) → Prop
 | [], fr, K => K fr
 | (d, .pu av) :: r, fr, K => J0c h r ((d, av) :: fr) K
 | (d, .ef F) :: r, fr, K => ∀ v, F v h → J0c h r ((d, .val v) :: fr) K
def A01 (d : Option Tmp) (f : V4) (L : List (Nat × V4)) : List (Nat × V4) := match d with
 | some d => (d, f) :: L
 | none => L
def t0k (st : St) (h : Hp) (F : Value → Hp → Prop) : AV → St → Hp → Prop
 | .val v, st', h' => st' = st ∧ Sub h h' ∧ F v h'
 | _, _, _ => False
def evS (P : Program) : List Oper → List (Nat × V4) → St → Hp → (St → Hp → Prop) → Prop
 | [], L, ⟨n, fr, bx, ow⟩, h, K => ∀ h', Sub h h' → J0c h' L fr fun fr => K ⟨n, fr, bx, ow⟩ h'
 | o :: r, L, ⟨n, fr, bx, ow⟩, h, K => match o.guard with
  | some _ => False
  | none => match q05 P L o ⟨n, fr, bx, ow⟩ with
   | some av => M9 av fun av => evS P r (A01 o.dst (.pu av) L) ⟨n, fr, bx, ow⟩ h K
   | none => ∃ F : Value → Hp → Prop, (∀ v h1 h2, Sub h1 h2 → F v h1 → F v h2) ∧
     (∀ h', Sub h h' → N03 L ⟨n, fr, bx, ow⟩ h' o.op.operands.toList [] fun fr => C6 P o ⟨n, fr, bx, ow⟩ h' (t0k ⟨n, fr, bx, ow⟩ h' F)) ∧
     evS P r (A01 o.dst (.ef F) L) ⟨n, fr, bx, ow⟩ h K
def N7 (i : Nat) (o : Oper) : Bool := o.after.toList.any fun e => Region.binds .any e && Nat.beq e.on i
def c9 (o : Oper) (t : Nat) : List Oper → Nat → Bool
 | [], _ => true
 | x :: r, i => match x.dst with
  | some d => match Nat.beq d t with
   | true => N7 i o && c9 o t r (i + 1)
   | false => c9 o t r (i + 1)
  | none => c9 o t r (i + 1)
def V05 (o : Oper) (ops : List Oper) : List Operand → Bool
 | [] => true
 | .tmp t :: r => c9 o t ops 0 && V05 o ops r
 | _ :: r => V05 o ops r
def O03 (d : Nat) : List Oper → Bool
 | [] => true
 | o :: r => match o.dst with
  | some d' => !Nat.beq d d' && O03 d r
  | none => O03 d r
def K0c (n : Nat) : List Oper → Bool
 | [] => true
 | o :: r => match o.dst with
  | some d => Nat.blt d n && O03 d r && K0c n r
  | none => K0c n r
def U07 : List Oper → Nat → Bool
 | [], _ => true
 | o :: r, j => (o.after.toList.all fun e => !Region.binds .any e || Nat.blt e.on j) && U07 r (j + 1)
def z0f (ops : List Oper) : List Oper → Bool
 | [] => true
 | o :: r => V05 o ops o.op.operands.toList && z0f ops r
def D7 (n : Nat) (ops : List Oper) : Bool := K0c n ops && U07 ops 0 && z0f ops ops
def A0f : List G4 → Bool
 | [] => true
 | .val _ :: r => A0f r
 | .own _ _ :: _ => false
def J0b : AV → Bool
 | .val _ => true
 | .box _ _ => true
 | .own _ _ => true
 | .agg cs => A0f cs
 | _ => false
def m02 (L : List (Nat × V4)) (st : St) : Operand → AV
 | .tmp t => match I1 L t with
  | some (.pu av) => av
  | some (.ef _) => .dead
  | none => Q1 st.fr t
 | .const v => .val v
 | _ => .dead
def V07 (L : List (Nat × V4)) (st : St) : List Operand → Option (List (Nat × Value))
 | [] => some []
 | .tmp t :: r => match m02 L st (.tmp t) with
  | .val v => match V07 L st r with
   | some vs => some ((t, v) :: vs)
   | none => none
  | _ => none
 | .global _ :: _ => none
 | _ :: r => V07 L st r
def x0e (P : Program) (L : List (Nat × V4)) (o : Oper) (st : St) : Option AV := match R07 o.op, V07 L st o.op.operands.toList with
 | false, some vs => match Z04 (rho vs) o with
  | some _ => none
  | none => match evP P (D0c (rho vs) o) with
   | some (.value v) => some (.val v)
   | _ => none
 | _, _ => none
def y0l : AV → Bool
 | .val (.int _ _) => true
 | _ => false
def O0l : BinOp → Bool
 | .lss => true
 | .leq => true
 | .gtr => true
 | .geq => true
 | _ => false
def a05 (P : Program) (L : List (Nat × V4)) (o : Oper) (st : St) : Option AV := match o.op with
 | .move x => match J0b (m02 L st x) with
  | true => some (m02 L st x)
  | false => none
 | .assign x => match J0b (m02 L st x) with
  | true => some (m02 L st x)
  | false => none
 | .load t x => match m02 L st x with
  | .box i off => match nth st.bx i with
   | some (.live cs _) => match H08 P t cs off with
    | some av => match J0b av with
     | true => some av
     | false => none
    | none => none
   | _ => none
  | _ => none
 | .fieldAddr t x k => match m02 L st x, F0b P t k with
  | .box i off, some fo => some (.box i (off + fo))
  | _, _ => none
 | .binOp op _ x y _ => match O0l op, y0l (m02 L st x), y0l (m02 L st y) with
  | true, true, true => x0e P L o st
  | _, _, _ => none
 | .call { callee := .builtin .len, args := as, argTypes := _ } => match as.toList with
  | [x] => match m02 L st x with
   | .val (.slice _ _ _) => x0e P L o st
   | _ => none
  | _ => none
 | _ => none
def r8 (L : List (Nat × V4)) (st : St) : List Oper → List Nat
 | [] => []
 | o :: r => match o.op with
  | .load _ x => match m02 L st x with
   | .box i _ => i :: r8 L st r
   | _ => r8 L st r
  | _ => r8 L st r
def b05 (bx : List BSt) : List Nat → List (Option BSt)
 | [] => []
 | i :: r => nth bx i :: b05 bx r
def P03 (L : List (Nat × V4)) (fr0 : List (Nat × AV)) : List Operand → List (Nat × AV) → (List (Nat × AV) → Prop) → Prop
 | [], acc, K => K acc
 | .tmp t :: r, acc, K => match I1 L t with
  | some (.pu av) => P03 L fr0 r ((t, av) :: acc) K
  | some (.ef _) => P03 L fr0 r ((t, .dead) :: acc) K
  | none => P03 L fr0 r ((t, Q1 fr0 t) :: acc) K
 | _ :: r, acc, K => P03 L fr0 r acc K
def y0e : List (Nat × V4) → List (Nat × AV) → List (Nat × AV)
 | [], fr => fr
 | (d, .pu av) :: r, fr => (d, av) :: y0e r fr
 | (d, .ef _) :: r, fr => (d, .dead) :: y0e r fr
def B0f (av : AV) (st : St) (h : Hp) : AV → St → Hp → Prop := fun av' st' h' => av' = av ∧ st' = st ∧ h' = h
def L0c (P : Program) (st : St) (h : Hp) (L : List (Nat × V4)) (o : Oper) (av : AV) : Prop :=
 match st with
 | ⟨n, fr, bx, ow⟩ => ∀ h', Sub h h' → P03 L fr o.op.operands.toList [] fun fr => C6 P o ⟨n, fr, bx, ow⟩ h' (B0f av ⟨n, fr, bx, ow⟩ h')
def x00 (P : Program) (st : St) (h : Hp) : List Oper → Nat → List (Nat × V4) → List (Nat × Oper) → List (Nat × Oper) → (List (Nat × V4) → List (Nat × Oper) → List (Nat × Oper) → Prop) → Prop
 | [], _, L, X, E, K => K L X E
 | o :: r, i, L, X, E, K => match o.guard with
  | some _ => False
  | none => match a05 P L o st with
   | some av => M9 av fun av => x00 P st h r (i + 1) (A01 o.dst (.pu av) L) X E K
   | none => (∃ av, L0c P st h L o av ∧ M9 av fun av => x00 P st h r (i + 1) (A01 o.dst (.pu av) L) (X ++ [(i, o)]) E K) ∨
     x00 P st h r (i + 1) (A01 o.dst (.ef fun _ _ => True) L) X (E ++ [(i, o)]) K
def K0b (X : List (Nat × Oper)) : Nat → Nat → Oper → Bool
 | 0, i, q => N7 i q
 | n + 1, i, q => N7 i q || X.any fun y => N7 y.1 q && K0b X n i y.2
def n02 (X Y : List (Nat × Oper)) : List (Nat × Oper) → Bool
 | [] => true
 | (_, q) :: _ => X.all fun x => K0b Y 8 x.1 q
def r9 : List (Nat × Oper) → Bool
 | (i, o) :: (j, o') :: r => N7 i o' && r9 ((j, o') :: r)
 | _ => true
def B01 : Nat → Nat → Oper → Bool
 | 0, _, _ => true
 | k + 1, i, o => (Nat.beq k i || N7 k o) && B01 k i o
def Q03 (d : Nat) : List Operand → Bool
 | [] => false
 | .tmp t :: r => Nat.beq t d || Q03 d r
 | _ :: r => Q03 d r
def I08 (d : Nat) : List Oper → Bool
 | [] => false
 | o :: r => Q03 d o.op.operands.toList || I08 d r
def o8 : List Oper → List Oper
 | [] => []
 | o :: r => match r with
  | [] => []
  | _ :: _ => o :: o8 r
def J08 : List Oper → Option Oper
 | [] => none
 | o :: r => match r with
  | [] => some o
  | _ :: _ => J08 r
def c0i (ops : List Oper) : Option Oper := match J08 ops with
 | some o => match o.guard, o.dst with
  | none, some d => match I08 d (o8 ops) && B01 (o8 ops).length (o8 ops).length o with
   | true => some o
   | false => none
  | _, _ => none
 | none => none
def N00 (P : Program) (o : Oper) (st : St) (h : Hp) (K : St → Hp → Prop) : Prop :=
 C6 P o st h fun av st h => G08 o.dst 0 [] av ⟨st, h, [], []⟩ fun rs => K rs.st rs.h
def C0f (N i : Nat) (o : Oper) : List (Nat × Oper) → Bool
 | [] => B01 N i o
 | _ :: _ => false
def z0l (c : Nat) (b : Bool) (rd : List Nat) (bx bx' : List BSt) : Prop := match b with
 | true => True
 | false => match c with
  | 0 => b05 bx' rd = b05 bx rd
  | _ + 1 => bx' = bx
def N0k : Nat → List Own → List Own → Hp → Hp → Prop
 | 0, _, _, _, _ => True
 | _ + 1, ow, ow', h, h' => ow' = ow ∧ Sub h h'
def evC (rd : List Nat) (N : Nat) (P : Program) : Nat → List (Nat × Oper) → List (Nat × V4) → St → Hp → (St → Hp → Prop) → Prop
 | _, [], L, ⟨n, fr, bx, ow⟩, h, K => M8 (y0e L fr) fun fr => K ⟨n, fr, bx, ow⟩ h
 | c, (i, o) :: r, L, ⟨n, fr, bx, ow⟩, h, K => P03 L fr o.op.operands.toList [] fun fr1 => C6 P o ⟨n, fr1, bx, ow⟩ h fun av st' h' => match st' with
  | ⟨_, _, bx', ow'⟩ => N0k c ow ow' h h' ∧ z0l c (C0f N i o r) rd bx bx' ∧ M9 av fun av => M8 bx' fun bx' => M8 ow' fun ow' => evC rd N P (c - 1) r (A01 o.dst (.pu av) L) ⟨n, fr, bx', ow'⟩ h' K
abbrev FL := List (Nat × List (Nat × Bool) × V4)
def v00 : FL → Nat → Option (List (Nat × Bool) × V4)
 | [], _ => none
 | (k, x) :: r, s => match Nat.beq k s with
  | true => some x
  | false => v00 r s
def rdU (L : FL) (st : St) (ch : List (Nat × Bool)) : Operand → AV
 | .tmp t => match v00 L t with
  | some (ch2, .pu av) => match G0c ch2 ch with
   | true => rdA st av
   | false => .dead
  | some (_, .ef _) => .dead
  | none => rdA st (Q1 st.fr t)
 | x => rdO st x
def c05 (P : Program) (L : FL) (bs : List BE) (ch : List (Nat × Bool)) (o : Oper) (st : St) : Option AV := match o.op with
 | .move x | .assign x => match rdU L st ch x with
  | .dead => none
  | a => some a
 | .load t x => match rdU L st ch x with
  | .box i off => match nth st.bx i with
   | some (.live cs _) => H08 P t cs off
   | _ => none
  | _ => none
 | .fieldAddr t x k => match rdU L st ch x, F0b P t k with
  | .box i off, some fo => some (.box i (off + fo))
  | .hel s i sz k, some fo => some (.hel s i sz (k + fo))
  | _, _ => none
 | .pick (.tmp s) a b => match rdU L st ch (.tmp s), U05 bs s with
  | .val (.bool e), some q => match G0c q.ch ch with
   | true => match rdU L st ((q.j, true) :: q.ch) a, rdU L st ((q.j, false) :: q.ch) b with
    | .val (.bool x), .val (.bool y) => some (.val (.bool (cond e x y)))
    | _, _ => none
   | false => none
  | _, _ => none
 | _ => none
def y03 (L : FL) (st : St) (h : Hp) (ch : List (Nat × Bool)) : List Operand → List (Nat × AV) → (List (Nat × AV) → Prop) → Prop
 | [], acc, K => K acc
 | .tmp t :: r, acc, K => match v00 L t with
  | some (ch2, f) => match G0c ch2 ch with
   | true => match f with
    | .pu av => y03 L st h ch r ((t, av) :: acc) K
    | .ef F => ∀ v, F v h → y03 L st h ch r ((t, .val v) :: acc) K
   | false => False
  | none => y03 L st h ch r ((t, Q1 st.fr t) :: acc) K
 | _ :: r, acc, K => y03 L st h ch r acc K
def l0a (h : Hp) : FL → List (Nat × AV) → (List (Nat × AV) → Prop) → Prop
 | [], fr, K => K fr
 | (d, [], .pu av) :: r, fr, K => l0a h r ((d, av) :: fr) K
 | (d, [], .ef F) :: r, fr, K => ∀ v, F v h → l0a h r ((d, .val v) :: fr) K
 | (d, _ :: _, _) :: r, fr, K => l0a h r ((d, .dead) :: fr) K
def L0b (d : Option Tmp) (ch : List (Nat × Bool)) (f : V4) (L : FL) : FL := match d with
 | some d => (d, ch, f) :: L
 | none => L
def M0b (i : Nat) (d : Option Tmp) (ch : List (Nat × Bool)) (av : AV) (bs : List BE) : List BE := match d with
 | some d => match av with
  | .val (.bool e) => ⟨i, d, e, ch⟩ :: bs
  | _ => bs
 | none => bs
def z0e (st st' : St) : Prop := st'.n = st.n ∧ st'.fr = st.fr ∧ st'.bx = st.bx ∧ ∃ t, st'.ow = st.ow ++ t
def d0i (st : St) (h : Hp) (F : Value → Hp → Prop) : AV → St → Hp → Prop := fun av st' h' => rfy av st' h' fun v st'' h'' => z0e st st'' ∧ Sub h h'' ∧ F v h''
def evU (P : Program) (l : List Oper) : Nat → FL → List BE → St → Hp → (St → Hp → Prop) → Prop :=
  List.rec (motive := fun _ => Nat → FL → List BE → St → Hp → (St → Hp → Prop) → Prop)
    (fun _ L _ st h K => match st with
      | ⟨n, fr, bx, ow⟩ => ∀ h', Sub h h' → l0a h' L fr fun fr => K ⟨n, fr, bx, ow⟩ h')
    (fun o _ ih i L bs st h K => match st with
      | ⟨n, fr, bx, ow⟩ => match t7 bs o.guard with
        | some ch => match cB bs ch with
          | some c => match c05 P L bs ch o ⟨n, fr, bx, ow⟩ with
            | some av => M9 av fun av => ih (i + 1) (L0b o.dst ch (.pu av) L) (M0b i o.dst ch av bs) ⟨n, fr, bx, ow⟩ h K
            | none => (∃ av, (∀ h', Sub h h' → imp ch c (y03 L ⟨n, fr, bx, ow⟩ h' ch o.op.operands.toList [] fun fr => C6 P o ⟨n, fr, bx, ow⟩ h' (B0f av ⟨n, fr, bx, ow⟩ h'))) ∧
                  M9 av fun av => ih (i + 1) (L0b o.dst ch (.pu av) L) (M0b i o.dst ch av bs) ⟨n, fr, bx, ow⟩ h K) ∨
                (∃ F : Value → Hp → Prop, (∀ v h1 h2, Sub h1 h2 → F v h1 → F v h2) ∧
                  (∀ h', Sub h h' → imp ch c (y03 L ⟨n, fr, bx, ow⟩ h' ch o.op.operands.toList [] fun fr => C6 P o ⟨n, fr, bx, ow⟩ h' (d0i ⟨n, fr, bx, ow⟩ h' F))) ∧
                  ih (i + 1) (L0b o.dst ch (.ef F) L) bs ⟨n, fr, bx, ow⟩ h K)
          | none => False
        | none => False) l
def r08 : List Oper → Bool
 | [] => true
 | o :: r => (match o.guard with
  | some (j, _) => N7 j o
  | none => true) && r08 r
def H00 (n : Nat) (ops : List Oper) : Bool := D7 n ops && r08 ops
def E0j (P : Program) : List Oper → Bool
 | [] => false
 | o :: r => (match o.guard, o.op with
  | some _, .call { callee := .value _, args := _, argTypes := _ } => match P.underlying o.type with
   | some (.slice _) => true
   | some (.struct _) => true
   | some (.tuple _) => true
   | _ => false
  | _, _ => false) || E0j P r
def l01 (o : Oper) : Bool := match o.op with
 | .alloc _ => true
 | _ => false
def E7 (o : Oper) : Oper := match o.op with
 | .alloc _ => { o with op := .move (.const undef) }
 | _ => o
def C4 : List Oper → List Oper
 | [] => []
 | o :: r => E7 o :: C4 r
def okA (P : Program) (all : List Oper) : List Oper → Bool
 | [] => true
 | o :: r => (match o.op with
  | .alloc t => (match o.guard, o.dst, O8 P t with
   | none, some d, some _ => !I08 d all
   | _, _, _ => false)
  | _ => true) && okA P all r
def A0e (x : Nat) : List Nat → Bool
 | [] => false
 | y :: r => Nat.beq x y || A0e x r
def F0j (ops : List Oper) (i : Nat) : List Nat → Bool
 | [] => false
 | j :: r => (match nth ops j with
  | some o => N7 i o
  | none => false) || F0j ops i r
def D0a (ops : List Oper) : Nat → List Nat → List Nat
 | 0, acc => acc
 | i + 1, acc => match F0j ops i acc with
  | true => D0a ops i (i :: acc)
  | false => D0a ops i acc
def W05 (o : Oper) : Option Nat := match o.guard with
 | some _ => none
 | none => match o.op with
  | .extract (.tmp t) _ => some t
  | .move (.tmp t) => some t
  | .assign (.tmp t) => some t
  | _ => none
def X05 (d : Nat) : List Oper → Bool
 | [] => false
 | o :: r => (match o.dst with
  | some e => Nat.beq e d
  | none => false) || X05 d r
def A02 (ml : List Nat) (t : Nat) : List Oper → Nat → Bool
 | [], _ => true
 | o :: r, i => (match o.dst with
  | some e => !Nat.beq e t || A0e i ml
  | none => true) && A02 ml t r (i + 1)
def B02 (i d : Nat) : List Oper → Bool
 | [] => true
 | o :: r => (!Q03 d o.op.operands.toList || N7 i o) && B02 i d r
def D0f (pre tl : List Oper) (ml : List Nat) (i : Nat) (o : Oper) : Bool := match W05 o, o.dst with
 | some t, some d => !X05 d tl && !X05 t tl && A02 ml t pre 0 && B02 i d tl
 | _, _ => false
def s08 (pre tl : List Oper) (ml : List Nat) : List Oper → Nat → Bool
 | [], _ => true
 | o :: r, i => (A0e i ml || D0f pre tl ml i o) && s08 pre tl ml r (i + 1)
def M0c : List Oper → Bool
 | [] => true
 | o :: r => !R07 o.op && M0c r
def e0i : Nat → List Oper → Bool
 | _, [] => true
 | k, o :: r => (match o.guard with
  | none => true
  | some _ => false) && (match r with
  | [] => true
  | o' :: _ => N7 k o') && e0i (k + 1) r
def A0l : List Oper → Bool
 | [] => true
 | _ :: _ => false
def okZ (P : Program) (n m : Nat) (ops : List Oper) : Bool :=
 H00 n (C4 (ops.take m)) && okA P (ops.take m) (ops.take m) && U07 ops 0 && e0i m (ops.drop m) && (A0l (ops.drop m) || (s08 (ops.take m) (ops.drop m) (D0a ops m [m]) (ops.take m) 0 && M0c (ops.drop m)))
abbrev O0k := Oper → St → Hp → (St → Hp → Prop) → Prop
def doA (R : O0k) (l : List Oper) : St → Hp → (St → Hp → Prop) → Prop :=
 List.rec (motive := fun _ => St → Hp → (St → Hp → Prop) → Prop) (fun st h K => K st h) (fun o _ ih st h K => match l01 o with
  | true => R o st h fun st h => ih st h K
  | false => ih st h K) l
def doT (R : O0k) (l : List Oper) : St → Hp → (St → Hp → Prop) → Prop :=
 List.rec (motive := fun _ => St → Hp → (St → Hp → Prop) → Prop) (fun st h K => K st h) (fun o _ ih st h K => R o st h fun st h => ih st h K) l
def evT (P : Program) (R : O0k) (m : Nat) (ops : List Oper) (st : St) (h : Hp) (K : St → Hp → Prop) : Prop :=
 evU P (C4 (ops.take m)) 0 [] [] st h fun st h => doA R (ops.take m) st h fun st h => doT R (ops.drop m) st h K
inductive Ex where
 | normal | ret
 | exit (i : Nat)
structure Ann where
 vars : List Nat
 boxes : List Nat
 owns : List Nat
 nils : List (Nat × Nat × Nat × Nat) := []
 nilsB : List (Nat × Nat × Nat × Nat × Nat) := []
 kept : List Nat := []
 fuel : Bool := false
 pubs : List Nat := []
def N0c : List (Nat × Nat × Nat × Nat) → St → (St → Prop) → Prop
 | [], st, K => K st
 | (s, e, sz, by_) :: r, ⟨n, fr, bx, ow⟩, K => match rdA ⟨n, fr, bx, ow⟩ (Q1 fr s), Nat.blt s n with
  | .val (.slice none 0 0), true => s0e ow fun k => N0c r ⟨n, (s, .own k 0) :: fr, bx, ow ++ [⟨0, .live e sz by_ false []⟩]⟩ K
  | _, _ => False
def K08 : List (Nat × Nat × Nat × Nat × Nat) → St → (St → Prop) → Prop
 | [], st, K => K st
 | (i, k, e, sz, by_) :: r, ⟨n, fr, bx, ow⟩, K => match nth bx i with
  | some (.live cs ty) => match nth cs k with
   | some (.val (.slice none 0 0)) => s0e ow fun j => K08 r ⟨n, fr, M7 bx i (.live (M7 cs k (.own j 0)) ty), ow ++ [⟨0, .live e sz by_ false []⟩]⟩ K
   | _ => False
  | _ => False
def O0c : List Nat → St → Hp → (St → Hp → Prop) → Prop
 | [], st, h, K => K st h
 | s :: r, st, h, K => rfy (rdA st (Q1 st.fr s)) st h fun v st h => match st with
  | ⟨n, fr, bx, ow⟩ => match Nat.blt s n with
   | true => O0c r ⟨n, (s, .val v) :: fr, bx, ow⟩ h K
   | false => False
def T04 (x : Nat) : List Nat → Bool
 | [] => false
 | y :: r => match Nat.beq x y with
  | true => true
  | false => T04 x r
def P0k : List Oper → List Nat → List Nat
 | [], acc => acc
 | o :: r, acc => match o.dst with
  | some d => P0k r (d :: acc)
  | none => P0k r acc
def m0a : Code → List Nat → List Nat
 | .region _ ops _, acc => P0k ops.toList acc
 | .seq a b, acc => m0a a (m0a b acc)
 | .cond _ a b, acc => m0a a (m0a b acc)
 | .block _ a, acc => m0a a acc
 | .loop a, acc => m0a a acc
 | .scope a, acc => m0a a acc
 | _, acc => acc
def Z06 : List Nat → (List Nat → Prop) → Prop
 | [], K => K []
 | x :: r, K => Z06 r fun r => K (x :: r)
def G0j : List Nat → St → (List Value → Prop) → Prop
 | [], _, K => K []
 | s :: r, st, K => match rdA st (Q1 st.fr s) with
  | .val v => G0j r st fun vs => K (v :: vs)
  | _ => False
def P0c : List G4 → St → (List Value → Prop) → Prop
 | [], _, K => K []
 | .val v :: r, st, K => P0c r st fun vs => K (v :: vs)
 | .own _ _ :: r, st, K => P0c r st K
def L08 : List Nat → St → (List Value → Prop) → Prop
 | [], _, K => K []
 | i :: r, st, K => match nth st.bx i with
  | some (.live cs _) => P0c cs st fun vs => L08 r st fun ws => K (vs ++ ws)
  | _ => False
def E0a : List Nat → St → (List (List (List Value)) → Prop) → Prop
 | [], _, K => K []
 | i :: r, st, K => match nth st.ow i with
  | some ⟨_, .live _ _ _ _ xs⟩ => E0a r st fun os => K (xs :: os)
  | _ => False
def B0e (A : Ann) (st : St) (K : List Value → List (List (List Value)) → Prop) : Prop :=
 G0j A.vars st fun vs => L08 A.boxes st fun ws => E0a A.owns st fun os => K (vs ++ ws) os
def I00 : List G4 → List Value → (List G4 → List Value → Prop) → Prop
 | [], vs, K => K [] vs
 | .val _ :: r, v :: vs, K => I00 r vs fun cs rest => K (.val v :: cs) rest
 | .val _ :: _, [], _ => False
 | .own i k :: r, vs, K => I00 r vs fun cs rest => K (.own i k :: cs) rest
def C02 : List Nat → List Value → List BSt → (List BSt → Prop) → Prop
 | [], _, bx, K => K bx
 | i :: r, vs, bx, K => match nth bx i with
  | some (.live cs ty) => I00 cs vs fun cs rest => C02 r rest (M7 bx i (.live cs ty)) K
  | _ => False
def D02 : List Nat → List (List (List Value)) → List Own → (List Own → Prop) → Prop
 | [], _, ow, K => K ow
 | i :: r, xs :: os, ow, K => match nth ow i with
  | some ⟨s, .live e sz by_ nn _⟩ => D02 r os (M7 ow i ⟨s, .live e sz by_ nn xs⟩) K
  | _ => False
 | _ :: _, [], _, _ => False
def R03 {α : Type} : Nat → List α → (List α → List α → Prop) → Prop
 | 0, l, K => K [] l
 | n + 1, x :: l, K => R03 n l fun a b => K (x :: a) b
 | _ + 1, [], _ => False
def d05 (A : Ann) (st : St) : List Nat → List (Nat × AV) → (List (Nat × AV) → Prop) → Prop
 | [], acc, K => K acc
 | s :: r, acc, K => match T04 s A.vars with
  | true => d05 A st r acc K
  | false => match rdA st (Q1 st.fr s) with
   | .own i k => d05 A st r ((s, .own i k) :: acc) K
   | .box i o => d05 A st r ((s, .box i o) :: acc) K
   | _ => d05 A st r ((s, .dead) :: acc) K
def E0f : List G4 → Bool
 | [] => true
 | .val _ :: r => E0f r
 | .own _ _ :: _ => false
def E02 (A : Ann) (ds : List Nat) (st : St) : List (Nat × AV) → (List (Nat × AV) → Prop) → Prop
 | [], K => K []
 | (s, av) :: r, K => match T04 s ds with
  | true => E02 A ds st r K
  | false => match rdA st av with
   | .own i k => match T04 i A.owns, T04 i A.kept with
    | true, false => E02 A ds st r fun l => K ((s, .dead) :: l)
    | _, _ => E02 A ds st r fun l => K ((s, .own i k) :: l)
   | .oel _ _ _ _ _ => E02 A ds st r fun l => K ((s, .dead) :: l)
   | .agg cs => match E0f cs with
    | true => E02 A ds st r fun l => K ((s, .agg cs) :: l)
    | false => E02 A ds st r fun l => K ((s, .dead) :: l)
   | a => E02 A ds st r fun l => K ((s, a) :: l)
def a07 : List Nat → List Value → List (Nat × AV) → List (Nat × AV)
 | s :: r, v :: vs, acc => a07 r vs ((s, .val v) :: acc)
 | _, _, acc => acc
def W07 (head end_ : St) : List (Nat × AV) → Bool
 | [] => true
 | (s, av) :: r => match av with
  | .own i _ => match rdA end_ (Q1 end_.fr s) with
   | .own j _ => match Nat.beq i j with
    | true => W07 head end_ r
    | false => false
   | _ => false
  | .box i o => match rdA end_ (Q1 end_.fr s) with
   | .box j p => match Nat.beq i j, Nat.beq o p with
    | true, true => W07 head end_ r
    | _, _ => false
   | _ => false
  | _ => W07 head end_ r
def C0e : AV → Bool
 | .dead => true
 | _ => false
def P0g : List (Nat × AV) → List AV
 | [] => []
 | (_, av) :: r => match C0e av with
  | true => P0g r
  | false => av :: P0g r
def F0a (fr : List (Nat × AV)) : List (Nat × AV) → List AV
 | [] => []
 | (s, av) :: r => match C0e av with
  | true => F0a fr r
  | false => Q1 fr s :: F0a fr r
def F02 (head end_ : St) : List G4 → List G4 → Bool
 | [], [] => true
 | .val _ :: r, .val _ :: r' => F02 head end_ r r'
 | .own i _ :: r, .own j k' :: r' => match Nat.beq i j, rdA end_ (.own j k') with
  | true, .own _ _ => F02 head end_ r r'
  | _, _ => false
 | _, _ => false
def Y05 (os : List Nat) : List G4 → Bool
 | [] => true
 | .val _ :: r => Y05 os r
 | .own i _ :: r => match T04 i os with
  | true => false
  | false => Y05 os r
def D0e (os : List Nat) : BSt → Bool
 | .live cs _ => Y05 os cs
 | .publ _ => true
def b07 (A : Ann) (head end_ : St) : Nat → List BSt → List BSt → Prop
 | _, [], _ => True
 | i, b :: r, b' :: r' => match T04 i A.boxes with
  | true => match b, b' with
   | .live cs ty, .live cs' ty' => match Nat.beq ty ty', F02 head end_ cs cs' with
    | true, true => b07 A head end_ (i + 1) r r'
    | _, _ => False
   | _, _ => False
  | false => match D0e A.owns b with
   | true => b' = b ∧ b07 A head end_ (i + 1) r r'
   | false => False
 | _, _ :: _, [] => False
def leB (a b : Bool) : Bool := match a with
 | true => b
 | false => true
def c07 (A : Ann) : Nat → List Own → List Own → Prop
 | _, [], _ => True
 | i, b :: r, b' :: r' => match T04 i A.owns with
  | true => match b, b' with
   | ⟨s, .live e sz by_ nn _⟩, ⟨s', .live e' sz' by' nn' _⟩ => match Nat.beq e e', Nat.beq sz sz', Nat.beq by_ by', leB nn nn', leB (T04 i A.kept) (Nat.beq s s') with
    | true, true, true, true, true => c07 A (i + 1) r r'
    | _, _, _, _, _ => False
   | _, _ => False
  | false => b' = b ∧ c07 A (i + 1) r r'
 | _, _ :: _, [] => False
def Z05 : Nat → (List Value → Prop) → Prop
 | 0, K => K []
 | n + 1, K => ∀ v, Z05 n fun vs => K (v :: vs)
def a06 : Nat → (List (List (List Value)) → Prop) → Prop
 | 0, K => K []
 | n + 1, K => ∀ xs, a06 n fun os => K (xs :: os)
abbrev d07 := List Value → List (List (List Value)) → Hp → Prop
abbrev z03 := List Value → List (List (List Value)) → Nat
def H0j : List Value → List Value → Bool
 | [], [] => true
 | _ :: r, _ :: r' => H0j r r'
 | _, _ => false
def Q0c (A : Ann) (I : d07) (vs : List Value) (os : List (List (List Value))) (h : Hp) : Prop := match A.fuel with
 | false => I vs os h
 | true => ∃ m : Nat, I (.int .i64 m :: vs) os h
def R0c (A : Ann) (I : d07) (μ : z03) (vs : List Value) (os : List (List (List Value))) (X : Nat → Hp → Prop) : Prop := match A.fuel with
 | false => ∀ h', I vs os h' → X (μ vs os) h'
 | true => ∀ (m : Nat) (h' : Hp), I (.int .i64 m :: vs) os h' → X m h'
def I0j (A : Ann) (I : d07) (μ : z03) (m : Nat) (vs : List Value) (os : List (List (List Value))) (h : Hp) : Prop := match A.fuel with
 | false => I vs os h ∧ μ vs os < m
 | true => ∃ m' : Nat, I (.int .i64 m' :: vs) os h ∧ m' < m
def atI (A : Ann) (I : d07) (μ : z03) (m : Nat) (vs : List Value) (os : List (List (List Value))) (h : Hp) : Prop := match A.fuel with
 | false => I vs os h ∧ m = μ vs os
 | true => I (.int .i64 m :: vs) os h
theorem f0i {A : Ann} {I : d07} {μ : z03} {vs : List Value} {os : List (List (List Value))} {h : Hp} (hh : Q0c A I vs os h) : ∃ m, atI A I μ m vs os h := by
 unfold Q0c at hh
 unfold atI
 cases hf : A.fuel with
 | false => rw [hf] at hh; exact ⟨_, hh, rfl⟩
 | true => rw [hf] at hh; exact hh
theorem g0i {A : Ann} {I : d07} {μ : z03} {vs : List Value} {os : List (List (List Value))} {X : Nat → Hp → Prop} (hh : R0c A I μ vs os X) {m : Nat} {h : Hp} (ha : atI A I μ m vs os h) : X m h := by
 unfold R0c at hh
 unfold atI at ha
 cases hf : A.fuel with
 | false => rw [hf] at hh ha; rw [ha.2]; exact hh _ ha.1
 | true => rw [hf] at hh ha; exact hh _ _ ha
theorem J0j {A : Ann} {I : d07} {μ : z03} {m : Nat} {vs : List Value} {os : List (List (List Value))} {h : Hp} (hh : I0j A I μ m vs os h) : ∃ m', atI A I μ m' vs os h ∧ m' < m := by
 unfold I0j at hh
 unfold atI
 cases hf : A.fuel with
 | false => rw [hf] at hh; exact ⟨_, ⟨hh.1, rfl⟩, hh.2⟩
 | true => rw [hf] at hh; exact hh
def h0i (A : Ann) (dyn sta : List (Nat × AV)) (st0 : St) (I : d07) (μ : z03) (vs0 : List Value) (m : Nat) (st : St) (h : Hp) : Prop :=
 match Nat.beq st.n st0.n, W07 st0 st dyn with
 | true, true => F0a st.fr sta = P0g sta ∧ b07 A st0 st 0 st0.bx st.bx ∧ c07 A 0 st0.ow st.ow ∧
   B0e A st fun vs os => match H0j vs vs0 with
    | true => R03 A.vars.length vs fun _ v2 => C02 A.boxes v2 st0.bx fun _ => D02 A.owns os st0.ow fun _ => I0j A I μ m vs os h
    | false => False
 | _, _ => False
def F0f (body : (Ex → St → Hp → Prop) → St → Hp → Prop) (ds0 : List Nat) (Q : Ex → St → Hp → Prop) (st : St) (h : Hp) : Prop :=
 ∃ (A : Ann) (I : d07) (μ : z03), N0c A.nils st fun st => K08 A.nilsB st fun st => O0c A.pubs st h fun st h => B0e A st fun vs0 os0 => Q0c A I vs0 os0 h ∧
  Z06 ds0 fun ds => d05 A st ds [] fun dyn => E02 A ds st st.fr fun sta =>
   Z05 vs0.length fun vs => a06 os0.length fun os => R0c A I μ vs os fun m h' =>
    R03 A.vars.length vs fun v1 v2 => C02 A.boxes v2 st.bx fun bx => D02 A.owns os st.ow fun ow =>
     body (fun e st' h'' => match e with
      | .normal => O0c A.pubs st' h'' fun st' h'' => h0i A dyn sta st I μ vs m st' h''
      | e => Q e st' h'') ⟨st.n, a07 A.vars v1 (dyn ++ sta), bx, ow⟩ h'
def i0i (b : Bool) (X Y : Prop) : Prop := (b = true → X) ∧ (b = false → Y)
def ev (P : Program) : Code → (Ex → St → Hp → Prop) → St → Hp → Prop
 | .skip, Q, st, h => Q .normal st h
 | .region _ ops false, Q, st, h => match E0j P ops.toList with
  | true => H00 st.n ops.toList = true ∧ evU P ops.toList 0 [] [] st h fun st h => Q .normal st h
  | false => T07 P ops.toList 0 ⟨st, h, [], []⟩ fun rs => Q .normal rs.st rs.h
 | .region _ ops true, Q, st, h => ((P.follows .mixedOrders = true ∧ Region.lexB .any ops = true) ∧
   evQ P ops.toList 0 ⟨st, h, [], []⟩ fun rs => Q .normal rs.st rs.h) ∨
   ((P.follows .mixedOrders = true ∧ D7 st.n ops.toList = true) ∧ evS P ops.toList [] st h fun st h => Q .normal st h) ∨
   (match c0i ops.toList with
    | none => (P.follows .mixedOrders = true ∧ D7 st.n ops.toList = true) ∧ x00 P st h ops.toList 0 [] [] [] fun L X E => ∃ c, (r9 E = true ∧ n02 X (X ++ E) (E.drop c) = true) ∧ evC (r8 L st ops.toList) ops.size P c E L st h fun st h => Q .normal st h
    | some o => (P.follows .mixedOrders = true ∧ (D7 st.n (o8 ops.toList) && U07 ops.toList 0) = true) ∧ x00 P st h (o8 ops.toList) 0 [] [] [] fun L X E => ∃ c, (r9 E = true ∧ n02 X (X ++ E) (E.drop c) = true) ∧ evC (r8 L st (o8 ops.toList)) (o8 ops.toList).length P c E L st h fun st h => N00 P o st h fun st h => Q .normal st h) ∨
   ((P.follows .mixedOrders = true ∧ H00 st.n ops.toList = true) ∧ evU P ops.toList 0 [] [] st h fun st h => Q .normal st h) ∨
   (∃ m, (P.follows .mixedOrders = true ∧ okZ P st.n m ops.toList = true) ∧ evT P (N00 P) m ops.toList st h fun st h => Q .normal st h)
 | .seq a b, Q, st, h => ev P a (fun e st h => match e with
  | .normal => ev P b Q st h
  | e => Q e st h) st h
 | .cond c t e, Q, st, h => match rdO st c with
  | .val (.bool b) => i0i b (ev P t Q st h) (ev P e Q st h)
  | _ => False
 | .block id c, Q, st, h => ev P c (fun e st h => match e with
  | .exit i => match Nat.beq i id with
   | true => Q .normal st h
   | false => Q (.exit i) st h
  | e => Q e st h) st h
 | .loop body, Q, st, h => F0f (fun Q => ev P body Q) (m0a body []) Q st h
 | .exit id, Q, st, h => Q (.exit id) st h
 | .ret, Q, st, h => Q .ret st h
 | _, _, _, _ => False
def E0e (P : Program) : List ResultVar → St → Hp → (List Value → St → Hp → Prop) → Prop
 | [], st, h, K => K [] st h
 | .tmp t :: r, st, h, K => rfy (rdA st (Q1 st.fr t)) st h fun v st h => E0e P r st h fun vs st h => K (v :: vs) st h
 | .cell t ty :: r, st, h, K => match rdA st (Q1 st.fr t) with
  | .box i off => match nth st.bx i with
   | some (.live cs _) => w01 P ty cs off fun av => rfy av st h fun v st h => E0e P r st h fun vs st h => K (v :: vs) st h
   | _ => False
  | _ => False
def S0c : List Value → Value
 | [v] => v
 | vs => .tuple vs.toArray
def b06 : Nat → List Value → List (Nat × AV)
 | _, [] => []
 | i, v :: r => (i, .val v) :: b06 (i + 1) r
def Q0k (P : Program) (fn : Func) (args : List Value) (h : Hp) (T : Value → Hp → Prop) : Prop :=
 match fn.body with
 | some c => match Nat.ble args.length fn.ntmps with
  | true => ev P c (fun e st h => match e with
   | .exit _ => False
   | _ => E0e P fn.results.toList st h fun vs _ h => T (S0c vs) h) ⟨fn.ntmps, b06 0 args, [], []⟩ h
  | false => False
 | none => False
end Go.H
