/- Plain laws over the model: the evaluator once more, with its states written out at each step. -/
import Derived.Test.YtjalbdammdmgiaaH22
namespace Go.H
set_option linter.unusedVariables false
set_option linter.unusedSimpArgs false

def pureOp : Op → Bool
  | .move _ | .assign _ | .load .. | .binOp .. | .unOp .. | .index .. | .field .. | .fieldAddr .. | .indexAddr .. | .pick .. | .build .. | .convert .. => true
  | _ => false

def forceSt (b : Bool) (st : St) (K : St → Prop) : Prop := match b with
  | true => K st
  | false => match st with
    | ⟨n, fr, bx, ow⟩ => forceL bx fun bx => forceL ow fun ow => K ⟨n, fr, bx, ow⟩
theorem forceSt_eq (b : Bool) (st : St) (K : St → Prop) : forceSt b st K = K st := by
  cases b
  · obtain ⟨n, fr, bx, ow⟩ := st
    simp only [forceSt, forceL_eq]
  · rfl

def putF (d : Option Tmp) (i : Nat) (ch : List (Nat × Bool)) (av : AV) (rs : RS) (K : RS → Prop) : Prop := match rs with
  | ⟨⟨n, fr, bx, ow⟩, h, gf, bs⟩ => match d with
    | none => K ⟨⟨n, fr, bx, ow⟩, h, gf, bs⟩
    | some d => match Nat.blt d n, usedSlot ⟨⟨n, fr, bx, ow⟩, h, gf, bs⟩ d with
      | true, false => match ch with
        | [] => forceA av fun av => match av with
          | .val (.bool e) => K ⟨⟨n, (d, .val (.bool e)) :: fr, bx, ow⟩, h, gf, ⟨i, d, e, []⟩ :: bs⟩
          | _ => K ⟨⟨n, (d, av) :: fr, bx, ow⟩, h, gf, bs⟩
        | p :: ch => forceA av fun av => match av with
          | .val (.bool e) => K ⟨⟨n, (d, .dead) :: fr, bx, ow⟩, h, (d, p :: ch, .val (.bool e)) :: gf, ⟨i, d, e, p :: ch⟩ :: bs⟩
          | _ => K ⟨⟨n, (d, .dead) :: fr, bx, ow⟩, h, (d, p :: ch, av) :: gf, bs⟩
      | _, _ => False
theorem putF_eq (d : Option Tmp) (i : Nat) (ch : List (Nat × Bool)) (av : AV) (rs : RS) (K : RS → Prop) : putF d i ch av rs K = putR d i ch av rs K := by
  obtain ⟨⟨n, fr, bx, ow⟩, h, gf, bs⟩ := rs
  cases d with
  | none => rfl
  | some d =>
    simp only [putF, putR]
    generalize usedSlot _ d = u
    generalize Nat.blt d n = b
    cases b
    · rfl
    cases u
    · cases ch with
      | nil =>
        simp only [forceA_eq]
        cases av with
        | val v => cases v <;> rfl
        | _ => rfl
      | cons p ch =>
        simp only [forceA_eq]
        cases av with
        | val v => cases v <;> rfl
        | _ => rfl
    · rfl

def evRegF (P : Program) (l : List Oper) : Nat → RS → (RS → Prop) → Prop :=
  List.rec (motive := fun _ => Nat → RS → (RS → Prop) → Prop) (fun _ rs K => K rs) (fun o _ ih i rs K => match rs with
    | ⟨⟨n, fr, bx, ow⟩, h, gf, bs⟩ => match o.guard, isPick o.op with
      | none, false => evOp P o ⟨n, fr, bx, ow⟩ h fun av st h => forceSt (pureOp o.op) st fun st => putF o.dst i [] av ⟨st, h, gf, bs⟩ fun rs => ih (i + 1) rs K
      | _, _ => match chainOf bs o.guard with
        | some ch => match cB bs ch with
          | some c => evG P o ch c ⟨⟨n, fr, bx, ow⟩, h, gf, bs⟩ fun av => putF o.dst i ch av ⟨⟨n, fr, bx, ow⟩, h, gf, bs⟩ fun rs => ih (i + 1) rs K
          | none => False
        | none => False) l
theorem evRegF_cons (P : Program) (o : Oper) (r : List Oper) (i n : Nat) (fr : List (Nat × AV)) (bx : List BSt) (ow : List Own) (h : Hp) (gf : List (Nat × List (Nat × Bool) × AV)) (bs : List BE) (K : RS → Prop) :
    evRegF P (o :: r) i ⟨⟨n, fr, bx, ow⟩, h, gf, bs⟩ K = match o.guard, isPick o.op with
      | none, false => evOp P o ⟨n, fr, bx, ow⟩ h fun av st h => forceSt (pureOp o.op) st fun st => putF o.dst i [] av ⟨st, h, gf, bs⟩ fun rs => evRegF P r (i + 1) rs K
      | _, _ => match chainOf bs o.guard with
        | some ch => match cB bs ch with
          | some c => evG P o ch c ⟨⟨n, fr, bx, ow⟩, h, gf, bs⟩ fun av => putF o.dst i ch av ⟨⟨n, fr, bx, ow⟩, h, gf, bs⟩ fun rs => evRegF P r (i + 1) rs K
          | none => False
        | none => False := rfl
theorem evRegF_eq (P : Program) : ∀ (l : List Oper) (i : Nat) (rs : RS) (K : RS → Prop), evRegF P l i rs K = evReg P l i rs K
  | [], i, rs, K => rfl
  | o :: r, i, ⟨⟨n, fr, bx, ow⟩, h, gf, bs⟩, K => by
    simp only [evRegF_cons, evReg, forceSt_eq, putF_eq, evRegF_eq P r]
    rfl

/-- what is left of a region, taken by itself -/
theorem stepK {P : Program} {l : List Oper} {i : Nat} {rs rs' : RS} {K : RS → Prop} (h1 : ∀ K : RS → Prop, K rs' → evRegF P l i rs K) (h2 : K rs') : evRegF P l i rs K := h1 K h2

def evQF (P : Program) (l : List Oper) : Nat → RS → (RS → Prop) → Prop :=
  List.rec (motive := fun _ => Nat → RS → (RS → Prop) → Prop) (fun _ rs K => K rs) (fun o _ ih i rs K => match rs with
    | ⟨⟨n, fr, bx, ow⟩, h, gf, bs⟩ => match chainOf bs o.guard with
      | some ch => match cB bs ch with
        | some c => evG P o ch c ⟨⟨n, fr, bx, ow⟩, h, gf, bs⟩ fun av => putF o.dst i ch av ⟨⟨n, fr, bx, ow⟩, h, gf, bs⟩ fun rs => ih (i + 1) rs K
        | none => False
      | none => False) l
theorem evQF_cons (P : Program) (o : Oper) (r : List Oper) (i n : Nat) (fr : List (Nat × AV)) (bx : List BSt) (ow : List Own) (h : Hp) (gf : List (Nat × List (Nat × Bool) × AV)) (bs : List BE) (K : RS → Prop) :
    evQF P (o :: r) i ⟨⟨n, fr, bx, ow⟩, h, gf, bs⟩ K = match chainOf bs o.guard with
      | some ch => match cB bs ch with
        | some c => evG P o ch c ⟨⟨n, fr, bx, ow⟩, h, gf, bs⟩ fun av => putF o.dst i ch av ⟨⟨n, fr, bx, ow⟩, h, gf, bs⟩ fun rs => evQF P r (i + 1) rs K
        | none => False
      | none => False := rfl
theorem evQF_eq (P : Program) : ∀ (l : List Oper) (i : Nat) (rs : RS) (K : RS → Prop), evQF P l i rs K = evQ P l i rs K
  | [], i, rs, K => rfl
  | o :: r, i, ⟨⟨n, fr, bx, ow⟩, h, gf, bs⟩, K => by
    simp only [evQF_cons, evQ, putF_eq, evQF_eq P r]
    rfl

/-- entries written out; what is dead is left out -/
def forceFr : List (Nat × AV) → (List (Nat × AV) → Prop) → Prop
  | [], K => K []
  | (s, av) :: r, K => forceA av fun av => forceFr r fun r => K ((s, av) :: r)
theorem forceFr_eq : ∀ (l : List (Nat × AV)) (K : List (Nat × AV) → Prop), forceFr l K = K l
  | [], K => rfl
  | (s, av) :: r, K => by simp only [forceFr, forceA_eq, forceFr_eq r]
def appK {α : Type} : List α → List α → (List α → Prop) → Prop
  | [], b, K => K b
  | x :: r, b, K => appK r b fun l => K (x :: l)
theorem appK_eq {α : Type} : ∀ (a b : List α) (K : List α → Prop), appK a b K = K (a ++ b)
  | [], b, K => rfl
  | x :: r, b, K => by simp only [appK, appK_eq r, List.cons_append]

def endF (A : Ann) (dyn sta : List (Nat × AV)) (st0 : St) (I : LInv) (μ : LMeas) (vs0 : List Value) (m : Nat) (st : St) (h : Hp) : Prop :=
  match Nat.beq st.n st0.n, sameD st0 st dyn with
  | true, true => lookL st.fr sta = avsL sta ∧ sameBx A st0 st 0 st0.bx st.bx ∧ sameOw A 0 st0.ow st.ow ∧
      getA A st fun vs os => forceL vs fun vs => match lenL vs vs0 with
        | true => splitV A.vars.length vs fun _ v2 => setBx A.boxes v2 st0.bx fun _ => setOw A.owns os st0.ow fun _ => endI A I μ m vs os h
        | false => False
  | _, _ => False
theorem endF_eq (A : Ann) (dyn sta : List (Nat × AV)) (st0 : St) (I : LInv) (μ : LMeas) (vs0 : List Value) (m : Nat) (st : St) (h : Hp) :
    endF A dyn sta st0 I μ vs0 m st h = endL A dyn sta st0 I μ vs0 m st h := by
  simp only [endF, endL, forceL_eq]
  rfl

def loopB (body : (Ex → St → Hp → Prop) → St → Hp → Prop) (ds0 : List Nat) (Q : Ex → St → Hp → Prop) (h : Hp) (A : Ann) (I : LInv) (μ : LMeas) (st : St) : Prop := match st with
  | ⟨n, fr, bx, ow⟩ => forceL fr fun fr => forceL bx fun bx0 => forceL ow fun ow0 => getA A ⟨n, fr, bx0, ow0⟩ fun vs0 os0 => forceL vs0 fun vs0 => headI A I vs0 os0 h ∧
    forceN ds0 fun ds => headD A ⟨n, fr, bx0, ow0⟩ ds [] fun dyn => headS A ds ⟨n, fr, bx0, ow0⟩ fr fun sta => forceFr sta fun sta => appK dyn sta fun ds2 =>
      forallV vs0.length fun vs => forallO os0.length fun os => headK A I μ vs os fun m h' =>
        splitV A.vars.length vs fun v1 v2 => setBx A.boxes v2 bx0 fun bx => setOw A.owns os ow0 fun ow => forceL (zipV A.vars v1 ds2) fun fr1 => forceL bx fun bx => forceL ow fun ow =>
          body (fun e st' h'' => match e with
            | .normal => pubS A.pubs st' h'' fun st' h'' => endF A dyn sta ⟨n, fr, bx0, ow0⟩ I μ vs m st' h''
            | e => Q e st' h'') ⟨n, fr1, bx, ow⟩ h'
def loopFF (body : (Ex → St → Hp → Prop) → St → Hp → Prop) (ds0 : List Nat) (Q : Ex → St → Hp → Prop) (st : St) (h : Hp) : Prop :=
  ∃ (A : Ann) (I : LInv) (μ : LMeas), adopt A.nils st fun st => adoptB A.nilsB st fun st => pubS A.pubs st h fun st h => loopB body ds0 Q h A I μ st
theorem loopFF_eq (body : (Ex → St → Hp → Prop) → St → Hp → Prop) (ds0 : List Nat) (Q : Ex → St → Hp → Prop) (st : St) (h : Hp) : loopFF body ds0 Q st h = loopF body ds0 Q st h := by
  have hB : ∀ h A I μ, loopB body ds0 Q h A I μ = fun st => getA A st fun vs0 os0 => headI A I vs0 os0 h ∧
    forceN ds0 fun ds => headD A st ds [] fun dyn => headS A ds st st.fr fun sta =>
      forallV vs0.length fun vs => forallO os0.length fun os => headK A I μ vs os fun m h' =>
        splitV A.vars.length vs fun v1 v2 => setBx A.boxes v2 st.bx fun bx => setOw A.owns os st.ow fun ow =>
          body (fun e st' h'' => match e with
            | .normal => pubS A.pubs st' h'' fun st' h'' => endL A dyn sta st I μ vs m st' h''
            | e => Q e st' h'') ⟨st.n, zipV A.vars v1 (dyn ++ sta), bx, ow⟩ h' := by
    intro h A I μ
    funext st
    obtain ⟨n, fr, bx0, ow0⟩ := st
    simp only [loopB, forceL_eq, forceFr_eq, appK_eq, endF_eq]
  simp only [loopFF, loopF, hB]
  rfl

def evF (P : Program) (c : Code) : (Ex → St → Hp → Prop) → St → Hp → Prop :=
  Code.rec (motive := fun _ => (Ex → St → Hp → Prop) → St → Hp → Prop)
    (fun Q st h => Q .normal st h)
    (fun _ ops d Q st h => match d with
      | false => match memU P ops.toList with
        | true => stableU st.n ops.toList = true ∧ evU P ops.toList 0 [] [] st h fun st h => Q .normal st h
        | false => evRegF P ops.toList 0 ⟨st, h, [], []⟩ fun rs => match rs with
          | ⟨st, h, _, _⟩ => Q .normal st h
      | true => ((P.follows .mixedOrders = true ∧ Region.lexB .any ops = true) ∧
          evQF P ops.toList 0 ⟨st, h, [], []⟩ fun rs => match rs with
            | ⟨st, h, _, _⟩ => Q .normal st h) ∨
          ((P.follows .mixedOrders = true ∧ stableB st.n ops.toList = true) ∧ evS P ops.toList [] st h fun st h => Q .normal st h) ∨
          ((P.follows .mixedOrders = true ∧ stableB st.n ops.toList = true) ∧ splitC P st h ops.toList 0 [] [] [] fun L X E => (chainB E = true ∧ earlyB X E = true) ∧ evC ops.size P E L st h fun st h => Q .normal st h) ∨
          ((P.follows .mixedOrders = true ∧ stableU st.n ops.toList = true) ∧ evU P ops.toList 0 [] [] st h fun st h => Q .normal st h))
    (fun _ _ iha ihb Q st h => iha (fun e st h => match e with
      | .normal => ihb Q st h
      | e => Q e st h) st h)
    (fun c _ _ ihx ihy Q st h => match rdO st c with
      | .val (.bool b) => condP b (ihx Q st h) (ihy Q st h)
      | _ => False)
    (fun id _ ih Q st h => ih (fun e st h => match e with
      | .exit i => match Nat.beq i id with
        | true => Q .normal st h
        | false => Q (.exit i) st h
      | e => Q e st h) st h)
    (fun body ih Q st h => loopFF (fun Q => ih Q) (dsts body []) Q st h)
    (fun _ _ _ _ _ _ _ _ _ => False)
    (fun id Q st h => Q (.exit id) st h)
    (fun _ _ _ _ _ => False)
    (fun _ _ _ _ => False)
    (fun _ _ _ _ => False)
    (fun Q st h => Q .ret st h)
    (fun _ _ _ _ => False) c
theorem evF_eq (P : Program) (c : Code) : evF P c = ev P c := by
  induction c with
  | region id ops d =>
    funext Q st h
    cases d
    · show (match memU P ops.toList with
        | true => stableU st.n ops.toList = true ∧ evU P ops.toList 0 [] [] st h fun st h => Q .normal st h
        | false => evRegF P ops.toList 0 ⟨st, h, [], []⟩ fun rs => match rs with
          | ⟨st, h, _, _⟩ => Q .normal st h) = _
      simp only [ev, evRegF_eq]
      rfl
    · show (((P.follows .mixedOrders = true ∧ Region.lexB .any ops = true) ∧
          evQF P ops.toList 0 ⟨st, h, [], []⟩ fun rs => match rs with
            | ⟨st, h, _, _⟩ => Q .normal st h) ∨
          ((P.follows .mixedOrders = true ∧ stableB st.n ops.toList = true) ∧ evS P ops.toList [] st h fun st h => Q .normal st h) ∨
          ((P.follows .mixedOrders = true ∧ stableB st.n ops.toList = true) ∧ splitC P st h ops.toList 0 [] [] [] fun L X E => (chainB E = true ∧ earlyB X E = true) ∧ evC ops.size P E L st h fun st h => Q .normal st h) ∨
          ((P.follows .mixedOrders = true ∧ stableU st.n ops.toList = true) ∧ evU P ops.toList 0 [] [] st h fun st h => Q .normal st h)) = _
      simp only [ev, evQF_eq]
  | seq a b iha ihb =>
    funext Q st h
    show evF P a (fun e st h => match e with
      | .normal => evF P b Q st h
      | e => Q e st h) st h = _
    simp only [ev, iha, ihb]; rfl
  | cond c x y ihx ihy =>
    funext Q st h
    show (match rdO st c with
      | .val (.bool b) => condP b (evF P x Q st h) (evF P y Q st h)
      | _ => False) = _
    simp only [ev, ihx, ihy]; rfl
  | block id c ih =>
    funext Q st h
    show evF P c (fun e st h => match e with
      | .exit i => match Nat.beq i id with
        | true => Q .normal st h
        | false => Q (.exit i) st h
      | e => Q e st h) st h = _
    simp only [ev, ih]; rfl
  | loop c ih =>
    funext Q st h
    show loopFF (fun Q => evF P c Q) (dsts c []) Q st h = _
    simp only [ev, ih, loopFF_eq]
  | _ => rfl

def evFnF (P : Program) (fn : Func) (args : List Value) (h : Hp) (T : Value → Hp → Prop) : Prop :=
  match fn.body with
  | some c => match Nat.ble args.length fn.ntmps with
    | true => forceL (args0 0 args) fun fr => evF P c (fun e st h => match e with
      | .exit _ => False
      | _ => resK P fn.results.toList st h fun vs _ h => T (packV vs) h) ⟨fn.ntmps, fr, [], []⟩ h
    | false => False
  | none => False
theorem walk {P : Program} {f : FuncId} {fn : Func} {args : List Value} {h : Hp} {T : Value → Hp → Prop} (hf : P.funcs[f]? = some fn) (he : evFnF P fn args h T) : Tr P f args.toArray h T := by
  refine evFn_sound hf ?_
  unfold evFnF at he
  unfold evFn
  simp only [forceL_eq, evF_eq] at he
  exact he
end Go.H
