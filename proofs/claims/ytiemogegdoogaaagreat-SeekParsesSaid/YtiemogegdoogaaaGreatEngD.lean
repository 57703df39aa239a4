/- Part D of an evaluator for this program: the fast evaluator is sound: what it returns is what the call returns in the model, from every world. No condition. -/
import Derived.Test.YtiemogegdoogaaaGreatEngC
import Derived.Below
set_option linter.unusedVariables false
set_option linter.unusedSectionVars false
namespace Go.Proofs.YtiemogegdoogaaaGreat.Eng
open Go
variable [Interp]

abbrev H := T AObj

inductive X where
  | top (ds : List ADef)
  | rnd (l : Nat)

inductive Why where
  | s (t : String)
  | at (pos : String) (op : Op) (args : List AVal) (rows : List (Option AObj))
  | cond (a : AVal)
  | fn (f : Nat)
  | call (f : Nat) (args : List AVal) (h : T AObj) (n : Nat)
instance : Coe String Why := ⟨.s⟩

noncomputable def rowOf (h : H) : AVal → Option AObj
  | .ptr i _ => h.get i
  | .ptv i _ => h.get i
  | .slc i _ _ _ => h.get i
  | .slu i _ _ _ => h.get i
  | .slv i _ _ _ _ => h.get i
  | _ => none
noncomputable def whyOp (o : Oper) (ρ : Operand → AVal) (h : H) : Why := .at o.pos o.op (o.op.operands.toList.map ρ) (o.op.operands.toList.map fun x => rowOf h (ρ x))

inductive R1 where
  | nrm (sl : T AVal) (xd : X) (h : H) (n : Nat)
  | ext (id : Nat) (sl : T AVal) (xd : X) (h : H) (n : Nat)
  | ret (sl : T AVal) (xd : X) (h : H) (n : Nat)
  | pan (ch : List (AVal × Bool)) (sl : T AVal) (xd : X) (h : H) (n : Nat)
  | bad (why : Why)

inductive R2 where
  | ret (v : AVal) (h : H) (n : Nat)
  | pan (ch : List (AVal × Bool)) (h : H) (n : Nat)
  | bad (why : Why)

abbrev Ev := FuncId → List AVal → H → Nat → R2
abbrev Fn1 := Ev → T AVal → X → H → Nat → R1

inductive CK where
  | mk (f : Fn1)
inductive OK1 where
  | mk (f : Fn1 → Fn1)
inductive GK where
  | mk (g : T AVal → AVal)
inductive LK where
  | mk (g : T AVal → List AVal)
inductive PK where
  | mk (p : T AVal → AVal → T AVal)

noncomputable def CK.run (c : CK) : Fn1 := CK.rec (motive := fun _ => Fn1) (fun f => f) c
noncomputable def OK1.run (c : OK1) : Fn1 → Fn1 := OK1.rec (motive := fun _ => Fn1 → Fn1) (fun f => f) c
noncomputable def GK.run (c : GK) : T AVal → AVal := GK.rec (motive := fun _ => T AVal → AVal) (fun f => f) c
noncomputable def LK.run (c : LK) : T AVal → List AVal := LK.rec (motive := fun _ => T AVal → List AVal) (fun f => f) c
noncomputable def PK.run (c : PK) : T AVal → AVal → T AVal := PK.rec (motive := fun _ => T AVal → AVal → T AVal) (fun f => f) c

noncomputable def orUndef (v : Option AVal) : AVal := Option.rec (motive := fun _ => AVal) (.lit undef) (fun v => v) v

noncomputable def gSel (s : Sel AVal) : GK := Sel.rec (motive := fun _ => GK) (fun g _ => .mk fun sl => orUndef (g sl)) s
noncomputable def gk : Operand → GK
  | .tmp t => gSel (selN (Nat.succ t) t)
  | .const v => .mk fun _ => .lit v
  | .global g => .mk fun _ => .lit (.pointer (some ⟨g, 0, none⟩))
  | .func f => .mk fun _ => .fn f [] []
noncomputable def lk (l : List Operand) : LK :=
  List.rec (motive := fun _ => LK) (.mk fun _ => []) (fun x _ ih => GK.rec (motive := fun _ => LK) (fun g => LK.rec (motive := fun _ => LK) (fun f => .mk fun sl => g sl :: f sl) ih) (gk x)) l

noncomputable def pSel (s : Sel AVal) : PK := Sel.rec (motive := fun _ => PK) (fun _ s => .mk fun sl a => s sl (some a)) s
noncomputable def pk (nt : Nat) : Option Tmp → Option PK
  | none => some (.mk fun sl _ => sl)
  | some d => match Nat.blt d nt with
    | true => some (pSel (selN (Nat.succ d) d))
    | false => none

noncomputable def force {β : Type} (n : Nat) (f : Nat → β) : β := Nat.rec (motive := fun _ => β) (f 0) (fun k _ => f (Nat.succ k)) n
noncomputable def ifB {β : Type} (b : Bool) (x y : β) : β := Bool.rec (motive := fun _ => β) y x b

inductive OI where
  | none
  | some (k : IntKind) (n : Int)
noncomputable def valI (v : Value) : OI := Value.casesOn (motive_1 := fun _ => OI) v (fun _ => .none) (fun k n => .some k n) (fun _ _ => .none) (fun _ _ _ => .none) (fun _ => .none) (fun _ => .none) (fun _ _ _ => .none) (fun _ => .none) (fun _ => .none) (fun _ _ _ => .none) .none (fun _ _ => .none) .none (fun _ => .none) (fun _ => .none)
noncomputable def asI (a : AVal) : OI := AVal.casesOn (motive_1 := fun _ => OI) a valI (fun _ _ => .none) (fun _ _ _ _ => .none) (fun _ _ _ _ => .none) (fun _ _ _ => .none) (fun _ => .none) (fun _ _ => .none) (fun _ => .none) (fun _ => .none) (fun _ => .none) (fun _ => .none) (fun _ _ => .none) (fun _ => .none) (fun _ => .none) (fun _ _ _ _ _ => .none) (fun _ _ => .none) .none

inductive OP where
  | none
  | some (id off : Nat)
noncomputable def asP (a : AVal) : OP := AVal.casesOn (motive_1 := fun _ => OP) a (fun _ => .none) (fun i o => .some i o) (fun _ _ _ _ => .none) (fun _ _ _ _ => .none) (fun _ _ _ => .none) (fun _ => .none) (fun _ _ => .none) (fun _ => .none) (fun _ => .none) (fun _ => .none) (fun _ => .none) (fun _ _ => .none) (fun _ => .none) (fun _ => .none) (fun _ _ _ _ _ => .none) (fun _ _ => .none) .none

inductive OS where
  | none
  | slc (id off len cap : Nat)
  | slu (id off len z : Nat)
noncomputable def asS (a : AVal) : OS := AVal.casesOn (motive_1 := fun _ => OS) a (fun _ => .none) (fun _ _ => .none) (fun i o l c => .slc i o l c) (fun i o l z => .slu i o l z) (fun _ _ _ => .none) (fun _ => .none) (fun _ _ => .none) (fun _ => .none) (fun _ => .none) (fun _ => .none) (fun _ => .none) (fun _ _ => .none) (fun _ => .none) (fun _ => .none) (fun _ _ _ _ _ => .none) (fun _ _ => .none) .none

inductive OF where
  | none
  | fn (f : FuncId) (l m : List AVal)
  | yld (l : Nat)
noncomputable def asF (a : AVal) : OF := AVal.casesOn (motive_1 := fun _ => OF) a (fun _ => .none) (fun _ _ => .none) (fun _ _ _ _ => .none) (fun _ _ _ _ => .none) (fun f l m => .fn f l m) (fun l => .yld l) (fun _ _ => .none) (fun _ => .none) (fun _ => .none) (fun _ => .none) (fun _ => .none) (fun _ _ => .none) (fun _ => .none) (fun _ => .none) (fun _ _ _ _ _ => .none) (fun _ _ => .none) .none

inductive OL where
  | none
  | some (l : List AVal)
noncomputable def asT (a : AVal) : OL := AVal.casesOn (motive_1 := fun _ => OL) a (fun _ => .none) (fun _ _ => .none) (fun _ _ _ _ => .none) (fun _ _ _ _ => .none) (fun _ _ _ => .none) (fun _ => .none) (fun _ _ => .none) (fun _ => .none) (fun _ => .none) (fun l => .some l) (fun _ => .none) (fun _ _ => .none) (fun _ => .none) (fun _ => .none) (fun _ _ _ _ _ => .none) (fun _ _ => .none) .none

noncomputable def valOne (v : Value) : Bool := Value.casesOn (motive_1 := fun _ => Bool) v (fun _ => true) (fun _ _ => true) (fun _ _ => true) (fun _ _ _ => true) (fun _ => true) (fun _ => true) (fun _ _ _ => true) (fun _ => true) (fun _ => true) (fun _ _ _ => true) true (fun _ _ => true) true (fun _ => false) (fun _ => false)
noncomputable def oneF (a : AVal) : Bool := AVal.casesOn (motive_1 := fun _ => Bool) a valOne (fun _ _ => true) (fun _ _ _ _ => true) (fun _ _ _ _ => true) (fun _ _ _ => true) (fun _ => true) (fun _ _ => true) (fun _ => true) (fun _ => false) (fun _ => false) (fun _ => false) (fun _ _ => true) (fun _ => true) (fun _ => true) (fun _ _ _ _ _ => true) (fun _ _ => true) false

inductive OB where
  | none
  | some (b : Bool)
noncomputable def valB (v : Value) : OB := Value.casesOn (motive_1 := fun _ => OB) v (fun b => .some b) (fun _ _ => .none) (fun _ _ => .none) (fun _ _ _ => .none) (fun _ => .none) (fun _ => .none) (fun _ _ _ => .none) (fun _ => .none) (fun _ => .none) (fun _ _ _ => .none) .none (fun _ _ => .none) .none (fun _ => .none) (fun _ => .none)
noncomputable def asB (fs : Facts) (a : AVal) : OB := AVal.casesOn (motive_1 := fun _ => OB) a valB (fun _ _ => .none) (fun _ _ _ _ => .none) (fun _ _ _ _ => .none) (fun _ _ _ => .none) (fun _ => .none) (fun _ _ => .none) (fun _ => .none) (fun _ => .none) (fun _ => .none) (fun _ => .none) (fun _ _ => .none) (fun e => Option.rec (motive := fun _ => OB) .none (fun b => .some b) (decB fs e)) (fun _ => .none) (fun _ _ _ _ _ => .none) (fun _ _ => .none) .none

noncomputable def maxN : IntKind → Nat
  | .i8 => 127 | .u8 => 255 | .i16 => 32767 | .u16 => 65535 | .i32 => 2147483647 | .u32 => 4294967295 | .i64 => 9223372036854775807 | .u64 => 18446744073709551615
noncomputable def kNo : IntKind → Nat
  | .i8 => 0 | .u8 => 1 | .i16 => 2 | .u16 => 3 | .i32 => 4 | .u32 => 5 | .i64 => 6 | .u64 => 7

noncomputable def two {β : Type} (a b : Int) (f : Nat → Nat → β) (d : β) : β := Int.rec (motive := fun _ => β) (fun a => Int.rec (motive := fun _ => β) (fun b => f a b) (fun _ => d) b) (fun _ => d) a
noncomputable def natI {β : Type} (a : Int) (f : Nat → β) (d : β) : β := Int.rec (motive := fun _ => β) f (fun _ => d) a

inductive BK where
  | mk (f : IntKind → Int → IntKind → Int → Option Value)
noncomputable def BK.run (b : BK) : IntKind → Int → IntKind → Int → Option Value := BK.rec (motive := fun _ => IntKind → Int → IntKind → Int → Option Value) (fun f => f) b

noncomputable def fitI (k : IntKind) (d : Option Value) (n : Nat) : Option Value := force n fun n => ifB (Nat.ble n (maxN k)) (some (.int k (.ofNat n))) d

noncomputable def sameK {β : Type} (k k' : IntKind) (x d : β) : β := ifB (Nat.beq (kNo k) (kNo k')) x d

noncomputable def bk (op : BinOp) : BK :=
  match op with
  | .add => .mk fun k a k' b => sameK k k' (two a b (fun x y => fitI k (intA .add k a k' b) (Nat.add x y)) (intA .add k a k' b)) none
  | .sub => .mk fun k a k' b => sameK k k' (two a b (fun x y => ifB (Nat.ble y x) (fitI k (intA .sub k a k' b) (Nat.sub x y)) (intA .sub k a k' b)) (intA .sub k a k' b)) none
  | .mul => .mk fun k a k' b => sameK k k' (two a b (fun x y => fitI k (intA .mul k a k' b) (Nat.mul x y)) (intA .mul k a k' b)) none
  | .lss => .mk fun k a k' b => sameK k k' (two a b (fun x y => some (.bool (Nat.blt x y))) (intA .lss k a k' b)) none
  | .leq => .mk fun k a k' b => sameK k k' (two a b (fun x y => some (.bool (Nat.ble x y))) (intA .leq k a k' b)) none
  | .gtr => .mk fun k a k' b => sameK k k' (two a b (fun x y => some (.bool (Nat.blt y x))) (intA .gtr k a k' b)) none
  | .geq => .mk fun k a k' b => sameK k k' (two a b (fun x y => some (.bool (Nat.ble y x))) (intA .geq k a k' b)) none
  | .eql => .mk fun k a k' b => sameK k k' (two a b (fun x y => some (.bool (Nat.beq x y))) (intA .eql k a k' b)) none
  | .neq => .mk fun k a k' b => sameK k k' (two a b (fun x y => some (.bool (Bool.not (Nat.beq x y)))) (intA .neq k a k' b)) none
  | op => .mk fun k a k' b => intA op k a k' b

section
variable (tb : Tab) (P : Program)

noncomputable def onR2 (r : R2) (f : AVal → H → Nat → R1) (p : List (AVal × Bool) → H → Nat → R1) : R1 := R2.rec (motive := fun _ => R1) f p (fun w => .bad w) r

noncomputable def bindR (r : R1) (e : Ev) (g : Fn1) : R1 :=
  R1.rec (motive := fun _ => R1) (fun sl xd h n => g e sl xd h n) (fun id sl xd h n => .ext id sl xd h n) (fun sl xd h n => .ret sl xd h n) (fun ch sl xd h n => .pan ch sl xd h n) (fun w => .bad w) r

noncomputable def setLoopH (h : H) (l : Nat) (stt : LoopState) (pe : Option Code) (f : H → R1) : R1 :=
  match h.get l with
  | some (.loop _ _ fn nt sl ps a b d) => f (h.put l (.loop stt pe fn nt sl ps a b d))
  | _ => .bad "setLoop"

noncomputable def busyH (h : H) (l : Nat) (f : H → R1) : R1 :=
  match h.get l with
  | some (.loop .ready pe fn nt sl ps a b d) => f (h.put l (.loop .busy pe fn nt sl ps a b d))
  | _ => (.bad "1")

noncomputable def rndK (xd : X) (l : Nat) (f : R1) : R1 :=
  match xd with
  | .rnd l' => ifB (Nat.beq l' l) f (.bad "a round's")
  | .top _ => .bad "a round's"

noncomputable def roundEnd (l fn : Nat) (r : R1) (k : AVal → H → Nat → R1) (pn : List (AVal × Bool) → H → Nat → R1) : R1 :=
  match r with
  | .nrm _ xd h n => rndK xd l (setLoopH h l .ready none fun h => k (.lit (.bool true)) h n)
  | .ret _ xd h n => rndK xd l (setLoopH h l .done (some .ret) fun h => k (.lit (.bool false)) h n)
  | .ext id _ xd h n => rndK xd l (setLoopH h l .done (some (.exit id)) fun h => k (.lit (.bool false)) h n)
  | .pan ch _ xd h n => match tb.func fn with
    | some _ => rndK xd l (pn ch h n)
    | none => .bad "round"
  | .bad w => .bad w

noncomputable def roundK (cd : Nat → Nat → Code → CK) (e : Ev) (l : Nat) (args : List AVal) (h : H) (n : Nat) (k : AVal → H → Nat → R1) (pn : List (AVal × Bool) → H → Nat → R1) : R1 :=
  match h.get l with
  | some (.loop _ _ fn nt sl ps a b _) =>
    ifB (Nat.beq args.length ps.size && ps.all (Nat.blt · nt))
      (match (cd fn nt a).run e (foldPut ps.toList args sl) (.rnd l) h n with
      | .nrm sl xd h n => rndK xd l (busyH h l fun h => roundEnd tb l fn ((cd fn nt b).run e sl (.rnd l) h n) k pn)
      | .bad w => .bad w
      | _ => .bad "round") (.bad "round")
  | _ => .bad "round"

noncomputable def pushD (d : ADef) (xd : X) (f : X → R1) : R1 :=
  match xd with
  | .top ds => f (.top (d :: ds))
  | .rnd _ => (.bad "4")

noncomputable def genK (cd : Nat → Nat → Code → CK) (o : Oper) (p : T AVal → AVal → T AVal) (k : Fn1) (e : Ev) (sl : T AVal) (xd : X) (h : H) (n : Nat) : R1 :=
  match opA tb P (opnd sl) o n { heap := h, next := Nat.succ n } with
  | some (.val a s) => k e (p sl a) xd s.heap s.next
  | some (.call f args) => onR2 (e f args h n) (fun v h n => k e (p sl v) xd h n) (fun ch h n => .pan ch sl xd h n)
  | some (.round l args) => roundK tb cd e l args h n (fun v h n => k e (p sl v) xd h n) (fun ch h n => .pan ch sl xd h n)
  | some (.defer d) => pushD d xd fun xd => k e (p sl (.lit undef)) xd h n
  | some (.panic v) => .pan [(v, false)] sl xd h n
  | _ => .bad (whyOp o (opnd sl) h)

noncomputable def binK (f : IntKind → Int → IntKind → Int → Option Value) (a b : OI) (k : AVal → R1) (d : R1) : R1 :=
  OI.rec (motive := fun _ => R1) d (fun k1 x => OI.rec (motive := fun _ => R1) d (fun k2 y => Option.rec (motive := fun _ => R1) d (fun v => k (.lit v)) (f k1 x k2 y)) b) a

noncomputable def rowK (o : Option AObj) (f : Nat → T AVal → Nat → Bool → R1) (d : R1) : R1 :=
  Option.rec (motive := fun _ => R1) d (fun o => AObj.rec (motive := fun _ => R1) f (fun _ => d) (fun _ _ _ => d) (fun _ _ _ => d) (fun _ _ _ _ _ _ _ _ _ => d) d d o) o
noncomputable def someK (o : Option AVal) (f : AVal → R1) (d : R1) : R1 := Option.rec (motive := fun _ => R1) d f o
noncomputable def ptrK (a : OP) (f : Nat → Nat → R1) (d : R1) : R1 := OP.rec (motive := fun _ => R1) d f a
noncomputable def intK (a : OI) (f : IntKind → Int → R1) (d : R1) : R1 := OI.rec (motive := fun _ => R1) d f a
noncomputable def slcK (a : OS) (f : Nat → Nat → Nat → Nat → R1) (g : Nat → Nat → Nat → Nat → R1) (d : R1) : R1 := OS.rec (motive := fun _ => R1) d f g a
noncomputable def tupK (a : OL) (f : List AVal → R1) (d : R1) : R1 := OL.rec (motive := fun _ => R1) d f a
noncomputable def fnK (a : OF) (f : FuncId → List AVal → List AVal → R1) (d : R1) : R1 := OF.rec (motive := fun _ => R1) d f (fun _ => d) a

noncomputable def idxK (z id off len : Nat) (i : Int) (k : AVal → R1) (d : R1) : R1 :=
  natI i (fun i => ifB (Nat.blt i len) (force (Nat.add off (Nat.mul i z)) fun r => k (.ptr id r)) d) d

noncomputable def boundK (a : Option AVal) (d : Nat) (f : Nat → R1) (r : R1) : R1 :=
  match a with
  | none => f d
  | some a => intK (asI a) (fun _ i => natI i f r) r

noncomputable def cutK (z : Nat) (x : OS) (lo hi : Option AVal) (k : AVal → R1) (d : R1) : R1 :=
  slcK x (fun id off len cap => boundK hi len (fun h => boundK lo 0 (fun l => ifB (Nat.ble l h && Nat.ble h cap) (force (bif Nat.beq cap l then off else off + l * z) fun o => force (h - l) fun hl => force (cap - l) fun cl => k (.slc id o hl cl)) d) d) d)
    (fun id off len z' => ifB (Nat.beq z' z) (boundK hi len (fun h => boundK lo 0 (fun l => ifB (Nat.ble l h && Nat.ble h len) (force (off + l * z) fun o => force (h - l) fun hl => k (.slu id o hl z')) d) d) d) d) d

noncomputable def storeK (id off : Nat) (v : AVal) (h : H) (f : H → R1) (d : R1) : R1 :=
  ifB (oneF v) (rowK (h.get id) (fun m c ty u => ifB (Nat.ble (Nat.succ off) m) (f (h.put id (.row m (c.put off v) ty u))) d) d) d

noncomputable def withG (x : Operand) (f : (T AVal → AVal) → OK1) : OK1 := GK.rec (motive := fun _ => OK1) f (gk x)

noncomputable def withL (l : List Operand) (f : (T AVal → List AVal) → OK1) : OK1 := LK.rec (motive := fun _ => OK1) f (lk l)

noncomputable def optG (x : Option Operand) (f : (T AVal → Option AVal) → OK1) : OK1 :=
  match x with
  | none => f fun _ => none
  | some x => withG x fun g => f fun sl => some (g sl)

section
variable (cd : Nat → Nat → Code → CK) (o : Oper) (p : T AVal → AVal → T AVal)

noncomputable def fMove (x : Operand) : OK1 := withG x fun g => .mk fun k e sl xd h n => k e (p sl (g sl)) xd h (Nat.succ n)
noncomputable def fBin (op : BinOp) (x y : Operand) : OK1 := withG x fun gx => withG y fun gy => BK.rec (motive := fun _ => OK1) (fun f =>
  .mk fun k e sl xd h n => binK f (asI (gx sl)) (asI (gy sl)) (fun v => k e (p sl v) xd h (Nat.succ n)) (genK tb P cd o p k e sl xd h n)) (bk op)
noncomputable def fLoad (t : TypeId) (x : Operand) : OK1 :=
  match tb.und t with
  | some d => match aggD d with
    | false => withG x fun gx => .mk fun k e sl xd h n => ptrK (asP (gx sl)) (fun id off => rowK (h.get id) (fun m c _ _ => ifB (Nat.blt off m) (someK (c.get off) (fun v => k e (p sl v) xd h (Nat.succ n)) (genK tb P cd o p k e sl xd h n)) (genK tb P cd o p k e sl xd h n)) (genK tb P cd o p k e sl xd h n)) (genK tb P cd o p k e sl xd h n)
    | true => .mk (genK tb P cd o p)
  | none => .mk (genK tb P cd o p)
noncomputable def fStore (t : TypeId) (x y : Operand) : OK1 :=
  match tb.info t with
  | some i => match Nat.beq i.size 1 with
    | true => withG x fun gx => withG y fun gy => .mk fun k e sl xd h n => ptrK (asP (gx sl)) (fun id off => storeK id off (gy sl) h (fun h => k e (p sl (.lit undef)) xd h (Nat.succ n)) (genK tb P cd o p k e sl xd h n)) (genK tb P cd o p k e sl xd h n)
    | false => .mk (genK tb P cd o p)
  | none => .mk (genK tb P cd o p)
noncomputable def fIndexAddr (t : TypeId) (x y : Operand) : OK1 :=
  match tb.und t with
  | some (.slice el) => match tb.info el with
    | some inf => withG x fun gx => withG y fun gy => .mk fun k e sl xd h n => intK (asI (gy sl)) (fun _ i => slcK (asS (gx sl))
        (fun id off len _ => idxK inf.size id off len i (fun v => k e (p sl v) xd h (Nat.succ n)) (genK tb P cd o p k e sl xd h n))
        (fun id off len _ => idxK inf.size id off len i (fun v => k e (p sl v) xd h (Nat.succ n)) (genK tb P cd o p k e sl xd h n)) (genK tb P cd o p k e sl xd h n)) (genK tb P cd o p k e sl xd h n)
    | none => .mk (genK tb P cd o p)
  | some (.array m el) => match tb.info el with
    | some inf => withG x fun gx => withG y fun gy => .mk fun k e sl xd h n => intK (asI (gy sl)) (fun _ i => ptrK (asP (gx sl))
        (fun id off => idxK inf.size id off m i (fun v => k e (p sl v) xd h (Nat.succ n)) (genK tb P cd o p k e sl xd h n)) (genK tb P cd o p k e sl xd h n)) (genK tb P cd o p k e sl xd h n)
    | none => .mk (genK tb P cd o p)
  | _ => .mk (genK tb P cd o p)
noncomputable def fFieldAddr (t : TypeId) (x : Operand) (i : Nat) : OK1 :=
  match tb.und t with
  | some (.struct fs) => match fs[i]? with
    | some f => match tb.info f.type with
      | some fi => match Nat.beq fi.size 0 with
        | false => withG x fun gx => .mk fun k e sl xd h n => ptrK (asP (gx sl)) (fun id off => force (Nat.add off f.offset) fun r => k e (p sl (.ptr id r)) xd h (Nat.succ n)) (genK tb P cd o p k e sl xd h n)
        | true => .mk (genK tb P cd o p)
      | none => .mk (genK tb P cd o p)
    | none => .mk (genK tb P cd o p)
  | _ => .mk (genK tb P cd o p)
noncomputable def fSlice (t : TypeId) (x : Operand) (lo hi : Option Operand) : OK1 :=
  match tb.und t with
  | some (.slice el) => match tb.info el with
    | some inf => withG x fun gx => optG lo fun gl => optG hi fun gh => .mk fun k e sl xd h n =>
        cutK inf.size (asS (gx sl)) (gl sl) (gh sl) (fun v => k e (p sl v) xd h (Nat.succ n)) (genK tb P cd o p k e sl xd h n)
    | none => .mk (genK tb P cd o p)
  | _ => .mk (genK tb P cd o p)
noncomputable def fExtract (x : Operand) (i : Nat) : OK1 := withG x fun gx => .mk fun k e sl xd h n =>
  tupK (asT (gx sl)) (fun l => someK l[i]? (fun v => k e (p sl v) xd h (Nat.succ n)) (genK tb P cd o p k e sl xd h n)) (genK tb P cd o p k e sl xd h n)
noncomputable def fConvert (sr d : TypeId) (x : Operand) : OK1 :=
  match tb.und d, tb.und sr with
  | some (.int kd), some _ => withG x fun gx => .mk fun k e sl xd h n => intK (asI (gx sl)) (fun _ i => natI i (fun m => ifB (Nat.ble m (maxN kd)) (k e (p sl (.lit (.int kd (.ofNat m)))) xd h (Nat.succ n)) (genK tb P cd o p k e sl xd h n)) (genK tb P cd o p k e sl xd h n)) (genK tb P cd o p k e sl xd h n)
  | _, _ => .mk (genK tb P cd o p)
noncomputable def fAlloc (t : TypeId) : OK1 :=
  match zeroA tb t with
  | some z => match Nat.blt (AVal.lit z).cells.length 1000000000 with
    | true => .mk fun k e sl xd h n => k e (p sl (.ptr n 0)) xd (h.put n (.row (AVal.lit z).cells.length (T.lay (AVal.lit z).cells 0 .leaf) t false)) (Nat.succ n)
    | false => .mk (genK tb P cd o p)
  | none => .mk (genK tb P cd o p)
noncomputable def fBox (t : TypeId) (x : Operand) : OK1 := withG x fun gx => .mk fun k e sl xd h n =>
  ifB (oneF (gx sl)) (k e (p sl (.ptr n 0)) xd (h.put n (.row 1 (T.put .leaf 0 (gx sl)) t false)) (Nat.succ n)) (genK tb P cd o p k e sl xd h n)
noncomputable def fLen (t : TypeId) (x : Operand) : OK1 :=
  match isSliceT tb t with
  | true => withG x fun gx => .mk fun k e sl xd h n => slcK (asS (gx sl)) (fun _ _ len _ => k e (p sl (.lit (.int .i64 (.ofNat len)))) xd h (Nat.succ n)) (fun _ _ len _ => k e (p sl (.lit (.int .i64 (.ofNat len)))) xd h (Nat.succ n)) (genK tb P cd o p k e sl xd h n)
  | false => .mk (genK tb P cd o p)
noncomputable def fMakeFunc (f : FuncId) (l m : List Operand) : OK1 := withL l fun gl => withL m fun gm => .mk fun k e sl xd h n => k e (p sl (.fn f (gl sl) (gm sl))) xd h (Nat.succ n)
noncomputable def fCallF (f : FuncId) (args : List Operand) : OK1 := withL args fun ga => .mk fun k e sl xd h n => onR2 (e f (ga sl) h n) (fun v h n => k e (p sl v) xd h n) (fun ch h n => .pan ch sl xd h n)
noncomputable def fCallV (x : Operand) (args : List Operand) : OK1 := withG x fun gx => withL args fun ga => .mk fun k e sl xd h n => fnK (asF (gx sl)) (fun f l m => Option.rec (motive := fun _ => R1) (onR2 (e f (l ++ ga sl ++ m) h n) (fun v h n => k e (p sl v) xd h n) (fun ch h n => .pan ch sl xd h n)) (fun _ => genK tb P cd o p k e sl xd h n) (tb.ext f)) (genK tb P cd o p k e sl xd h n)
noncomputable def fCall (c : Call) : OK1 :=
  match c.callee with
  | .value (.func f) => match tb.ext f with
    | none => fCallF p f c.args.toList
    | some _ => .mk (genK tb P cd o p)
  | .value x => fCallV tb P cd o p x c.args.toList
  | .builtin .len => match c.argTypes.toList, c.args.toList with
    | [t], [x] => fLen tb P cd o p t x
    | _, _ => .mk (genK tb P cd o p)
  | _ => .mk (genK tb P cd o p)

noncomputable def opKb : OK1 :=
  match o.op with
  | .move x => fMove p x
  | .assign x => fMove p x
  | .binOp .shl _ _ _ _ => .mk (genK tb P cd o p)
  | .binOp .shr _ _ _ _ => .mk (genK tb P cd o p)
  | .binOp op _ x y _ => fBin tb P cd o p op x y
  | .load t x => fLoad tb P cd o p t x
  | .store t x y => fStore tb P cd o p t x y
  | .indexAddr t x y => fIndexAddr tb P cd o p t x y
  | .fieldAddr t x i => fFieldAddr tb P cd o p t x i
  | .slice t x lo hi none => fSlice tb P cd o p t x lo hi
  | .extract x i => fExtract tb P cd o p x i
  | .convert sr d x => fConvert tb P cd o p sr d x
  | .alloc t => fAlloc tb P cd o p t
  | .box t x => fBox tb P cd o p t x
  | .makeFunc (.func f) l m => fMakeFunc p f l.toList m.toList
  | .call c => fCall tb P cd o p c
  | _ => .mk (genK tb P cd o p)
end

noncomputable def badK : OK1 := .mk fun _ _ _ _ _ _ => (.bad "5")

noncomputable def guardK (fs : Facts) (want : Bool) (v : AVal) (x y : R1) : R1 :=
  match v with
  | .lit (.bool b) => ifB (b == want) x y
  | .lit (.tuple _) => y
  | .sb q => (match decB fs q with | some b => ifB (b == want) x y | none => .bad (.cond v))
  | _ => (.bad (.cond v))

noncomputable def withP (pp : PK) (f : (T AVal → AVal → T AVal) → OK1) : OK1 := PK.rec (motive := fun _ => OK1) f pp
noncomputable def guardO (fs : Facts) (want : Bool) (p : T AVal → AVal → T AVal) (a : OK1) (b : GK) : OK1 :=
  OK1.rec (motive := fun _ => OK1) (fun f => GK.rec (motive := fun _ => OK1) (fun g => .mk fun k e sl xd h n => guardK fs want (g sl) (f k e sl xd h n) (k e (p sl (.lit undef)) xd h n)) b) a
noncomputable def consO (a : OK1) (b : CK) : CK :=
  OK1.rec (motive := fun _ => CK) (fun f => CK.rec (motive := fun _ => CK) (fun g => .mk fun e sl xd h n => ifB (Nat.ble 1000000000 n) (.bad "7") (f g e sl xd h n)) b) a

noncomputable def opK (cd : Nat → Nat → Code → CK) (nt : Nat) (ops : Array Oper) (o : Oper) : OK1 :=
  match pk nt o.dst with
  | none => badK
  | some pp => withP pp fun p =>
    match o.guard with
    | none => opKb tb P cd o p
    | some (j, want) => match (ops[j]?).bind (·.dst) with
      | none => badK
      | some t => match Nat.blt t nt with
        | false => badK
        | true => guardO tb.facts want p (opKb tb P cd o p) (gk (.tmp t))

noncomputable def opsK (cd : Nat → Nat → Code → CK) (nt : Nat) (ops : Array Oper) (l : List Oper) : CK :=
  List.rec (motive := fun _ => CK) (.mk fun _ sl xd h n => .nrm sl xd h n)
    (fun o _ ih => consO (opK tb P cd nt ops o) ih) l

noncomputable def blockR (id : Nat) (r : R1) : R1 :=
  R1.rec (motive := fun _ => R1) (fun sl xd h n => .nrm sl xd h n) (fun j sl xd h n => ifB (Nat.beq j id) (.nrm sl xd h n) (.ext j sl xd h n)) (fun sl xd h n => .ret sl xd h n) (fun ch sl xd h n => .pan ch sl xd h n) (fun w => .bad w) r

noncomputable def loopR (g : Fn1) (f : Nat) : Fn1 :=
  Nat.rec (motive := fun _ => Fn1) (fun _ _ _ _ _ => (.bad "8")) (fun _ ih e sl xd h n => bindR (g e sl xd h n) e ih) f

noncomputable def condR (w : Why) (a : OB) (x y : R1) : R1 := OB.rec (motive := fun _ => R1) (.bad w) (fun b => ifB b x y) a

noncomputable def endS (l : Nat) (s : St) (stt : LoopState) (pe : Option Code) (b : Bool) : Option (AVal × St) :=
  match setLoop s l stt pe with
  | some s' => some (.lit (.bool b), s')
  | none => none

noncomputable def roundS (cd : Nat → Nat → Code → CK) (e : Ev) (l : Nat) (args : List AVal) (s : St) : Option (AVal × St) :=
  match s.heap.get l with
  | some (.loop _ _ fn nt sl ps a b _) => match Nat.beq args.length ps.size && ps.all (Nat.blt · nt) with
    | true => match (cd fn nt a).run e (foldPut ps.toList args sl) (.rnd l) s.heap s.next with
      | .nrm sl1 (.rnd l1) h1 n1 => match Nat.beq l1 l, h1.get l with
        | true, some (.loop .ready pe1 fn1 nt1 sl2 ps1 a1 b1 d1) => match (cd fn nt b).run e sl1 (.rnd l) (h1.put l (.loop .busy pe1 fn1 nt1 sl2 ps1 a1 b1 d1)) n1 with
          | .nrm _ (.rnd l3) h3 n3 => match Nat.beq l3 l with
            | true => endS l { heap := h3, next := n3 } .ready none true
            | false => none
          | .ret _ (.rnd l3) h3 n3 => match Nat.beq l3 l with
            | true => endS l { heap := h3, next := n3 } .done (some .ret) false
            | false => none
          | .ext id _ (.rnd l3) h3 n3 => match Nat.beq l3 l with
            | true => endS l { heap := h3, next := n3 } .done (some (.exit id)) false
            | false => none
          | _ => none
        | _, _ => none
      | _ => none
    | false => none
  | _ => none

noncomputable def evS (cd : Nat → Nat → Code → CK) (e : Ev) (f : FuncId) (args : List AVal) (s : St) : Option (AVal × St) :=
  match Nat.blt f 1000000000 with
  | true => match e f args s.heap s.next with
    | .ret v h n => some (v, { heap := h, next := n })
    | _ => none
  | false => roundS cd e (Nat.sub f 1000000000) args s

noncomputable def whyStep (cd : Nat → Nat → Code → CK) (e : Ev) (g : Rg) : List Nat → DS → Why
  | [], _ => .s "reads"
  | i :: l, d => match dStep tb P (evS cd e) g d i with
    | some d' => whyStep cd e g l d'
    | none => match g.ops[i]? with
      | none => .s "none"
      | some o => match opA tb P (g.ρ d.vals i) o (g.id0 + i) (adopt g.id0 d.pend d.st) with
        | some (.call f args) => match e f args (adopt g.id0 d.pend d.st).heap (adopt g.id0 d.pend d.st).next with
          | .bad w => w
          | _ => .s o.pos
        | _ => whyOp o (g.ρ d.vals i) (adopt g.id0 d.pend d.st).heap
noncomputable def whyDraw (cd : Nat → Nat → Code → CK) (e : Ev) (nt : Nat) (ops : Array Oper) (sl : T AVal) (st : St) : Why :=
  match masks ops.toList 0 .leaf, writers nt ops.toList 0 .leaf with
  | some B, some W =>
    let g : Rg := { ops, nt := nt, wr := W, B, sl := sl, id0 := st.next }
    match isEffAt tb ops.toList 0 with
    | (es, ns) => whyStep tb P cd e g (orderOf g es ns) { vals := .leaf, D := 0, st := { st with next := st.next + ops.size }, pend := [], es := [], σs := [], gs := [] }
  | _, _ => .s "masks"

noncomputable def evP (e : Ev) (f : FuncId) (args : List AVal) (s : St) : Option (List (AVal × Bool) × St) :=
  match e f args s.heap s.next with
  | .pan ch h n => some (ch, { heap := h, next := n })
  | _ => none

noncomputable def drawF (cd : Nat → Nat → Code → CK) (nt : Nat) (ops : Array Oper) : Fn1 := fun e sl xd h n =>
  match drawR tb P (evS cd e) nt ops sl { heap := h, next := n } with
  | some (sl, s) => .nrm sl xd s.heap s.next
  | none => match drawP tb P (evS cd e) (evP e) nt ops sl { heap := h, next := n } with
    | some (ch, sl, s) => .pan ch sl xd s.heap s.next
    | none => .bad (whyDraw tb P cd e nt ops sl { heap := h, next := n })

noncomputable def pendR (pe : Option Code) (sl : T AVal) (xd : X) (h : H) (n : Nat) : R1 :=
  match pe with
  | none => .nrm sl xd h n
  | some .ret => .ret sl xd h n
  | some (.exit id) => .ext id sl xd h n
  | _ => .bad "11"

noncomputable def rangeEnd (l : Nat) (sl : T AVal) (xd : X) (h : H) (n : Nat) : R1 :=
  match h.get l with
  | some (.loop stt pe fn nt sl' ps a b d) => match stt with
    | .busy => (.bad "10")
    | _ => pendR pe sl xd (h.put l (.loop .exhausted pe fn nt sl' ps a b d)) n
  | _ => (.bad "12")

noncomputable def rangeF (fn nt : Nat) (ps : Array Nat) (a b : Code) (g : T AVal → AVal) : Fn1 := fun e sl xd h n =>
  match g sl with
  | .fn f l m => ifB (Nat.ble 1000000000 (n + 1)) (.bad "13")
    (match xd with
    | .top ds => onR2 (e f (l ++ [.yld (n + 1)] ++ m) ((h.put n .dfr).put (n + 1) (.loop .ready none fn nt sl ps a b n)) (n + 2))
        (fun _ h' n' => rangeEnd (n + 1) sl (.top (.coll n :: ds)) h' n') (fun ch h' n' => .pan ch sl (.top (.coll n :: ds)) h' n')
    | .rnd r => match h.get r with
      | some (.loop _ _ _ _ _ _ _ _ d) => onR2 (e f (l ++ [.yld n] ++ m) (h.put n (.loop .ready none fn nt sl ps a b d)) (n + 1))
          (fun _ h' n' => rangeEnd n sl xd h' n') (fun ch h' n' => .pan ch sl xd h' n')
      | _ => (.bad "14"))
  | _ => (.bad "15")

noncomputable def seqC (a b : CK) : CK := CK.rec (motive := fun _ => CK) (fun f => CK.rec (motive := fun _ => CK) (fun g => .mk fun e sl xd h n => bindR (f e sl xd h n) e g) b) a
noncomputable def condC (q : GK) (a b : CK) : CK := GK.rec (motive := fun _ => CK) (fun c => CK.rec (motive := fun _ => CK) (fun f => CK.rec (motive := fun _ => CK) (fun g => .mk fun e sl xd h n => condR (.cond (c sl)) (asB tb.facts (c sl)) (f e sl xd h n) (g e sl xd h n)) b) a) q
noncomputable def blockC (id : Nat) (b : CK) : CK := CK.rec (motive := fun _ => CK) (fun f => .mk fun e sl xd h n => blockR id (f e sl xd h n)) b
noncomputable def loopFuel : Nat := 1000000
noncomputable def loopC (b : CK) : CK := CK.rec (motive := fun _ => CK) (fun f => .mk (loopR f loopFuel)) b
noncomputable def rangeC (fn nt : Nat) (ps : Array Nat) (a b : Code) (g : GK) : CK := GK.rec (motive := fun _ => CK) (fun g => .mk (rangeF fn nt ps a b g)) g

noncomputable def codeKL (lp : List Bool → CK → CK) (cd : Nat → Nat → Code → CK) (fn nt : Nat) : Code → List Bool → CK
  | .skip, _ => .mk fun _ sl xd h n => .nrm sl xd h n
  | .label _, _ => .mk fun _ sl xd h n => .nrm sl xd h n
  | .seq a b, π => seqC (codeKL lp cd fn nt a (false :: π)) (codeKL lp cd fn nt b (true :: π))
  | .cond q a b, π => condC tb (gk q) (codeKL lp cd fn nt a (false :: π)) (codeKL lp cd fn nt b (true :: π))
  | .block id b, π => blockC id (codeKL lp cd fn nt b (false :: π))
  | .loop b, π => lp π (loopC (codeKL lp cd fn nt b (false :: π)))
  | .scope b, π => codeKL lp cd fn nt b (false :: π)
  | .exit id, _ => .mk fun _ sl xd h n => .ext id sl xd h n
  | .ret, _ => .mk fun _ sl xd h n => .ret sl xd h n
  | .region _ ops false, _ => opsK tb P cd nt ops ops.toList
  | .region _ ops true, _ => .mk (drawF tb P cd nt ops)
  | .rangeFunc g ps a b, _ => rangeC fn nt ps a b (gk g)
  | _, _ => .mk fun _ _ _ _ _ => (.bad "16")

noncomputable def noLp : List Bool → CK → CK := fun _ k => k
noncomputable def codeK (cd : Nat → Nat → Code → CK) (fn nt : Nat) (c : Code) : CK := codeKL tb P noLp cd fn nt c []

noncomputable def cdN (d : Nat) : Nat → Nat → Code → CK :=
  Nat.rec (motive := fun _ => Nat → Nat → Code → CK) (fun _ _ _ => .mk fun _ _ _ _ _ => (.bad "17")) (fun _ ih fn nt c => codeK tb P ih fn nt c) d

noncomputable def arunS (f n : Nat) : Nat → Cfg → R2
  | 0, _ => .bad "18"
  | m + 1, c => match doneA tb c with
    | some (v, s, fn) => ifB (Nat.beq fn f) (.ret v s.heap s.next) (.bad "18")
    | none => match c.top.mode, c.top.defers, c.below, tb.func c.top.fn with
      | .pan ch, [], [], some _ => ifB (Nat.beq c.top.fn f) (.pan ch c.st.heap c.st.next) (.bad "18")
      | _, _, _, _ => match nextA tb P (evOf tb (arun tb P n)) c with
        | some c' => arunS f n m c'
        | none => .bad "19"

noncomputable def resF (fn : Nat) (nt : Nat) (sl : T AVal) (h : H) (n : Nat) : R2 :=
  match resA tb { heap := h, next := n } { fn, nt, slots := sl, todo := [], defers := [], mode := .ret, kind := .normal, ro := none } with
  | some v => .ret v h n
  | none => (.bad "20")

noncomputable def leaveF (fn nt : Nat) (mode : AMode) (sl : T AVal) (ds : List ADef) (h : H) (n : Nat) : R2 :=
  match ds with
  | [] => match mode with
    | .ret => resF tb fn nt sl h n
    | .pan ch => match tb.func fn with
      | some _ => .pan ch h n
      | none => .bad "21"
    | .run => (.bad "21")
  | ds => arunS tb P fn 1000 10000 ⟨{ fn, nt, slots := sl, todo := [], defers := ds, mode, kind := .normal, ro := none }, [], { heap := h, next := n }⟩

noncomputable def endF (fn nt : Nat) (r : R1) : R2 :=
  match r with
  | .nrm sl (.top ds) h n => leaveF tb P fn nt .ret sl ds h n
  | .ret sl (.top ds) h n => leaveF tb P fn nt .ret sl ds h n
  | .pan ch sl (.top ds) h n => leaveF tb P fn nt (.pan ch) sl ds h n
  | .bad w => .bad w
  | _ => (.bad "22")

inductive FK where
  | mk (nt : Nat) (body : Fn1)
  | none

noncomputable def mkF (nt : Nat) (c : CK) : FK := CK.rec (motive := fun _ => FK) (fun b => .mk nt b) c

noncomputable def fkL (lp : List Bool → CK → CK) (f : FuncId) : FK :=
  match tb.func f with
  | some F => match F.body with
    | some c => ifB (Nat.blt F.ntmps 1000000000) (mkF F.ntmps (codeKL tb P lp (cdN tb P 20) f F.ntmps c [])) .none
    | none => .none
  | none => .none

noncomputable def withF (f : Nat) (k : FK) (g : Nat → Fn1 → R2) : R2 := FK.rec (motive := fun _ => R2) g (.bad (.fn f)) k

noncomputable def callFL (lp : List Bool → CK → CK) (e : Ev) (f : FuncId) (args : List AVal) (h : H) (n : Nat) : R2 :=
  withF f (fkL tb P lp f) (fun nt body => ifB (Nat.ble args.length nt) (endF tb P f nt (body e (slotsOf 0 args .leaf) (.top []) h n)) (.bad "23"))
noncomputable def callF (e : Ev) (f : FuncId) (args : List AVal) (h : H) (n : Nat) : R2 := callFL tb P noLp e f args h n

noncomputable def evN (d : Nat) : Ev := Nat.rec (motive := fun _ => Ev) (fun _ _ _ _ => (.bad "25")) (fun _ ih => callF tb P ih) d
end
end Go.Proofs.YtiemogegdoogaaaGreat.Eng

namespace Go.Proofs.YtiemogegdoogaaaGreat.Eng
open Go
variable [Interp]

theorem force_eq {β : Type} (n : Nat) (f : Nat → β) : force n f = f n := by cases n <;> rfl
theorem ifB_eq {β : Type} (b : Bool) (x y : β) : ifB b x y = if b then x else y := by cases b <;> rfl

theorem orUndef_eq (v : Option AVal) : orUndef v = (match v with | some v => v | none => .lit undef) := by cases v <;> rfl

theorem gSel_run (s : Sel AVal) (sl : T AVal) : (gSel s).run sl = orUndef (s.get sl) := by cases s; rfl
theorem gk_run (x : Operand) (sl : T AVal) : (gk x).run sl = opnd sl x := by
  cases x with
  | tmp t => simp only [gk, gSel_run, orUndef_eq, opnd, slot, T.get]; cases (selN (Nat.succ t) t).get sl <;> rfl
  | _ => rfl
theorem gk_eq (x : Operand) : gk x = .mk (gk x).run := by cases h : gk x; rfl
theorem lk_cons (x : Operand) (l : List Operand) : lk (x :: l) = .mk fun sl => (gk x).run sl :: (lk l).run sl := by
  have h : ∀ (a : GK) (b : LK), (GK.rec (motive := fun _ => LK) (fun g => LK.rec (motive := fun _ => LK) (fun f => .mk fun sl => g sl :: f sl) b) a : LK) = .mk fun sl => a.run sl :: b.run sl := by
    intro a b; cases a; cases b; rfl
  exact h _ _
theorem lk_run : ∀ (l : List Operand) (sl : T AVal), (lk l).run sl = l.map (opnd sl)
  | [], _ => rfl
  | x :: l, sl => by
    rw [lk_cons]
    change (gk x).run sl :: (lk l).run sl = _
    rw [gk_run, lk_run l]; rfl
theorem lk_eq (l : List Operand) : lk l = .mk (lk l).run := by cases h : lk l; rfl

theorem withG_eq (x : Operand) (f : (T AVal → AVal) → OK1) : withG x f = f (gk x).run := by
  unfold withG
  cases gk x; rfl
theorem withL_eq (l : List Operand) (f : (T AVal → List AVal) → OK1) : withL l f = f (lk l).run := by
  unfold withL
  cases lk l; rfl
theorem optG_eq (x : Option Operand) (f : (T AVal → Option AVal) → OK1) : optG x f = f (fun sl => x.map (opnd sl)) := by
  cases x with
  | none => rfl
  | some x => simp only [optG, withG_eq, gk_run, Option.map_some]

theorem pSel_run (s : Sel AVal) (sl : T AVal) (a : AVal) : (pSel s).run sl a = s.set sl (some a) := by cases s; rfl

theorem pk_putA {nt : Nat} {d : Option Tmp} {pp : PK} (h : pk nt d = some pp) (f : AFr) (hf : f.nt = nt) (a : AVal) : putA f d a = some (pp.run f.slots a) := by
  unfold pk at h
  unfold putA
  cases d with
  | none => cases h; rfl
  | some d =>
    simp only at h ⊢
    split at h
    case h_2 => cases h
    rename_i hb
    cases h
    rw [hf, hb]
    simp only [cond_true, pSel_run]
    rfl

theorem valI_some {v : Value} {k : IntKind} {m : Int} (h : valI v = .some k m) : v = .int k m := by
  cases v <;> first | (cases h; done) | (cases h; rfl)
theorem asI_some {a : AVal} {k : IntKind} {m : Int} (h : asI a = .some k m) : a = .lit (.int k m) := by
  cases a with
  | lit v => rw [valI_some (v := v) h]
  | _ => cases h
theorem asP_some {a : AVal} {i o : Nat} (h : asP a = .some i o) : a = .ptr i o := by
  cases a <;> first | (cases h; done) | (cases h; rfl)
theorem asS_slc {a : AVal} {i o l c : Nat} (h : asS a = .slc i o l c) : a = .slc i o l c := by
  cases a <;> first | (cases h; done) | (cases h; rfl)
theorem asS_slu {a : AVal} {i o l c : Nat} (h : asS a = .slu i o l c) : a = .slu i o l c := by
  cases a <;> first | (cases h; done) | (cases h; rfl)
theorem asF_fn {a : AVal} {f : FuncId} {l m : List AVal} (h : asF a = .fn f l m) : a = .fn f l m := by
  cases a <;> first | (cases h; done) | (cases h; rfl)
theorem asT_some {a : AVal} {l : List AVal} (h : asT a = .some l) : a = .tup l := by
  cases a <;> first | (cases h; done) | (cases h; rfl)
theorem valB_some {v : Value} {b : Bool} (h : valB v = .some b) : v = .bool b := by
  cases v <;> first | (cases h; done) | (cases h; rfl)
theorem asB_some {fs : Facts} {a : AVal} {b : Bool} (h : asB fs a = .some b) : boolA fs a = some b := by
  cases a with
  | lit v => rw [valB_some (v := v) h]; rfl
  | sb e =>
    change (Option.rec (motive := fun _ => OB) .none (fun b => .some b) (decB fs e) : OB) = .some b at h
    change decB fs e = some b
    cases hd : decB fs e with
    | none => rw [hd] at h; cases h
    | some c => rw [hd] at h; cases h; rfl
  | _ => cases h
theorem oneF_one {a : AVal} (h : oneF a = true) : a.one = true ∧ a.cells = [a] := by
  cases a with
  | lit v => cases v <;> first | (cases h; done) | exact ⟨rfl, rfl⟩
  | agg _ => cases h
  | tup _ => cases h
  | any => cases h
  | sym _ => cases h
  | _ => exact ⟨rfl, rfl⟩

theorem kNo_inj {k k' : IntKind} (h : Nat.beq (kNo k) (kNo k') = true) : k = k' := by
  cases k <;> cases k' <;> first | rfl | (exact absurd h (by decide))

theorem wrap_fit (k : IntKind) (n : Nat) (h : n ≤ maxN k) : k.wrap (n : Int) = n := by
  unfold IntKind.wrap
  cases k <;> simp only [maxN] at h <;> simp [IntKind.bits, IntKind.signed] <;> omega

theorem intArith_add (k : IntKind) (a b : Int) : intA .add k a k b = some (.int k (k.wrap (a + b))) := by
  simp only [intA, decide_true, cond_true]; rfl
theorem intArith_sub (k : IntKind) (a b : Int) : intA .sub k a k b = some (.int k (k.wrap (a - b))) := by
  simp only [intA, decide_true, cond_true]; rfl
theorem intArith_mul (k : IntKind) (a b : Int) : intA .mul k a k b = some (.int k (k.wrap (a * b))) := by
  simp only [intA, decide_true, cond_true]; rfl

theorem fitI_sound {k : IntKind} {d : Option Value} {n : Nat} {v : Value} (h : fitI k d n = some v) : d = some v ∨ v = .int k (k.wrap (n : Int)) := by
  unfold fitI at h
  rw [force_eq, ifB_eq] at h
  split at h
  · rename_i hb
    cases h
    exact .inr (by rw [wrap_fit k n (Nat.le_of_ble_eq_true hb)]; rfl)
  · exact .inl h

theorem sameK_some {β : Type} {k k' : IntKind} {x : Option β} {v : β} (h : sameK k k' x none = some v) : k = k' ∧ x = some v := by
  unfold sameK at h
  rw [ifB_eq] at h
  split at h
  · rename_i hb; exact ⟨kNo_inj hb, h⟩
  · cases h

theorem two_cases {β : Type} {a b : Int} {f : Nat → Nat → β} {d r : β} (h : two a b f d = r) : (∃ x y : Nat, a = x ∧ b = y ∧ f x y = r) ∨ d = r := by
  cases a with
  | ofNat x => cases b with
    | ofNat y => exact .inl ⟨x, y, rfl, rfl, h⟩
    | negSucc y => exact .inr h
  | negSucc x => exact .inr h

theorem bk_sound (op : BinOp) {k k' : IntKind} {a b : Int} {v : Value} (h : (bk op).run k a k' b = some v) : intA op k a k' b = some v := by
  have cmp : ∀ {op : BinOp} {f : Nat → Nat → Option Value} , (bk op).run = (fun k a k' b => sameK k k' (two a b f (intA op k a k' b)) none) → (∀ x y : Nat, f x y = intA op k x k y) → (bk op).run k a k' b = some v → intA op k a k' b = some v := by
    intro op f he hf h
    rw [he] at h
    obtain ⟨rfl, h⟩ := sameK_some h
    rcases two_cases h with ⟨x, y, rfl, rfl, h⟩ | h
    · rw [← hf]; exact h
    · exact h
  cases op
  case add =>
    obtain ⟨rfl, h⟩ := sameK_some h
    rcases two_cases h with ⟨x, y, rfl, rfl, h⟩ | h
    · rcases fitI_sound h with h | h
      · exact h
      · rw [intArith_add, h]; simp
    · exact h
  case sub =>
    obtain ⟨rfl, h⟩ := sameK_some h
    rcases two_cases h with ⟨x, y, rfl, rfl, h⟩ | h
    · rw [ifB_eq] at h
      split at h
      · rename_i hle
        have hle := Nat.le_of_ble_eq_true hle
        rcases fitI_sound h with h | h
        · exact h
        · rw [intArith_sub, h]
          have : ((x : Int) - (y : Int)) = ((Nat.sub x y : Nat) : Int) := by
            change _ = ((x - y : Nat) : Int); omega
          rw [this]
      · exact h
    · exact h
  case mul =>
    obtain ⟨rfl, h⟩ := sameK_some h
    rcases two_cases h with ⟨x, y, rfl, rfl, h⟩ | h
    · rcases fitI_sound h with h | h
      · exact h
      · rw [intArith_mul, h]; simp
    · exact h
  case lss =>
    refine cmp rfl (fun x y => ?_) h
    simp only [intA, decide_true, cond_true, Option.some.injEq, Value.bool.injEq]
    rw [Bool.eq_iff_iff, Nat.blt_eq]; simp
  case leq =>
    refine cmp rfl (fun x y => ?_) h
    simp only [intA, decide_true, cond_true, Option.some.injEq, Value.bool.injEq]
    rw [Bool.eq_iff_iff]; simp
  case gtr =>
    refine cmp rfl (fun x y => ?_) h
    simp only [intA, decide_true, cond_true, Option.some.injEq, Value.bool.injEq]
    rw [Bool.eq_iff_iff, Nat.blt_eq]; simp
  case geq =>
    refine cmp rfl (fun x y => ?_) h
    simp only [intA, decide_true, cond_true, Option.some.injEq, Value.bool.injEq]
    rw [Bool.eq_iff_iff]; simp
  case eql =>
    refine cmp rfl (fun x y => ?_) h
    simp only [intA, decide_true, cond_true, Option.some.injEq, Value.bool.injEq]
    rw [Bool.eq_iff_iff, Nat.beq_eq]; simp; omega
  case neq =>
    refine cmp rfl (fun x y => ?_) h
    simp only [intA, decide_true, cond_true, Option.some.injEq, Value.bool.injEq]
    rw [Bool.eq_iff_iff]
    have e : Nat.beq x y = decide (x = y) := by rw [Bool.eq_iff_iff, Nat.beq_eq]; simp
    simp [bne, e]; omega
  all_goals exact h
end Go.Proofs.YtiemogegdoogaaaGreat.Eng

namespace Go.Proofs.YtiemogegdoogaaaGreat.Eng
open Go
variable [Interp]

theorem ptrK_eq {a : AVal} {f : Nat → Nat → R1} {R : R1} (h : ∀ i o, a = .ptr i o → f i o = R) : ptrK (asP a) f R = R := by
  cases ha : asP a with
  | none => rfl
  | some i o => exact h i o (asP_some ha)
theorem intK_eq {a : AVal} {f : IntKind → Int → R1} {R : R1} (h : ∀ k m, a = .lit (.int k m) → f k m = R) : intK (asI a) f R = R := by
  cases ha : asI a with
  | none => rfl
  | some k m => exact h k m (asI_some ha)
theorem slcK_eq {a : AVal} {f g : Nat → Nat → Nat → Nat → R1} {R : R1} (h : ∀ i o l c, a = .slc i o l c → f i o l c = R) (h' : ∀ i o l z, a = .slu i o l z → g i o l z = R) : slcK (asS a) f g R = R := by
  cases ha : asS a with
  | none => rfl
  | slc i o l c => exact h i o l c (asS_slc ha)
  | slu i o l z => exact h' i o l z (asS_slu ha)
theorem tupK_eq {a : AVal} {f : List AVal → R1} {R : R1} (h : ∀ l, a = .tup l → f l = R) : tupK (asT a) f R = R := by
  cases ha : asT a with
  | none => rfl
  | some l => exact h l (asT_some ha)
theorem fnK_eq {a : AVal} {f : FuncId → List AVal → List AVal → R1} {R : R1} (h : ∀ g l m, a = .fn g l m → f g l m = R) : fnK (asF a) f R = R := by
  cases ha : asF a with
  | none => rfl
  | fn g l m => exact h g l m (asF_fn ha)
  | yld l => rfl
theorem rowK_eq {o : Option AObj} {f : Nat → T AVal → Nat → Bool → R1} {R : R1} (h : ∀ m c t u, o = some (.row m c t u) → f m c t u = R) : rowK o f R = R := by
  cases o with
  | none => rfl
  | some o => cases o <;> first | rfl | exact h _ _ _ _ rfl
theorem someK_eq {o : Option AVal} {f : AVal → R1} {R : R1} (h : ∀ v, o = some v → f v = R) : someK o f R = R := by
  cases o with
  | none => rfl
  | some o => exact h _ rfl
theorem natI_eq {β : Type} {i : Int} {f : Nat → β} {R : β} (h : ∀ m : Nat, i = m → f m = R) : natI i f R = R := by
  cases i with
  | ofNat m => exact h m rfl
  | negSucc m => rfl
theorem ifB_same {β : Type} {b : Bool} {x R : β} (h : b = true → x = R) : ifB b x R = R := by
  cases b with
  | true => exact h rfl
  | false => rfl

section
variable {tb : Tab} {P : Program} {cd : Nat → Nat → Code → CK} {o : Oper} {p : T AVal → AVal → T AVal} {k : Fn1} {e : Ev} {sl : T AVal} {xd : X} {h : H} {n : Nat}

theorem genK_val {a : AVal} {s : St} (ho : opA tb P (opnd sl) o n { heap := h, next := Nat.succ n } = some (.val a s)) : genK tb P cd o p k e sl xd h n = k e (p sl a) xd s.heap s.next := by
  unfold genK; rw [ho]
theorem genK_call {f : FuncId} {args : List AVal} (ho : opA tb P (opnd sl) o n { heap := h, next := Nat.succ n } = some (.call f args)) :
    genK tb P cd o p k e sl xd h n = onR2 (e f args h n) (fun v h n => k e (p sl v) xd h n) (fun ch h n => .pan ch sl xd h n) := by
  unfold genK; rw [ho]

theorem fMove_run {x : Operand} (ho : o.op = .move x ∨ o.op = .assign x) : (fMove p x).run k e sl xd h n = genK tb P cd o p k e sl xd h n := by
  unfold fMove
  rw [withG_eq]
  have : opA tb P (opnd sl) o n { heap := h, next := Nat.succ n } = some (.val (opnd sl x) { heap := h, next := Nat.succ n }) := by
    refine opA_opO ?_; unfold opO; rcases ho with ho | ho <;> rw [ho]
  rw [genK_val this, ← gk_run]
  rfl

theorem binK_eq {f : IntKind → Int → IntKind → Int → Option Value} {a b : AVal} {K : AVal → R1} {R : R1}
    (hh : ∀ k1 x k2 y v, a = .lit (.int k1 x) → b = .lit (.int k2 y) → f k1 x k2 y = some v → K (.lit v) = R) : binK f (asI a) (asI b) K R = R := by
  unfold binK
  cases ha : asI a with
  | none => rfl
  | some k1 x =>
    cases hb : asI b with
    | none => rfl
    | some k2 y =>
      simp only
      cases hf : f k1 x k2 y with
      | none => rfl
      | some v => exact hh _ _ _ _ _ (asI_some ha) (asI_some hb) hf

theorem fBin_run {op : BinOp} {t u : TypeId} {x y : Operand} (ho : o.op = .binOp op t x y u) : (fBin tb P cd o p op x y).run k e sl xd h n = genK tb P cd o p k e sl xd h n := by
  unfold fBin
  rw [withG_eq, withG_eq]
  have hb : ∀ b : BK, (BK.rec (motive := fun _ => OK1) (fun f => .mk fun k e sl xd h n => binK f (asI ((gk x).run sl)) (asI ((gk y).run sl)) (fun v => k e (p sl v) xd h (Nat.succ n)) (genK tb P cd o p k e sl xd h n)) b : OK1) =
      .mk fun k e sl xd h n => binK b.run (asI ((gk x).run sl)) (asI ((gk y).run sl)) (fun v => k e (p sl v) xd h (Nat.succ n)) (genK tb P cd o p k e sl xd h n) := fun b => by cases b; rfl
  rw [hb]
  change binK (bk op).run (asI ((gk x).run sl)) (asI ((gk y).run sl)) (fun v => k e (p sl v) xd h (Nat.succ n)) (genK tb P cd o p k e sl xd h n) = _
  refine binK_eq fun k1 m k2 m' v hx hy hf => ?_
  rw [gk_run] at hx hy
  have hi := bk_sound op hf
  have : opA tb P (opnd sl) o n { heap := h, next := Nat.succ n } = some (.val (.lit v) { heap := h, next := Nat.succ n }) := by
    refine opA_opO ?_; unfold opO; rw [ho]; simp only [aBin2, aBin, hx, hy, hi]
  rw [genK_val this]

theorem fLoad_run {t : TypeId} {x : Operand} (ho : o.op = .load t x) : (fLoad tb P cd o p t x).run k e sl xd h n = genK tb P cd o p k e sl xd h n := by
  unfold fLoad
  split
  case h_2 => rfl
  rename_i d hd
  split
  case h_2 => rfl
  rename_i hag
  rw [withG_eq]
  change ptrK _ _ _ = _
  refine ptrK_eq fun i off hx => rowK_eq fun m c ty u hrow => ifB_same fun hlt => someK_eq fun v hv => ?_
  rw [gk_run] at hx
  have : opA tb P (opnd sl) o n { heap := h, next := Nat.succ n } = some (.val v { heap := h, next := Nat.succ n }) := by
    refine opA_opO ?_; unfold opO; rw [ho]; simp only [aLoad, hx, loadA, hrow, hd, hag, hlt, cond_true, hv, valR]
  rw [genK_val this]

theorem fStore_run {t : TypeId} {x y : Operand} (ho : o.op = .store t x y) : (fStore tb P cd o p t x y).run k e sl xd h n = genK tb P cd o p k e sl xd h n := by
  unfold fStore
  split
  case h_2 => rfl
  rename_i i hi
  split
  case h_2 => rfl
  rename_i hz
  rw [withG_eq, withG_eq]
  change ptrK _ _ _ = _
  refine ptrK_eq fun id off hx => ?_
  unfold storeK
  refine ifB_same fun hone => rowK_eq fun m c ty u hrow => ifB_same fun hle => ?_
  rw [gk_run] at hx
  rw [gk_run] at hone ⊢
  obtain ⟨h1, h2⟩ := oneF_one hone
  have hz' : i.size = 1 := by simpa [Nat.beq_eq] using hz
  have : opA tb P (opnd sl) o n { heap := h, next := Nat.succ n } = some (.val (.lit undef) { heap := h.put id (.row m (c.put off (opnd sl y)) ty u), next := Nat.succ n }) := by
    have hle' : Nat.ble (off + 1) m = true := hle
    refine opA_opO ?_; unfold opO; rw [ho]; simp only [aStore, hx, storeA, hrow, hi, hz', h2, List.length_singleton, Nat.beq_refl, hle', List.all_cons, List.all_nil, h1, Bool.and_self, cond_true, T.lay, valU]
  rw [genK_val this]

theorem idxK_eq {z id off len : Nat} {i : Int} {K : AVal → R1} {R : R1} (hh : 0 ≤ i → i < len → K (.ptr id (off + i.toNat * z)) = R) : idxK z id off len i K R = R := by
  unfold idxK
  refine natI_eq fun m hm => ifB_same fun hlt => ?_
  subst hm
  rw [force_eq]
  have : m < len := by simpa [Nat.blt_eq] using hlt
  exact hh (Int.natCast_nonneg m) (by omega)

theorem fIndexAddr_run {t : TypeId} {x y : Operand} (ho : o.op = .indexAddr t x y) : (fIndexAddr tb P cd o p t x y).run k e sl xd h n = genK tb P cd o p k e sl xd h n := by
  have fin : ∀ {kd : IntKind} {i : Int} {a : AVal}, opnd sl y = .lit (.int kd i) → indexA tb t (opnd sl x) i = some a → k e (p sl a) xd h (Nat.succ n) = genK tb P cd o p k e sl xd h n := by
    intro kd i a hy hi
    have : opA tb P (opnd sl) o n { heap := h, next := Nat.succ n } = some (.val a { heap := h, next := Nat.succ n }) := by
      refine opA_opO ?_; unfold opO; rw [ho]; simp only [aIndexAddr, hy, hi, valR]
    rw [genK_val this]
  unfold fIndexAddr
  split
  · rename_i el hu
    split
    case h_2 => rfl
    rename_i inf hinf
    rw [withG_eq, withG_eq]
    change intK _ _ _ = _
    refine intK_eq fun kd i hy => slcK_eq (fun id off len cap hx => idxK_eq fun h0 hlt => ?_) (fun id off len z hx => idxK_eq fun h0 hlt => ?_)
    all_goals
      rw [gk_run] at hx hy
      refine fin hy ?_
      simp only [indexA, hu, hinf, hx, h0, hlt, decide_true, Bool.and_self, cond_true]
  · rename_i m el hu
    split
    case h_2 => rfl
    rename_i inf hinf
    rw [withG_eq, withG_eq]
    change intK _ _ _ = _
    refine intK_eq fun kd i hy => ptrK_eq fun id off hx => idxK_eq fun h0 hlt => ?_
    rw [gk_run] at hx hy
    refine fin hy ?_
    simp only [indexA, hu, hinf, hx, h0, hlt, decide_true, Bool.and_self, cond_true]
  · rfl

theorem fFieldAddr_run {t : TypeId} {x : Operand} {i : Nat} (ho : o.op = .fieldAddr t x i) : (fFieldAddr tb P cd o p t x i).run k e sl xd h n = genK tb P cd o p k e sl xd h n := by
  unfold fFieldAddr
  split
  case h_2 => rfl
  rename_i fs hu
  split
  case h_2 => rfl
  rename_i f hf
  split
  case h_2 => rfl
  rename_i fi hfi
  split
  case h_2 => rfl
  rename_i hz
  rw [withG_eq]
  change ptrK _ _ _ = _
  refine ptrK_eq fun id off hx => ?_
  rw [force_eq]
  rw [gk_run] at hx
  have : opA tb P (opnd sl) o n { heap := h, next := Nat.succ n } = some (.val (.ptr id (off + f.offset)) { heap := h, next := Nat.succ n }) := by
    refine opA_opO ?_; unfold opO; rw [ho]; simp only [aFieldAddr, hx, hu, hf, hfi, hz, cond_false]
  rw [genK_val this]
  rfl

theorem fExtract_run {x : Operand} {i : Nat} (ho : o.op = .extract x i) : (fExtract tb P cd o p x i).run k e sl xd h n = genK tb P cd o p k e sl xd h n := by
  unfold fExtract
  rw [withG_eq]
  change tupK _ _ _ = _
  refine tupK_eq fun l hx => someK_eq fun v hv => ?_
  rw [gk_run] at hx
  have : opA tb P (opnd sl) o n { heap := h, next := Nat.succ n } = some (.val v { heap := h, next := Nat.succ n }) := by
    refine opA_opO ?_; unfold opO; rw [ho]; simp only [aExtract, hx, hv, valR]
  rw [genK_val this]

theorem fConvert_run {sr d : TypeId} {x : Operand} (ho : o.op = .convert sr d x) : (fConvert tb P cd o p sr d x).run k e sl xd h n = genK tb P cd o p k e sl xd h n := by
  unfold fConvert
  split
  case h_2 => rfl
  rename_i kd ds hd hs
  rw [withG_eq]
  change intK _ _ _ = _
  refine intK_eq fun k1 i hx => natI_eq fun m hm => ifB_same fun hle => ?_
  subst hm
  rw [gk_run] at hx
  have : opA tb P (opnd sl) o n { heap := h, next := Nat.succ n } = some (.val (.lit (.int kd (.ofNat m))) { heap := h, next := Nat.succ n }) := by
    refine opA_opO ?_; unfold opO; rw [ho]; simp only [aConvert, convI, hx, hd, hs, wrap_fit kd m (Nat.le_of_ble_eq_true hle)]; rfl
  rw [genK_val this]

theorem fAlloc_run {t : TypeId} (ho : o.op = .alloc t) : (fAlloc tb P cd o p t).run k e sl xd h n = genK tb P cd o p k e sl xd h n := by
  unfold fAlloc
  split
  case h_2 => rfl
  rename_i z hz
  split
  case h_2 => rfl
  rename_i hlt
  have : opA tb P (opnd sl) o n { heap := h, next := Nat.succ n } = some (.val (.ptr n 0) { heap := h.put n (.row (AVal.lit z).cells.length (T.lay (AVal.lit z).cells 0 .leaf) t false), next := Nat.succ n }) := by
    refine opA_opO ?_; unfold opO; rw [ho]; simp only [aAlloc, hz, rowA, hlt, cond_true]
  rw [genK_val this]
  rfl

theorem fBox_run {t : TypeId} {x : Operand} (ho : o.op = .box t x) : (fBox tb P cd o p t x).run k e sl xd h n = genK tb P cd o p k e sl xd h n := by
  unfold fBox
  rw [withG_eq]
  change ifB _ _ _ = _
  refine ifB_same fun hone => ?_
  rw [gk_run] at hone ⊢
  obtain ⟨h1, h2⟩ := oneF_one hone
  have : opA tb P (opnd sl) o n { heap := h, next := Nat.succ n } = some (.val (.ptr n 0) { heap := h.put n (.row 1 (T.put .leaf 0 (opnd sl x)) t false), next := Nat.succ n }) := by
    refine opA_opO ?_; unfold opO; rw [ho]; simp only [aBox, AVal.known_of_one h1, h2, rowA, List.length_singleton]
    rfl
  rw [genK_val this]

theorem fLen_run {c : Call} {t : TypeId} {x : Operand} (ho : o.op = .call c) (hc : c.callee = .builtin .len) (ht : c.argTypes.toList = [t]) (hx : c.args.toList = [x]) :
    (fLen tb P cd o p t x).run k e sl xd h n = genK tb P cd o p k e sl xd h n := by
  unfold fLen
  split
  case h_2 => rfl
  rename_i hs
  rw [withG_eq]
  change slcK _ _ _ _ = _
  refine slcK_eq (fun id off len cap hv => ?_) (fun id off len z hv => ?_)
  all_goals
    rw [gk_run] at hv
    have : opA tb P (opnd sl) o n { heap := h, next := Nat.succ n } = some (.val (.lit (.int .i64 (.ofNat len))) { heap := h, next := Nat.succ n }) := by
      refine opA_opO ?_; unfold opO; rw [ho]; simp only [aCall, hc, ht, hx, List.map_cons, List.map_nil, hv, builtinA, litOf, hs, lenA]; rfl
    rw [genK_val this]

theorem fMakeFunc_run {f : FuncId} {l m : Array Operand} (ho : o.op = .makeFunc (.func f) l m) : (fMakeFunc p f l.toList m.toList).run k e sl xd h n = genK tb P cd o p k e sl xd h n := by
  unfold fMakeFunc
  rw [withL_eq, withL_eq]
  have : opA tb P (opnd sl) o n { heap := h, next := Nat.succ n } = some (.val (.fn f (l.toList.map (opnd sl)) (m.toList.map (opnd sl))) { heap := h, next := Nat.succ n }) := by
    refine opA_opO ?_; unfold opO; rw [ho]
  rw [genK_val this, ← lk_run, ← lk_run]
  rfl

theorem fCall_run {c : Call} (ho : o.op = .call c) : (fCall tb P cd o p c).run k e sl xd h n = genK tb P cd o p k e sl xd h n := by
  unfold fCall
  split
  · rename_i f hc
    split
    case h_2 => rfl
    rename_i hext
    unfold fCallF
    rw [withL_eq]
    have : opA tb P (opnd sl) o n { heap := h, next := Nat.succ n } = some (.call f ((lk c.args.toList).run sl)) := by
      refine opA_opO ?_; unfold opO; rw [ho]; simp only [aCall, hc, opnd, hext, lk_run, List.nil_append, List.append_nil]
    rw [genK_call this]
    rfl
  · rename_i x hn hc
    unfold fCallV
    rw [withG_eq, withL_eq]
    change fnK _ _ _ = _
    refine fnK_eq fun g l m hx => ?_
    rw [gk_run] at hx
    cases hext : tb.ext g with
    | some x => rfl
    | none =>
    have : opA tb P (opnd sl) o n { heap := h, next := Nat.succ n } = some (.call g (l ++ (lk c.args.toList).run sl ++ m)) := by
      refine opA_opO ?_; unfold opO; rw [ho]; simp only [aCall, hc, hx, hext, lk_run]
    rw [genK_call this]
  · rename_i hc
    split
    · rename_i t x ht hx
      exact fLen_run ho hc ht hx
    · rfl
  · rfl

theorem bnd (k : IntKind) (m y : Nat) (c : BoundsCode) (hm : m ≤ y) : Instr.sliceBound (.int k m) y c = .pure m := by
  unfold Instr.sliceBound
  change (if 0 ≤ (m : Int) ∧ (m : Int) ≤ (y : Int) then (Sem.pure (m : Int).toNat : Sem Nat) else boundsPanic k m y c) = _
  rw [if_pos (by omega)]; rfl

theorem bounds2 {len cap l : Nat} {u : Value} (hu : Instr.sliceBound u len .sliceB = .pure l) : pureOf (Instr.sliceBounds true len cap (some u) none none) = some (l, len, cap) := by
  change pureOf (Sem.bind (Instr.sliceBound u len .sliceB) (fun l => Sem.pure (l, len, cap))) = _
  rw [hu]; rfl
theorem bounds3 {len cap h : Nat} {v : Value} (hv : Instr.sliceBound v cap .sliceAcap = .pure h) : pureOf (Instr.sliceBounds true len cap none (some v) none) = some (0, h, cap) := by
  change pureOf (Sem.bind (Instr.sliceBound v cap .sliceAcap) (fun h => Sem.pure (0, h, cap))) = _
  rw [hv]; rfl
theorem bounds4 {len cap l h : Nat} {u v : Value} (hv : Instr.sliceBound v cap .sliceAcap = .pure h) (hu : Instr.sliceBound u h .sliceB = .pure l) : pureOf (Instr.sliceBounds true len cap (some u) (some v) none) = some (l, h, cap) := by
  change pureOf (Sem.bind (Instr.sliceBound v cap .sliceAcap) (fun h => Sem.bind (Instr.sliceBound u h .sliceB) (fun l => Sem.pure (l, h, cap)))) = _
  rw [hv]
  change pureOf (Sem.bind (Instr.sliceBound u h .sliceB) (fun l => Sem.pure (l, h, cap))) = _
  rw [hu]; rfl

theorem cut_bounds {len cap : Nat} {lo hi : Option Value} {l h : Nat} (hl : lo = none ∧ l = 0 ∨ ∃ k, lo = some (.int k l)) (hh : hi = none ∧ h = len ∨ ∃ k, hi = some (.int k h))
    (h1 : l ≤ h) (h2 : h ≤ cap) : pureOf (Instr.sliceBounds true len cap lo hi none) = some (l, h, cap) := by
  rcases hh with ⟨rfl, rfl⟩ | ⟨kh, rfl⟩
  · rcases hl with ⟨rfl, rfl⟩ | ⟨kl, rfl⟩
    · rfl
    · exact bounds2 (bnd _ _ _ _ h1)
  · rcases hl with ⟨rfl, rfl⟩ | ⟨kl, rfl⟩
    · exact bounds3 (bnd _ _ _ _ h2)
    · exact bounds4 (bnd _ _ _ _ h2) (bnd _ _ _ _ h1)

def BoundOf (a : Option AVal) (d : Nat) (m : Nat) : Prop := a = none ∧ m = d ∨ ∃ k, a = some (.lit (.int k (m : Int)))

theorem cutK_eq {z : Nat} {a : AVal} {lo hi : Option AVal} {K : AVal → R1} {R : R1}
    (h1 : ∀ id off len cap l h, a = .slc id off len cap → BoundOf lo 0 l → BoundOf hi len h → l ≤ h → h ≤ cap → K (moved id off z l h cap) = R)
    (h2 : ∀ id off len l h, a = .slu id off len z → BoundOf lo 0 l → BoundOf hi len h → l ≤ h → h ≤ len → K (.slu id (off + l * z) (h - l) z) = R) : cutK z (asS a) lo hi K R = R := by
  have bound : ∀ (b : Option AVal) (d : Nat) (f : Nat → R1), (∀ l, BoundOf b d l → f l = R) → boundK b d f R = R := by
    intro b d f hf
    cases b with
    | none => exact hf d (.inl ⟨rfl, rfl⟩)
    | some a => exact intK_eq fun k m ha => natI_eq fun j hj => hf j (.inr ⟨k, by rw [ha, hj]⟩)
  unfold cutK
  refine slcK_eq (fun id off len cap ha => ?_) (fun id off len z' ha => ?_)
  · refine bound _ _ _ fun h hh => bound _ _ _ fun l hl => ifB_same fun hb => ?_
    simp only [Bool.and_eq_true] at hb
    rw [force_eq, force_eq, force_eq]
    exact h1 id off len cap l h ha hl hh (Nat.le_of_ble_eq_true hb.1) (Nat.le_of_ble_eq_true hb.2)
  · refine ifB_same fun hz => bound _ _ _ fun h hh => bound _ _ _ fun l hl => ifB_same fun hb => ?_
    simp only [Bool.and_eq_true] at hb
    have hz : z' = z := by simpa [Nat.beq_eq] using hz
    subst hz
    rw [force_eq, force_eq]
    exact h2 id off len l h ha hl hh (Nat.le_of_ble_eq_true hb.1) (Nat.le_of_ble_eq_true hb.2)

theorem BoundOf.lit {x : Option Operand} {d m : Nat} (h : BoundOf (x.map (opnd sl)) d m) : (x = none ∧ (x.map fun x => litOf (opnd sl x)) = none ∧ m = d) ∨ (∃ k, (x.map fun x => litOf (opnd sl x)) = some (some (.int k m))) := by
  cases x with
  | none => rcases h with ⟨_, h⟩ | ⟨k, h⟩; exact .inl ⟨rfl, rfl, h⟩; cases h
  | some x =>
    rcases h with ⟨h, _⟩ | ⟨k, h⟩
    · cases h
    · simp only [Option.map_some, Option.some.injEq] at h
      exact .inr ⟨k, by simp [h, litOf]⟩

theorem fSlice_run {t : TypeId} {x : Operand} {lo hi : Option Operand} (ho : o.op = .slice t x lo hi none) : (fSlice tb P cd o p t x lo hi).run k e sl xd h n = genK tb P cd o p k e sl xd h n := by
  unfold fSlice
  split
  case h_2 => rfl
  rename_i el hu
  split
  case h_2 => rfl
  rename_i inf hinf
  rw [withG_eq, optG_eq, optG_eq]
  change cutK inf.size (asS ((gk x).run sl)) (lo.map (opnd sl)) (hi.map (opnd sl)) (fun v => k e (p sl v) xd h (Nat.succ n)) (genK tb P cd o p k e sl xd h n) = _
  have fin : ∀ {a : AVal} {l m : Nat} {len cap : Nat}, BoundOf (lo.map (opnd sl)) 0 l → BoundOf (hi.map (opnd sl)) len m → isLit (opnd sl x) = false →
      (∀ lov hiv, (lov = none ∧ l = 0 ∨ ∃ k, lov = some (.int k l)) → (hiv = none ∧ m = len ∨ ∃ k, hiv = some (.int k m)) → sliceA tb t (opnd sl x) lov hiv none = some a) →
      k e (p sl a) xd h (Nat.succ n) = genK tb P cd o p k e sl xd h n := by
    intro a l m len cap hl hh hnl hs
    have : opA tb P (opnd sl) o n { heap := h, next := Nat.succ n } = some (.val a { heap := h, next := Nat.succ n }) := by
      refine opA_opO ?_; unfold opO; rw [ho]; simp only [aSlice]
      rcases hl.lit with ⟨_, e1, e2⟩ | ⟨k1, e1⟩ <;> rcases hh.lit with ⟨_, e3, e4⟩ | ⟨k2, e3⟩ <;> simp only [e1, e3, Option.map_none, hnl]
      · exact congrArg (valR · _) (hs none none (.inl ⟨rfl, e2⟩) (.inl ⟨rfl, e4⟩))
      · exact congrArg (valR · _) (hs none (some (.int k2 m)) (.inl ⟨rfl, e2⟩) (.inr ⟨k2, rfl⟩))
      · exact congrArg (valR · _) (hs (some (.int k1 l)) none (.inr ⟨k1, rfl⟩) (.inl ⟨rfl, e4⟩))
      · exact congrArg (valR · _) (hs (some (.int k1 l)) (some (.int k2 m)) (.inr ⟨k1, rfl⟩) (.inr ⟨k2, rfl⟩))
    rw [genK_val this]
  refine cutK_eq (fun id off len cap l m hx hl hh h1 h2 => ?_) (fun id off len l m hx hl hh h1 h2 => ?_)
  · rw [gk_run] at hx
    refine fin (cap := cap) hl hh (by rw [hx]; rfl) fun lov hiv hlv hhv => ?_
    simp only [sliceA, hu, hinf, hx, cut_bounds hlv hhv h1 h2]
  · rw [gk_run] at hx
    refine fin (cap := len) hl hh (by rw [hx]; rfl) fun lov hiv hlv hhv => ?_
    simp only [sliceA, hu, hinf, hx, cut_bounds hlv hhv h1 h2, Nat.beq_refl, cond_true]

theorem opKb_run : (opKb tb P cd o p).run k e sl xd h n = genK tb P cd o p k e sl xd h n := by
  unfold opKb
  split
  · rename_i ho; exact fMove_run (.inl ho)
  · rename_i ho; exact fMove_run (.inr ho)
  · rfl
  · rfl
  · rename_i ho; exact fBin_run ho
  · rename_i ho; exact fLoad_run ho
  · rename_i ho; exact fStore_run ho
  · rename_i ho; exact fIndexAddr_run ho
  · rename_i ho; exact fFieldAddr_run ho
  · rename_i ho; exact fSlice_run ho
  · rename_i ho; exact fExtract_run ho
  · rename_i ho; exact fConvert_run ho
  · rename_i ho; exact fAlloc_run ho
  · rename_i ho; exact fBox_run ho
  · rename_i ho; exact fMakeFunc_run ho
  · rename_i ho; exact fCall_run ho
  · rfl
end
end Go.Proofs.YtiemogegdoogaaaGreat.Eng

namespace Go.Proofs.YtiemogegdoogaaaGreat.Eng
open Go
variable [Interp]
variable {E : Nat → Option Value}

def Leads (E : Nat → Option Value) (P : Program) (c c' : Cfg) : Prop := ∀ κ fr cs w, Sim κ c fr cs w → EnvIn E κ → PGoal P κ c.st fr cs w c'

theorem Leads.refl {P : Program} {c : Cfg} : Leads E P c c := fun κ fr cs w h _ _ => ⟨κ, fr, cs, w, .refl P _, h, .refl h.rel⟩
theorem Leads.trans {P : Program} {c c' c'' : Cfg} (h : Leads E P c c') (h' : Leads E P c' c'') : Leads E P c c'' := fun κ fr cs w hs hE cs0 => by
  obtain ⟨κ1, fr1, cs1, w1, s1, sim1, g1⟩ := h κ fr cs w hs hE cs0
  obtain ⟨κ2, fr2, cs2, w2, s2, sim2, g2⟩ := h' κ1 fr1 cs1 w1 sim1 (hE.le g1.le) cs0
  exact ⟨κ2, fr2, cs2, w2, s1.trans s2, sim2, g1.trans (g2.less fun j hj => Nat.lt_of_lt_of_le hj g1.next)⟩
theorem Leads.step {tb : Tab} {P : Program} (ok : tb.OK P) {c c' : Cfg} (h : stepA tb P c = some c') : Leads E P c c' := fun κ fr cs w hs _ => (stepA_sound ok hs h).each

noncomputable def X.ds : X → List ADef
  | .top ds => ds
  | .rnd _ => []
noncomputable def X.ro : X → Option Nat
  | .top _ => none
  | .rnd l => some l

structure Base where
  fn : Nat
  nt : Nat
  kind : CallKind
  below : List AFr

noncomputable def Base.fr (B : Base) (xd : X) (todo : List AItem) (sl : T AVal) (mode : AMode) : AFr := { fn := B.fn, nt := B.nt, slots := sl, todo, defers := xd.ds, mode, kind := B.kind, ro := xd.ro }
noncomputable def Base.cfg (B : Base) (xd : X) (todo : List AItem) (sl : T AVal) (h : H) (n : Nat) (mode : AMode := .run) : Cfg := ⟨B.fr xd todo sl mode, B.below, { heap := h, next := n }⟩

def EvFOK (E : Nat → Option Value) (tb : Tab) (P : Program) (e : Ev) : Prop := ∀ f args h n,
  match e f args h n with
  | .ret v h' n' => ∃ g, enterA tb f args .normal = some g ∧ ∀ κ fr w, FR κ g fr → Rel κ { heap := h, next := n } w → EnvIn E κ → ∀ cs, ∃ κ' fr' w' x, Steps P (lone fr cs w) (lone fr' cs w') ∧
      fr'.leaving P w' (.returned x) ∧ V κ' v x ∧ Goes (· < n) κ { heap := h, next := n } w κ' { heap := h', next := n' } w' ∧ fr'.fn = f
  | .pan ch h' n' => ∃ g, enterA tb f args .normal = some g ∧ ∀ κ fr w, FR κ g fr → Rel κ { heap := h, next := n } w → EnvIn E κ → ∀ cs, ∃ κ' fr' w' ch', Steps P (lone fr cs w) (lone fr' cs w') ∧
      fr'.leaving P w' (.panicked ch') ∧ All2 (PR κ') ch ch' ∧ Goes (· < n) κ { heap := h, next := n } w κ' { heap := h', next := n' } w' ∧ fr'.fn = f
  | .bad _ => True

section
variable {tb : Tab} {P : Program}

theorem call_ret (ok : tb.OK P) {e : Ev} (he : EvFOK E tb P e) {f : FuncId} {args : List AVal} {h h' : H} {n n' : Nat} {v : AVal} (hr : e f args h n = .ret v h' n') {g t t' : AFr} {below : List AFr}
    (hg : enterA tb f args .normal = some g) (hm : t.mode = .run) (hf : finA t v = some t') : Leads E P ⟨g, t :: below, { heap := h, next := n }⟩ ⟨t', below, { heap := h', next := n' }⟩ := by
  intro κ fr cs w hs hE cs0
  have h1 := he f args h n
  rw [hr] at h1
  obtain ⟨g', hg', H⟩ := h1
  rw [hg] at hg'; cases hg'
  obtain ⟨bf, cs', ecs, hbf, hcs'⟩ := hs.below.append_left
  subst ecs
  obtain ⟨κ', fr', w', x, hst, hlv, hx, hgo, _⟩ := H κ fr w hs.top hs.rel hE (bf :: (cs' ++ cs0))
  refine ⟨κ', _, cs', w', hst.trans (.one (step_leave_returned hlv)), ⟨finA_sound hf (hbf.mono hgo.le) hm hx, mono_below hgo.le hcs', hgo.rel⟩, hgo⟩

theorem call_pan (ok : tb.OK P) {e : Ev} (he : EvFOK E tb P e) {f : FuncId} {args : List AVal} {h h' : H} {n n' : Nat} {ch : List (AVal × Bool)} (hr : e f args h n = .pan ch h' n') {g t : AFr} {below : List AFr}
    (hg : enterA tb f args .normal = some g) (hm : t.mode = .run) : Leads E P ⟨g, t :: below, { heap := h, next := n }⟩ ⟨{ t with mode := .pan ch }, below, { heap := h', next := n' }⟩ := by
  intro κ fr cs w hs hE cs0
  have h1 := he f args h n
  rw [hr] at h1
  obtain ⟨g', hg', H⟩ := h1
  rw [hg] at hg'; cases hg'
  obtain ⟨bf, cs', ecs, hbf, hcs'⟩ := hs.below.append_left
  subst ecs
  obtain ⟨κ', fr', w', ch', hst, hlv, hx, hgo, _⟩ := H κ fr w hs.top hs.rel hE (bf :: (cs' ++ cs0))
  have hb := hbf.mono hgo.le
  refine ⟨κ', _, cs', w', hst.trans (.one (step_leave_panicked hlv)), ⟨?_, mono_below hgo.le hcs', hgo.rel⟩, hgo⟩
  have hbm := mode_run hb hm
  unfold Frame.raise; rw [hbm]
  exact ⟨hb.fn, hb.slots, (fun h => by cases h), hb.defers, .pan hx, hb.kind, hb.ro⟩

noncomputable def pureI : AItem → Bool
  | .inRF _ => false
  | .endRF _ => false
  | _ => true
def Pre (k1 k : List AItem) : Prop := ∃ p, k1 = p ++ k ∧ p.all pureI = true
theorem Pre.refl (k : List AItem) : Pre k k := ⟨[], rfl, rfl⟩
theorem Pre.trans {k1 k2 k3 : List AItem} (h : Pre k1 k2) (h' : Pre k2 k3) : Pre k1 k3 := by
  obtain ⟨p, rfl, hp⟩ := h
  obtain ⟨q, rfl, hq⟩ := h'
  exact ⟨p ++ q, (List.append_assoc ..).symm, by rw [List.all_append, hp, hq]; rfl⟩
theorem Pre.cons {a : AItem} {k : List AItem} (h : pureI a = true) : Pre (a :: k) k := ⟨[a], rfl, by simp [h]⟩
theorem Pre.pure {k1 k : List AItem} (h : Pre k1 k) (hk : k.all pureI = true) : k1.all pureI = true := by
  obtain ⟨p, rfl, hp⟩ := h
  rw [List.all_append, hp, hk]; rfl

def Ends (E : Nat → Option Value) (P : Program) (B : Base) (k : List AItem) (c0 : Cfg) : R1 → Prop
  | .nrm sl xd h n => Leads E P c0 (B.cfg xd k sl h n)
  | .ext id sl xd h n => ∃ k1, exitA id k1 = exitA id k ∧ Pre k1 k ∧ Leads E P c0 (B.cfg xd (.code (.exit id) :: k1) sl h n)
  | .ret sl xd h n => ∃ k1, Pre k1 k ∧ Leads E P c0 (B.cfg xd (.code .ret :: k1) sl h n)
  | .pan ch sl xd h n => ∃ k1, Leads E P c0 (B.cfg xd k1 sl h n (.pan ch))
  | .bad _ => True

theorem Ends.of {B : Base} {k : List AItem} {c0 c1 : Cfg} (h : Leads E P c0 c1) : ∀ {r : R1}, Ends E P B k c1 r → Ends E P B k c0 r
  | .nrm .., h' => h.trans h'
  | .ext .., ⟨k1, e, p, h'⟩ => ⟨k1, e, p, h.trans h'⟩
  | .ret .., ⟨k1, p, h'⟩ => ⟨k1, p, h.trans h'⟩
  | .pan .., ⟨k1, h'⟩ => ⟨k1, h.trans h'⟩
  | .bad _, _ => trivial

def CodeOK (E : Nat → Option Value) (tb : Tab) (P : Program) (fn nt : Nat) (c : Code) (f : Fn1) : Prop := ∀ e, EvFOK E tb P e → ∀ (kind : CallKind) (below : List AFr) (k : List AItem), k.all pureI = true → ∀ sl xd h n,
  Ends E P ⟨fn, nt, kind, below⟩ k (Base.cfg ⟨fn, nt, kind, below⟩ xd (.code c :: k) sl h n) (f e sl xd h n)

def CdOK (E : Nat → Option Value) (tb : Tab) (P : Program) (cd : Nat → Nat → Code → CK) : Prop := ∀ fn nt c, CodeOK E tb P fn nt c (cd fn nt c).run

theorem step_run {c c' : Cfg} (hm : c.top.mode = .run) (h : runStep tb P c = some c') : stepA tb P c = some c' := by unfold stepA; rw [hm]; exact h

theorem rndK_ends {B : Base} {k : List AItem} {c0 : Cfg} {xd : X} {l : Nat} {r : R1} (h : xd = .rnd l → Ends E P B k c0 r) : Ends E P B k c0 (rndK xd l r) := by
  unfold rndK
  split
  · rename_i l'
    rw [ifB_eq]
    split
    · rename_i hb
      have : l' = l := by simpa [Nat.beq_eq] using hb
      exact h (by rw [this])
    · trivial
  · trivial

theorem setLoopH_ends {B : Base} {k : List AItem} {c0 : Cfg} {h : H} {n l : Nat} {stt : LoopState} {pe : Option Code} {f : H → R1}
    (hh : ∀ s', setLoop { heap := h, next := n } l stt pe = some s' → s'.next = n → Ends E P B k c0 (f s'.heap)) : Ends E P B k c0 (setLoopH h l stt pe f) := by
  unfold setLoopH
  split
  · rename_i st0 pe0 fn nt sl ps a b d hg
    exact hh { heap := h.put l (.loop stt pe fn nt sl ps a b d), next := n } (by unfold setLoop; simp only [hg]) rfl
  · trivial

theorem roundK_ends (ok : tb.OK P) {cd : Nat → Nat → Code → CK} (hcd : CdOK E tb P cd) {e : Ev} (he : EvFOK E tb P e) {B : Base} {k : List AItem} {c0 : Cfg} {l : Nat} {args : List AVal} {h : H} {n : Nat}
    {K : AVal → H → Nat → R1} {pn : List (AVal × Bool) → H → Nat → R1} {t : AFr} {below : List AFr} (htm : t.mode = .run)
    (hc0 : ∀ st pe fn nt sl ps a b d, h.get l = some (.loop st pe fn nt sl ps a b d) → (Nat.beq args.length ps.size && ps.all (Nat.blt · nt)) = true →
      Leads E P c0 ⟨{ fn, nt, slots := foldPut ps.toList args sl, todo := [.code a, .beginRound, .code b], defers := [], mode := .run, kind := .normal, ro := some l }, t :: below, { heap := h, next := n }⟩)
    (hK : ∀ v t' h' n', finA t v = some t' → Leads E P c0 ⟨t', below, { heap := h', next := n' }⟩ → Ends E P B k c0 (K v h' n'))
    (hfin : ∀ v, ∃ t', finA t v = some t')
    (hpn : ∀ ch h' n', Leads E P c0 ⟨{ t with mode := .pan ch }, below, { heap := h', next := n' }⟩ → Ends E P B k c0 (pn ch h' n')) :
    Ends E P B k c0 (roundK tb cd e l args h n K pn) := by
  unfold roundK
  split
  case h_2 => trivial
  rename_i st0 pe0 fn nt sl ps a b d hg
  rw [ifB_eq]
  split
  case isFalse => trivial
  rename_i hchk
  have h0 := hc0 _ _ _ _ _ _ _ _ _ hg hchk
  have ha := hcd fn nt a e he .normal (t :: below) [.beginRound, .code b] rfl (foldPut ps.toList args sl) (.rnd l) h n
  have h0' : Leads E P c0 (Base.cfg ⟨fn, nt, .normal, t :: below⟩ (.rnd l) (.code a :: [.beginRound, .code b]) (foldPut ps.toList args sl) h n) := h0
  split
  case h_2 => trivial
  case h_3 => trivial
  rename_i sl1 xd1 h1 n1 hra
  rw [hra] at ha
  refine rndK_ends fun hxd => ?_
  subst hxd
  have h1' : Leads E P c0 (Base.cfg ⟨fn, nt, .normal, t :: below⟩ (.rnd l) [.beginRound, .code b] sl1 h1 n1) := h0'.trans ha
  unfold busyH
  split
  case h_2 => trivial
  rename_i pe1 fn1 nt1 sl2 ps1 a1 b1 d1 hg1
  have hstep : stepA tb P (Base.cfg ⟨fn, nt, .normal, t :: below⟩ (.rnd l) [.beginRound, .code b] sl1 h1 n1) =
      some (Base.cfg ⟨fn, nt, .normal, t :: below⟩ (.rnd l) [.code b] sl1 (h1.put l (.loop .busy pe1 fn1 nt1 sl2 ps1 a1 b1 d1)) n1) :=
    step_run rfl (by unfold runStep; simp only [Base.cfg, Base.fr, X.ro, hg1])
  have h2' := h1'.trans (Leads.step ok hstep)
  have hb := hcd fn nt b e he .normal (t :: below) [] rfl sl1 (.rnd l) (h1.put l (.loop .busy pe1 fn1 nt1 sl2 ps1 a1 b1 d1)) n1
  change Ends E P B k c0 (roundEnd tb l fn ((cd fn nt b).run e sl1 (.rnd l) (h1.put l (.loop .busy pe1 fn1 nt1 sl2 ps1 a1 b1 d1)) n1) K pn)
  generalize (cd fn nt b).run e sl1 (.rnd l) (h1.put l (.loop .busy pe1 fn1 nt1 sl2 ps1 a1 b1 d1)) n1 = rb at hb ⊢
  -- the round is over
  have back : ∀ (todo : List AItem) (jump : Option Code) (sl3 : T AVal) (h3 : H) (n3 : Nat) (s' : St) (stt : LoopState), stt = stateAfter jump →
      Leads E P c0 (Base.cfg ⟨fn, nt, .normal, t :: below⟩ (.rnd l) todo sl3 h3 n3) →
      (∀ c', leaveA (Base.cfg ⟨fn, nt, .normal, t :: below⟩ (.rnd l) todo sl3 h3 n3) jump = some c' → stepA tb P (Base.cfg ⟨fn, nt, .normal, t :: below⟩ (.rnd l) todo sl3 h3 n3) = some c') →
      setLoop { heap := h3, next := n3 } l stt jump = some s' → s'.next = n3 → Ends E P B k c0 (K (.lit (.bool jump.isNone)) s'.heap n3) := by
    intro todo jump sl3 h3 n3 s' stt hstt hl hstp hset hn
    obtain ⟨t', ht'⟩ := hfin (.lit (.bool jump.isNone))
    refine hK _ t' _ _ ht' (hl.trans (Leads.step ok (hstp _ ?_)))
    rw [hstt] at hset
    obtain ⟨sh, sn⟩ := s'
    simp only at hn
    subst hn
    simp only [leaveA, Base.cfg, Base.fr, X.ro, endRoundA, hset, htm, ht']
  unfold roundEnd
  cases rb with
  | bad w => trivial
  | nrm sl3 xd3 h3 n3 =>
    refine rndK_ends fun hx => setLoopH_ends (n := n3) fun s' hs hn => ?_
    subst hx
    exact back [] none sl3 h3 n3 s' .ready rfl (h2'.trans hb) (fun c' hc => step_run rfl (by unfold runStep; simpa only [Base.cfg, Base.fr] using hc)) hs hn
  | ret sl3 xd3 h3 n3 =>
    obtain ⟨k1, _, hb⟩ := hb
    refine rndK_ends fun hx => setLoopH_ends (n := n3) fun s' hs hn => ?_
    subst hx
    exact back (.code .ret :: k1) (some .ret) sl3 h3 n3 s' .done rfl (h2'.trans hb) (fun c' hc => step_run rfl (by unfold runStep; simpa only [Base.cfg, Base.fr, codeStep] using hc)) hs hn
  | ext id sl3 xd3 h3 n3 =>
    obtain ⟨k1, hk1, _, hb⟩ := hb
    refine rndK_ends fun hx => setLoopH_ends (n := n3) fun s' hs hn => ?_
    subst hx
    have hk1' : exitA id k1 = none := hk1
    exact back (.code (.exit id) :: k1) (some (.exit id)) sl3 h3 n3 s' .done rfl (h2'.trans hb) (fun c' hc => step_run rfl (by unfold runStep; simpa only [Base.cfg, Base.fr, codeStep, hk1', X.ro] using hc)) hs hn
  | pan ch sl3 xd3 h3 n3 =>
    obtain ⟨k1, hb⟩ := hb
    simp only
    split
    case h_2 => trivial
    rename_i F hF
    refine rndK_ends fun hx => ?_
    subst hx
    refine hpn ch h3 n3 ((h2'.trans hb).trans (Leads.step ok ?_))
    unfold stepA
    simp only [Base.cfg, Base.fr, outStep, X.ds, hF, htm]
end
end Go.Proofs.YtiemogegdoogaaaGreat.Eng

namespace Go.Proofs.YtiemogegdoogaaaGreat.Eng
open Go
variable [Interp]
variable {E : Nat → Option Value}

section
variable {tb : Tab} {P : Program} {cd : Nat → Nat → Code → CK} {e : Ev} {B : Base} {k : List AItem} {ops : Array Oper} {i : Nat} {o : Oper} {r : List Oper} {pp : PK} {K2 : Fn1}
  {sl : T AVal} {xd : X} {h : H} {n : Nat}

theorem fin_op (hp : pk B.nt o.dst = some pp) (a : AVal) (xd : X) : finA (B.fr xd (.regL ops i (o :: r) :: k) sl .run) a = some (B.fr xd (.regL ops (i + 1) r :: k) (pp.run sl a) .run) := by
  unfold finA
  have := pk_putA hp (B.fr xd (.regL ops i (o :: r) :: k) sl .run) rfl a
  simp only [Base.fr] at this ⊢
  rw [this]

theorem op_step (hw : wantedA tb.facts (B.fr xd (.regL ops i (o :: r) :: k) sl .run) ops o = some true) (hn : Nat.ble 1000000000 n = false) {c' : Cfg}
    (hc : (match opA tb P (opnd sl) o n { heap := h, next := n + 1 } with
      | none => none
      | some res => match res with
        | .val a s => match finA (B.fr xd (.regL ops i (o :: r) :: k) sl .run) a with | some g => some ⟨g, B.below, s⟩ | none => none
        | .call f args => match enterA tb f args .normal with | some g => some ⟨g, B.fr xd (.regL ops i (o :: r) :: k) sl .run :: B.below, { heap := h, next := n }⟩ | none => none
        | .round l args => match h.get l with
          | some (.loop _ _ fn nt sl' ps a b _) => bif Nat.beq args.length ps.size && ps.all (Nat.blt · nt) then
              some ⟨{ fn, nt, slots := foldPut ps.toList args sl', todo := [.code a, .beginRound, .code b], defers := [], mode := .run, kind := .normal, ro := some l }, B.fr xd (.regL ops i (o :: r) :: k) sl .run :: B.below, { heap := h, next := n }⟩
            else none
          | _ => none
        | .defer d => match xd with
          | .top ds => match finA (B.fr (.top (d :: ds)) (.regL ops i (o :: r) :: k) sl .run) (.lit undef) with | some g => some ⟨g, B.below, { heap := h, next := n }⟩ | none => none
          | .rnd _ => none
        | .panic v => some ⟨B.fr xd (.regL ops i (o :: r) :: k) sl (.pan [(v, false)]), B.below, { heap := h, next := n }⟩
        | .recov => none : Option Cfg) = some c') : stepA tb P (B.cfg xd (.regL ops i (o :: r) :: k) sl h n) = some c' := by
  refine step_run rfl ?_
  unfold runStep
  change opStep tb P (B.cfg xd (.regL ops i (o :: r) :: k) sl h n) ops o = some c'
  unfold opStep
  have hw' : wantedA tb.facts (B.cfg xd (.regL ops i (o :: r) :: k) sl h n).top ops o = some true := hw
  have hn' : Nat.ble 1000000000 (B.cfg xd (.regL ops i (o :: r) :: k) sl h n).st.next = false := hn
  rw [hw']
  simp only [hn', cond_false]
  change (match opA tb P (opnd sl) o n { heap := h, next := n + 1 } with | none => none | some r => _) = some c'
  cases hop : opA tb P (opnd sl) o n { heap := h, next := n + 1 } with
  | none => rw [hop] at hc; cases hc
  | some res =>
    rw [hop] at hc
    cases res with
    | val a s => exact hc
    | call f args => exact hc
    | round l args => exact hc
    | defer d =>
      cases xd with
      | top ds => exact hc
      | rnd l => cases hc
    | recov => cases hc
    | panic v => exact hc

theorem genK_ends (ok : tb.OK P) (hcd : CdOK E tb P cd) (he : EvFOK E tb P e) (hp : pk B.nt o.dst = some pp)
    (hw : wantedA tb.facts (B.fr xd (.regL ops i (o :: r) :: k) sl .run) ops o = some true) (hn : Nat.ble 1000000000 n = false)
    (hK : ∀ sl xd h n, Ends E P B k (B.cfg xd (.regL ops (i + 1) r :: k) sl h n) (K2 e sl xd h n)) :
    Ends E P B k (B.cfg xd (.regL ops i (o :: r) :: k) sl h n) (genK tb P cd o pp.run K2 e sl xd h n) := by
  have hf := fun a xd => fin_op (k := k) (ops := ops) (i := i) (r := r) (sl := sl) hp a xd
  have S := fun {c'} => op_step (tb := tb) (P := P) (B := B) (xd := xd) (k := k) (ops := ops) (i := i) (o := o) (r := r) (sl := sl) (h := h) (n := n) hw hn (c' := c')
  have hs : Nat.succ n = n + 1 := rfl
  unfold genK
  split
  · -- a value
    rename_i a s hop
    rw [hs] at hop
    refine Ends.of (Leads.step ok (S ?_)) (hK _ _ _ _)
    rw [hop]
    simp only [hf]
    rfl
  · -- a call
    rename_i f args hop
    rw [hs] at hop
    have hspec := he f args h n
    cases hres : e f args h n with
    | bad w => trivial
    | ret v h' n' =>
      rw [hres] at hspec
      obtain ⟨g, hg, _⟩ := hspec
      have h1 : Leads E P (B.cfg xd (.regL ops i (o :: r) :: k) sl h n) ⟨g, B.fr xd (.regL ops i (o :: r) :: k) sl .run :: B.below, { heap := h, next := n }⟩ := Leads.step ok (S (by rw [hop]; simp only [hg]))
      exact Ends.of (h1.trans (call_ret ok he hres hg rfl (hf v xd))) (hK _ _ _ _)
    | pan ch h' n' =>
      rw [hres] at hspec
      obtain ⟨g, hg, _⟩ := hspec
      have h1 : Leads E P (B.cfg xd (.regL ops i (o :: r) :: k) sl h n) ⟨g, B.fr xd (.regL ops i (o :: r) :: k) sl .run :: B.below, { heap := h, next := n }⟩ := Leads.step ok (S (by rw [hop]; simp only [hg]))
      exact ⟨_, h1.trans (call_pan ok he hres hg rfl)⟩
  · -- a round
    rename_i l args hop
    rw [hs] at hop
    refine roundK_ends ok hcd he (t := B.fr xd (.regL ops i (o :: r) :: k) sl .run) (below := B.below) rfl (fun st pe fn nt sl' ps a b d hg hchk => Leads.step ok (S ?_)) (fun v t' h' n' ht' hl => ?_) (fun v => ⟨_, hf v xd⟩) (fun ch h' n' hl => ⟨_, hl⟩)
    · rw [hop]; simp only [hg, hchk, cond_true]
    · rw [hf] at ht'; cases ht'
      exact Ends.of hl (hK _ _ _ _)
  · -- a deferred call
    rename_i d hop
    rw [hs] at hop
    unfold pushD
    cases xd with
    | rnd l => trivial
    | top ds =>
      refine Ends.of (Leads.step ok (S ?_)) (hK _ _ _ _)
      rw [hop]
      simp only [hf]
      rfl
  · -- a panic
    rename_i v hop
    rw [hs] at hop
    exact ⟨_, Leads.step ok (S (by rw [hop]; rfl))⟩
  · trivial

theorem skip_ends (ok : tb.OK P) (hp : pk B.nt o.dst = some pp) (hw : wantedA tb.facts (B.fr xd (.regL ops i (o :: r) :: k) sl .run) ops o = some false)
    (hK : ∀ sl xd h n, Ends E P B k (B.cfg xd (.regL ops (i + 1) r :: k) sl h n) (K2 e sl xd h n)) :
    Ends E P B k (B.cfg xd (.regL ops i (o :: r) :: k) sl h n) (K2 e (pp.run sl (.lit undef)) xd h n) := by
  refine Ends.of (Leads.step ok (step_run rfl ?_)) (hK _ _ _ _)
  unfold runStep
  change opStep tb P (B.cfg xd (.regL ops i (o :: r) :: k) sl h n) ops o = _
  unfold opStep
  have hw' : wantedA tb.facts (B.cfg xd (.regL ops i (o :: r) :: k) sl h n).top ops o = some false := hw
  rw [hw']
  have := fin_op (k := k) (ops := ops) (i := i) (r := r) (sl := sl) hp (.lit undef) xd
  change (match finA (B.fr xd (.regL ops i (o :: r) :: k) sl .run) (.lit undef) with | some g => some { (B.cfg xd (.regL ops i (o :: r) :: k) sl h n) with top := g } | none => none) = _
  rw [this]
  rfl

theorem opK_ends (ok : tb.OK P) (hcd : CdOK E tb P cd) (he : EvFOK E tb P e) (hn : Nat.ble 1000000000 n = false)
    (hK : ∀ sl xd h n, Ends E P B k (B.cfg xd (.regL ops (i + 1) r :: k) sl h n) (K2 e sl xd h n)) :
    Ends E P B k (B.cfg xd (.regL ops i (o :: r) :: k) sl h n) ((opK tb P cd B.nt ops o).run K2 e sl xd h n) := by
  unfold opK
  split
  · trivial
  rename_i pp hpp
  have hrec : ∀ (F : (T AVal → AVal → T AVal) → OK1), withP pp F = F pp.run := fun F => by cases pp; rfl
  rw [hrec]
  split
  · rename_i hg
    rw [opKb_run]
    exact genK_ends ok hcd he hpp (by unfold wantedA; rw [hg]) hn hK
  · rename_i j want hg
    split
    · trivial
    rename_i t ht
    split
    · trivial
    rename_i hlt
    have h2 : ∀ (a : OK1) (b : GK), (guardO tb.facts want pp.run a b).run K2 e sl xd h n =
        guardK tb.facts want (b.run sl) (a.run K2 e sl xd h n) (K2 e (pp.run sl (.lit undef)) xd h n) := fun a b => by cases a; cases b; rfl
    rw [h2, opKb_run, gk_run]
    have hwA : wantedA tb.facts (B.fr xd (.regL ops i (o :: r) :: k) sl .run) ops o = (match slot sl t with | .lit (.bool b) => some (b == want) | .lit (.tuple _) => some false | .sb e => (match decB tb.facts e with | some b => some (b == want) | none => none) | _ => none) := by
      unfold wantedA
      rw [hg]
      simp only [ht]
      have hlt' : Nat.blt t (B.fr xd (.regL ops i (o :: r) :: k) sl .run).nt = true := hlt
      rw [hlt']
      rfl
    unfold guardK
    change Ends E P B k _ (match slot sl t with | .lit (.bool b) => _ | .lit (.tuple _) => _ | .sb e => _ | _ => _)
    split
    · rename_i b hs
      rw [hs] at hwA
      simp only at hwA
      rw [ifB_eq]
      split
      · rename_i hb; exact genK_ends ok hcd he hpp (by rw [hwA, hb]) hn hK
      · rename_i hb; exact skip_ends ok hpp (by rw [hwA]; simpa using hb) hK
    · rename_i v hs
      rw [hs] at hwA
      exact skip_ends ok hpp hwA hK
    · rename_i q hs
      rw [hs] at hwA
      simp only at hwA
      split
      · rename_i b hb
        rw [hb] at hwA
        simp only at hwA
        rw [ifB_eq]
        split
        · rename_i hb; exact genK_ends ok hcd he hpp (by rw [hwA, hb]) hn hK
        · rename_i hb; exact skip_ends ok hpp (by rw [hwA]; simpa using hb) hK
      · trivial
    · trivial

theorem opsK_ends (ok : tb.OK P) (hcd : CdOK E tb P cd) (he : EvFOK E tb P e) : ∀ (l : List Oper) (i : Nat) sl xd h n, Ends E P B k (B.cfg xd (.regL ops i l :: k) sl h n) ((opsK tb P cd B.nt ops l).run e sl xd h n)
  | [], i, sl, xd, h, n => Leads.step ok (step_run rfl rfl)
  | o :: l, i, sl, xd, h, n => by
    have ih := opsK_ends ok hcd he l (i + 1)
    have h2 : ∀ (a : OK1) (b : CK), (consO a b).run e sl xd h n =
        ifB (Nat.ble 1000000000 n) (.bad "7") (a.run b.run e sl xd h n) := fun a b => by cases a; cases b; rfl
    change Ends E P B k _ ((consO (opK tb P cd B.nt ops o) (opsK tb P cd B.nt ops l)).run e sl xd h n)
    rw [h2, ifB_eq]
    split
    · trivial
    · rename_i hb
      exact opK_ends ok hcd he (by cases hq : Nat.ble 1000000000 n with | true => exact absurd hq hb | false => rfl) ih
end
end Go.Proofs.YtiemogegdoogaaaGreat.Eng

namespace Go.Proofs.YtiemogegdoogaaaGreat.Eng
open Go
variable [Interp]
variable {E : Nat → Option Value}

section
variable {tb : Tab} {P : Program} {cd : Nat → Nat → Code → CK} {e : Ev} {B : Base} {k : List AItem} {sl : T AVal} {xd : X} {h : H} {n : Nat}

theorem endS_round {l : Nat} {s s' : St} {stt : LoopState} {jump : Option Code} {v : AVal} {b : Bool} (hb : b = jump.isNone) (hstt : stt = stateAfter jump) (h : endS l s stt jump b = some (v, s')) {κ : Pl} {fr0 : Frame} {w : World} {c : Cfg} (hs : Sim κ c fr0 [] w) (hst : c.st = s)
    (hro : c.top.ro = some l) (hkind : c.top.kind = .normal)
    (hstep : ∀ lb v w' (g : Frame) cs', fr0.roundOf = some lb → fr0.kind = .normal → (Instr.endRound lb jump).run P w = .ok v w' → step P (lone fr0 (g :: cs') w) = .next (lone (g.finish v) cs' w')) :
    ∃ w' x, (∀ (fr : Frame) cs0, Steps P (lone fr0 (fr :: cs0) w) (lone (fr.finish x) cs0 w')) ∧ V κ v x ∧ Goes (· < s.next) κ s w κ s' w' := by
  subst hst
  unfold endS at h
  split at h
  case h_2 => cases h
  rename_i s1 hset
  cases h
  have hr := hs.top.ro
  rw [hro] at hr
  generalize hrr : fr0.roundOf = ro at hr
  cases hr with
  | @some _ lb hlb =>
  obtain ⟨rc, h1, h2⟩ := setLoop_sound (U := (· < c.st.next)) hs.rel hlb hset
  have hend := run_endRound (P := P) jump h1
  have hw : (if jump.isNone then LoopState.ready else LoopState.done) = stateAfter jump := by cases jump <;> rfl
  rw [hw, ← hstt] at hend
  subst hb
  exact ⟨_, _, fun fr cs0 => .one (hstep lb _ _ fr cs0 hrr (hs.top.kind.trans hkind) hend), .lit _, h2⟩

theorem roundS_ok (ok : tb.OK P) (hcd : CdOK E tb P cd) (he : EvFOK E tb P e) {l : Nat} {args : List AVal} {s : St} {r : AVal × St} (h : roundS cd e l args s = some r) : RoundP E P l args s r := by
  intro κ vs w lb hE hrel hvs hlb
  unfold roundS at h
  split at h
  case h_2 => cases h
  rename_i st0 pe0 fn nt sl ps a b d hg
  split at h
  case h_2 => cases h
  rename_i hc
  simp only [Bool.and_eq_true] at hc
  have hc1 : args.length = ps.size := by simpa [Nat.beq_eq] using hc.1
  have hc2 : ∀ p ∈ ps.toList, p < nt := fun p hp => by
    have := Array.all_eq_true_iff_forall_mem.1 hc.2 p (by simpa using hp)
    simpa [Nat.blt_eq] using this
  obtain ⟨ob, q2, q3⟩ := hrel.on hg hlb
  cases q3 with
  | @loop _ _ _ _ _ _ _ _ _ db tm q4 q5 =>
  have hy := run_yield (P := P) (args := vs.toArray) q2 (by rw [List.size_toArray, ← hvs.length]; exact hc1)
  have hz : ∀ (tm : Array Value), (ps.zip vs.toArray).foldl (fun tmps (t, a) => tmps.setIfInBounds t a) tm = (ps.toList.zip vs).foldl (fun t (p, v) => t.setIfInBounds p v) tm := fun tm => by
    rw [← Array.foldl_toList]; simp
  simp only [hz] at hy
  refine ⟨_, _, _, _, hy, fun fr cs0 => ?_⟩
  obtain ⟨sh, sn⟩ := s
  have h0 : Sim κ (Base.cfg ⟨fn, nt, .normal, []⟩ (.rnd l) [.code a, .beginRound, .code b] (foldPut ps.toList args sl) sh sn) (Frame.round lb fn ((ps.toList.zip vs).foldl (fun t (p, v) => t.setIfInBounds p v) tm) a b .normal) [] w := by
    refine ⟨?_, .nil, hrel⟩
    simp only [Frame.round]
    exact ⟨rfl, foldPut_sound _ _ _ _ _ q4 hc2 hvs, fun _ => .cons (.code _) (.cons .beginRound (.cons (.code _) .nil)), .nil, .run, rfl, .some hlb⟩
  have ha := hcd fn nt a e he .normal [] [.beginRound, .code b] rfl (foldPut ps.toList args sl) (.rnd l) sh sn
  split at h
  case h_2 => cases h
  rename_i sl1 l1 h1 n1 hra
  simp only at hra
  rw [hra] at ha
  have h1' : Leads E P (Base.cfg ⟨fn, nt, .normal, []⟩ (.rnd l) [.code a, .beginRound, .code b] (foldPut ps.toList args sl) sh sn) (Base.cfg ⟨fn, nt, .normal, []⟩ (.rnd l1) [.beginRound, .code b] sl1 h1 n1) := ha
  split at h
  case h_2 => cases h
  rename_i pe1 fn1 nt1 sl2 ps1 a1 b1 d1 hl1 hg1
  have hl1 := nbeq hl1
  subst hl1
  have hstep : stepA tb P (Base.cfg ⟨fn, nt, .normal, []⟩ (.rnd l1) [.beginRound, .code b] sl1 h1 n1) =
      some (Base.cfg ⟨fn, nt, .normal, []⟩ (.rnd l1) [.code b] sl1 (h1.put l1 (.loop .busy pe1 fn1 nt1 sl2 ps1 a1 b1 d1)) n1) :=
    step_run rfl (by unfold runStep; simp only [Base.cfg, Base.fr, X.ro, hg1])
  have h2' := h1'.trans (Leads.step ok hstep)
  have hb := hcd fn nt b e he .normal [] [] rfl sl1 (.rnd l1) (h1.put l1 (.loop .busy pe1 fn1 nt1 sl2 ps1 a1 b1 d1)) n1
  generalize (cd fn nt b).run e sl1 (.rnd l1) (h1.put l1 (.loop .busy pe1 fn1 nt1 sl2 ps1 a1 b1 d1)) n1 = rb at hb h
  have fin : ∀ (todo : List AItem) (jump : Option Code) (bb : Bool) (sl3 : T AVal) (h3 : H) (n3 : Nat) (stt : LoopState), bb = jump.isNone → stt = stateAfter jump →
      Leads E P (Base.cfg ⟨fn, nt, .normal, []⟩ (.rnd l1) [.code a, .beginRound, .code b] (foldPut ps.toList args sl) sh sn) (Base.cfg ⟨fn, nt, .normal, []⟩ (.rnd l1) todo sl3 h3 n3) →
      endS l1 { heap := h3, next := n3 } stt jump bb = some r →
      (∀ (κ : Pl) (fr0 : Frame) (w : World), Sim κ (Base.cfg ⟨fn, nt, .normal, []⟩ (.rnd l1) todo sl3 h3 n3) fr0 [] w → ∀ lb v w' (g : Frame) cs', fr0.roundOf = some lb → fr0.kind = .normal → (Instr.endRound lb jump).run P w = .ok v w' → step P (lone fr0 (g :: cs') w) = .next (lone (g.finish v) cs' w')) →
      ∃ κ' w' v, Steps P (lone (Frame.round lb fn ((ps.toList.zip vs).foldl (fun t (p, v) => t.setIfInBounds p v) tm) a b .normal) (fr :: cs0) w) (lone (fr.finish v) cs0 w') ∧ V κ' r.1 v ∧ Goes (· < sn) κ ⟨sh, sn⟩ w κ' r.2 w' := by
    intro todo jump bb sl3 h3 n3 stt e1 e2 hl hend hstp
    obtain ⟨κ1, fr1, cs1, w1, hst, hsim, hgo⟩ := hl κ _ [] w h0 hE (fr :: cs0)
    have hcs : cs1 = [] := by have := hsim.below; cases this; rfl
    subst hcs
    obtain ⟨v, s'⟩ := r
    obtain ⟨w2, x, k1, k2, k3⟩ := endS_round (P := P) e1 e2 hend hsim rfl rfl rfl (fun lb v w' g cs' a1 a2 a3 => hstp κ1 fr1 w1 hsim lb v w' g cs' a1 a2 a3)
    exact ⟨κ1, w2, x, hst.trans (k1 fr cs0), k2, hgo.trans (k3.less fun j hj => Nat.lt_of_lt_of_le hj hgo.next)⟩
  split at h
  · rename_i l3 h3 n3
    split at h
    case h_2 => cases h
    rename_i hl3
    have hl3 := nbeq hl3
    subst hl3
    refine fin [] none true _ h3 n3 .ready rfl rfl (h2'.trans hb) h (fun κ fr0 w hs lb v w' g cs' q1 q2 q3 => ?_)
    have ht := hs.top.todo rfl
    obtain ⟨ffn, tmps, todo, defers, mode, kind, ro⟩ := fr0
    have hm := mode_run hs.top rfl
    simp only at q1 q2 hm
    subst q1; subst q2; subst hm
    have ht : todo = [] := by simp only at ht; cases ht; rfl
    subst ht
    exact stepR_round_end (P := P) (b := ⟨ffn, tmps, [], defers, .run, .normal, some lb⟩) (a := ⟨tmps, defers⟩) (cs := cs') (c := g) (w := w) rfl rfl q3
  · rename_i l3 h3 n3
    split at h
    case h_2 => cases h
    rename_i hl3
    have hl3 := nbeq hl3
    subst hl3
    obtain ⟨k1, _, hb⟩ := hb
    refine fin (.code .ret :: k1) (some .ret) false _ h3 n3 .done rfl rfl (h2'.trans hb) h (fun κ fr0 w hs lb v w' g cs' q1 q2 q3 => ?_)
    have ht := hs.top.todo rfl
    obtain ⟨ffn, tmps, todo, defers, mode, kind, ro⟩ := fr0
    have hm := mode_run hs.top rfl
    simp only at q1 q2 hm
    subst q1; subst q2; subst hm
    simp only at ht
    obtain ⟨x1, k', rfl, hx1, _⟩ := ht.append_left
    cases hx1
    exact stepR_round_ret (P := P) (b := ⟨ffn, tmps, [], defers, .run, .normal, some lb⟩) (a := ⟨tmps, defers⟩) (k := k') (cs := cs') (c := g) (w := w) rfl rfl q3
  · rename_i id slx l3 h3 n3
    split at h
    case h_2 => cases h
    rename_i hl3
    have hl3 := nbeq hl3
    subst hl3
    obtain ⟨k1, hk1, _, hb⟩ := hb
    refine fin (.code (.exit id) :: k1) (some (.exit id)) false _ h3 n3 .done rfl rfl (h2'.trans hb) h (fun κ fr0 w hs lb v w' g cs' q1 q2 q3 => ?_)
    have ht := hs.top.todo rfl
    obtain ⟨ffn, tmps, todo, defers, mode, kind, ro⟩ := fr0
    have hm := mode_run hs.top rfl
    simp only at q1 q2 hm
    subst q1; subst q2; subst hm
    simp only at ht
    obtain ⟨x1, k', rfl, hx1, hk'⟩ := ht.append_left
    cases hx1
    have hex : exitTo id k' = none := (exitA_sound (id := id) hk').2 hk1
    exact stepR_round_exit (P := P) (b := ⟨ffn, tmps, [], defers, .run, .normal, some lb⟩) (a := ⟨tmps, defers⟩) (k := k') (cs := cs') (c := g) (w := w) rfl rfl hex q3
  · cases h

theorem evS_ok (ok : tb.OK P) (hcd : CdOK E tb P cd) (he : EvFOK E tb P e) : EvSOK E P (evS cd e) := by
  intro f args s r hr
  unfold evS at hr
  split at hr
  · rename_i hlt
    have hlt : f < 1000000000 := by simpa [Nat.blt_eq] using hlt
    refine ⟨fun _ => ?_, fun l hl => by subst hl; exact absurd hlt (Nat.not_lt.2 (Nat.le_add_right _ _))⟩
    intro κ vs w hE hrel hv
    have hs := he f args s.heap s.next
    split at hr
    case h_2 => cases hr
    rename_i v h' n' hev
    cases hr
    rw [hev] at hs
    obtain ⟨g, hg, H⟩ := hs
    obtain ⟨e1, e2, _⟩ := enterA_sound (w := w) ok hg hv
    refine ⟨e2, fun cs0 => ?_⟩
    obtain ⟨κ', fr', w', x, hst, hlv, hx, hgo, _⟩ := H κ _ w e1 hrel hE cs0
    exact ⟨κ', fr', w', x, hst, hlv, hx, hgo⟩
  · rename_i hlt
    refine ⟨fun hf => ?_, fun l hl => ?_⟩
    · have : Nat.blt f 1000000000 = true := by simpa [Nat.blt_eq] using hf
      rw [this] at hlt; cases hlt
    · subst hl
      have e : Nat.sub (Nat.add 1000000000 l) 1000000000 = l := Nat.add_sub_cancel_left _ _
      rw [e] at hr
      exact roundS_ok ok hcd he hr

theorem bindR_ends {k' : List AItem} {c0 : Cfg} {r : R1} {g : Fn1} (hr : Ends E P B k' c0 r) (hx : ∀ id, exitA id k' = exitA id k) (hp : Pre k' k) (hg : ∀ sl xd h n, Ends E P B k (B.cfg xd k' sl h n) (g e sl xd h n)) :
    Ends E P B k c0 (bindR r e g) := by
  cases r with
  | nrm sl xd h n => exact Ends.of hr (hg _ _ _ _)
  | ext id sl xd h n => obtain ⟨k1, h1, p1, h2⟩ := hr; exact ⟨k1, h1.trans (hx id), p1.trans hp, h2⟩
  | ret sl xd h n => obtain ⟨k1, p1, h2⟩ := hr; exact ⟨k1, p1.trans hp, h2⟩
  | pan ch sl xd h n => exact hr
  | bad w => trivial

theorem drawF_ends (ok : tb.OK P) (hcd : CdOK E tb P cd) (he : EvFOK E tb P e) {id : Nat} {ops : Array Oper} (hP : ∀ ch sl' s, drawP tb P (evS cd e) (evP e) B.nt ops sl { heap := h, next := n } = some (ch, sl', s) →
      ∃ k1, Leads E P (B.cfg xd (.code (.region id ops true) :: k) sl h n) (B.cfg xd k1 sl' s.heap s.next (.pan ch))) :
    Ends E P B k (B.cfg xd (.code (.region id ops true) :: k) sl h n) (drawF tb P cd B.nt ops e sl xd h n) := by
  unfold drawF
  split
  · rename_i sl' s hd
    intro κ fr cs w hs hE
    exact drawA_sound ok (evS_ok ok hcd he) hE hs rfl rfl (by
      unfold drawA
      change (match drawR tb P (evS cd e) B.nt ops sl { heap := h, next := n } with | some (sl, st) => some _ | none => none) = _
      rw [hd]
      rfl)
  · split
    · rename_i ch sl' s hd
      exact hP ch sl' s hd
    · trivial

theorem rangeEnd_ends (ok : tb.OK P) {l : Nat} : Ends E P B k (B.cfg xd (.endRF l :: k) sl h n) (rangeEnd l sl xd h n) := by
  unfold rangeEnd
  split
  case h_2 => trivial
  rename_i stt pe fn nt sl' ps a b d hg
  have hst : ∀ (hb : stt ≠ .busy), stepA tb P (B.cfg xd (.endRF l :: k) sl h n) = some (B.cfg xd (pend pe k) sl (h.put l (.loop .exhausted pe fn nt sl' ps a b d)) n) := fun hb => by
    refine step_run rfl ?_
    unfold runStep
    simp only [Base.cfg, Base.fr, hg]
    all_goals (cases stt <;> first | exact absurd rfl hb | rfl)
  have main : stt ≠ .busy → Ends E P B k (B.cfg xd (.endRF l :: k) sl h n) (pendR pe sl xd (h.put l (.loop .exhausted pe fn nt sl' ps a b d)) n) := by
    intro hb
    have hL := Leads.step (E := E) ok (hst hb)
    cases pe with
    | none => exact hL
    | some j => cases j <;> first | trivial | exact ⟨_, .refl _, hL⟩ | exact ⟨_, rfl, .refl _, hL⟩
  cases stt with
  | busy => trivial
  | ready => exact main (by simp)
  | done => exact main (by simp)
  | exhausted => exact main (by simp)

theorem rangeF_ends (ok : tb.OK P) (he : EvFOK E tb P e) {p0 : Operand} {ps : Array Nat} {a b : Code} {g : T AVal → AVal} (hq : g sl = opnd sl p0) :
    Ends E P B k (B.cfg xd (.code (.rangeFunc p0 ps a b) :: k) sl h n) (rangeF B.fn B.nt ps a b g e sl xd h n) := by
  unfold rangeF
  split
  case h_2 => trivial
  rename_i f l m hgf
  rw [hq] at hgf
  rw [ifB_eq]
  split
  · trivial
  rename_i hlim
  have hlim : Nat.ble 1000000000 (n + 1) = false := by cases hq : Nat.ble 1000000000 (n + 1) with | true => exact absurd hq hlim | false => rfl
  have fin : ∀ (xd' : X) (l' : Nat) (v : AVal), finA (B.fr xd' (.inRF l' :: k) sl .run) v = some (B.fr xd' (.endRF l' :: k) sl .run) := fun _ _ _ => rfl
  have back : ∀ (xd' : X) (l' : Nat) (h1 : H) (n1 : Nat) (c0 : Cfg), (∀ g, enterA tb f (l ++ [AVal.yld l'] ++ m) .normal = some g → Leads E P c0 ⟨g, B.fr xd' (.inRF l' :: k) sl .run :: B.below, { heap := h1, next := n1 }⟩) →
      Ends E P B k c0 (onR2 (e f (l ++ [AVal.yld l'] ++ m) h1 n1) (fun _ h' n' => rangeEnd l' sl xd' h' n') (fun ch h' n' => .pan ch sl xd' h' n')) := by
    intro xd' l' h1 n1 c0 h0
    have hspec := he f (l ++ [AVal.yld l'] ++ m) h1 n1
    cases hres : e f (l ++ [AVal.yld l'] ++ m) h1 n1 with
    | bad w => trivial
    | ret v h' n' =>
      rw [hres] at hspec
      obtain ⟨G, hG, _⟩ := hspec
      exact Ends.of ((h0 G hG).trans (call_ret ok he hres hG rfl (fin xd' l' v))) (rangeEnd_ends ok)
    | pan ch h' n' =>
      rw [hres] at hspec
      obtain ⟨G, hG, _⟩ := hspec
      exact ⟨_, (h0 G hG).trans (call_pan ok he hres hG rfl)⟩
  have hrun : ∀ (q : Cfg), q.top.todo = .code (.rangeFunc p0 ps a b) :: k → runStep tb P q = codeStep tb q (.rangeFunc p0 ps a b) k := fun q hq => by unfold runStep; rw [hq]
  have hstep : ∀ {c'}, codeStep tb (B.cfg xd (.code (.rangeFunc p0 ps a b) :: k) sl h n) (.rangeFunc p0 ps a b) k = some c' → stepA tb P (B.cfg xd (.code (.rangeFunc p0 ps a b) :: k) sl h n) = some c' := fun hc => step_run rfl ((hrun _ rfl).trans hc)
  split
  · rename_i ds
    refine back _ _ _ _ _ fun G hG => Leads.step ok (hstep ?_)
    unfold codeStep
    simp only [Base.cfg, Base.fr, X.ro, X.ds, hgf, hlim, cond_false, hG]
  · rename_i r
    split
    case h_2 => trivial
    rename_i st0 pe0 fn0 nt0 sl0 ps0 a0 b0 d hr
    refine back _ _ _ _ _ fun G hG => Leads.step ok (hstep ?_)
    unfold codeStep
    simp only [Base.cfg, Base.fr, X.ro, X.ds, hgf, hlim, cond_false, hr, hG]

theorem loopC_aux (m : Nat) (c : CK) : (CK.rec (motive := fun _ => CK) (fun f => .mk (loopR f m)) c : CK).run = loopR c.run m := by cases c; rfl
theorem loopC_run (c : CK) : (loopC c).run = loopR c.run loopFuel := loopC_aux loopFuel c

def DrawPOK (E : Nat → Option Value) (tb : Tab) (P : Program) : Prop := ∀ (cd : Nat → Nat → Code → CK), CdOK E tb P cd → ∀ (e : Ev), EvFOK E tb P e → ∀ (B : Base) (xd : X) (k : List AItem) (id : Nat) (ops : Array Oper) sl h n ch sl' s,
  drawP tb P (evS cd e) (evP e) B.nt ops sl { heap := h, next := n } = some (ch, sl', s) → ∃ k1, Leads E P (B.cfg xd (.code (.region id ops true) :: k) sl h n) (B.cfg xd k1 sl' s.heap s.next (.pan ch))

theorem loopR_ends (ok : tb.OK P) {b : Code} {f : Fn1} (hf : ∀ (k : List AItem), k.all pureI = true → ∀ sl xd h n, Ends E P B k (B.cfg xd (.code b :: k) sl h n) (f e sl xd h n)) (hk : k.all pureI = true) : ∀ (m : Nat) sl xd h n,
    Ends E P B k (B.cfg xd (.code b :: .inLoop b :: k) sl h n) (loopR f m e sl xd h n)
  | 0, _, _, _, _ => trivial
  | m + 1, sl, xd, h, n => by
    change Ends E P B k _ (bindR (f e sl xd h n) e (loopR f m))
    refine bindR_ends (hf (.inLoop b :: k) (by simp [pureI, hk]) sl xd h n) (fun id => rfl) (.cons rfl) fun sl xd h n => ?_
    exact Ends.of (Leads.step ok (step_run rfl rfl)) (loopR_ends ok hf hk m sl xd h n)

noncomputable def childC (d : Bool) : Code → Option Code
  | .seq a b => some (bif d then b else a)
  | .cond _ a b => some (bif d then b else a)
  | .block _ b => bif d then none else some b
  | .loop b => bif d then none else some b
  | .scope b => bif d then none else some b
  | _ => none
noncomputable def codeAt (c0 : Code) : List Bool → Option Code
  | [] => some c0
  | d :: π => match codeAt c0 π with
    | some c => childC d c
    | none => none
def LpOK (E : Nat → Option Value) (tb : Tab) (P : Program) (fn nt : Nat) (c0 : Code) (lp : List Bool → CK → CK) : Prop := ∀ π k b, codeAt c0 π = some (.loop b) → CodeOK E tb P fn nt (.loop b) k.run → CodeOK E tb P fn nt (.loop b) (lp π k).run
theorem noLp_ok {fn nt : Nat} {c0 : Code} : LpOK E tb P fn nt c0 noLp := fun _ _ _ _ h => h

theorem codeKL_ok (ok : tb.OK P) (hD : DrawPOK E tb P) (hcd : CdOK E tb P cd) {fn nt : Nat} {c0 : Code} {lp : List Bool → CK → CK} (hlp : LpOK E tb P fn nt c0 lp) :
    ∀ (c : Code) (π : List Bool), codeAt c0 π = some c → CodeOK E tb P fn nt c (codeKL tb P lp cd fn nt c π).run := by
  intro c
  induction c with
  | skip => intro π hπ e he kind below k hk sl xd h n; exact Leads.step ok (step_run rfl rfl)
  | label l => intro π hπ e he kind below k hk sl xd h n; exact Leads.step ok (step_run rfl rfl)
  | region id ops draw =>
    intro π hπ e he kind below k hk sl xd h n
    cases draw with
    | false => exact Ends.of (Leads.step ok (step_run rfl rfl)) (opsK_ends (B := ⟨fn, nt, kind, below⟩) ok hcd he ops.toList 0 sl xd h n)
    | true => exact drawF_ends (B := ⟨fn, nt, kind, below⟩) ok hcd he fun ch sl' s hd => hD cd hcd e he ⟨fn, nt, kind, below⟩ xd k id ops sl h n ch sl' s hd
  | seq a b iha ihb =>
    intro π hπ e he kind below k hk sl xd h n
    have pa : codeAt c0 (false :: π) = some a := by simp only [codeAt, hπ, childC, cond_false]
    have pb : codeAt c0 (true :: π) = some b := by simp only [codeAt, hπ, childC, cond_true]
    have h2 : (codeKL tb P lp cd fn nt (.seq a b) π).run e sl xd h n = bindR ((codeKL tb P lp cd fn nt a (false :: π)).run e sl xd h n) e (codeKL tb P lp cd fn nt b (true :: π)).run := by
      change (seqC (codeKL tb P lp cd fn nt a (false :: π)) (codeKL tb P lp cd fn nt b (true :: π))).run e sl xd h n = _
      cases codeKL tb P lp cd fn nt a (false :: π); cases codeKL tb P lp cd fn nt b (true :: π); rfl
    rw [h2]
    refine Ends.of (Leads.step ok (step_run rfl rfl)) (bindR_ends (iha _ pa e he kind below (.code b :: k) (by simp [pureI, hk]) sl xd h n) (fun id => rfl) (.cons rfl) fun sl xd h n => ihb _ pb e he kind below k hk sl xd h n)
  | cond q a b iha ihb =>
    intro π hπ e he kind below k hk sl xd h n
    have pa : codeAt c0 (false :: π) = some a := by simp only [codeAt, hπ, childC, cond_false]
    have pb : codeAt c0 (true :: π) = some b := by simp only [codeAt, hπ, childC, cond_true]
    have h2 : (codeKL tb P lp cd fn nt (.cond q a b) π).run e sl xd h n = condR (.cond ((gk q).run sl)) (asB tb.facts ((gk q).run sl)) ((codeKL tb P lp cd fn nt a (false :: π)).run e sl xd h n) ((codeKL tb P lp cd fn nt b (true :: π)).run e sl xd h n) := by
      change (condC tb (gk q) (codeKL tb P lp cd fn nt a (false :: π)) (codeKL tb P lp cd fn nt b (true :: π))).run e sl xd h n = _
      cases gk q; cases codeKL tb P lp cd fn nt a (false :: π); cases codeKL tb P lp cd fn nt b (true :: π); rfl
    rw [h2, gk_run]
    unfold condR
    cases hb : asB tb.facts (opnd sl q) with
    | none => trivial
    | some t =>
      have hq := asB_some hb
      simp only [ifB_eq]
      have hst : stepA tb P (Base.cfg ⟨fn, nt, kind, below⟩ xd (.code (.cond q a b) :: k) sl h n) = some (Base.cfg ⟨fn, nt, kind, below⟩ xd (.code (bif t then a else b) :: k) sl h n) :=
        step_run rfl (by
          unfold runStep
          change codeStep tb _ (.cond q a b) k = _
          unfold codeStep
          change (match boolA tb.facts (opnd sl q) with | some t => _ | none => none) = _
          rw [hq]
          rfl)
      cases t with
      | true => exact Ends.of (Leads.step ok hst) (iha _ pa e he kind below k hk sl xd h n)
      | false => exact Ends.of (Leads.step ok hst) (ihb _ pb e he kind below k hk sl xd h n)
  | block id b ih =>
    intro π hπ e he kind below k hk sl xd h n
    have pb : codeAt c0 (false :: π) = some b := by simp only [codeAt, hπ, childC, cond_false]
    have h2 : (codeKL tb P lp cd fn nt (.block id b) π).run e sl xd h n = blockR id ((codeKL tb P lp cd fn nt b (false :: π)).run e sl xd h n) := by
      change (blockC id (codeKL tb P lp cd fn nt b (false :: π))).run e sl xd h n = _
      cases codeKL tb P lp cd fn nt b (false :: π); rfl
    rw [h2]
    refine Ends.of (Leads.step ok (step_run rfl rfl)) ?_
    have := ih _ pb e he kind below (.inBlock id :: k) (by simp [pureI, hk]) sl xd h n
    cases hr : (codeKL tb P lp cd fn nt b (false :: π)).run e sl xd h n with
    | nrm sl xd h n => rw [hr] at this; exact this.trans (Leads.step ok (step_run rfl rfl))
    | ext j sl xd h n =>
      rw [hr] at this
      obtain ⟨k1, hk1, hp1, hl⟩ := this
      change Ends E P _ k _ (ifB (Nat.beq j id) _ _)
      rw [ifB_eq]
      simp only [exitA] at hk1
      split
      · rename_i hj
        have hj' : Nat.beq id j = true := by rw [Nat.beq_eq] at hj ⊢; exact hj.symm
        rw [hj'] at hk1
        refine hl.trans (Leads.step ok (step_run rfl ?_))
        unfold runStep
        change codeStep tb _ (.exit j) k1 = _
        unfold codeStep
        simp only [hk1, cond_true]
        rfl
      · rename_i hj
        have hj' : Nat.beq id j = false := by
          rw [Bool.eq_false_iff]; intro e; rw [Nat.beq_eq] at e; exact hj (by rw [Nat.beq_eq]; exact e.symm)
        rw [hj'] at hk1
        exact ⟨k1, hk1, hp1.trans (.cons rfl), hl⟩
    | ret sl xd h n => rw [hr] at this; obtain ⟨k1, hp1, hl⟩ := this; exact ⟨k1, hp1.trans (.cons rfl), hl⟩
    | pan ch sl xd h n => rw [hr] at this; exact this
    | bad w => trivial
  | loop b ih =>
    intro π hπ e he kind below k hk sl xd h n
    have pb : codeAt c0 (false :: π) = some b := by simp only [codeAt, hπ, childC, cond_false]
    change Ends E P _ k _ ((lp π (loopC (codeKL tb P lp cd fn nt b (false :: π)))).run e sl xd h n)
    refine hlp π _ b hπ (fun e he kind below k hk sl xd h n => ?_) e he kind below k hk sl xd h n
    rw [loopC_run]
    exact Ends.of (Leads.step ok (step_run rfl rfl)) (loopR_ends ok (fun k hk sl xd h n => ih _ pb e he kind below k hk sl xd h n) hk loopFuel sl xd h n)
  | scope b ih =>
    intro π hπ e he kind below k hk sl xd h n
    have pb : codeAt c0 (false :: π) = some b := by simp only [codeAt, hπ, childC, cond_false]
    refine Ends.of (Leads.step ok (step_run rfl rfl)) ?_
    have := ih _ pb e he kind below (.inScope b :: k) (by simp [pureI, hk]) sl xd h n
    change Ends E P _ k _ ((codeKL tb P lp cd fn nt b (false :: π)).run e sl xd h n)
    cases hr : (codeKL tb P lp cd fn nt b (false :: π)).run e sl xd h n with
    | nrm sl xd h n => rw [hr] at this; exact this.trans (Leads.step ok (step_run rfl rfl))
    | ext j sl xd h n => rw [hr] at this; obtain ⟨k1, hk1, hp1, hl⟩ := this; exact ⟨k1, hk1, hp1.trans (.cons rfl), hl⟩
    | ret sl xd h n => rw [hr] at this; obtain ⟨k1, hp1, hl⟩ := this; exact ⟨k1, hp1.trans (.cons rfl), hl⟩
    | pan ch sl xd h n => rw [hr] at this; exact this
    | bad w => trivial
  | exit id => intro π hπ e he kind below k hk sl xd h n; exact ⟨k, rfl, .refl _, Leads.refl⟩
  | ret => intro π hπ e he kind below k hk sl xd h n; exact ⟨k, .refl _, Leads.refl⟩
  | rangeFunc q ps a b =>
    intro π hπ e he kind below k hk sl xd h n
    have h2 : (codeKL tb P lp cd fn nt (.rangeFunc q ps a b) π).run e sl xd h n = rangeF fn nt ps a b (gk q).run e sl xd h n := by
      change (rangeC fn nt ps a b (gk q)).run e sl xd h n = _
      cases gk q; rfl
    rw [h2]
    exact rangeF_ends (B := ⟨fn, nt, kind, below⟩) ok he (gk_run q sl)
  | goto l => intro π hπ e he kind below k hk sl xd h n; trivial
  | refuse w => intro π hπ e he kind below k hk sl xd h n; trivial

theorem codeK_ok (ok : tb.OK P) (hD : DrawPOK E tb P) (hcd : CdOK E tb P cd) (fn nt : Nat) (c : Code) : CodeOK E tb P fn nt c (codeK tb P cd fn nt c).run := codeKL_ok ok hD hcd (c0 := c) noLp_ok c [] rfl

theorem cdN_ok (ok : tb.OK P) (hD : DrawPOK E tb P) : ∀ d, CdOK E tb P (cdN tb P d)
  | 0 => fun _ _ _ _ _ _ _ _ _ _ _ _ _ => trivial
  | d + 1 => fun fn nt c => codeK_ok ok hD (cdN_ok ok hD d) fn nt c
end
end Go.Proofs.YtiemogegdoogaaaGreat.Eng

namespace Go.Proofs.YtiemogegdoogaaaGreat.Eng
open Go
variable [Interp]
variable {E : Nat → Option Value}

def EndsF (E : Nat → Option Value) (P : Program) (f : Nat) (c : Cfg) : R2 → Prop
  | .ret v h' n' => ∀ κ fr cs w, Sim κ c fr cs w → EnvIn E κ → ∀ cs0, ∃ κ' fr' w' x, Steps P (lone fr (cs ++ cs0) w) (lone fr' cs0 w') ∧
      fr'.leaving P w' (.returned x) ∧ V κ' v x ∧ Goes (· < c.st.next) κ c.st w κ' { heap := h', next := n' } w' ∧ fr'.fn = f
  | .pan ch h' n' => ∀ κ fr cs w, Sim κ c fr cs w → EnvIn E κ → ∀ cs0, ∃ κ' fr' w' ch', Steps P (lone fr (cs ++ cs0) w) (lone fr' cs0 w') ∧
      fr'.leaving P w' (.panicked ch') ∧ All2 (PR κ') ch ch' ∧ Goes (· < c.st.next) κ c.st w κ' { heap := h', next := n' } w' ∧ fr'.fn = f
  | .bad _ => True

section
variable {tb : Tab} {P : Program}

theorem EndsF.of {f : Nat} {c c1 : Cfg} (h : Leads E P c c1) : ∀ {r : R2}, EndsF E P f c1 r → EndsF E P f c r
  | .ret .., h' => fun κ fr cs w hs hE cs0 => by
    obtain ⟨κ1, fr1, cs1, w1, s1, sim1, g1⟩ := h κ fr cs w hs hE cs0
    obtain ⟨κ2, fr2, w2, v, s2, l2, v2, g2, f2⟩ := h' κ1 fr1 cs1 w1 sim1 (hE.le g1.le) cs0
    exact ⟨κ2, fr2, w2, v, s1.trans s2, l2, v2, g1.trans (g2.less fun j hj => Nat.lt_of_lt_of_le hj g1.next), f2⟩
  | .pan .., h' => fun κ fr cs w hs hE cs0 => by
    obtain ⟨κ1, fr1, cs1, w1, s1, sim1, g1⟩ := h κ fr cs w hs hE cs0
    obtain ⟨κ2, fr2, w2, v, s2, l2, v2, g2, f2⟩ := h' κ1 fr1 cs1 w1 sim1 (hE.le g1.le) cs0
    exact ⟨κ2, fr2, w2, v, s1.trans s2, l2, v2, g1.trans (g2.less fun j hj => Nat.lt_of_lt_of_le hj g1.next), f2⟩
  | .bad _, _ => trivial

theorem pan_ends (ok : tb.OK P) {f : Nat} {c : Cfg} {ch : List (AVal × Bool)} {F : Func} (hm : c.top.mode = .pan ch) (hd : c.top.defers = []) (hb : c.below = []) (hF : tb.func c.top.fn = some F) (hf : c.top.fn = f) :
    EndsF E P f c (.pan ch c.st.heap c.st.next) := fun κ fr cs w hs hE cs0 => by
  have hbl := hs.below
  rw [hb] at hbl
  have hcs : cs = [] := by cases hbl; rfl
  subst hcs
  have hP := ok.func _ _ hF
  rw [← hs.top.fn] at hP
  have hds := hs.top.defers
  rw [hd] at hds
  have ed : fr.defers = [] := by generalize fr.defers = d at hds; cases hds; rfl
  have hmode := hs.top.mode
  rw [hm] at hmode
  generalize hfm : fr.mode = fm at hmode
  cases hmode with
  | @pan _ ch' hchr => exact ⟨κ, fr, w, ch', .refl P _, ⟨hfm, ed, F, hP⟩, hchr, .refl hs.rel, hs.top.fn.trans hf⟩

theorem done_ends (ok : tb.OK P) {f : Nat} {c : Cfg} {v : AVal} {s : St} {fn : Nat} (h : doneA tb c = some (v, s, fn)) (hf : fn = f) : EndsF E P f c (.ret v s.heap s.next) := fun κ fr cs w hs hE cs0 => by
  obtain ⟨h1, x, h2, h3, h4, h5⟩ := doneA_sound ok hs h
  subst h1
  exact ⟨κ, fr, w, x, .refl P _, h2, h3, by simp only at h4; rw [h4]; exact .refl hs.rel, h5.trans hf⟩

theorem arunS_ends (ok : tb.OK P) {f n : Nat} : ∀ (m : Nat) (c : Cfg), EndsF E P f c (arunS tb P f n m c)
  | 0, _ => trivial
  | m + 1, c => by
    unfold arunS
    split
    · rename_i v s fn hd
      rw [ifB_eq]
      split
      · rename_i hb; exact done_ends ok hd (by simpa [Nat.beq_eq] using hb)
      · trivial
    · split
      · rename_i ch F hm hds hbl hF
        rw [ifB_eq]
        split
        · rename_i hb; exact pan_ends ok hm hds hbl hF (by simpa [Nat.beq_eq] using hb)
        · trivial
      · split
        · rename_i c' hn
          exact EndsF.of (fun κ fr cs w hs hE => nextA_sound ok (evOf_ok ok (arun_sound ok n)) hE hs hn) (arunS_ends ok m c')
        · trivial

noncomputable def outCfg (fn nt : Nat) (todo : List AItem) (mode : AMode) (sl : T AVal) (ds : List ADef) (h : H) (n : Nat) : Cfg :=
  ⟨{ fn, nt, slots := sl, todo, defers := ds, mode, kind := .normal, ro := none }, [], { heap := h, next := n }⟩

theorem outCfg_todo {fn nt : Nat} {todo : List AItem} {mode : AMode} (hm : mode ≠ .run) {sl : T AVal} {ds : List ADef} {h : H} {n : Nat} : Leads E P (outCfg fn nt todo mode sl ds h n) (outCfg fn nt [] mode sl ds h n) :=
  fun κ fr cs w hs _ _ => ⟨κ, fr, cs, w, .refl P _, ⟨⟨hs.top.fn, hs.top.slots, fun e => absurd e hm, hs.top.defers, hs.top.mode, hs.top.kind, hs.top.ro⟩, hs.below, hs.rel⟩, .refl hs.rel⟩

theorem leaveF_ends (ok : tb.OK P) {fn nt : Nat} {mode : AMode} (hm : mode ≠ .run) {sl : T AVal} {ds : List ADef} {h : H} {n : Nat} : EndsF E P fn (outCfg fn nt [] mode sl ds h n) (leaveF tb P fn nt mode sl ds h n) := by
  unfold leaveF
  split
  · split
    · unfold resF
      split
      · rename_i v hv
        exact done_ends ok (c := outCfg fn nt [] .ret sl [] h n) (v := v) (s := { heap := h, next := n }) (fn := fn) (by unfold doneA; simp only [outCfg, hv]) rfl
      · trivial
    · split
      · rename_i ch _ F hF
        exact pan_ends ok (c := outCfg fn nt [] (.pan ch) sl [] h n) rfl rfl rfl hF rfl
      · trivial
    · trivial
  · exact arunS_ends ok _ _

theorem endF_ends (ok : tb.OK P) {fn nt : Nat} {c0 : Cfg} : ∀ {r : R1}, Ends E P ⟨fn, nt, .normal, []⟩ [] c0 r → EndsF E P fn c0 (endF tb P fn nt r)
  | .nrm sl xd h n, he => by
    cases xd with
    | rnd l => trivial
    | top ds =>
      have h1 : Leads E P c0 (outCfg fn nt [] .ret sl ds h n) := Leads.trans he (Leads.step ok (step_run rfl (by unfold runStep; rfl)))
      exact EndsF.of h1 (leaveF_ends ok (by simp))
  | .ret sl xd h n, ⟨k1, _, he⟩ => by
    cases xd with
    | rnd l => trivial
    | top ds =>
      have h1 : Leads E P c0 (outCfg fn nt (.code .ret :: k1) .ret sl ds h n) := Leads.trans he (Leads.step ok (step_run rfl (by unfold runStep; rfl)))
      exact EndsF.of (h1.trans (outCfg_todo (by simp))) (leaveF_ends ok (by simp))
  | .pan ch sl xd h n, ⟨k1, he⟩ => by
    cases xd with
    | rnd l => trivial
    | top ds =>
      have h1 : Leads E P c0 (outCfg fn nt k1 (.pan ch) sl ds h n) := he
      exact EndsF.of (h1.trans (outCfg_todo (by simp))) (leaveF_ends ok (by simp))
  | .ext .., _ => trivial
  | .bad _, _ => trivial

theorem callFL_ends (ok : tb.OK P) (hD : DrawPOK E tb P) {e : Ev} (he : EvFOK E tb P e) {lp : List Bool → CK → CK} {f : FuncId} (hlp : ∀ F c, tb.func f = some F → F.body = some c → LpOK E tb P f F.ntmps c lp) (args : List AVal) (h : H) (n : Nat) :
    match callFL tb P lp e f args h n with
    | .ret v h' n' => ∃ g, enterA tb f args .normal = some g ∧ ∀ κ fr w, FR κ g fr → Rel κ { heap := h, next := n } w → EnvIn E κ → ∀ cs, ∃ κ' fr' w' x, Steps P (lone fr cs w) (lone fr' cs w') ∧
        fr'.leaving P w' (.returned x) ∧ V κ' v x ∧ Goes (· < n) κ { heap := h, next := n } w κ' { heap := h', next := n' } w' ∧ fr'.fn = f
    | .pan ch h' n' => ∃ g, enterA tb f args .normal = some g ∧ ∀ κ fr w, FR κ g fr → Rel κ { heap := h, next := n } w → EnvIn E κ → ∀ cs, ∃ κ' fr' w' ch', Steps P (lone fr cs w) (lone fr' cs w') ∧
        fr'.leaving P w' (.panicked ch') ∧ All2 (PR κ') ch ch' ∧ Goes (· < n) κ { heap := h, next := n } w κ' { heap := h', next := n' } w' ∧ fr'.fn = f
    | .bad _ => True := by
  have key : callFL tb P lp e f args h n = .bad (match callFL tb P lp e f args h n with | .bad w => w | _ => .s "") ∨ ∃ g, enterA tb f args .normal = some g ∧ EndsF E P f ⟨g, [], { heap := h, next := n }⟩ (callFL tb P lp e f args h n) := by
    have hbad : ∀ {r : R2} {w}, r = .bad w → r = .bad (match r with | .bad w => w | _ => .s "") := fun h => by rw [h]
    unfold callFL withF fkL
    cases hF : tb.func f with
    | none => exact .inl rfl
    | some F =>
      simp only
      cases hb : F.body with
      | none => exact .inl rfl
      | some c =>
        simp only [ifB_eq]
        split
        case isFalse => exact .inl rfl
        rename_i hlt
        unfold mkF
        cases hc : codeKL tb P lp (cdN tb P 20) f F.ntmps c [] with
        | mk body =>
        change _ ∨ ∃ g, _ ∧ EndsF E P f _ (if Nat.ble args.length F.ntmps = true then endF tb P f F.ntmps (body e (slotsOf 0 args .leaf) (.top []) h n) else .bad "23")
        have hc2 := codeKL_ok ok hD (cdN_ok ok hD 20) (hlp F c hF hb) c [] rfl e he .normal [] [] rfl (slotsOf 0 args .leaf) (.top []) h n
        rw [hc] at hc2
        cases hle : Nat.ble args.length F.ntmps with
        | false => exact .inl (hbad (w := .s "23") (by change (if Nat.ble args.length F.ntmps = true then _ else _) = _; rw [hle]; rfl))
        | true =>
          refine .inr ⟨_, ?_, EndsF.of (c1 := Base.cfg ⟨f, F.ntmps, .normal, []⟩ (.top []) [.code c] (slotsOf 0 args .leaf) h n) Leads.refl ?_⟩
          · unfold enterA
            simp only [hF, hb, hle, hlt, Bool.and_self, cond_true]
            rfl
          · rw [if_pos rfl]
            exact endF_ends ok hc2
  rcases key with hb | ⟨g, hg, hE⟩
  · rw [hb]; trivial
  · cases hr : callFL tb P lp e f args h n with
    | bad w => trivial
    | ret v h' n' =>
      rw [hr] at hE
      exact ⟨g, hg, fun κ fr w hf hrel hen => hE κ fr [] w ⟨hf, .nil, hrel⟩ hen⟩
    | pan ch h' n' =>
      rw [hr] at hE
      exact ⟨g, hg, fun κ fr w hf hrel hen => hE κ fr [] w ⟨hf, .nil, hrel⟩ hen⟩

theorem callF_ends (ok : tb.OK P) (hD : DrawPOK E tb P) {e : Ev} (he : EvFOK E tb P e) : EvFOK E tb P (callF tb P e) := fun f args h n => callFL_ends ok hD he (fun _ _ _ _ => noLp_ok) args h n

theorem evN_ok (ok : tb.OK P) (hD : DrawPOK E tb P) : ∀ d, EvFOK E tb P (evN tb P d)
  | 0 => fun _ _ _ _ => trivial
  | d + 1 => callF_ends ok hD (evN_ok ok hD d)

theorem evN_sound (ok : tb.OK P) (hD : DrawPOK E tb P) {d f : Nat} {args : List AVal} {vs : List Value} {h h' : H} {n n' : Nat} {v : AVal} {κ : Pl} {w : World} (hr : Rel κ { heap := h, next := n } w) (hEn : EnvIn E κ) (hv : VL κ args vs)
    (hev : evN tb P d f args h n = .ret v h' n') : Calls P f vs.toArray w fun e w' => ∃ κ' x, e = .returned x ∧ V κ' v x ∧ Goes (· < n) κ { heap := h, next := n } w κ' { heap := h', next := n' } w' := by
  have h1 := evN_ok ok hD d f args h n
  rw [hev] at h1
  obtain ⟨g, hg, H⟩ := h1
  obtain ⟨e1, e2, _⟩ := enterA_sound (w := w) ok hg hv
  intro cs
  obtain ⟨κ', fr', w', x, hst, hl, hx, hgo, hfn⟩ := H κ _ w e1 hr hEn cs
  exact ⟨.returned x, w', fr', ⟨κ', x, rfl, hx, hgo⟩, hst, hfn, hl⟩

noncomputable def litR (r : R2) : Option Value := match r with | .ret (.lit v) _ _ => some v | _ => none

theorem evN_lit (ok : tb.OK P) (hD : DrawPOK (fun _ => none) tb P) {d f : Nat} {vs : List Value} {v : Value} {w : World} (h : litR (evN tb P d f (vs.map .lit) .leaf 0) = some v) :
    Calls P f vs.toArray w fun e w' => e = .returned v ∧ w.heap.size ≤ w'.heap.size ∧ (∀ b, b < w.heap.size → w'.heap[b]? = w.heap[b]?) ∧ w'.os = w.os ∧ w'.output = w.output ∧ w'.tape = w.tape := by
  unfold litR at h
  split at h
  case h_2 => cases h
  rename_i v' h' n' hev
  cases h
  refine (evN_sound (E := fun _ => none) ok hD (rel_nil (E := fun _ => none) w) (fun _ _ h => nomatch h) (VL.lits vs) hev).mono fun e w' ⟨κ', x, h1, h2, h3⟩ => ?_
  rw [h1, h2.of_lit rfl]
  exact ⟨rfl, h3.size, fun b hb => h3.old b hb fun i hl => absurd hl (not_may_leaf _ _), h3.os, h3.output, h3.tape⟩
end
end Go.Proofs.YtiemogegdoogaaaGreat.Eng

namespace Go.Proofs.YtiemogegdoogaaaGreat.Eng
open Go
variable [Interp]
variable {E : Nat → Option Value}

section
variable {tb : Tab} {P : Program} {ev : EvS} {g : Rg} {d : DS}

theorem region_runP {κ0 : Pl} (ok : tb.OK P) (hev : EvSOK E P ev) (hE : EnvIn E κ0) (rok : RgOK g) {σ0 : St} (F : DFacts tb P ev g σ0 d) {i : Nat} {o : Oper} (ho : g.ops[i]? = some o) (hall : ∀ j, j < g.ops.size → j ≠ i → Nat.testBit d.D j = true)
    (hreads : ∀ j oj, g.ops[j]? = some oj → j ≠ i → clsOf tb oj = .read → g.wanted d.vals (g.mask j) oj = some true → readsOk tb P g d.vals j oj (d.es.foldl (fun m e => m ||| 2 ^ e) 0) d.es (d.st :: d.σs) = true)
    {s0 : St} {W0 : World} {dfs : List Deferred} (hid : s0.next ≤ g.id0) {b : Frame} {k : List Item} {cs : List Frame} :
    ∀ (fuel t : Nat) (listed : Array Bool) (a : Act) (w : World) (q : Nat) (κ : Pl) (σ : St), Inv g d κ0 s0 W0 dfs listed a w q κ σ → listed.getD i false = false → left g listed ≤ fuel →
    ∃ listed' a' w' q' κ' σ' rst, Steps P (lone (b.atR a (.inRegion g.ops (Region.linearise.go .any g.ops fuel t listed []) :: k)) cs w) (lone (b.atR a' (.inRegion g.ops (i :: rst) :: k)) cs w') ∧
      Inv g d κ0 s0 W0 dfs listed' a' w' q' κ' σ' ∧ listed'.getD i false = false ∧ ∀ e ∈ o.after, bindsA e = true → listed'.getD e.on false = true := by
  have hii : i < g.ops.size := (Array.getElem?_eq_some_iff.1 ho).1
  intro fuel
  induction fuel with
  | zero =>
    intro t listed a w q κ σ I hun hl
    have h0 : (List.range g.ops.size).countP (fun i => !listed.getD i false) = 0 := by unfold left at hl; omega
    have := List.countP_eq_zero.1 h0 i (List.mem_range.2 hii)
    rw [hun] at this
    exact absurd rfl this
  | succ fuel ih =>
    intro t listed a w q κ σ I hun hl
    have hgo : Region.linearise.go .any g.ops (fuel + 1) t listed [] = (match (Region.ready .any g.ops listed)[t % (Region.ready .any g.ops listed).length]? with
      | some i => Region.linearise.go .any g.ops fuel (t / (Region.ready .any g.ops listed).length) (listed.setIfInBounds i true) [i]
      | none => [].reverse) := by
      simp only [Region.linearise.go]; rfl
    cases hi : (Region.ready .any g.ops listed)[t % (Region.ready .any g.ops listed).length]? with
    | none =>
      have hnil : Region.ready .any g.ops listed = [] := by
        cases hr : Region.ready .any g.ops listed with
        | nil => rfl
        | cons x xs =>
          rw [hr] at hi
          have hlt : t % (x :: xs).length < (x :: xs).length := Nat.mod_lt _ (by simp)
          rw [List.getElem?_eq_getElem hlt] at hi
          cases hi
      exact absurd hnil (some_ready rok I.size i hii hun)
    | some j =>
      rw [hi] at hgo
      simp only at hgo
      rw [linearise_go_acc .any g.ops fuel _ _ [j], List.reverse_singleton, List.singleton_append] at hgo
      obtain ⟨hunj, oj, hoj, haft⟩ := mem_ready.1 (List.mem_of_getElem? hi)
      have hin : j < g.ops.size := (Array.getElem?_eq_some_iff.1 hoj).1
      have hil : j < listed.size := by rw [I.size]; exact hin
      have hun' : listed.getD j false = false := by simpa [Array.getD, hil] using hunj
      have haft' : ∀ e ∈ oj.after, bindsA e = true → listed.getD e.on false = true := fun e he hb => haft e he (by rw [← bindsA_eq]; exact hb)
      by_cases hji : j = i
      · subst hji
        rw [ho] at hoj; cases hoj
        exact ⟨listed, a, w, q, κ, σ, _, (by rw [hgo]; exact .refl P _), I, hun, haft'⟩
      · obtain ⟨x, w', q', κ', σ', h1, h2⟩ := I.step ok hev hE rok F hid hoj (hall j hin hji) (hreads j oj hoj hji) hun' haft' (b := b) (k := k) (cs := cs)
          (rst := Region.linearise.go .any g.ops fuel (t / (Region.ready .any g.ops listed).length) (listed.setIfInBounds j true) [])
        have hless : left g (listed.setIfInBounds j true) < left g listed := by
          refine countP_lt _ (fun y hy => ?_) ⟨j, List.mem_range.2 hin, by simp only [hun', Bool.not_false], by simp only [getD_set_self hil, Bool.not_true]⟩
          by_cases e : j = y
          · subst e; simp only [getD_set_self hil, Bool.not_true] at hy; cases hy
          · simp only [getD_set_ne' e] at hy; exact hy
        obtain ⟨listed', a', w'', q'', κ'', σ'', rst, h3, h4, h5, h6⟩ := ih _ _ _ _ _ _ _ h2 (by rw [getD_set_ne' hji]; exact hun) (by omega)
        exact ⟨listed', a', w'', q'', κ'', σ'', rst, (by rw [hgo]; exact h1.trans h3), h4, h5, h6⟩

theorem drawP_ok (ok : tb.OK P) : DrawPOK E tb P := by
  intro cd hcd e he B xd k id ops sl h n ch sl' s hd
  have hev := evS_ok ok hcd he
  unfold drawP at hd
  simp only at hd
  cases hlim : (Nat.blt 1000 ops.size || Nat.ble 1000000000 (n + ops.size)) with
  | true => rw [hlim] at hd; cases hd
  | false =>
  rw [hlim] at hd
  simp only [cond_false] at hd
  simp only [Bool.or_eq_false_iff] at hlim
  have hn : ops.size < 1000000000 := by
    have : ¬ (1000 < ops.size) := fun e => by have := hlim.1; rw [Bool.eq_false_iff] at this; exact this (by simpa [Nat.blt_eq] using e)
    omega
  have hnx : ¬ (1000000000 ≤ n + ops.size) := fun e => by rw [Nat.ble_eq_true_of_le e] at hlim; cases hlim.2
  split at hd
  case h_2 => cases hd
  rename_i BB W hB hW
  split at hd
  · cases hd
  rename_i i rs hrev
  split at hd
  case h_2 => cases hd
  rename_i d o hds ho
  obtain ⟨g, hg⟩ : ∃ g : Rg, g = { ops, nt := B.nt, wr := W, B := BB, sl := sl, id0 := n } := ⟨_, rfl⟩
  rw [← hg] at hds hd
  have hgo : g.ops = ops := by rw [hg]
  have hgi : g.id0 = n := by rw [hg]
  have hgn : g.nt = B.nt := by rw [hg]
  have hgs : g.sl = sl := by rw [hg]
  cases hchk : (!(Nat.testBit d.D i) && Nat.beq (d.D ||| 2 ^ i) (2 ^ ops.size - 1) && Nat.beq (g.mask i) d.D && o.op.operands.all (g.okOp i) && allReads tb P g d.vals (d.es.foldl (fun m e => m ||| 2 ^ e) 0) d.es (d.st :: d.σs) 0 (ops.toList.set i { o with op := .move (.const undef) })) with
  | false => rw [hchk] at hd; cases hd
  | true =>
  rw [hchk] at hd
  simp only [cond_true] at hd
  simp only [Bool.and_eq_true, Bool.not_eq_true'] at hchk
  obtain ⟨⟨⟨⟨c1, c2⟩, c3⟩, c4⟩, c5⟩ := hchk
  split at hd
  case h_2 => cases hd
  rename_i hwant
  split at hd
  case h_2 => cases hd
  rename_i f args hop
  split at hd
  case h_2 => cases hd
  rename_i ch0 s0 hevp
  cases hd
  rw [← hgi] at hop hevp
  refine ⟨k, fun κ fr cs w hs hE cs0 => ?_⟩
  have hmode := mode_run hs.top rfl
  have htd := hs.top.todo rfl
  obtain ⟨xi, k', hk0, hx, hk⟩ := All2.append_left htd
  cases hx
  obtain ⟨fn, tmps, todo, defers, mode, kind, ro⟩ := fr
  simp only at hmode hk0
  subst hmode; subst hk0
  have rok : RgOK g := by rw [hg]; exact rgOK hs.top.slots.lim hn hB hW
  have F := dSteps_facts (tb := tb) (P := P) (ev := evS cd e) (g := g) (by rw [hgo]; exact hn) facts_init hds
  have hog : g.ops[i]? = some o := by rw [hgo]; exact ho
  have hii : i < ops.size := (Array.getElem?_eq_some_iff.1 ho).1
  have hD : d.D ||| 2 ^ i = 2 ^ ops.size - 1 := by simpa [Nat.beq_eq] using c2
  have hmk : g.mask i = d.D := by simpa [Nat.beq_eq] using c3
  have hall : ∀ j, j < g.ops.size → j ≠ i → Nat.testBit d.D j = true := fun j hj hne => by
    rw [hgo] at hj
    have : Nat.testBit (d.D ||| 2 ^ i) j = true := by rw [hD, Nat.testBit_two_pow_sub_one]; simpa using hj
    rw [bit_or] at this
    simpa [Ne.symm hne] using this
  have hreads : ∀ j oj, g.ops[j]? = some oj → j ≠ i → clsOf tb oj = .read → g.wanted d.vals (g.mask j) oj = some true → readsOk tb P g d.vals j oj (d.es.foldl (fun m e => m ||| 2 ^ e) 0) d.es (d.st :: d.σs) = true := fun j oj hoj hne hc hw => by
    have hro := allReads_spec (ops.toList.set i { o with op := .move (.const undef) }) 0 c5 j oj (by rw [List.getElem?_set_ne (Ne.symm hne)]; rw [hgo] at hoj; simpa using hoj) hc (by rw [Nat.zero_add]; exact hw)
    rw [Nat.zero_add] at hro; exact hro
  obtain ⟨hgl, hlast, _⟩ := EffL_at F.effL
  have hrel : Rel κ { heap := h, next := n } { w with drawn := w.drawn + 1 } := hs.rel.drawn _
  have hb0 := Goes.bump (U := (· < n)) hrel ops.size (by change n + ops.size ≤ _; omega)
  have hrep : ∀ i b, (Array.replicate ops.size false).getD i false = b → b = false := fun i b h => by
    rw [← h]; simp [Array.getD]
  have I : Inv g d κ { heap := h, next := n } { w with drawn := w.drawn + 1 } defers (Array.replicate ops.size false) ⟨tmps, defers⟩ { w with drawn := w.drawn + 1 } d.es.length κ { heap := h, next := n + ops.size } := by
    refine ⟨Nat.le_refl _, hlast, by simp [hgo], fun i o _ hl => (by have := hrep i _ hl; cases this), fun e he => ?_, hb0, by rw [hgi, hgo]; exact Nat.le_refl _, ?_, fun i o t _ _ hl => (by have := hrep i _ hl; cases this), fun t _ => ?_, rfl,
      fun p _ hl => (by have := hrep _ _ hl; cases this), fun p _ p' _ hl => (by have := hrep _ _ hl; cases this), fun i hi _ => ?_⟩
    · rw [List.drop_length]
      constructor
      · intro hl; have := hrep _ _ hl; cases this
      · intro hl; cases hl
    · rw [hgn]; exact hs.top.slots.size
    · rw [hgs]; exact hs.top.slots.val t
    · rw [hgi]; exact hs.rel.free (by change n ≤ _; omega)
  have hsch : ∀ t, Region.schedule (P.follows .mixedOrders) ops t = Region.linearise.go .any g.ops g.ops.size t (Array.replicate ops.size false) [] := fun t => by
    simp only [Region.schedule, ok.mixed, Bool.true_or, if_true, hgo]; rfl
  obtain ⟨listed', a', w', q', κ', σ', rst, hst, I', hun, haft⟩ := region_runP ok hev hE rok F hog hall hreads (by rw [hgi]; exact Nat.le_refl _) (b := ⟨fn, tmps, [], defers, .run, kind, ro⟩) (k := k') (cs := cs ++ cs0)
    g.ops.size (w.tape w.drawn (.order fn id)) _ _ _ _ _ _ I (by simp [Array.getD]) (by unfold left; exact Nat.le_trans List.countP_le_length (by simp))
  have hfull : ∀ j, Nat.testBit d.D j = true → listed'.getD j false = true := fun j hj => mask_listed rok I'.closed i o hog haft j (by rw [hmk]; exact hj)
  have hq0 : q' = 0 := by
    rcases Nat.eq_zero_or_pos q' with h | h
    · exact h
    · exfalso
      have hlt : 0 < d.es.length := Nat.lt_of_lt_of_le h I'.q_le
      have hm : d.es[0] ∈ d.es := List.getElem_mem hlt
      have := (I'.effs _ hm).1 (hfull _ (F.esD _ hm))
      obtain ⟨t, ht⟩ := List.mem_iff_getElem?.1 this
      rw [List.getElem?_drop] at ht
      have hlt' : q' + t < d.es.length := (List.getElem?_eq_some_iff.1 ht).1
      have e1 : d.es[q' + t]? = d.es[0]? := by rw [ht, List.getElem?_eq_getElem hlt]
      have := (List.getElem?_inj hlt' F.esNodup).1 e1
      omega
  subst hq0
  have hσ : σ' = d.st := by have := I'.st; simpa using this.symm
  subst hσ
  have hrest : rest d 0 = d.pend := by simp [rest]
  have hpD : ∀ p ∈ d.pend, Nat.testBit d.D p.1 = true := fun p hp => (F.pairs p (List.mem_append_left _ hp)).1
  have hpi : ∀ p ∈ d.pend, p.1 < g.ops.size := fun p hp => by
    obtain ⟨_, o', a', h1, _⟩ := F.pairs p (List.mem_append_left _ hp)
    exact (Array.getElem?_eq_some_iff.1 h1).1
  have hlim' := I'.goes.rel.lim
  have hlo := I'.lo
  obtain ⟨g1, hlv⟩ := adopt_sound d.pend d.st I'.goes (fun p hp => by have := hpi p hp; exact ⟨by omega, Nat.not_lt.2 (by first | omega | (rw [hgi]; omega) | (simp only; omega))⟩) (by have := F.nodup; rw [List.map_append] at this; exact (List.nodup_append.1 this).1)
    (fun p hp => I'.pend p (by rw [hrest]; exact hp) (hfull _ (hpD p hp)))
    (fun p hp p' hp' hne => I'.apart p (by rw [hrest]; exact hp) p' (by rw [hrest]; exact hp') (hfull _ (hpD p hp)) (hfull _ (hpD p' hp')) hne)
  -- the call
  obtain ⟨ρ', hρ, hex⟩ := I'.ρ rok hog hun haft c4
  have hwt := I'.wanted rok hog haft hwant
  have hfr := I'.fresh i (by rw [hgo]; exact hii) hun
  have hidk : Free κ' (adopt g.id0 d.pend d.st) (g.id0 + i) := ⟨hfr.1, fun hl => by
    rcases hlv _ hl with h1 | ⟨p, h1, h2⟩
    · exact hfr.2 h1
    · have e : p.1 = i := by omega
      have := hfull _ (hpD p h1)
      rw [e, hun] at this; cases this⟩
  have hidl : g.id0 + i < (adopt g.id0 d.pend d.st).next := by rw [adopt_next]; rw [hgo] at hlo; omega
  have hok := opA_sound (ρ' := ρ') ok g1.rel hidl hidk hρ hop
  rw [hex (opA_noselect hop)] at hok
  obtain ⟨vs, hvs, hxe⟩ := hok
  unfold evP at hevp
  split at hevp
  case h_2 => cases hevp
  rename_i ch1 h1 n1 hcall
  cases hevp
  have hsp := he f args (adopt g.id0 d.pend d.st).heap (adopt g.id0 d.pend d.st).next
  rw [hcall] at hsp
  obtain ⟨G, hG, HG⟩ := hsp
  obtain ⟨e1, e2, _⟩ := enterA_sound (w := w') ok hG hvs
  obtain ⟨κ2, fr2, w2, ch2, hst2, hlv, hch, hg2, _⟩ := HG κ' _ w' e1 g1.rel (hE.le g1.le) (Frame.atR ⟨fn, tmps, [], defers, .run, kind, ro⟩ a' (.inRegion g.ops (i :: rst) :: k') :: (cs ++ cs0))
  have hfin : Goes (· < n) κ { heap := h, next := n } w κ2 { heap := h1, next := n1 } w2 := by
    have := g1.of_drawn
    exact this.trans (hg2.less fun j hj => by rw [adopt_next]; rw [hgo] at hlo; have hj' : j < n := hj; omega)
  have hslots : SR κ' B.nt (endSlots (d.vals.put i (slot sl (o.dst.getD 0))) 0 ops.toList sl) a'.tmps := by
    have hb : ∀ (x : Nat) (o : Oper) (dd : Nat), ops.toList[x]? = some o → o.dst = some dd → dd < 1000000000 := fun x o dd hx hd => by
      have := (rok.wr x o dd (by rw [hgo]; simpa using hx) hd).1
      exact Nat.lt_trans this rok.nt
    refine ⟨hs.top.slots.lim, by rw [I'.tsize, hgn], fun t => ?_⟩
    by_cases hex : ∃ (x : Nat) (o : Oper), ops[x]? = some o ∧ o.dst = some t
    · obtain ⟨x, ox, hx, hdx⟩ := hex
      have hx' : ops.toList[x]? = some ox := by simpa using hx
      have huniq : ∀ x' o', ops[x']? = some o' → o'.dst = some t → x' = x := fun x' o' hx'' hd' => by
        have h1 := (rok.wr x ox t (by rw [hgo]; exact hx) hdx).2
        have h2 := (rok.wr x' o' t (by rw [hgo]; exact hx'') hd').2
        rw [h1] at h2; cases h2; rfl
      rw [endSlots_at ops.toList 0 _ x ox hb hx' hdx fun x' o' hx'' hd' => huniq x' o' (by simpa using hx'') hd']
      rw [Nat.zero_add, slot_put (Nat.lt_trans hii hn)]
      by_cases hxi : x = i
      · subst hxi
        rw [ho] at hx; cases hx
        rw [if_pos rfl, hdx]
        have := I'.olds t fun j o' hj hlj hd' => by
          have := huniq j o' (by rw [hgo] at hj; exact hj) hd'
          subst this
          rw [hun] at hlj; cases hlj
        rw [hgs] at this; exact this
      · rw [if_neg hxi]
        exact I'.vals x ox t (by rw [hgo]; exact hx) hdx (hfull x (hall x (by rw [hgo]; exact (Array.getElem?_eq_some_iff.1 hx).1) hxi))
    · rw [endSlots_other ops.toList 0 _ hb fun x o hx hd => hex ⟨x, o, by simpa using hx, hd⟩]
      have := I'.olds t fun i o hi _ hd => hex ⟨i, o, by rw [hgo] at hi; exact hi, hd⟩
      rw [hgs] at this; exact this
  refine ⟨κ2, (Frame.atR ⟨fn, tmps, [], defers, .run, kind, ro⟩ a' (.inRegion g.ops (i :: rst) :: k')).raise ch2, cs, w2, ?_, ⟨?_, mono_below hfin.le hs.below, hfin.rel⟩, hfin⟩
  · have h1 := stepR_region_draw (P := P) (b := ⟨fn, tmps, [], defers, .run, kind, ro⟩) (a := ⟨tmps, defers⟩) (k := k') (cs := cs ++ cs0) (w := w) (ops := ops) (id := id)
    rw [hsch] at h1
    have h2 := hst
    rw [hgo] at h2 h1 ⊢
    have hgo2 := stepGR_op (P := P) (b := ⟨fn, tmps, [], defers, .run, kind, ro⟩) (a := a') (k := k') (cs := cs ++ cs0) (w := w') (rest := rst) ho (by rw [hgo] at hwt; exact hwt)
    rw [Oper.semAt_eq _ _ _ fun c hc => by obtain ⟨d', e⟩ := opA_defer hc hop; cases e] at hgo2
    have h3 : step P (lone (Frame.atR ⟨fn, tmps, [], defers, .run, kind, ro⟩ a' (.inRegion ops (i :: rst) :: k')) (cs ++ cs0) w') = .next (lone (Frame.enter P f vs.toArray .normal) (Frame.atR ⟨fn, tmps, [], defers, .run, kind, ro⟩ a' (.inRegion ops (i :: rst) :: k') :: (cs ++ cs0)) w') :=
      step_lone_go (by rw [hgo2, hxe]; simp [stepG.apply, e2, Frame.atR])
    exact .head h1 (Steps.trans h2 (.head h3 (Steps.trans (by rw [hgo] at hst2; exact hst2) (.one (step_leave_panicked hlv)))))
  · have hsl := hslots.mono hg2.le
    have hdf : All2 (DR κ2) xd.ds a'.defers := by rw [I'.defers]; exact hs.top.defers.mono fun _ _ => DR.mono hfin.le
    exact ⟨hs.top.fn, hsl, (fun h => by cases h), hdf, .pan hch, hs.top.kind, hs.top.ro.mono hfin.le⟩

theorem evN_good (ok : tb.OK P) (d : Nat) : EvFOK E tb P (evN tb P d) := evN_ok ok (drawP_ok ok) d
end
end Go.Proofs.YtiemogegdoogaaaGreat.Eng

namespace Go.Proofs.YtiemogegdoogaaaGreat.Eng
open Go
variable [Interp]
variable {E : Nat → Option Value}

theorem law_lit {tb : Tab} {P : Program} (ok : tb.OK P) {d f : Nat} {vs : List Value} {v : Value} {w : World} (h : litR (evN tb P d f (vs.map .lit) .leaf 0) = some v) :
    Calls P f vs.toArray w fun e w' => e = .returned v ∧ RowKit.Below w.heap.size w w' :=
  (evN_lit ok (drawP_ok ok) h).mono fun e w' ⟨h1, h2, h3, h4, h5, h6⟩ => ⟨h1, ⟨h4, h6, h5, h2, h3⟩⟩
end Go.Proofs.YtiemogegdoogaaaGreat.Eng

