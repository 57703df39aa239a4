/- Part C of an evaluator for this program: regions whose order is drawn come to the same in every order. No condition. -/
import Derived.Test.YtiemogegdoogaaaGreatEngB
import Derived.OrdersIn
set_option linter.unusedVariables false
set_option linter.unusedSectionVars false
namespace Go.Proofs.YtiemogegdoogaaaGreat.Eng
open Go
variable [Interp]

abbrev EvS := FuncId → List AVal → St → Option (AVal × St)

noncomputable def eqLit : Value → Value → Bool
  | .int k n, .int k' n' => decide (k = k') && decide (n = n')
  | .bool a, .bool b => a == b
  | .string a, .string b => decide (a = b)
  | .pointer none, .pointer none => true
  | .slice none a b, .slice none c d => Nat.beq a c && Nat.beq b d
  | .map none, .map none => true
  | .nilFunc, .nilFunc => true
  | .nilIface, .nilIface => true
  | _, _ => false

noncomputable def eqvO : Option SX → Option SX → Bool
  | none, none => true
  | some c, some d => SX.eqv c d
  | _, _ => false
theorem eqvO_eq {a b : Option SX} (h : eqvO a b = true) : a = b := by
  unfold eqvO at h
  split at h
  · rfl
  · rw [SX.eqv_eq h]
  · cases h

noncomputable def eqvL (f : AVal → AVal → Bool) : List AVal → List AVal → Bool
  | [], [] => true
  | a :: l, b :: m => f a b && eqvL f l m
  | _, _ => false

noncomputable def eqv : Nat → AVal → AVal → Bool
  | 0, _, _ => false
  | n + 1, a, b => match a, b with
    | .lit a, .lit b => eqLit a b
    | .ptr i o, .ptr j p => Nat.beq i j && Nat.beq o p
    | .slc a b c d, .slc a' b' c' d' => Nat.beq a a' && Nat.beq b b' && Nat.beq c c' && Nat.beq d d'
    | .slu a b c d, .slu a' b' c' d' => Nat.beq a a' && Nat.beq b b' && Nat.beq c c' && Nat.beq d d'
    | .fn f l m, .fn f' l' m' => Nat.beq f f' && eqvL (eqv n) l l' && eqvL (eqv n) m m'
    | .ifc t v, .ifc t' v' => Nat.beq t t' && eqv n v v'
    | .mp i, .mp j => Nat.beq i j
    | .sym i, .sym j => Nat.beq i j
    | .si k e, .si k' e' => Nat.beq (kindNo k) (kindNo k') && SX.eqv e e'
    | .sb e, .sb e' => SX.eqv e e'
    | .ss e, .ss e' => SX.eqv e e'
    | .ptv i e, .ptv j e' => Nat.beq i j && SX.eqv e e'
    | .slv i o l c z, .slv j o' l' c' z' => Nat.beq i j && SX.eqv o o' && SX.eqv l l' && eqvO c c' && Nat.beq z z'
    | .agg l, .agg m => eqvL (eqv n) l m
    | _, _ => false

inductive Cls where
  | free | read | eff

noncomputable def clsOf (tb : Tab) (o : Oper) : Cls :=
  match o.op with
  | .move _ | .assign _ | .pick .. | .build .. | .nilCheck _ | .unOp .. | .makeInterface .. | .makeFunc .. | .slice .. | .fieldAddr .. | .field .. | .indexAddr .. | .index .. | .extract .. | .binOp .. | .typeAssert .. => .free
  | .alloc _ | .box .. | .buildSlice .. | .makeSlice .. => .free
  | .load .. => .read
  | .convert _ d _ => match tb.und d with
    | some .string => .read
    | _ => .free
  | .call c => match c.callee with
    | .builtin .len => .free
    | .builtin .cap => .free
    | .builtin .min => .free
    | .builtin .max => .free
    | _ => .eff
  | _ => .eff

noncomputable def bindsA (e : Edge) : Bool := match e.ground with | .textOnly _ => false | .gcOnly _ => false | _ => true

noncomputable def maskOf (B : T Nat) (i : Nat) : List Edge → Nat → Option Nat
  | [], m => some m
  | e :: es, m => match bindsA e with
    | false => maskOf B i es m
    | true => bif Nat.blt e.on i then (match B.get e.on with
      | some b => maskOf B i es (m ||| 2 ^ e.on ||| b)
      | none => none) else none

noncomputable def masks : List Oper → Nat → T Nat → Option (T Nat)
  | [], _, B => some B
  | o :: l, i, B => match maskOf B i o.after.toList 0 with
    | some m => masks l (i + 1) (B.put i m)
    | none => none

noncomputable def writers (nt : Nat) : List Oper → Nat → T Nat → Option (T Nat)
  | [], _, W => some W
  | o :: l, i, W => match o.dst with
    | none => writers nt l (i + 1) W
    | some d => bif Nat.blt d nt then (match W.get d with
      | none => writers nt l (i + 1) (W.put d i)
      | some _ => none) else none

structure Rg where
  ops : Array Oper
  nt : Nat
  wr : T Nat
  B : T Nat
  sl : T AVal
  id0 : Nat

noncomputable def Rg.mask (g : Rg) (i : Nat) : Nat := match g.B.get i with | some b => b | none => 0

noncomputable def Rg.ρ (g : Rg) (vals : T AVal) (i : Nat) : Operand → AVal
  | .tmp t => match g.wr.get t with
    | none => slot g.sl t
    | some j => bif Nat.testBit (g.mask i) j then slot vals j else bif Nat.testBit (g.mask j) i then slot g.sl t else .lit undef
  | .const v => .lit v
  | .global g => .lit (.pointer (some ⟨g, 0, none⟩))
  | .func f => .fn f [] []

noncomputable def Rg.okOp (g : Rg) (i : Nat) : Operand → Bool
  | .tmp t => match g.wr.get t with
    | none => true
    | some j => Nat.testBit (g.mask i) j || Nat.testBit (g.mask j) i
  | _ => true

noncomputable def Rg.wanted (g : Rg) (vals : T AVal) (b : Nat) (o : Oper) : Option Bool :=
  match o.guard with
  | none => some true
  | some (j, want) => bif Nat.testBit b j then (match g.ops[j]? with
    | some oj => match oj.dst with
      | some _ => match slot vals j with
        | .lit (.bool c) => some (c == want)
        | .lit (.tuple _) => some false
        | _ => none
      | none => none
    | none => none) else none

structure DS where
  vals : T AVal
  D : Nat
  st : St
  pend : List (Nat × AObj)
  es : List Nat
  σs : List St
  gs : List (List (Nat × AObj))

section
variable (tb : Tab) (P : Program) (ev : EvS)

noncomputable def freeA (ρ : Operand → AVal) (o : Oper) (id : Nat) : Option (AVal × Option AObj) :=
  match opA tb P ρ o id { heap := .leaf, next := 1000000000 } with
  | some (.val a s) => match s.heap.get id with
    | some (.seq _ _ _) => none
    | some (.win _ _ _) => none
    | oo => some (a, oo)
  | _ => none

noncomputable def readA (ρ : Operand → AVal) (o : Oper) (s : St) : Option AVal :=
  match o.op with
  | .load t x => match ρ x with
    | .ptr i off => match loadA tb t i off s with
      | some a => some a
      | none => symLoad tb t (ρ x) s
    | _ => symLoad tb t (ρ x) s
  | .convert sr d x => match convI tb sr d (ρ x) with
    | some a => some a
    | none => match strBytesA tb sr d (ρ x) 0 s with
      | some _ => none
      | none => match bytesStrA tb sr d (ρ x) s with
        | some a => some a
        | none => match convSameA tb sr d (ρ x) s with
          | some _ => none
          | none => match litA P ρ o with
            | some a => some a
            | none => match symConv tb sr d (ρ x) with
              | some a => some a
              | none => symStr8 tb sr d (ρ x) s
  | _ => none

noncomputable def effA (ρ : Operand → AVal) (o : Oper) (id : Nat) (s : St) : Option (AVal × St) :=
  match opA tb P ρ o id s with
  | some (.val a s') => some (a, s')
  | some (.call f args) => match Nat.blt f 1000000000 with
    | true => ev f args s
    | false => none
  | some (.round l args) => ev (Nat.add 1000000000 l) args s
  | _ => none

noncomputable def adopt (id0 : Nat) : List (Nat × AObj) → St → St
  | [], s => s
  | (i, ob) :: l, s => adopt id0 l { s with heap := s.heap.put (id0 + i) ob }

noncomputable def lastBit (b : Nat) : List Nat → Bool
  | [] => true
  | e :: _ => Nat.testBit b e

noncomputable def dStep (g : Rg) (d : DS) (i : Nat) : Option DS :=
  match g.ops[i]? with
  | none => none
  | some o =>
    let b := g.mask i
    bif Nat.testBit d.D i || !(Nat.beq (Nat.land b d.D) b) || !(o.op.operands.all (g.okOp i)) then none else
    match g.wanted d.vals b o with
    | none => none
    | some wn =>
      let ρ := g.ρ d.vals i
      match clsOf tb o with
      | .free => match wn with
        | false => some { d with vals := d.vals.put i (.lit undef), D := d.D ||| 2 ^ i }
        | true => match freeA tb P ρ o (g.id0 + i) with
          | some (a, some ob) => some { d with vals := d.vals.put i a, D := d.D ||| 2 ^ i, pend := (i, ob) :: d.pend }
          | some (a, none) => some { d with vals := d.vals.put i a, D := d.D ||| 2 ^ i }
          | none => none
      | .read => match wn with
        | false => some { d with vals := d.vals.put i (.lit undef), D := d.D ||| 2 ^ i }
        | true => match readA tb P ρ o d.st with
          | some a => some { d with vals := d.vals.put i a, D := d.D ||| 2 ^ i }
          | none => none
      | .eff => bif lastBit b d.es && d.pend.all (fun p => Nat.testBit b p.1) then
          match wn with
          | false => some { vals := d.vals.put i (.lit undef), D := d.D ||| 2 ^ i, st := adopt g.id0 d.pend d.st, pend := [], es := i :: d.es, σs := d.st :: d.σs, gs := d.pend :: d.gs }
          | true => match effA tb P ev ρ o (g.id0 + i) (adopt g.id0 d.pend d.st) with
            | some (a, s) => some { vals := d.vals.put i a, D := d.D ||| 2 ^ i, st := s, pend := [], es := i :: d.es, σs := d.st :: d.σs, gs := d.pend :: d.gs }
            | none => none
          else none

noncomputable def dSteps (g : Rg) : List Nat → DS → Option DS
  | [], d => some d
  | i :: l, d => match dStep tb P ev g d i with
    | some d' => dSteps g l d'
    | none => none

noncomputable def mayAt (g : Rg) (i all : Nat) (done : List Nat) (bits : Nat) : Bool :=
  Nat.beq (Nat.land (Nat.land (g.mask i) all) bits) (Nat.land (g.mask i) all) && done.all fun e => !(Nat.testBit (g.mask e) i)

noncomputable def readsOk (g : Rg) (vals : T AVal) (i : Nat) (o : Oper) (all : Nat) : List Nat → List St → Bool
  | es, s :: σs => (!(mayAt g i all es (es.foldl (fun m e => m ||| 2 ^ e) 0)) || (match readA tb P (g.ρ vals i) o s with
      | some a => eqv 20 a (slot vals i)
      | none => false)) && (match es with
      | [] => true
      | _ :: es => readsOk g vals i o all es σs)
  | _, [] => false

noncomputable def allReads (g : Rg) (vals : T AVal) (all : Nat) (es : List Nat) (σs : List St) : Nat → List Oper → Bool
  | _, [] => true
  | i, o :: l => (match clsOf tb o with
      | .read => match g.wanted vals (g.mask i) o with
        | some true => readsOk tb P g vals i o all es σs
        | _ => true
      | _ => true) && allReads g vals all es σs (i + 1) l

noncomputable def endSlots (vals : T AVal) : Nat → List Oper → T AVal → T AVal
  | _, [], sl => sl
  | i, o :: l, sl => match o.dst with
    | some d => endSlots vals (i + 1) l (sl.put d (slot vals i))
    | none => endSlots vals (i + 1) l sl

noncomputable def orderOf (g : Rg) : List Nat → List Nat → List Nat
  | [], rem => rem
  | e :: es, rem =>
    let b := g.mask e
    (rem.filter (Nat.testBit b)) ++ e :: orderOf g es (rem.filter fun i => !(Nat.testBit b i))

noncomputable def isEffAt (tb : Tab) (ops : List Oper) : Nat → List Nat × List Nat :=
  fun i => match ops with
    | [] => ([], [])
    | o :: l => match isEffAt tb l (i + 1), clsOf tb o with
      | (es, ns), .eff => (i :: es, ns)
      | (es, ns), _ => (es, i :: ns)

noncomputable def drawR (nt : Nat) (ops : Array Oper) (sl : T AVal) (st : St) : Option (T AVal × St) :=
  let n := ops.size
  bif Nat.blt 1000 n || Nat.ble 1000000000 (st.next + n) then none else
  match masks ops.toList 0 .leaf, writers nt ops.toList 0 .leaf with
  | some B, some W =>
    let g : Rg := { ops, nt := nt, wr := W, B, sl := sl, id0 := st.next }
    match isEffAt tb ops.toList 0 with
    | (es, ns) =>
      match dSteps tb P ev g (orderOf g es ns) { vals := .leaf, D := 0, st := { st with next := st.next + n }, pend := [], es := [], σs := [], gs := [] } with
      | none => none
      | some d =>
        bif Nat.beq d.D (2 ^ n - 1) && allReads tb P g d.vals (d.es.foldl (fun m e => m ||| 2 ^ e) 0) d.es (d.st :: d.σs) 0 ops.toList then
          some (endSlots d.vals 0 ops.toList sl, adopt g.id0 d.pend d.st)
        else none
  | _, _ => none

noncomputable def drawP (evp : FuncId → List AVal → St → Option (List (AVal × Bool) × St)) (nt : Nat) (ops : Array Oper) (sl : T AVal) (st : St) : Option (List (AVal × Bool) × T AVal × St) :=
  let n := ops.size
  bif Nat.blt 1000 n || Nat.ble 1000000000 (st.next + n) then none else
  match masks ops.toList 0 .leaf, writers nt ops.toList 0 .leaf with
  | some B, some W =>
    let g : Rg := { ops, nt := nt, wr := W, B, sl := sl, id0 := st.next }
    match isEffAt tb ops.toList 0 with
    | (es, ns) =>
      let ord := orderOf g es ns
      match ord.reverse with
      | [] => none
      | i :: rest =>
        match dSteps tb P ev g rest.reverse { vals := .leaf, D := 0, st := { st with next := st.next + n }, pend := [], es := [], σs := [], gs := [] }, ops[i]? with
        | some d, some o =>
          bif !(Nat.testBit d.D i) && Nat.beq (d.D ||| 2 ^ i) (2 ^ n - 1) && Nat.beq (g.mask i) d.D && o.op.operands.all (g.okOp i) && allReads tb P g d.vals (d.es.foldl (fun m e => m ||| 2 ^ e) 0) d.es (d.st :: d.σs) 0 (ops.toList.set i { o with op := .move (.const undef) }) then
            match g.wanted d.vals (g.mask i) o with
            | some true => match opA tb P (g.ρ d.vals i) o (g.id0 + i) (adopt g.id0 d.pend d.st) with
              | some (.call f args) => match evp f args (adopt g.id0 d.pend d.st) with
                | some (ch, s) => some (ch, endSlots (d.vals.put i (slot sl (o.dst.getD 0))) 0 ops.toList sl, s)
                | none => none
              | _ => none
            | _ => none
          else none
        | _, _ => none
  | _, _ => none

noncomputable def drawA (c : Cfg) (ops : Array Oper) (k : List AItem) : Option Cfg :=
  match drawR tb P ev c.top.nt ops c.top.slots c.st with
  | some (sl, st) => some { top := { c.top with slots := sl, todo := k }, below := c.below, st := st }
  | none => none
end

noncomputable def drawnOf (c : Cfg) : Option (Array Oper × List AItem) :=
  match c.top.mode with
  | .run => match c.top.todo with
    | .code (.region _ ops true) :: k => some (ops, k)
    | _ => none
  | _ => none

noncomputable def nextA (tb : Tab) (P : Program) (ev : EvS) (c : Cfg) : Option Cfg :=
  match drawnOf c with
  | some (ops, k) => drawA tb P ev c ops k
  | none => stepA tb P c

noncomputable def evOf (tb : Tab) (run : Cfg → Option (AVal × St × Nat)) (f : FuncId) (args : List AVal) (s : St) : Option (AVal × St) :=
  match Nat.blt f 1000000000 with
  | false => none
  | true => match enterA tb f args .normal with
    | some g => match run ⟨g, [], s⟩ with
      | some (a, s', _) => some (a, s')
      | none => none
    | none => none

noncomputable def arun (tb : Tab) (P : Program) : Nat → Cfg → Option (AVal × St × Nat)
  | 0, _ => none
  | n + 1, c => match doneA tb c with
    | some r => some r
    | none => match nextA tb P (evOf tb (arun tb P n)) c with
      | some c' => arun tb P n c'
      | none => none

noncomputable def callA (tb : Tab) (P : Program) (n f : Nat) (args : List AVal) (s : St) : Option (AVal × St × Nat) :=
  match enterA tb f args .normal with
  | some g => arun tb P n ⟨g, [], s⟩
  | none => none
end Go.Proofs.YtiemogegdoogaaaGreat.Eng

namespace Go.Proofs.YtiemogegdoogaaaGreat.Eng
open Go
variable [Interp]

theorem eqLit_sound {a b : Value} (h : eqLit a b = true) : a = b := by
  unfold eqLit at h
  split at h <;> try (cases h; done)
  · simp only [Bool.and_eq_true, decide_eq_true_eq] at h; obtain ⟨rfl, rfl⟩ := h; rfl
  · simp only [beq_iff_eq] at h; subst h; rfl
  · simp only [decide_eq_true_eq] at h; subst h; rfl
  · rfl
  · simp only [Bool.and_eq_true, Nat.beq_eq] at h; obtain ⟨rfl, rfl⟩ := h; rfl
  · rfl
  · rfl
  · rfl

theorem eqvL_sound {f : AVal → AVal → Bool} (hf : ∀ a b, f a b = true → a = b) : ∀ {l m : List AVal}, eqvL f l m = true → l = m
  | [], [], _ => rfl
  | a :: l, b :: m, h => by
    simp only [eqvL, Bool.and_eq_true] at h
    rw [hf a b h.1, eqvL_sound hf h.2]
  | [], _ :: _, h => by cases h
  | _ :: _, [], h => by cases h

theorem eqv_sound : ∀ (n : Nat) {a b : AVal}, eqv n a b = true → a = b
  | 0, _, _, h => by cases h
  | n + 1, a, b, h => by
    have ih := fun a b => eqv_sound n (a := a) (b := b)
    have il := fun l m => eqvL_sound (f := eqv n) ih (l := l) (m := m)
    cases a <;> cases b <;> simp only [eqv, Bool.and_eq_true, Nat.beq_eq, Bool.false_eq_true] at h
    · rw [eqLit_sound h]
    · obtain ⟨rfl, rfl⟩ := h; rfl
    · obtain ⟨⟨⟨rfl, rfl⟩, rfl⟩, rfl⟩ := h; rfl
    · obtain ⟨⟨⟨rfl, rfl⟩, rfl⟩, rfl⟩ := h; rfl
    · obtain ⟨⟨rfl, h1⟩, h2⟩ := h; rw [il _ _ h1, il _ _ h2]
    · obtain ⟨rfl, h1⟩ := h; rw [ih _ _ h1]
    · subst h; rfl
    · rw [il _ _ h]
    · subst h; rfl
    · rw [kindNo_inj h.1, SX.eqv_eq h.2]
    · rw [SX.eqv_eq h]
    · rw [SX.eqv_eq h]
    · obtain ⟨⟨⟨⟨rfl, h1⟩, h2⟩, h3⟩, rfl⟩ := h; rw [SX.eqv_eq h1, SX.eqv_eq h2, eqvO_eq h3]
    · rw [h.1, SX.eqv_eq h.2]

section
variable {tb : Tab} {P : Program} {κ : Pl} {s s' : St} {w : World} {ρ : Operand → AVal} {ρ' : Operand → Value} {id : Nat} {a : AVal} {o : Oper}

noncomputable def Gives (n : Next) (x : Value) : Prop := n = .value x ∨ (n = .skip ∧ x = undef)

theorem opA_noselect {r : OpR} (h : opA tb P ρ o id s = some r) : ∀ cs b, o.op ≠ .select cs b := by
  intro cs b e
  unfold opA opO symA at h
  rw [e] at h
  cases h

theorem rel_empty (hr : Rel κ s w) : Rel κ { heap := .leaf, next := 1000000000 } w where
  lim := Nat.le_refl _
  fresh i hi := hr.fresh i (Nat.le_trans hr.lim hi)
  size := hr.size
  inj i j b hl := absurd hl (not_live_leaf _ _)
  room := hr.room
  obj i o h := by simp only [T.get_leaf] at h; cases h
  dead i _ := not_live_leaf _ _

theorem free_sound (ok : tb.OK P) (hr : Rel κ s w) (hid : id < s.next) (hk : Free κ s id) (hρ : ∀ x, V κ (ρ x) (ρ' x)) {oo : Option AObj} (h : freeA tb P ρ o id = some (a, oo)) :
    Sure P (execOp ρ' o) w fun n w' => ∃ κ', Goes (· ≠ id) κ s w κ' s w' ∧ (∃ x, Gives n x ∧ V κ' a x) ∧
      ∀ ob, oo = some ob → ∃ b obj, κ' id = some b ∧ w.heap.size ≤ b ∧ w'.heap[b]? = some obj ∧ ORel κ' ob obj := by
  unfold freeA at h
  split at h
  case h_2 => cases h
  rename_i a' s1 hop
  have hns : a' = a ∧ s1.heap.get id = oo ∧ (∀ k c t, oo ≠ some (.seq k c t)) ∧ ∀ k c t, oo ≠ some (.win k c t) := by
    split at h
    · cases h
    · cases h
    · rename_i hx hy
      cases h
      exact ⟨rfl, rfl, fun k c t e => hx k c t e, fun k c t e => hy k c t e⟩
  obtain ⟨e1, e2, hns, hnw⟩ := hns
  subst e1; subst e2
  clear h
  have hid' : id < 1000000000 := Nat.lt_of_lt_of_le hid hr.lim
  have hok := opA_sound (ρ' := ρ') ok (rel_empty hr) hid' ⟨hk.1, not_live_leaf _ _⟩ hρ hop
  refine Sure.mono hok ?_
  rintro n w' ⟨κ', g, hn⟩
  have hdead : ∀ i, ¬ ({ heap := .leaf, next := 1000000000 } : St).live i := fun i hl => not_live_leaf _ _ hl
  have hne : ∀ i, s.live i → i ≠ id := fun i hl e => hk.2 (e ▸ hl)
  have hsame : ∀ i, s.live i → κ' i = κ i := fun i hl => by
    cases hb : κ i with
    | none => exact g.unborn i (hne i hl) hb
    | some b => exact g.le.on _ _ hb
  refine ⟨κ', ⟨g.le, ⟨hr.lim, ?_, g.rel.size, ?_, g.rel.room, ?_, hr.dead⟩, Nat.le_refl _, g.size, fun b hb _ => g.old b hb fun i hl => absurd hl.live (hdead i), ?_, fun i b hl hkb => .inr ⟨i, hl, hsame i hl.live ▸ hkb⟩, g.unborn, fun _ _ h => h, g.os, g.output, g.tape⟩, ?_, ?_⟩
  · intro i hi
    exact g.unborn i (by intro e; omega) (hr.fresh i hi)
  · intro i j b hl hl' h1 h2
    exact hr.inj i j b hl hl' (hsame i hl ▸ h1) (hsame j hl' ▸ h2)
  · intro i o hg
    rcases hr.obj i o hg with ⟨b, ob, h1, h2, h3⟩ | ⟨h1, h2⟩
    · exact .inl ⟨b, ob, g.le.on _ _ h1, (g.old b (hr.size i b h1) fun i hl => absurd hl.live (hdead i)).trans h2, h3.mono g.le⟩
    · exact .inr ⟨by rw [hsame i (live_of hg)]; exact h1, h2⟩
  · intro i b hl hkb
    exact .inr ⟨i, hl, hsame i hl ▸ hkb⟩
  · rcases hn with ⟨x, h1, h2⟩ | ⟨h1, h2⟩
    · exact ⟨x, .inl h1, h2⟩
    · exact ⟨undef, .inr ⟨h1, rfl⟩, h2 ▸ .lit _⟩
  · intro ob hob
    obtain ⟨b, obj, h1, h2, h3⟩ := g.rel.at hob (fun hb => by
      cases ob with
      | seq k c t => exact hns k c t hob
      | win k c t => exact hnw k c t hob
      | _ => exact hb)
    have hb : w.heap.size ≤ b := by
      rcases g.born id b (live_of hob) h1 with h4 | ⟨j, h4, _⟩
      · exact h4
      · exact absurd h4 (hdead j)
    exact ⟨b, obj, h1, hb, h2, h3⟩

theorem read_op (h : readA tb P ρ o s = some a) : opA tb P ρ o id s = some (.val a s) := by
  unfold readA at h
  split at h
  · rename_i t x hop
    have hs : symLoad tb t (ρ x) s = some a → symA tb ρ o id s = some (a, s) := fun h => by unfold symA; rw [hop]; simp only [h, withSt]
    split at h
    · rename_i i off hx
      split at h
      · rename_i a' ha
        cases h
        refine opA_opO ?_
        unfold opO; rw [hop]
        simp only [aLoad, hx, ha, valR]
      · rename_i hn
        refine opA_symA ?_ (hs h)
        unfold opO; rw [hop]
        simp only [aLoad, hx, hn, valR]
    · rename_i hn
      refine opA_symA ?_ (hs h)
      unfold opO; rw [hop]
      simp only [aLoad]
  · rename_i sr d x hop
    have hO : opO tb P ρ o id s = aConvert tb P ρ o id s sr d x := by unfold opO; rw [hop]
    have hS : symA tb ρ o id s = (match symConv tb sr d (ρ x) with | some a => some (a, s) | none => withSt s (symStr8 tb sr d (ρ x) s)) := by unfold symA; rw [hop]; rfl
    unfold aConvert at hO
    split at h
    · rename_i a' ha
      cases h
      rw [ha] at hO
      exact opA_opO hO
    · rename_i hn
      rw [hn] at hO
      simp only at hO
      split at h
      · cases h
      · rename_i hn2
        have hn3 : strBytesA tb sr d (ρ x) id s = none := by
          unfold strBytesA at hn2 ⊢
          split at hn2 <;> try rfl
          split at hn2 <;> try rfl
          split at hn2 <;> try rfl
          cases hb : Nat.blt _ 1000000000 with
          | false => rfl
          | true => rw [hb] at hn2; cases hn2
        rw [hn3] at hO
        simp only at hO
        split at h
        · rename_i a' ha; cases h; rw [ha] at hO; exact opA_opO hO
        · rename_i hn4
          rw [hn4] at hO
          simp only at hO
          split at h
          · cases h
          · rename_i hn5
            rw [hn5] at hO
            simp only at hO
            split at h
            · rename_i a' ha; cases h
              rw [ha] at hO
              exact opA_opO hO
            · rename_i hn6
              rw [hn6] at hO
              refine opA_symA hO ?_
              rw [hS]
              split at h
              · rename_i a' ha; cases h; first | rfl | rw [ha]
              · rename_i ha; first | (simp only [h, withSt]; done) | (rw [ha]; simp only [h, withSt])
  · cases h

theorem read_sound (ok : tb.OK P) (hr : Rel κ s w) (hid : id < s.next) (hk : Free κ s id) (hρ : ∀ x, V κ (ρ x) (ρ' x)) (h : readA tb P ρ o s = some a) :
    Sure P (execOp ρ' o) w fun n w' => ∃ κ', Goes (· ≠ id) κ s w κ' s w' ∧ ∃ x, Gives n x ∧ V κ' a x := by
  have hok := opA_sound (ρ' := ρ') ok hr hid hk hρ (read_op (id := id) h)
  refine Sure.mono hok ?_
  rintro n w' ⟨κ', g, hn⟩
  refine ⟨κ', g, ?_⟩
  rcases hn with ⟨x, h1, h2⟩ | ⟨h1, h2⟩
  · exact ⟨x, .inl h1, h2⟩
  · exact ⟨undef, .inr ⟨h1, rfl⟩, h2 ▸ .lit _⟩

theorem steps_op {b : Frame} {ac : Act} {ops : Array Oper} {i : Nat} {rest : List Nat} {k : List Item} {Q : Next → World → Prop} (ho : ops[i]? = some o)
    (hw : Region.wanted o (yielded ops ac.tmps) = true) (hd : ∀ c, o.op ≠ .defer c) (h : Sure P (execOp ac.eval o) w Q) (hg : ∀ n w', Q n w' → ∃ x, Gives n x) :
    ∃ n w' x, Q n w' ∧ Gives n x ∧ ∀ cs, Steps P (lone (b.atR ac (.inRegion ops (i :: rest) :: k)) cs w) (lone (b.atR (ac.put o.dst x) (.inRegion ops rest :: k)) cs w') := by
  obtain ⟨n, w', hrun, hq⟩ := h
  obtain ⟨x, hx⟩ := hg n w' hq
  refine ⟨n, w', x, hq, hx, fun cs => .one ?_⟩
  have hgo := stepGR_op (P := P) (b := b) (a := ac) (k := k) (cs := cs) (w := w) (rest := rest) ho hw
  rw [Oper.semAt_eq _ _ _ hd] at hgo
  have hfr' : (b.atR ac (.inRegion ops (i :: rest) :: k)).finish x = b.atR (ac.put o.dst x) (.inRegion ops rest :: k) := by
    rw [Frame.finish_atR, ho]; rfl
  rw [← hfr']
  refine step_lone_go ?_
  rw [hgo]
  rcases hx with rfl | ⟨rfl, rfl⟩ <;> simp [stepG.apply, hrun]
end
end Go.Proofs.YtiemogegdoogaaaGreat.Eng

namespace Go.Proofs.YtiemogegdoogaaaGreat.Eng
open Go
variable [Interp]

section
variable {tb : Tab} {P : Program} {ev : EvS} {g : Rg}

noncomputable def EffF (tb : Tab) (P : Program) (ev : EvS) (g : Rg) (V : T AVal) (es : List Nat) (e : Nat) (G : List (Nat × AObj)) (σ σ' : St) : Prop :=
  ∃ o, g.ops[e]? = some o ∧ clsOf tb o = .eff ∧ lastBit (g.mask e) es = true ∧ (∀ p ∈ G, Nat.testBit (g.mask e) p.1 = true) ∧
    (g.wanted V (g.mask e) o = some true ∧ effA tb P ev (g.ρ V e) o (g.id0 + e) (adopt g.id0 G σ) = some (slot V e, σ') ∨
     g.wanted V (g.mask e) o = some false ∧ σ' = adopt g.id0 G σ)

inductive EffL (tb : Tab) (P : Program) (ev : EvS) (g : Rg) (V : T AVal) (σ0 : St) : List Nat → List St → List (List (Nat × AObj)) → St → Prop where
  | nil : EffL tb P ev g V σ0 [] [] [] σ0
  | cons {e : Nat} {es : List Nat} {σ : St} {σs : List St} {G : List (Nat × AObj)} {gs : List (List (Nat × AObj))} {σ' : St} :
      EffL tb P ev g V σ0 es σs gs σ → EffF tb P ev g V es e G σ σ' → EffL tb P ev g V σ0 (e :: es) (σ :: σs) (G :: gs) σ'

structure OpF (tb : Tab) (P : Program) (g : Rg) (V : T AVal) (D i : Nat) (o : Oper) (wn : Bool) : Prop where
  before : ∀ j, Nat.testBit (g.mask i) j = true → Nat.testBit D j = true
  okOps : o.op.operands.all (g.okOp i) = true
  wanted : g.wanted V (g.mask i) o = some wn
  skipped : wn = false → slot V i = .lit undef
  free : wn = true → clsOf tb o = .free → ∃ oo, freeA tb P (g.ρ V i) o (g.id0 + i) = some (slot V i, oo)

structure DFacts (tb : Tab) (P : Program) (ev : EvS) (g : Rg) (σ0 : St) (d : DS) : Prop where
  each : ∀ i, Nat.testBit d.D i = true → ∃ o wn, g.ops[i]? = some o ∧ OpF tb P g d.vals d.D i o wn
  pairs : ∀ p ∈ d.pend ++ d.gs.flatten, Nat.testBit d.D p.1 = true ∧ ∃ o a, g.ops[p.1]? = some o ∧ clsOf tb o = .free ∧ g.wanted d.vals (g.mask p.1) o = some true ∧
    freeA tb P (g.ρ d.vals p.1) o (g.id0 + p.1) = some (a, some p.2)
  nodup : ((d.pend ++ d.gs.flatten).map (·.1)).Nodup
  effs : ∀ i o, Nat.testBit d.D i = true → g.ops[i]? = some o → clsOf tb o = .eff → i ∈ d.es
  esD : ∀ i ∈ d.es, Nat.testBit d.D i = true
  esNodup : d.es.Nodup
  effL : EffL tb P ev g d.vals σ0 d.es d.σs d.gs d.st

theorem bit_or (D i j : Nat) : Nat.testBit (D ||| 2 ^ i) j = (Nat.testBit D j || decide (i = j)) := by
  rw [Nat.testBit_or, Nat.testBit_two_pow]

theorem slot_put {V : T AVal} {i j : Nat} {a : AVal} (hi : i < 1000000000) : slot (V.put i a) j = if j = i then a else slot V j := by
  unfold slot
  rw [T.get_put _ _ _ _ hi]
  by_cases e : j = i <;> simp [e]

theorem ρ_congr {V V' : T AVal} {i : Nat} (h : ∀ j, Nat.testBit (g.mask i) j = true → slot V' j = slot V j) : g.ρ V' i = g.ρ V i := by
  funext x
  cases x with
  | tmp t =>
    simp only [Rg.ρ]
    split
    · rfl
    · rename_i j _
      cases hb : Nat.testBit (g.mask i) j with
      | false => rfl
      | true => simp only [cond_true]; exact h j hb
  | _ => rfl

theorem wanted_congr {V V' : T AVal} {b : Nat} {o : Oper} (h : ∀ j, Nat.testBit b j = true → slot V' j = slot V j) : g.wanted V' b o = g.wanted V b o := by
  unfold Rg.wanted
  split
  · rfl
  · rename_i j want _
    cases hb : Nat.testBit b j with
    | false => rfl
    | true => simp only [cond_true, h j hb]

theorem sub_of_land {b D : Nat} (h : Nat.beq (Nat.land b D) b = true) : ∀ j, Nat.testBit b j = true → Nat.testBit D j = true := by
  intro j hj
  have e : b &&& D = b := by simpa [Nat.beq_eq] using h
  rw [← e, Nat.testBit_and] at hj
  simp only [Bool.and_eq_true] at hj
  exact hj.2

theorem EffL.es_mem {V : T AVal} {σ0 : St} : ∀ {es σs gs σ}, EffL tb P ev g V σ0 es σs gs σ → ∀ e ∈ es, ∃ es' G σ1 σ2, EffF tb P ev g V es' e G σ1 σ2
  | _, _, _, _, .nil => fun e h => by cases h
  | _, _, _, _, .cons x y => fun e h => by
    rcases List.mem_cons.1 h with rfl | h
    · exact ⟨_, _, _, _, y⟩
    · exact x.es_mem e h

theorem EffL.congr {V V' : T AVal} {σ0 : St} : ∀ {es σs gs σ}, EffL tb P ev g V σ0 es σs gs σ → (∀ e ∈ es, slot V' e = slot V e ∧ ∀ j, Nat.testBit (g.mask e) j = true → slot V' j = slot V j) →
    EffL tb P ev g V' σ0 es σs gs σ
  | _, _, _, _, .nil, _ => .nil
  | _, _, _, _, .cons (e := e) x y, h => by
    refine .cons (x.congr fun e he => h e (List.mem_cons_of_mem _ he)) ?_
    obtain ⟨h1, h2⟩ := h e (by simp)
    obtain ⟨o, y1, y2, y3, y4, y5⟩ := y
    refine ⟨o, y1, y2, y3, y4, ?_⟩
    rw [wanted_congr h2, ρ_congr h2, h1]
    exact y5

theorem DFacts.grow {σ0 : St} {d : DS} {i : Nat} {a : AVal} (F : DFacts tb P ev g σ0 d) (hi : i < 1000000000) (hD : Nat.testBit d.D i = false) :
    (∀ j, Nat.testBit d.D j = true → slot (d.vals.put i a) j = slot d.vals j) ∧
    (∀ j, Nat.testBit d.D j = true → ∃ o wn, g.ops[j]? = some o ∧ OpF tb P g (d.vals.put i a) (d.D ||| 2 ^ i) j o wn) ∧
    (∀ p ∈ d.pend ++ d.gs.flatten, Nat.testBit d.D p.1 = true ∧ ∃ o a', g.ops[p.1]? = some o ∧ clsOf tb o = .free ∧ g.wanted (d.vals.put i a) (g.mask p.1) o = some true ∧
      freeA tb P (g.ρ (d.vals.put i a) p.1) o (g.id0 + p.1) = some (a', some p.2)) ∧
    EffL tb P ev g (d.vals.put i a) σ0 d.es d.σs d.gs d.st := by
  have hs : ∀ j, Nat.testBit d.D j = true → slot (d.vals.put i a) j = slot d.vals j := fun j hj => by
    rw [slot_put hi, if_neg (by intro e; subst e; rw [hD] at hj; cases hj)]
  have hb : ∀ j, Nat.testBit d.D j = true → ∀ k, Nat.testBit (g.mask j) k = true → slot (d.vals.put i a) k = slot d.vals k := fun j hj k hk => by
    obtain ⟨o, wn, _, h⟩ := F.each j hj
    exact hs k (h.before k hk)
  refine ⟨hs, fun j hj => ?_, fun p hp => ?_, F.effL.congr fun e he => ⟨hs e (F.esD e he), hb e (F.esD e he)⟩⟩
  · obtain ⟨o, wn, h1, h2⟩ := F.each j hj
    refine ⟨o, wn, h1, fun k hk => ?_, h2.okOps, ?_, fun hw => ?_, fun hw hc => ?_⟩
    · rw [bit_or, h2.before k hk]; rfl
    · rw [wanted_congr (hb j hj)]; exact h2.wanted
    · rw [hs j hj]; exact h2.skipped hw
    · rw [ρ_congr (hb j hj), hs j hj]; exact h2.free hw hc
  · obtain ⟨h1, o, a', h2, h3, h4, h5⟩ := F.pairs p hp
    refine ⟨h1, o, a', h2, h3, ?_, ?_⟩
    · rw [wanted_congr (hb _ h1)]; exact h4
    · rw [ρ_congr (hb _ h1)]; exact h5

theorem dStep_facts {σ0 : St} {d d' : DS} {i : Nat} (hn : g.ops.size < 1000000000) (F : DFacts tb P ev g σ0 d) (h : dStep tb P ev g d i = some d') : DFacts tb P ev g σ0 d' := by
  unfold dStep at h
  split at h
  · cases h
  rename_i o ho
  have hi : i < 1000000000 := Nat.lt_trans (Array.getElem?_eq_some_iff.1 ho).1 hn
  simp only at h
  cases hc : (Nat.testBit d.D i || !(Nat.beq (Nat.land (g.mask i) d.D) (g.mask i)) || !(o.op.operands.all (g.okOp i))) with
  | true => rw [hc] at h; cases h
  | false =>
  rw [hc] at h
  simp only [cond_false] at h
  simp only [Bool.or_eq_false_iff, Bool.not_eq_false'] at hc
  obtain ⟨⟨hD, hb⟩, hops⟩ := hc
  have hb := sub_of_land hb
  split at h
  · cases h
  rename_i wn hw
  -- the fact of the new operation
  have G := fun a => F.grow (a := a) hi hD
  have hself : ∀ a, slot (d.vals.put i a) i = a := fun a => by rw [slot_put hi, if_pos rfl]
  have hbs : ∀ a k, Nat.testBit (g.mask i) k = true → slot (d.vals.put i a) k = slot d.vals k := fun a k hk => (G a).1 k (hb k hk)
  have newF : ∀ a, (wn = false → a = .lit undef) → (wn = true → clsOf tb o = .free → ∃ oo, freeA tb P (g.ρ d.vals i) o (g.id0 + i) = some (a, oo)) →
      ∀ j, Nat.testBit (d.D ||| 2 ^ i) j = true → ∃ o wn, g.ops[j]? = some o ∧ OpF tb P g (d.vals.put i a) (d.D ||| 2 ^ i) j o wn := by
    intro a h1 h2 j hj
    rw [bit_or] at hj
    simp only [Bool.or_eq_true, decide_eq_true_eq] at hj
    rcases hj with hj | rfl
    · exact (G a).2.1 j hj
    · refine ⟨o, wn, ho, fun k hk => ?_, hops, ?_, fun hwf => ?_, fun hwt hcl => ?_⟩
      · rw [bit_or, hb k hk]; rfl
      · rw [wanted_congr (hbs a)]; exact hw
      · rw [hself, h1 hwf]
      · rw [ρ_congr (hbs a), hself]; exact h2 hwt hcl
  have effsOld : clsOf tb o ≠ .eff → ∀ j o', Nat.testBit (d.D ||| 2 ^ i) j = true → g.ops[j]? = some o' → clsOf tb o' = .eff → j ∈ d.es := by
    intro hne j o' hj ho' hcl
    rw [bit_or] at hj
    simp only [Bool.or_eq_true, decide_eq_true_eq] at hj
    rcases hj with hj | rfl
    · exact F.effs j o' hj ho' hcl
    · rw [ho] at ho'; cases ho'; exact absurd hcl hne
  have orL : ∀ j, Nat.testBit d.D j = true → Nat.testBit (d.D ||| 2 ^ i) j = true := fun j hj => by rw [bit_or, hj]; rfl
  have plain : ∀ a, clsOf tb o ≠ .eff → (wn = false → a = .lit undef) → (wn = true → clsOf tb o = .free → ∃ oo, freeA tb P (g.ρ d.vals i) o (g.id0 + i) = some (a, oo)) →
      DFacts tb P ev g σ0 { d with vals := d.vals.put i a, D := d.D ||| 2 ^ i } := fun a hne h1 h2 =>
    ⟨newF a h1 h2, fun p hp => let ⟨x, y⟩ := (G a).2.2.1 p hp; ⟨orL _ x, y⟩, F.nodup, effsOld hne, fun j hj => orL _ (F.esD j hj), F.esNodup, (G a).2.2.2⟩
  have hinot : i ∉ (d.pend ++ d.gs.flatten).map (·.1) := fun hm => by
    obtain ⟨p, hp, hpi⟩ := List.mem_map.1 hm
    have := (F.pairs p hp).1
    rw [hpi, hD] at this; cases this
  split at h
  · -- free
    rename_i hcl
    have hne : clsOf tb o ≠ .eff := by rw [hcl]; simp
    split at h
    · cases h
      exact plain _ hne (fun _ => rfl) (fun e => by cases e)
    · split at h
      · rename_i a ob hf
        cases h
        have hnew := newF a (fun e => by cases e) (fun _ _ => ⟨_, hf⟩)
        refine ⟨hnew, fun p hp => ?_, ?_, effsOld hne, fun j hj => orL _ (F.esD j hj), F.esNodup, (G a).2.2.2⟩
        · simp only [List.cons_append, List.mem_cons] at hp
          rcases hp with rfl | hp
          · refine ⟨by rw [bit_or]; simp, o, a, ho, hcl, ?_, ?_⟩
            · rw [wanted_congr (hbs a)]; exact hw
            · rw [ρ_congr (hbs a)]; exact hf
          · obtain ⟨x, y⟩ := (G a).2.2.1 p hp; exact ⟨orL _ x, y⟩
        · simp only [List.cons_append, List.map_cons, List.nodup_cons]
          exact ⟨hinot, F.nodup⟩
      · rename_i a hf
        cases h
        exact plain a hne (fun e => by cases e) (fun _ _ => ⟨_, hf⟩)
      · cases h
  · -- read
    rename_i hcl
    have hne : clsOf tb o ≠ .eff := by rw [hcl]; simp
    split at h
    · cases h
      exact plain _ hne (fun _ => rfl) (fun e => by cases e)
    · split at h
      · rename_i a hf
        cases h
        exact plain a hne (fun e => by cases e) (fun _ e => by rw [hcl] at e; cases e)
      · cases h
  · -- an effect
    rename_i hcl
    cases hlb : (lastBit (g.mask i) d.es && d.pend.all fun p => Nat.testBit (g.mask i) p.1) with
    | false => rw [hlb] at h; cases h
    | true =>
    rw [hlb] at h
    simp only [cond_true] at h
    simp only [Bool.and_eq_true, List.all_eq_true] at hlb
    have hies : i ∉ d.es := fun hm => by have := F.esD i hm; rw [hD] at this; cases this
    have fin : ∀ a s, (wn = false → a = .lit undef) → (g.wanted (d.vals.put i a) (g.mask i) o = some true ∧ effA tb P ev (g.ρ (d.vals.put i a) i) o (g.id0 + i) (adopt g.id0 d.pend d.st) = some (slot (d.vals.put i a) i, s) ∨
        g.wanted (d.vals.put i a) (g.mask i) o = some false ∧ s = adopt g.id0 d.pend d.st) →
        DFacts tb P ev g σ0 { vals := d.vals.put i a, D := d.D ||| 2 ^ i, st := s, pend := [], es := i :: d.es, σs := d.st :: d.σs, gs := d.pend :: d.gs } := by
      intro a s h1 h2
      refine ⟨newF a h1 (fun _ e => by rw [hcl] at e; cases e), fun p hp => ?_, ?_, ?_, ?_, ?_, .cons (G a).2.2.2 ⟨o, ho, hcl, hlb.1, hlb.2, h2⟩⟩
      · simp only [List.nil_append, List.flatten_cons] at hp
        obtain ⟨x, y⟩ := (G a).2.2.1 p hp; exact ⟨orL _ x, y⟩
      · simpa using F.nodup
      · intro j o' hj ho' hc'
        rw [bit_or] at hj
        simp only [Bool.or_eq_true, decide_eq_true_eq] at hj
        rcases hj with hj | rfl
        · exact List.mem_cons_of_mem _ (F.effs j o' hj ho' hc')
        · simp
      · intro j hj
        rcases List.mem_cons.1 hj with rfl | hj
        · rw [bit_or]; simp
        · exact orL _ (F.esD j hj)
      · exact List.nodup_cons.2 ⟨hies, F.esNodup⟩
    split at h
    · cases h
      refine fin _ _ (fun _ => rfl) (.inr ⟨?_, rfl⟩)
      rw [wanted_congr (hbs _)]; exact hw
    · split at h
      · rename_i a s he
        cases h
        refine fin a s (fun e => by cases e) (.inl ⟨?_, ?_⟩)
        · rw [wanted_congr (hbs _)]; exact hw
        · rw [ρ_congr (hbs _), hself]; exact he
      · cases h

theorem dSteps_facts {σ0 : St} (hn : g.ops.size < 1000000000) : ∀ {l : List Nat} {d d' : DS}, DFacts tb P ev g σ0 d → dSteps tb P ev g l d = some d' → DFacts tb P ev g σ0 d'
  | [], d, d', F, h => by cases h; exact F
  | i :: l, d, d', F, h => by
    unfold dSteps at h
    split at h
    · rename_i d1 h1
      exact dSteps_facts hn (dStep_facts hn F h1) h
    · cases h

theorem facts_init {s : St} : DFacts tb P ev g s { vals := .leaf, D := 0, st := s, pend := [], es := [], σs := [], gs := [] } where
  each i h := by simp at h
  pairs p h := by simp at h
  nodup := by simp
  effs i o h := by simp at h
  esD i h := by simp at h
  esNodup := by simp
  effL := .nil
end
end Go.Proofs.YtiemogegdoogaaaGreat.Eng

namespace Go.Proofs.YtiemogegdoogaaaGreat.Eng
open Go
variable [Interp]

theorem bindsA_eq (e : Edge) : bindsA e = Region.binds .any e := by
  unfold bindsA Region.binds
  cases e.ground <;> rfl

theorem maskOf_spec (B : T Nat) (i : Nat) : ∀ (l : List Edge) (m m' : Nat), maskOf B i l m = some m' →
    (∀ j, Nat.testBit m' j = true → Nat.testBit m j = true ∨ ∃ e ∈ l, bindsA e = true ∧ (j = e.on ∨ ∃ b, B.get e.on = some b ∧ Nat.testBit b j = true)) ∧ (∀ e ∈ l, bindsA e = true → e.on < i)
  | [], m, m', h => by cases h; exact ⟨fun j hj => .inl hj, fun e he => by cases he⟩
  | e :: l, m, m', h => by
    unfold maskOf at h
    split at h
    · rename_i hb
      obtain ⟨h1, h2⟩ := maskOf_spec B i l m m' h
      refine ⟨fun j hj => (h1 j hj).imp id fun ⟨x, y, z⟩ => ⟨x, List.mem_cons_of_mem _ y, z⟩, fun x hx hxb => ?_⟩
      rcases List.mem_cons.1 hx with rfl | hx
      · rw [hb] at hxb; cases hxb
      · exact h2 x hx hxb
    · rename_i hb
      cases hlt : Nat.blt e.on i with
      | false => rw [hlt] at h; cases h
      | true =>
      rw [hlt] at h
      simp only [cond_true] at h
      split at h
      case h_2 => cases h
      rename_i b hB
      obtain ⟨h1, h2⟩ := maskOf_spec B i l _ m' h
      refine ⟨fun j hj => ?_, fun x hx hxb => ?_⟩
      · rcases h1 j hj with h3 | ⟨x, y, z⟩
        · rw [Nat.testBit_or, Nat.testBit_or, Nat.testBit_two_pow] at h3
          simp only [Bool.or_eq_true, decide_eq_true_eq] at h3
          rcases h3 with (h3 | h3) | h3
          · exact .inl h3
          · exact .inr ⟨e, by simp, hb, .inl h3.symm⟩
          · exact .inr ⟨e, by simp, hb, .inr ⟨b, hB, h3⟩⟩
        · exact .inr ⟨x, List.mem_cons_of_mem _ y, z⟩
      · rcases List.mem_cons.1 hx with rfl | hx
        · simpa [Nat.blt_eq] using hlt
        · exact h2 x hx hxb

theorem masks_spec : ∀ (l : List Oper) (i : Nat) (B B' : T Nat), i + l.length < 1000000000 → masks l i B = some B' →
    (∀ j, j < i → B'.get j = B.get j) ∧ ∀ x o, l[x]? = some o → ∃ m, B'.get (i + x) = some m ∧ (∀ e ∈ o.after.toList, bindsA e = true → e.on < i + x) ∧
      ∀ j, Nat.testBit m j = true → ∃ e ∈ o.after.toList, bindsA e = true ∧ (j = e.on ∨ ∃ b, B'.get e.on = some b ∧ Nat.testBit b j = true)
  | [], i, B, B', _, h => by cases h; exact ⟨fun _ _ => rfl, fun x o hx => by simp at hx⟩
  | o :: l, i, B, B', hlt, h => by
    simp only [List.length_cons] at hlt
    unfold masks at h
    split at h
    case h_2 => cases h
    rename_i m hm
    obtain ⟨h1, h2⟩ := masks_spec l (i + 1) (B.put i m) B' (by omega) h
    have hold : ∀ j, j < i → B'.get j = B.get j := fun j hj => by
      rw [h1 j (by omega), T.get_put _ _ _ _ (by omega), if_neg (by omega)]
    refine ⟨hold, fun x o' hx => ?_⟩
    cases x with
    | zero =>
      simp only [List.getElem?_cons_zero, Option.some.injEq] at hx
      subst hx
      obtain ⟨k1, k2⟩ := maskOf_spec B i _ _ _ hm
      refine ⟨m, ?_, k2, fun j hj => ?_⟩
      · rw [Nat.add_zero, h1 i (by omega), T.get_put _ _ _ _ (by omega), if_pos rfl]
      · rcases k1 j hj with k3 | ⟨e, k3, k4, k5⟩
        · simp at k3
        · exact ⟨e, k3, k4, k5.imp id fun ⟨b, k6, k7⟩ => ⟨b, (hold _ (k2 e k3 k4)).trans k6, k7⟩⟩
    | succ x =>
      simp only [List.getElem?_cons_succ] at hx
      obtain ⟨m', k1, k2, k3⟩ := h2 x o' hx
      have e : i + (x + 1) = i + 1 + x := by omega
      rw [e]; exact ⟨m', k1, k2, k3⟩

theorem writers_spec {nt : Nat} (hnt : nt < 1000000000) : ∀ (l : List Oper) (i : Nat) (W W' : T Nat), writers nt l i W = some W' →
    (∀ t j, W.get t = some j → W'.get t = some j) ∧
    (∀ x o d, l[x]? = some o → o.dst = some d → d < nt ∧ W'.get d = some (i + x)) ∧
    (∀ t j, W'.get t = some j → W.get t = some j ∨ ∃ x o, j = i + x ∧ l[x]? = some o ∧ o.dst = some t)
  | [], i, W, W', h => by cases h; exact ⟨fun _ _ h => h, fun x o d hx => by simp at hx, fun t j h => .inl h⟩
  | o :: l, i, W, W', h => by
    unfold writers at h
    split at h
    · rename_i hd
      obtain ⟨h1, h2, h3⟩ := writers_spec hnt l (i + 1) W W' h
      refine ⟨h1, fun x o' d hx hdst => ?_, fun t j hj => (h3 t j hj).imp id fun ⟨x, o', e1, e2, e3⟩ => ⟨x + 1, o', by omega, e2, e3⟩⟩
      cases x with
      | zero => simp only [List.getElem?_cons_zero, Option.some.injEq] at hx; subst hx; rw [hd] at hdst; cases hdst
      | succ x => have := h2 x o' d (by simpa using hx) hdst; exact ⟨this.1, by rw [this.2]; congr 1; omega⟩
    · rename_i d hd
      cases hlt : Nat.blt d nt with
      | false => rw [hlt] at h; cases h
      | true =>
      rw [hlt] at h
      simp only [cond_true] at h
      have hlt' : d < nt := by simpa [Nat.blt_eq] using hlt
      split at h
      case h_2 => cases h
      rename_i hW
      obtain ⟨h1, h2, h3⟩ := writers_spec hnt l (i + 1) (W.put d i) W' h
      have hp : ∀ t, (W.put d i).get t = if t = d then some i else W.get t := fun t => T.get_put _ _ _ _ (Nat.lt_trans hlt' hnt)
      refine ⟨fun t j hj => h1 t j ?_, fun x o' d' hx hdst => ?_, fun t j hj => ?_⟩
      · rw [hp, if_neg (by intro e; subst e; rw [hW] at hj; cases hj)]; exact hj
      · cases x with
        | zero =>
          simp only [List.getElem?_cons_zero, Option.some.injEq] at hx
          subst hx
          rw [hd] at hdst; cases hdst
          exact ⟨hlt', h1 _ _ (by rw [hp, if_pos rfl]; rfl)⟩
        | succ x => have := h2 x o' d' (by simpa using hx) hdst; exact ⟨this.1, by rw [this.2]; congr 1; omega⟩
      · rcases h3 t j hj with h4 | ⟨x, o', e1, e2, e3⟩
        · rw [hp] at h4
          by_cases e : t = d
          · subst e; rw [if_pos rfl] at h4; cases h4; exact .inr ⟨0, o, rfl, rfl, hd⟩
          · rw [if_neg e] at h4; exact .inl h4
        · exact .inr ⟨x + 1, o', by omega, e2, e3⟩

structure RgOK (g : Rg) : Prop where
  nt : g.nt < 1000000000
  size : g.ops.size < 1000000000
  edges : ∀ i o, g.ops[i]? = some o → ∀ e ∈ o.after, bindsA e = true → e.on < i
  mask : ∀ i o, g.ops[i]? = some o → ∀ j, Nat.testBit (g.mask i) j = true → ∃ e ∈ o.after, bindsA e = true ∧ (j = e.on ∨ Nat.testBit (g.mask e.on) j = true)
  wr : ∀ i o d, g.ops[i]? = some o → o.dst = some d → d < g.nt ∧ g.wr.get d = some i
  wr' : ∀ t j, g.wr.get t = some j → ∃ o, g.ops[j]? = some o ∧ o.dst = some t

theorem rgOK {ops : Array Oper} {nt id0 : Nat} {W B : T Nat} {sl : T AVal} (hnt : nt < 1000000000) (hn : ops.size < 1000000000) (hB : masks ops.toList 0 .leaf = some B) (hW : writers nt ops.toList 0 .leaf = some W) :
    RgOK { ops, nt, wr := W, B, sl, id0 } := by
  obtain ⟨_, b2⟩ := masks_spec ops.toList 0 .leaf B (by simpa using hn) hB
  obtain ⟨_, w2, w3⟩ := writers_spec hnt ops.toList 0 .leaf W hW
  simp only [Nat.zero_add] at b2 w2 w3
  have hget : ∀ (i : Nat) (o : Oper), ops[i]? = some o → ops.toList[i]? = some o := fun i o h => by simpa using h
  refine ⟨hnt, hn, fun i o ho e he hb => ?_, fun i o ho j hj => ?_, fun i o d ho hd => w2 i o d (hget i o ho) hd, fun t j hj => ?_⟩
  · obtain ⟨m, h1, h2, h3⟩ := b2 i o (hget i o ho)
    exact h2 e (by simpa using he) hb
  · obtain ⟨m, h1, h2, h3⟩ := b2 i o (hget i o ho)
    simp only [Rg.mask, h1] at hj
    obtain ⟨e, k1, k2, k3⟩ := h3 j hj
    refine ⟨e, by simpa using k1, k2, k3.imp id fun ⟨b, k4, k5⟩ => ?_⟩
    simp only [Rg.mask, k4]; exact k5
  · rcases w3 t j hj with h | ⟨x, o, e1, e2, e3⟩
    · rw [T.get_leaf] at h; cases h
    · subst e1; exact ⟨o, by simpa using e2, e3⟩

noncomputable def Closed (g : Rg) (listed : Array Bool) : Prop := ∀ (i : Nat) (o : Oper), g.ops[i]? = some o → listed.getD i false = true → ∀ e ∈ o.after, bindsA e = true → listed.getD e.on false = true

theorem mask_listed {g : Rg} (ok : RgOK g) {listed : Array Bool} (hc : Closed g listed) : ∀ (i : Nat) (o : Oper), g.ops[i]? = some o → (∀ e ∈ o.after, bindsA e = true → listed.getD e.on false = true) →
    ∀ j, Nat.testBit (g.mask i) j = true → listed.getD j false = true := by
  intro i
  induction i using Nat.strongRecOn with
  | _ i ih =>
    intro o ho hall j hj
    obtain ⟨e, he, hb, h⟩ := ok.mask i o ho j hj
    have hl := hall e he hb
    rcases h with rfl | h
    · exact hl
    · have hlt := ok.edges i o ho e he hb
      have hlt' : e.on < g.ops.size := Nat.lt_trans hlt (Array.getElem?_eq_some_iff.1 ho).1
      have hoe : g.ops[e.on]? = some g.ops[e.on] := Array.getElem?_eq_getElem hlt'
      exact ih e.on hlt _ hoe (hc e.on _ hoe hl) j h
end Go.Proofs.YtiemogegdoogaaaGreat.Eng

namespace Go.Proofs.YtiemogegdoogaaaGreat.Eng
open Go
variable [Interp]

section
variable {tb : Tab} {P : Program} {ev : EvS} {g : Rg} {d : DS}

noncomputable def rest (d : DS) (q : Nat) : List (Nat × AObj) := d.pend ++ (d.gs.take q).flatten

structure Inv (g : Rg) (d : DS) (κ0 : Pl) (s0 : St) (W0 : World) (dfs : List Deferred) (listed : Array Bool) (a : Act) (w : World) (q : Nat) (κ : Pl) (σ : St) : Prop where
  q_le : q ≤ d.es.length
  st : (d.st :: d.σs)[q]? = some σ
  size : listed.size = g.ops.size
  closed : Closed g listed
  effs : ∀ e ∈ d.es, (listed.getD e false = true ↔ e ∈ d.es.drop q)
  goes : Goes (· < s0.next) κ0 s0 W0 κ σ w
  lo : g.id0 + g.ops.size ≤ σ.next
  tsize : a.tmps.size = g.nt
  vals : ∀ i o t, g.ops[i]? = some o → o.dst = some t → listed.getD i false = true → V κ (slot d.vals i) (a.tmps.getD t undef)
  olds : ∀ t, (∀ i o, g.ops[i]? = some o → listed.getD i false = true → o.dst ≠ some t) → V κ (slot g.sl t) (a.tmps.getD t undef)
  defers : a.defers = dfs
  pend : ∀ p ∈ rest d q, listed.getD p.1 false = true → ∃ b obj, κ (g.id0 + p.1) = some b ∧ W0.heap.size ≤ b ∧ w.heap[b]? = some obj ∧ ORel κ p.2 obj ∧ ∀ j, σ.live j → κ j ≠ some b
  apart : ∀ p ∈ rest d q, ∀ p' ∈ rest d q, listed.getD p.1 false = true → listed.getD p'.1 false = true → p.1 ≠ p'.1 → κ (g.id0 + p.1) ≠ κ (g.id0 + p'.1)
  fresh : ∀ i, i < g.ops.size → listed.getD i false = false → Free κ σ (g.id0 + i)

theorem getD_set_ne' {l : Array Bool} {i j : Nat} {b : Bool} (h : i ≠ j) : (l.setIfInBounds i true).getD j b = l.getD j b := by
  simp only [Array.getD_eq_getD_getElem?]; rw [Array.getElem?_setIfInBounds_ne h]

theorem getD_set_self {l : Array Bool} {i : Nat} {b : Bool} (h : i < l.size) : (l.setIfInBounds i true).getD i b = true := by
  simp [Array.getD_eq_getD_getElem?, h]

theorem vals_put {κ κ' : Pl} {listed : Array Bool} {a : Act} {i : Nat} {o : Oper} {x : Value} (rok : RgOK g) (hle : κ.le κ') (ho : g.ops[i]? = some o) (hil : i < listed.size) (hun : listed.getD i false = false)
    (hsz : a.tmps.size = g.nt) (hx : V κ' (slot d.vals i) x)
    (hv : ∀ i o t, g.ops[i]? = some o → o.dst = some t → listed.getD i false = true → V κ (slot d.vals i) (a.tmps.getD t undef))
    (hold : ∀ t, (∀ i o, g.ops[i]? = some o → listed.getD i false = true → o.dst ≠ some t) → V κ (slot g.sl t) (a.tmps.getD t undef)) :
    (a.put o.dst x).tmps.size = g.nt ∧
    (∀ j o' t, g.ops[j]? = some o' → o'.dst = some t → (listed.setIfInBounds i true).getD j false = true → V κ' (slot d.vals j) ((a.put o.dst x).tmps.getD t undef)) ∧
    (∀ t, (∀ j o', g.ops[j]? = some o' → (listed.setIfInBounds i true).getD j false = true → o'.dst ≠ some t) → V κ' (slot g.sl t) ((a.put o.dst x).tmps.getD t undef)) := by
  have hput : ∀ t, o.dst ≠ some t → (a.put o.dst x).tmps.getD t undef = a.tmps.getD t undef := fun t ht => by
    cases hd : o.dst with
    | none => rfl
    | some t' =>
      have hne : t' ≠ t := fun e => ht (by rw [hd, e])
      simp only [Act.put, Array.getD_eq_getD_getElem?]
      rw [Array.getElem?_setIfInBounds_ne hne]
  have hself : ∀ t, o.dst = some t → (a.put o.dst x).tmps.getD t undef = x := fun t ht => by
    have := (rok.wr i o t ho ht).1
    rw [ht]
    simp [Act.put, Array.getD_eq_getD_getElem?, hsz, this]
  refine ⟨?_, fun j o' t ho' ht hl => ?_, fun t hno => ?_⟩
  · cases hd : o.dst <;> simp [Act.put, hsz]
  · by_cases hji : j = i
    · subst hji
      rw [ho] at ho'; cases ho'
      rw [hself t ht]; exact hx
    · rw [getD_set_ne' (Ne.symm hji)] at hl
      rw [hput t fun hd => hji ?_]
      · exact (hv j o' t ho' ht hl).mono hle
      · have h1 := (rok.wr i o t ho hd).2
        have h2 := (rok.wr j o' t ho' ht).2
        rw [h1] at h2; cases h2; rfl
  · have h1 : o.dst ≠ some t := hno i o ho (getD_set_self hil)
    rw [hput t h1]
    refine (hold t fun j o' ho' hl => hno j o' ho' ?_).mono hle
    have hji : j ≠ i := fun e => by subst e; rw [hun] at hl; cases hl
    rw [getD_set_ne' (Ne.symm hji)]; exact hl

theorem closed_set {listed : Array Bool} {i : Nat} {o : Oper} (ho : g.ops[i]? = some o) (hil : i < listed.size) (hc : Closed g listed) (hall : ∀ e ∈ o.after, bindsA e = true → listed.getD e.on false = true) :
    Closed g (listed.setIfInBounds i true) := by
  have up : ∀ j, listed.getD j false = true → (listed.setIfInBounds i true).getD j false = true := fun j hj => by
    by_cases e : i = j
    · subst e; exact getD_set_self hil
    · rw [getD_set_ne' e]; exact hj
  intro j o' ho' hl e he hb
  by_cases hji : j = i
  · subst hji
    rw [ho] at ho'; cases ho'
    exact up _ (hall e he hb)
  · rw [getD_set_ne' (Ne.symm hji)] at hl
    exact up _ (hc j o' ho' hl e he hb)

theorem Inv.add {κ0 : Pl} {s0 : St} {W0 : World} {dfs : List Deferred} {listed : Array Bool} {a : Act} {w : World} {q : Nat} {κ : Pl} {σ : St} (I : Inv g d κ0 s0 W0 dfs listed a w q κ σ) (rok : RgOK g)
    (hid : s0.next ≤ g.id0) {i : Nat} {o : Oper} (ho : g.ops[i]? = some o) (hun : listed.getD i false = false) (hall : ∀ e ∈ o.after, bindsA e = true → listed.getD e.on false = true) (hne : i ∉ d.es)
    {κ' : Pl} {w' : World} {x : Value} (hg : Goes (· ≠ g.id0 + i) κ σ w κ' σ w') (hx : V κ' (slot d.vals i) x)
    (hp : ∀ p ∈ rest d q, p.1 = i → ∃ b obj, κ' (g.id0 + p.1) = some b ∧ w.heap.size ≤ b ∧ w'.heap[b]? = some obj ∧ ORel κ' p.2 obj) :
    Inv g d κ0 s0 W0 dfs (listed.setIfInBounds i true) (a.put o.dst x) w' q κ' σ := by
  have hil : i < listed.size := by rw [I.size]; exact (Array.getElem?_eq_some_iff.1 ho).1
  obtain ⟨v1, v2, v3⟩ := vals_put rok hg.le ho hil hun I.tsize hx I.vals I.olds
  have hfr := I.fresh i (by rw [← I.size]; exact hil) hun
  have hsame : ∀ j, σ.live j → κ' j = κ j := fun j hl => by
    cases hb : κ j with
    | none => exact hg.unborn j (fun e => hfr.2 (e ▸ hl)) hb
    | some b => exact hg.le.on _ _ hb
  have hpend : ∀ p ∈ rest d q, (listed.setIfInBounds i true).getD p.1 false = true → ∃ b obj, κ' (g.id0 + p.1) = some b ∧ W0.heap.size ≤ b ∧ w'.heap[b]? = some obj ∧ ORel κ' p.2 obj ∧
      (∀ j, σ.live j → κ' j ≠ some b) ∧ (p.1 = i → w.heap.size ≤ b) ∧ (p.1 ≠ i → b < w.heap.size ∧ κ (g.id0 + p.1) = some b) := by
    intro p hpm hl
    by_cases hpi : p.1 = i
    · obtain ⟨b, obj, h1, h2, h3, h4⟩ := hp p hpm hpi
      refine ⟨b, obj, h1, Nat.le_trans I.goes.size h2, h3, h4, fun j hlj => ?_, fun _ => h2, fun hne => absurd hpi hne⟩
      rw [hsame j hlj]
      intro e
      have := I.goes.rel.size _ _ e
      omega
    · rw [getD_set_ne' (Ne.symm hpi)] at hl
      obtain ⟨b, obj, h1, h2, h3, h4, h5⟩ := I.pend p hpm hl
      have hlt : b < w.heap.size := (Array.getElem?_eq_some_iff.1 h3).1
      refine ⟨b, obj, hg.le.on _ _ h1, h2, (hg.old b hlt fun j hj => h5 j hj.live).trans h3, h4.mono hg.le, fun j hlj => ?_, fun e => absurd e hpi, fun _ => ⟨hlt, h1⟩⟩
      rw [hsame j hlj]; exact h5 j hlj
  refine ⟨I.q_le, I.st, by simp [I.size], closed_set ho hil I.closed hall, fun e he => ?_, I.goes.trans (hg.less fun j (hj : j < s0.next) => Nat.ne_of_lt (by omega)), I.lo, v1, v2, v3, ?_, fun p hpm hl => ?_, fun p hpm p' hpm' hl hl' hpp => ?_, fun j hj hl => ?_⟩
  · have : i ≠ e := fun h => hne (h ▸ he)
    rw [getD_set_ne' this]; exact I.effs e he
  · cases hd : o.dst <;> simp [Act.put, I.defers]
  · obtain ⟨b, obj, h1, h2, h3, h4, h5, _⟩ := hpend p hpm hl
    exact ⟨b, obj, h1, h2, h3, h4, h5⟩
  · obtain ⟨b, obj, h1, h2, h3, h4, h5, h6, h7⟩ := hpend p hpm hl
    obtain ⟨b', obj', k1, k2, k3, k4, k5, k6, k7⟩ := hpend p' hpm' hl'
    rw [h1, k1]
    intro e; cases e
    by_cases hpi : p.1 = i
    · have := h6 hpi
      have hpi' : p'.1 ≠ i := fun e => hpp (hpi.trans e.symm)
      have := (k7 hpi').1
      omega
    · by_cases hpi' : p'.1 = i
      · have := k6 hpi'
        have := (h7 hpi).1
        omega
      · rw [getD_set_ne' (Ne.symm hpi)] at hl
        rw [getD_set_ne' (Ne.symm hpi')] at hl'
        exact I.apart p hpm p' hpm' hl hl' hpp ((h7 hpi).2.trans (k7 hpi').2.symm)
  · by_cases hji : j = i
    · subst hji; rw [getD_set_self hil] at hl; cases hl
    · rw [getD_set_ne' (Ne.symm hji)] at hl
      exact ⟨hg.unborn _ (by intro e; exact hji (by omega)) (I.fresh j hj hl).1, (I.fresh j hj hl).2⟩
end
end Go.Proofs.YtiemogegdoogaaaGreat.Eng

namespace Go.Proofs.YtiemogegdoogaaaGreat.Eng
open Go
variable [Interp]
variable {E : Nat → Option Value}

section
variable {tb : Tab} {P : Program} {ev : EvS} {g : Rg} {d : DS}

theorem adopt_next (id0 : Nat) : ∀ (G : List (Nat × AObj)) (s : St), (adopt id0 G s).next = s.next
  | [], _ => rfl
  | _ :: G, s => by simp only [adopt]; rw [adopt_next id0 G]

theorem adopt_sound {U : Nat → Prop} {κ0 κ : Pl} {s0 : St} {W0 w : World} {id0 : Nat} : ∀ (G : List (Nat × AObj)) (σ : St), Goes U κ0 s0 W0 κ σ w →
    (∀ p ∈ G, id0 + p.1 < σ.next ∧ ¬ U (id0 + p.1)) → (G.map (·.1)).Nodup →
    (∀ p ∈ G, ∃ b obj, κ (id0 + p.1) = some b ∧ W0.heap.size ≤ b ∧ w.heap[b]? = some obj ∧ ORel κ p.2 obj ∧ ∀ j, σ.live j → κ j ≠ some b) →
    (∀ p ∈ G, ∀ p' ∈ G, p.1 ≠ p'.1 → κ (id0 + p.1) ≠ κ (id0 + p'.1)) →
    Goes U κ0 s0 W0 κ (adopt id0 G σ) w ∧ ∀ j, (adopt id0 G σ).live j → σ.live j ∨ ∃ p ∈ G, j = id0 + p.1
  | [], σ, h, _, _, _, _ => ⟨h, fun j hj => .inl hj⟩
  | (i, ob) :: G, σ, h, hlt, hnd, hp, hap => by
    obtain ⟨b, obj, h1, h2, h3, h4, h5⟩ := hp (i, ob) (by simp)
    obtain ⟨hin, hiU⟩ := hlt (i, ob) (by simp)
    simp only at h1 h4 hin hiU
    have hil : id0 + i < 1000000000 := Nat.lt_of_lt_of_le hin h.rel.lim
    simp only [List.map_cons, List.nodup_cons] at hnd
    have hlive : ∀ j, ({ σ with heap := σ.heap.put (id0 + i) ob } : St).live j → σ.live j ∨ j = id0 + i := fun j hj => by
      by_cases e : j = id0 + i
      · exact .inr e
      · unfold St.live at *; rw [T.get_put _ _ _ _ hil, if_neg e] at hj; exact .inl hj
    have hg : Goes U κ0 s0 W0 κ { σ with heap := σ.heap.put (id0 + i) ob } w := by
      refine ⟨h.le, ⟨h.rel.lim, h.rel.fresh, h.rel.size, fun j k c hj hk hkj hkk => ?_, h.rel.room, fun j o hj => ?_, fun j hj hl' => ?_⟩, h.next, h.size, h.old, fun j c hj hkj => ?_, fun j c hj hkj => ?_, h.unborn, fun j hj hn hl' => ?_, h.os, h.output, h.tape⟩
      · rcases hlive j hj with hj | rfl
        · rcases hlive k hk with hk | rfl
          · exact h.rel.inj j k c hj hk hkj hkk
          · rw [h1] at hkk; cases hkk; exact absurd hkj (h5 j hj)
        · rcases hlive k hk with hk | rfl
          · rw [h1] at hkj; cases hkj; exact absurd hkk (h5 k hk)
          · rfl
      · rw [T.get_put _ _ _ _ hil] at hj
        by_cases e : j = id0 + i
        · subst e; rw [if_pos rfl] at hj; cases hj; exact .inl ⟨b, obj, h1, h3, h4⟩
        · rw [if_neg e] at hj; exact h.rel.obj j o hj
      · rcases hlive j hl' with hl' | rfl
        · exact h.rel.dead j hj hl'
        · exact absurd hin (Nat.not_lt.2 hj)
      · rcases hlive j hj with hj | rfl
        · exact h.born j c hj hkj
        · rw [h1] at hkj; cases hkj; exact .inl h2
      · by_cases e : j = id0 + i
        · subst e; rw [h1] at hkj; cases hkj; exact .inl h2
        · exact h.bornM j c (hj.put hil e) hkj
      · rcases hlive j hl' with hl' | rfl
        · exact h.still j hj hn hl'
        · exact hiU hj
    obtain ⟨k1, k2⟩ := adopt_sound G { σ with heap := σ.heap.put (id0 + i) ob } hg (fun p hpm => hlt p (by simp [hpm])) hnd.2 (fun p hpm => by
        obtain ⟨b', obj', m1, m2, m3, m4, m5⟩ := hp p (by simp [hpm])
        refine ⟨b', obj', m1, m2, m3, m4, fun j hj => ?_⟩
        rcases hlive j hj with hj | rfl
        · exact m5 j hj
        · have hne : p.1 ≠ i := fun e => hnd.1 (e ▸ List.mem_map.2 ⟨p, hpm, rfl⟩)
          have := hap p (by simp [hpm]) (i, ob) (by simp) hne
          simp only [m1] at this
          exact fun e => this e.symm)
      (fun p hpm p' hpm' => hap p (by simp [hpm]) p' (by simp [hpm']))
    refine ⟨k1, fun j hj => ?_⟩
    rcases k2 j hj with h6 | ⟨p, h6, h7⟩
    · rcases hlive j h6 with h8 | h8
      · exact .inl h8
      · exact .inr ⟨(i, ob), by simp, h8⟩
    · exact .inr ⟨p, by simp [h6], h7⟩

theorem EffL_at {V : T AVal} {σ0 : St} : ∀ {es σs gs σ}, EffL tb P ev g V σ0 es σs gs σ →
    gs.length = es.length ∧ (σ :: σs)[es.length]? = some σ0 ∧
    ∀ q, q < es.length → ∃ e G σ1 σ2, es[q]? = some e ∧ gs[q]? = some G ∧ (σ :: σs)[q]? = some σ2 ∧ (σ :: σs)[q + 1]? = some σ1 ∧ EffF tb P ev g V (es.drop (q + 1)) e G σ1 σ2
  | _, _, _, _, .nil => ⟨rfl, rfl, fun q h => by simp at h⟩
  | _, _, _, _, .cons (e := e) (es := es) (σ := σ) (σs := σs) (G := G) (gs := gs) (σ' := σ') x y => by
    obtain ⟨h1, h2, h3⟩ := EffL_at x
    refine ⟨by simp [h1], by simpa using h2, fun q hq => ?_⟩
    cases q with
    | zero => exact ⟨e, G, σ, σ', rfl, rfl, rfl, rfl, y⟩
    | succ q =>
      obtain ⟨e', G', σ1, σ2, k1, k2, k3, k4, k5⟩ := h3 q (by simpa using hq)
      exact ⟨e', G', σ1, σ2, by simpa using k1, by simpa using k2, by simpa using k3, by simpa using k4, by simpa using k5⟩

theorem rest_succ {q : Nat} {G : List (Nat × AObj)} (h : d.gs[q]? = some G) : rest d (q + 1) = rest d q ++ G := by
  unfold rest
  rw [List.take_add_one, h]
  simp

theorem nodup_at {q : Nat} (hq : q ≤ d.gs.length) (h : ((d.pend ++ d.gs.flatten).map (·.1)).Nodup) : ((rest d q).map (·.1)).Nodup := by
  unfold rest
  have e : d.gs.flatten = (d.gs.take q).flatten ++ (d.gs.drop q).flatten := by rw [← List.flatten_append, List.take_append_drop]
  rw [e, ← List.append_assoc, List.map_append] at h
  exact (List.nodup_append.1 h).1

theorem Inv.ρ {κ0 : Pl} {s0 : St} {W0 : World} {dfs : List Deferred} {listed : Array Bool} {a : Act} {w : World} {q : Nat} {κ : Pl} {σ : St} (I : Inv g d κ0 s0 W0 dfs listed a w q κ σ) (rok : RgOK g)
    {i : Nat} {o : Oper} (ho : g.ops[i]? = some o) (hun : listed.getD i false = false) (hall : ∀ e ∈ o.after, bindsA e = true → listed.getD e.on false = true) (hops : o.op.operands.all (g.okOp i) = true) :
    ∃ ρ' : Operand → Value, (∀ x, V κ (g.ρ d.vals i x) (ρ' x)) ∧ ((∀ cs b, o.op ≠ .select cs b) → execOp ρ' o = execOp a.eval o) := by
  refine ⟨fun x => bif g.okOp i x then a.eval x else undef, fun x => ?_, fun hsel => execOp_congr o hsel fun x hx => ?_⟩
  · cases x with
    | tmp t =>
      simp only [Rg.ρ, Rg.okOp]
      split
      · rename_i hw
        refine I.olds t fun j o' ho' _ hd => ?_
        rw [(rok.wr j o' t ho' hd).2] at hw; cases hw
      · rename_i j hw
        cases hb : Nat.testBit (g.mask i) j with
        | false =>
          cases hb2 : Nat.testBit (g.mask j) i with
          | false => exact .lit _
          | true =>
            refine I.olds t fun j' o' ho' hl' hd' => ?_
            have e := (rok.wr j' o' t ho' hd').2
            rw [hw] at e; cases e
            have := mask_listed rok I.closed j o' ho' (I.closed j o' ho' hl') i hb2
            rw [this] at hun; cases hun
        | true =>
          obtain ⟨o', h1, h2⟩ := rok.wr' t j hw
          exact I.vals j o' t h1 h2 (mask_listed rok I.closed i o ho hall j hb)
    | const v => exact .lit _
    | global n => exact .lit _
    | func f => exact .fn .nil .nil
  · have := Array.all_eq_true_iff_forall_mem.1 hops x hx
    simp only [this, cond_true]

theorem Inv.wanted {κ0 : Pl} {s0 : St} {W0 : World} {dfs : List Deferred} {listed : Array Bool} {a : Act} {w : World} {q : Nat} {κ : Pl} {σ : St} (I : Inv g d κ0 s0 W0 dfs listed a w q κ σ) (rok : RgOK g)
    {i : Nat} {o : Oper} (ho : g.ops[i]? = some o) (hall : ∀ e ∈ o.after, bindsA e = true → listed.getD e.on false = true) {b : Bool} (hw : g.wanted d.vals (g.mask i) o = some b) :
    Region.wanted o (yielded g.ops a.tmps) = b := by
  unfold Rg.wanted at hw
  unfold Region.wanted
  split at hw
  · rename_i hg; rw [hg]; cases hw; rfl
  · rename_i j want hg
    rw [hg]
    cases hb : Nat.testBit (g.mask i) j with
    | false => rw [hb] at hw; cases hw
    | true =>
    rw [hb] at hw
    simp only [cond_true] at hw
    split at hw
    case h_2 => cases hw
    rename_i oj hoj
    split at hw
    case h_2 => cases hw
    rename_i t ht
    have hv := I.vals j oj t hoj ht (mask_listed rok I.closed i o ho hall j hb)
    have hlt : t < a.tmps.size := by rw [I.tsize]; exact (rok.wr j oj t hoj ht).1
    have hget : a.tmps[t]? = some (a.tmps.getD t undef) := by simp [Array.getD, hlt]
    have hy : yielded g.ops a.tmps j = match a.tmps.getD t undef with | .bool b => some b | _ => none := by
      unfold yielded
      rw [hoj]
      simp only [Option.bind_some, ht, hget]
      generalize a.tmps.getD t undef = x
      cases x <;> rfl
    simp only [hy]
    split at hw
    · rename_i v hsl
      rw [hsl] at hv
      rw [hv.of_lit rfl]
      cases hw
      cases v <;> cases want <;> rfl
    · rename_i v hsl
      rw [hsl] at hv
      rw [hv.of_lit rfl]
      cases hw
      rfl
    · cases hw

def EnvIn (E : Nat → Option Value) (κ : Pl) : Prop := ∀ i v, E i = some v → κ.env i = some v
theorem EnvIn.le {κ κ' : Pl} (h : EnvIn E κ) (hl : κ.le κ') : EnvIn E κ' := fun i v hi => hl.env i v (h i v hi)

noncomputable def EvOK (P : Program) (ev : Cfg → Option (AVal × St × Nat)) : Prop :=
  ∀ c r, ev c = some r → ∀ (κ : Pl) (fr : Frame) (cs : List Frame) (w : World), Sim κ c fr cs w →
    ∀ cs0, ∃ κ' fr' w' v, Steps P (lone fr (cs ++ cs0) w) (lone fr' cs0 w') ∧ fr'.leaving P w' (.returned v) ∧ V κ' r.1 v ∧ Goes (· < c.st.next) κ c.st w κ' r.2.1 w' ∧ fr'.fn = r.2.2

def CallP (E : Nat → Option Value) (P : Program) (f : FuncId) (args : List AVal) (s : St) (r : AVal × St) : Prop :=
  ∀ (κ : Pl) (vs : List Value) (w : World), EnvIn E κ → Rel κ s w → VL κ args vs →
    (callFunc f vs.toArray).run P w = .ok (.enter f vs.toArray) w ∧ ∀ cs0, ∃ κ' fr' w' v, Steps P (lone (Frame.enter P f vs.toArray .normal) cs0 w) (lone fr' cs0 w') ∧ fr'.leaving P w' (.returned v) ∧ V κ' r.1 v ∧ Goes (· < s.next) κ s w κ' r.2 w'

def RoundP (E : Nat → Option Value) (P : Program) (l : Nat) (args : List AVal) (s : St) (r : AVal × St) : Prop :=
  ∀ (κ : Pl) (vs : List Value) (w : World) (lb : Nat), EnvIn E κ → Rel κ s w → VL κ args vs → κ l = some lb →
    ∃ f0 t0 a0 b0, (Instr.yield lb vs.toArray).run P w = .ok (.round lb f0 t0 a0 b0) w ∧ ∀ (fr : Frame) cs0, ∃ κ' w' v, Steps P (lone (Frame.round lb f0 t0 a0 b0 .normal) (fr :: cs0) w) (lone (fr.finish v) cs0 w') ∧ V κ' r.1 v ∧ Goes (· < s.next) κ s w κ' r.2 w'

def EvSOK (E : Nat → Option Value) (P : Program) (ev : EvS) : Prop :=
  ∀ f args s r, ev f args s = some r → (f < 1000000000 → CallP E P f args s r) ∧ ∀ l, f = Nat.add 1000000000 l → RoundP E P l args s r

theorem evOf_ok (ok : tb.OK P) {run : Cfg → Option (AVal × St × Nat)} (h : EvOK P run) : EvSOK E P (evOf tb run) := by
  intro f args s r hr
  unfold evOf at hr
  split at hr
  case h_1 => cases hr
  rename_i hlt
  have hlt : f < 1000000000 := by simpa [Nat.blt_eq] using hlt
  refine ⟨fun _ => ?_, fun l hl => by subst hl; exact absurd hlt (Nat.not_lt.2 (Nat.le_add_right _ _))⟩
  intro κ vs w _ hrel hv
  split at hr
  case h_2 => cases hr
  rename_i g hg
  split at hr
  case h_2 => cases hr
  rename_i a s' fn hrun
  cases hr
  obtain ⟨e1, e2, _⟩ := enterA_sound (w := w) ok hg hv
  refine ⟨e2, fun cs0 => ?_⟩
  obtain ⟨κ', fr', w', x, hst, hlv, hx, hgo, _⟩ := h _ _ hrun κ _ [] w ⟨e1, .nil, hrel⟩ cs0
  exact ⟨κ', fr', w', x, hst, hlv, hx, hgo⟩

theorem step_skip_op {b : Frame} {ac : Act} {ops : Array Oper} {i : Nat} {rest : List Nat} {k : List Item} {cs : List Frame} {w : World} {o : Oper} (ho : ops[i]? = some o)
    (hw : Region.wanted o (yielded ops ac.tmps) = false) :
    Steps P (lone (b.atR ac (.inRegion ops (i :: rest) :: k)) cs w) (lone (b.atR (ac.put o.dst undef) (.inRegion ops rest :: k)) cs w) := by
  have := stepR_op_skip (P := P) (b := b) (a := ac) (k := k) (cs := cs) (w := w) (ops := ops) (i := i) (rest := rest) (by simp [ho]; simpa using hw)
  rw [ho] at this
  exact .one this

theorem eff_sound (ok : tb.OK P) (hev : EvSOK E P ev) {κ : Pl} {s s' : St} {w : World} {ρ : Operand → AVal} {ρ' : Operand → Value} {id : Nat} {v : AVal} {o : Oper}
    (hE : EnvIn E κ) (hr : Rel κ s w) (hid : id < s.next) (hk : Free κ s id) (hρ : ∀ x, V κ (ρ x) (ρ' x)) (h : effA tb P ev ρ o id s = some (v, s'))
    {b : Frame} {ac : Act} {ops : Array Oper} {i : Nat} {rest : List Nat} {k : List Item} {cs : List Frame} (ho : ops[i]? = some o) (hw : Region.wanted o (yielded ops ac.tmps) = true)
    (hex : (∀ cs b, o.op ≠ .select cs b) → execOp ρ' o = execOp ac.eval o) :
    ∃ κ' w' x, Goes (fun j => j < s.next ∧ j ≠ id) κ s w κ' s' w' ∧ V κ' v x ∧
      Steps P (lone (b.atR ac (.inRegion ops (i :: rest) :: k)) cs w) (lone (b.atR (ac.put o.dst x) (.inRegion ops rest :: k)) cs w') := by
  unfold effA at h
  split at h
  · rename_i a s1 hop
    cases h
    have hok := opA_sound (ρ' := ρ') ok hr hid hk hρ hop
    rw [hex (opA_noselect hop)] at hok
    obtain ⟨n, w', x, ⟨κ', g1, hn⟩, hx, hst⟩ := steps_op (b := b) (ac := ac) (rest := rest) (k := k) ho hw (fun c hc => by obtain ⟨d', e⟩ := opA_defer hc hop; cases e) hok (fun n w' ⟨κ', _, hn⟩ => by
      rcases hn with ⟨x, h1, _⟩ | ⟨h1, _⟩
      · exact ⟨x, .inl h1⟩
      · exact ⟨undef, .inr ⟨h1, rfl⟩⟩)
    refine ⟨κ', w', x, g1.less fun j hj => hj.2, ?_, hst cs⟩
    rcases hn with ⟨y, h1, h2⟩ | ⟨h1, h2⟩
    · rcases hx with hx | ⟨hx, _⟩
      · rw [h1] at hx; cases hx; exact h2
      · rw [h1] at hx; cases hx
    · rcases hx with hx | ⟨hx, e⟩
      · rw [h1] at hx; cases hx
      · rw [e, h2]; exact .lit _
  · rename_i f args hop
    have hok := opA_sound (ρ' := ρ') ok hr hid hk hρ hop
    rw [hex (opA_noselect hop)] at hok
    obtain ⟨vs, hvs, he⟩ := hok
    split at h
    case h_2 => cases h
    rename_i hlt
    obtain ⟨e2, hev2⟩ := (hev _ _ _ _ h).1 (by simpa [Nat.blt_eq] using hlt) κ vs w hE hr hvs
    obtain ⟨κ', fr', w', x, hst, hlv, hx, hg⟩ := hev2 (b.atR ac (.inRegion ops (i :: rest) :: k) :: cs)
    refine ⟨κ', w', x, hg.less fun j hj => hj.1, hx, ?_⟩
    have hfr' : (b.atR ac (.inRegion ops (i :: rest) :: k)).finish x = b.atR (ac.put o.dst x) (.inRegion ops rest :: k) := by
      rw [Frame.finish_atR, ho]; rfl
    have hgo := stepGR_op (P := P) (b := b) (a := ac) (k := k) (cs := cs) (w := w) (rest := rest) ho hw
    rw [Oper.semAt_eq _ _ _ fun c hc => by obtain ⟨d', e⟩ := opA_defer hc hop; cases e] at hgo
    have h1 : step P (lone (b.atR ac (.inRegion ops (i :: rest) :: k)) cs w) = .next (lone (Frame.enter P f vs.toArray .normal) (b.atR ac (.inRegion ops (i :: rest) :: k) :: cs) w) :=
      step_lone_go (by rw [hgo, he]; simp [stepG.apply, e2, Frame.atR])
    refine .head h1 (Steps.trans hst (.one ?_))
    rw [← hfr']; exact step_leave_returned hlv
  · rename_i l args hop
    have hok := opA_sound (ρ' := ρ') ok hr hid hk hρ hop
    rw [hex (opA_noselect hop)] at hok
    obtain ⟨lb, vs, hlb, hvs, he⟩ := hok
    obtain ⟨f0, t0, a0, b0, hy, hrd⟩ := (hev _ _ _ _ h).2 l rfl κ vs w lb hE hr hvs hlb
    obtain ⟨κ', w', x, hst, hx, hg⟩ := hrd (b.atR ac (.inRegion ops (i :: rest) :: k)) cs
    refine ⟨κ', w', x, hg.less fun j hj => hj.1, hx, ?_⟩
    have hfr' : (b.atR ac (.inRegion ops (i :: rest) :: k)).finish x = b.atR (ac.put o.dst x) (.inRegion ops rest :: k) := by
      rw [Frame.finish_atR, ho]; rfl
    have hgo := stepGR_op (P := P) (b := b) (a := ac) (k := k) (cs := cs) (w := w) (rest := rest) ho hw
    rw [Oper.semAt_eq _ _ _ fun c hc => by obtain ⟨d', e⟩ := opA_defer hc hop; cases e] at hgo
    have h1 : step P (lone (b.atR ac (.inRegion ops (i :: rest) :: k)) cs w) = .next (lone (Frame.round lb f0 t0 a0 b0 .normal) (b.atR ac (.inRegion ops (i :: rest) :: k) :: cs) w) := by
      refine step_lone_go ?_
      rw [hgo, he]; simp only [stepG.apply, Sem.runT_eq, hy, GStep.bare_after, if_true]
      rfl
    rw [hfr'] at hst
    exact .head h1 hst
  · cases h
end
end Go.Proofs.YtiemogegdoogaaaGreat.Eng

namespace Go.Proofs.YtiemogegdoogaaaGreat.Eng
open Go
variable [Interp]
variable {E : Nat → Option Value}

section
variable {tb : Tab} {P : Program} {ev : EvS} {g : Rg} {d : DS}

theorem Inv.eff {R : Act → World → Prop} {κ0 : Pl} {s0 : St} {W0 : World} {dfs : List Deferred} {listed : Array Bool} {a : Act} {w : World} {q : Nat} {κ : Pl} {σ : St} (I : Inv g d κ0 s0 W0 dfs listed a w (q + 1) κ σ) (rok : RgOK g)
    (hid : s0.next ≤ g.id0) {i : Nat} {o : Oper} (ho : g.ops[i]? = some o) (hun : listed.getD i false = false) (hall : ∀ e ∈ o.after, bindsA e = true → listed.getD e.on false = true)
    {G : List (Nat × AObj)} {σ2 : St} (hi : d.es[q]? = some i) (hG : d.gs[q]? = some G) (hσ2 : (d.st :: d.σs)[q]? = some σ2) (hnd : ((rest d (q + 1)).map (·.1)).Nodup)
    (hfree : ∀ p ∈ rest d (q + 1), p.1 ≠ i) (hsz : ∀ p ∈ rest d (q + 1), p.1 < g.ops.size)
    (hGl : ∀ p ∈ G, listed.getD p.1 false = true)
    (K : Goes (· < s0.next) κ0 s0 W0 κ (adopt g.id0 G σ) w → Rel κ (adopt g.id0 G σ) w → Free κ (adopt g.id0 G σ) (g.id0 + i) → ∃ κ' w' x, Goes (fun j => j < (adopt g.id0 G σ).next ∧ j ≠ g.id0 + i) κ (adopt g.id0 G σ) w κ' σ2 w' ∧ V κ' (slot d.vals i) x ∧
      R (a.put o.dst x) w') :
    ∃ κ' w' x, R (a.put o.dst x) w' ∧ Inv g d κ0 s0 W0 dfs (listed.setIfInBounds i true) (a.put o.dst x) w' q κ' σ2 := by
  have hil : i < listed.size := by rw [I.size]; exact (Array.getElem?_eq_some_iff.1 ho).1
  have hrest := rest_succ hG
  have hmem : ∀ p ∈ G, p ∈ rest d (q + 1) := fun p hp => by rw [hrest]; exact List.mem_append_right _ hp
  have hmem' : ∀ p ∈ rest d q, p ∈ rest d (q + 1) := fun p hp => by rw [hrest]; exact List.mem_append_left _ hp
  have hlim := I.goes.rel.lim
  have hlo := I.lo
  obtain ⟨g1, hlive⟩ := adopt_sound G σ I.goes (fun p hp => by have := hsz p (hmem p hp); exact ⟨by omega, Nat.not_lt.2 (by omega)⟩)
    (by rw [hrest, List.map_append] at hnd; exact (List.nodup_append.1 hnd).2.1)
    (fun p hp => I.pend p (hmem p hp) (hGl p hp))
    (fun p hp p' hp' hne => I.apart p (hmem p hp) p' (hmem p' hp') (hGl p hp) (hGl p' hp') hne)
  have hfa : ∀ j, j < g.ops.size → listed.getD j false = false → Free κ (adopt g.id0 G σ) (g.id0 + j) := fun j hj hl => by
    refine ⟨(I.fresh j hj hl).1, fun hlv => ?_⟩
    rcases hlive _ hlv with h1 | ⟨p, h1, h2⟩
    · exact (I.fresh j hj hl).2 h1
    · have e : p.1 = j := by omega
      rw [← e, hGl p h1] at hl; cases hl
  obtain ⟨κ', w', x, g2, hx, hR⟩ := K g1 g1.rel (hfa i (by rw [← I.size]; exact hil) hun)
  have hnext : (adopt g.id0 G σ).next = σ.next := adopt_next _ _ _
  refine ⟨κ', w', x, hR, ?_⟩
  obtain ⟨v1, v2, v3⟩ := vals_put rok g2.le ho hil hun I.tsize hx I.vals I.olds
  have hlp : ∀ p ∈ rest d q, (listed.setIfInBounds i true).getD p.1 false = true → listed.getD p.1 false = true := fun p hp hl => by
    rw [getD_set_ne' (Ne.symm (hfree p (hmem' p hp)))] at hl; exact hl
  have hnl : ∀ p ∈ rest d q, listed.getD p.1 false = true → ∀ b, κ (g.id0 + p.1) = some b → (∀ j, σ.live j → κ j ≠ some b) → ∀ j, (adopt g.id0 G σ).live j → κ j ≠ some b := by
    intro p hp hl b hb hno j hj
    rcases hlive j hj with h1 | ⟨p', h1, rfl⟩
    · exact hno j h1
    · have hne : p.1 ≠ p'.1 := fun e => by
        rw [hrest, List.map_append] at hnd
        exact (List.nodup_append.1 hnd).2.2 p.1 (List.mem_map.2 ⟨p, hp, rfl⟩) p'.1 (List.mem_map.2 ⟨p', h1, rfl⟩) e
      have := I.apart p (hmem' p hp) p' (hmem p' h1) hl (hGl p' h1) hne
      rw [hb] at this
      exact fun e => this e.symm
  have hdrop : d.es.drop q = i :: d.es.drop (q + 1) := by
    obtain ⟨h1, h2⟩ := List.getElem?_eq_some_iff.1 hi
    rw [← h2]; exact List.drop_eq_getElem_cons h1
  have hq := I.q_le
  refine ⟨by omega, hσ2, by simp [I.size], closed_set ho hil I.closed hall, fun e he => ?_, g1.trans (g2.less fun j (hj : j < s0.next) => ⟨by rw [hnext]; omega, by omega⟩),
    by have := g2.next; rw [hnext] at this; omega, v1, v2, v3, ?_, fun p hpm hl => ?_, fun p hpm p' hpm' hl hl' hpp => ?_, fun j hj hl => ?_⟩
  · rw [hdrop]
    by_cases e1 : i = e
    · subst e1; simp [getD_set_self hil]
    · rw [getD_set_ne' e1, I.effs e he, List.mem_cons]
      exact ⟨.inr, fun h => h.resolve_left (Ne.symm e1)⟩
  · cases hd : o.dst <;> simp [Act.put, I.defers]
  · have hl0 := hlp p hpm hl
    obtain ⟨b, obj, h1, h2, h3, h4, h5⟩ := I.pend p (hmem' p hpm) hl0
    have hlt : b < w.heap.size := (Array.getElem?_eq_some_iff.1 h3).1
    have hnl' := hnl p hpm hl0 b h1 h5
    refine ⟨b, obj, g2.le.on _ _ h1, h2, (g2.old b hlt fun j hj => hnl' j hj.live).trans h3, h4.mono g2.le, fun j hj hkj => ?_⟩
    rcases g2.born j b hj hkj with h6 | ⟨j', h6, h7⟩
    · omega
    · exact hnl' j' h6 h7
  · have hl0 := hlp p hpm hl
    have hl0' := hlp p' hpm' hl'
    obtain ⟨b, obj, h1, _⟩ := I.pend p (hmem' p hpm) hl0
    obtain ⟨b', obj', k1, _⟩ := I.pend p' (hmem' p' hpm') hl0'
    have := I.apart p (hmem' p hpm) p' (hmem' p' hpm') hl0 hl0' hpp
    rw [g2.le.on _ _ h1, g2.le.on _ _ k1]
    rw [h1, k1] at this; exact this
  · by_cases hji : j = i
    · subst hji; rw [getD_set_self hil] at hl; cases hl
    · rw [getD_set_ne' (Ne.symm hji)] at hl
      have hu : g.id0 + j < (adopt g.id0 G σ).next ∧ g.id0 + j ≠ g.id0 + i := ⟨by rw [hnext]; omega, by omega⟩
      exact ⟨g2.unborn _ hu (hfa j hj hl).1, g2.still _ hu (hfa j hj hl).2⟩

theorem foldBits (l : List Nat) : ∀ (m j : Nat), Nat.testBit (l.foldl (fun m e => m ||| 2 ^ e) m) j = (Nat.testBit m j || l.contains j) := by
  induction l with
  | nil => intro m j; simp
  | cons e l ih =>
    intro m j
    rw [List.foldl_cons, ih, bit_or, List.contains_cons]
    by_cases h : e = j
    · subst h; simp
    · have : (j == e) = false := by simpa using Ne.symm h
      simp [h, this]

theorem readsOk_spec {i : Nat} {o : Oper} {all : Nat} : ∀ (es : List Nat) (σs : List St), readsOk tb P g d.vals i o all es σs = true → ∀ (q : Nat) (σ : St), q ≤ es.length → σs[q]? = some σ →
    mayAt g i all (es.drop q) ((es.drop q).foldl (fun m e => m ||| 2 ^ e) 0) = true → readA tb P (g.ρ d.vals i) o σ = some (slot d.vals i)
  | es, [], h => by cases es <;> cases h
  | es, s :: σs, h => by
    intro q σ hq hσ hm
    unfold readsOk at h
    simp only [Bool.and_eq_true, Bool.or_eq_true, Bool.not_eq_true'] at h
    obtain ⟨h1, h2⟩ := h
    cases q with
    | zero =>
      simp only [List.getElem?_cons_zero, Option.some.injEq] at hσ
      subst hσ
      simp only [List.drop_zero] at hm
      rcases h1 with h1 | h1
      · rw [hm] at h1; cases h1
      · split at h1
        · rename_i a ha
          rw [ha, eqv_sound _ h1]
        · cases h1
    | succ q =>
      cases es with
      | nil => simp at hq
      | cons e es =>
        simp only at h2
        exact readsOk_spec es σs h2 q σ (by simpa using hq) (by simpa using hσ) (by simpa using hm)

theorem allReads_spec {all : Nat} {es : List Nat} {σs : List St} : ∀ (l : List Oper) (i : Nat), allReads tb P g d.vals all es σs i l = true → ∀ x o, l[x]? = some o → clsOf tb o = .read →
    g.wanted d.vals (g.mask (i + x)) o = some true → readsOk tb P g d.vals (i + x) o all es σs = true
  | [], i, _, x, o, h, _, _ => by simp at h
  | o' :: l, i, h, x, o, hx, hc, hw => by
    unfold allReads at h
    simp only [Bool.and_eq_true] at h
    cases x with
    | zero =>
      simp only [List.getElem?_cons_zero, Option.some.injEq] at hx
      subst hx
      have h1 := h.1
      rw [hc] at h1
      simp only [Nat.add_zero] at hw ⊢
      rw [hw] at h1
      exact h1
    | succ x =>
      have e : i + (x + 1) = i + 1 + x := by omega
      rw [e] at hw ⊢
      exact allReads_spec l (i + 1) h.2 x o (by simpa using hx) hc hw

theorem Inv.step {κ0 : Pl} (ok : tb.OK P) (hev : EvSOK E P ev) (hE : EnvIn E κ0) (rok : RgOK g) {σ0 : St} (F : DFacts tb P ev g σ0 d)
    {s0 : St} {W0 : World} {dfs : List Deferred} {listed : Array Bool} {a : Act} {w : World} {q : Nat} {κ : Pl} {σ : St} (I : Inv g d κ0 s0 W0 dfs listed a w q κ σ) (hid : s0.next ≤ g.id0)
    {i : Nat} {o : Oper} (ho : g.ops[i]? = some o) (hall : Nat.testBit d.D i = true)
    (hreads : clsOf tb o = .read → g.wanted d.vals (g.mask i) o = some true → readsOk tb P g d.vals i o (d.es.foldl (fun m e => m ||| 2 ^ e) 0) d.es (d.st :: d.σs) = true) (hun : listed.getD i false = false) (haft : ∀ e ∈ o.after, bindsA e = true → listed.getD e.on false = true)
    {b : Frame} {rst : List Nat} {k : List Item} {cs : List Frame} :
    ∃ x w' q' κ' σ', Steps P (lone (b.atR a (.inRegion g.ops (i :: rst) :: k)) cs w) (lone (b.atR (a.put o.dst x) (.inRegion g.ops rst :: k)) cs w') ∧
      Inv g d κ0 s0 W0 dfs (listed.setIfInBounds i true) (a.put o.dst x) w' q' κ' σ' := by
  have hin : i < g.ops.size := (Array.getElem?_eq_some_iff.1 ho).1
  obtain ⟨o', wn, ho', hF⟩ := F.each i hall
  rw [ho] at ho'; cases ho'
  have hmask := mask_listed rok I.closed i o ho haft
  obtain ⟨ρ', hρ, hex⟩ := I.ρ rok ho hun haft hF.okOps
  have hwant := I.wanted rok ho haft hF.wanted
  have hidk : Free κ σ (g.id0 + i) := I.fresh i hin hun
  have hidl : g.id0 + i < σ.next := by have := I.lo; omega
  have hpairs : ∀ p ∈ rest d q, p ∈ d.pend ++ d.gs.flatten := fun p hp => by
    unfold rest at hp
    rcases List.mem_append.1 hp with h | h
    · exact List.mem_append_left _ h
    · refine List.mem_append_right _ ?_
      obtain ⟨l, h1, h2⟩ := List.mem_flatten.1 h
      exact List.mem_flatten.2 ⟨l, List.mem_of_mem_take h1, h2⟩
  by_cases hcl : clsOf tb o = .eff
  · -- an effect
    have hies : i ∈ d.es := F.effs i o hall ho hcl
    obtain ⟨hgl, _, hL⟩ := EffL_at F.effL
    obtain ⟨r, hr, hri⟩ := List.mem_iff_getElem.1 hies
    have hri' : d.es[r]? = some i := by rw [List.getElem?_eq_getElem hr, hri]
    have hrq : r < q := by
      rcases Nat.lt_or_ge r q with h | h
      · exact h
      · exfalso
        have : i ∈ d.es.drop q := List.mem_iff_getElem?.2 ⟨r - q, by rw [List.getElem?_drop]; rw [show q + (r - q) = r by omega]; exact hri'⟩
        rw [(I.effs i hies).2 this] at hun; cases hun
    have hrq' : q = r + 1 := by
      rcases Nat.eq_or_lt_of_le (Nat.succ_le_of_lt hrq) with h | h
      · exact h.symm
      · exfalso
        obtain ⟨e, G, σ1, σ2, k1, k2, k3, k4, k5⟩ := hL r hr
        rw [hri'] at k1; cases k1
        obtain ⟨o', m1, m2, m3, m4, m5⟩ := k5
        have hr1 : r + 1 < d.es.length := by have := I.q_le; omega
        have hd : d.es.drop (r + 1) = d.es[r + 1] :: d.es.drop (r + 1 + 1) := List.drop_eq_getElem_cons hr1
        rw [hd] at m3
        have hl := hmask _ m3
        have hm : d.es[r + 1] ∈ d.es := List.getElem_mem hr1
        have := (I.effs _ hm).1 hl
        obtain ⟨t, ht⟩ := List.mem_iff_getElem?.1 this
        rw [List.getElem?_drop] at ht
        have hlt : q + t < d.es.length := (List.getElem?_eq_some_iff.1 ht).1
        have e1 : d.es[q + t]? = d.es[r + 1]? := by rw [ht, List.getElem?_eq_getElem hr1]
        have := (List.getElem?_inj hlt F.esNodup).1 e1
        omega
    subst hrq'
    obtain ⟨e, G, σ1, σ2, k1, k2, k3, k4, k5⟩ := hL r hr
    rw [hri'] at k1; cases k1
    rw [I.st] at k4; cases k4
    obtain ⟨o', m1, m2, m3, m4, m5⟩ := k5
    rw [ho] at m1; cases m1
    have hnd := nodup_at (d := d) (q := r + 1) (by rw [hgl]; omega) F.nodup
    have := I.eff (R := fun ac w' => Steps P (lone (b.atR a (.inRegion g.ops (i :: rst) :: k)) cs w) (lone (b.atR ac (.inRegion g.ops rst :: k)) cs w')) rok hid ho hun haft hri' k2 k3 hnd
      (fun p hp e => by
        obtain ⟨_, o', a', h1, h2, _⟩ := F.pairs p (hpairs p hp)
        rw [e, ho] at h1; cases h1
        rw [hcl] at h2; cases h2)
      (fun p hp => by
        obtain ⟨_, o', a', h1, _⟩ := F.pairs p (hpairs p hp)
        exact (Array.getElem?_eq_some_iff.1 h1).1)
      (fun p hp => hmask _ (m4 p hp))
      (fun g1 r1 hfr => by
        have hnx := adopt_next g.id0 G σ
        rcases m5 with ⟨n1, n2⟩ | ⟨n1, n2⟩
        · rw [hF.wanted] at n1; cases n1
          exact eff_sound ok hev (hE.le g1.le) r1 (by rw [hnx]; exact hidl) hfr hρ n2 ho hwant hex
        · rw [hF.wanted] at n1; cases n1
          subst n2
          exact ⟨κ, w, undef, .refl r1, by rw [hF.skipped rfl]; exact .lit _, step_skip_op ho hwant⟩)
    obtain ⟨κ', w', x, h1, h2⟩ := this
    exact ⟨x, w', r, κ', σ2, h1, h2⟩
  · -- no effect
    have hies : i ∉ d.es := fun hm => by
      obtain ⟨es', G, σ1, σ2, o', h1, h2, _⟩ := F.effL.es_mem i hm
      rw [ho] at h1; cases h1; exact hcl h2
    cases wn with
    | false =>
      refine ⟨undef, w, q, κ, σ, step_skip_op ho hwant, I.add rok hid ho hun haft hies (.refl I.goes.rel) (by rw [hF.skipped rfl]; exact .lit _) fun p hp hpi => ?_⟩
      obtain ⟨_, o', a', h1, h2, h3, _⟩ := F.pairs p (hpairs p hp)
      rw [hpi, ho] at h1; cases h1
      rw [hpi, hF.wanted] at h3; cases h3
    | true =>
      cases hc : clsOf tb o with
      | eff => exact absurd hc hcl
      | free =>
        obtain ⟨oo, hfree⟩ := hF.free rfl hc
        have hnd : ∀ c, o.op ≠ .defer c := fun c e => by unfold clsOf at hc; rw [e] at hc; cases hc
        have hns : ∀ cs b, o.op ≠ .select cs b := fun c b e => by unfold clsOf at hc; rw [e] at hc; cases hc
        have hs := free_sound ok I.goes.rel hidl hidk hρ hfree
        rw [hex hns] at hs
        obtain ⟨n, w', x, ⟨κ', h1, ⟨y, h2, h3⟩, h4⟩, h5, h6⟩ := steps_op (b := b) (ac := a) (rest := rst) (k := k) ho hwant hnd hs (fun n w' ⟨_, _, ⟨x, h, _⟩, _⟩ => ⟨x, h⟩)
        have hxy : x = y := by
          rcases h5 with h5 | ⟨h5, e5⟩ <;> rcases h2 with h2 | ⟨h2, e2⟩
          · rw [h5] at h2; cases h2; rfl
          · rw [h5] at h2; cases h2
          · rw [h5] at h2; cases h2
          · rw [e5, e2]
        subst hxy
        refine ⟨x, w', q, κ', σ, h6 cs, I.add rok hid ho hun haft hies h1 h3 fun p hp hpi => ?_⟩
        obtain ⟨_, o', a', k1, k2, k3, k4⟩ := F.pairs p (hpairs p hp)
        rw [hpi, ho] at k1; cases k1
        rw [hpi, hfree] at k4; cases k4
        rw [hpi]; exact h4 _ rfl
      | read =>
        have hro := hreads hc hF.wanted
        have hrd := readsOk_spec _ _ hro q σ I.q_le I.st (by
          unfold mayAt
          simp only [Bool.and_eq_true, List.all_eq_true, Bool.not_eq_true']
          refine ⟨?_, fun e he => ?_⟩
          · rw [Nat.beq_eq]
            apply Nat.eq_of_testBit_eq
            intro j
            change Nat.testBit ((g.mask i &&& _) &&& _) j = Nat.testBit (g.mask i &&& _) j
            rw [Nat.testBit_and, Nat.testBit_and, foldBits, foldBits]
            simp only [Nat.zero_testBit, Bool.false_or]
            cases h1 : Nat.testBit (g.mask i) j with
            | false => simp
            | true =>
              cases h2 : d.es.contains j with
              | false => simp
              | true =>
                have hj : j ∈ d.es := by simpa using h2
                have := (I.effs j hj).1 (hmask j h1)
                simp [this]
          · cases h1 : Nat.testBit (g.mask e) i with
            | false => rfl
            | true =>
              exfalso
              have hel : e ∈ d.es := List.mem_of_mem_drop he
              have hl := (I.effs e hel).2 he
              obtain ⟨es', G, σ1, σ2, oe, m1, _⟩ := F.effL.es_mem e hel
              have := mask_listed rok I.closed e oe m1 (I.closed e oe m1 hl) i h1
              rw [this] at hun; cases hun)
        have hnd : ∀ c, o.op ≠ .defer c := fun c e => by unfold clsOf at hc; rw [e] at hc; cases hc
        have hns : ∀ cs b, o.op ≠ .select cs b := fun c b e => by unfold clsOf at hc; rw [e] at hc; cases hc
        have hs := read_sound ok I.goes.rel hidl hidk hρ hrd
        rw [hex hns] at hs
        obtain ⟨n, w', x, ⟨κ', h1, y, h2, h3⟩, h5, h6⟩ := steps_op (b := b) (ac := a) (rest := rst) (k := k) ho hwant hnd hs (fun n w' ⟨_, _, x, h, _⟩ => ⟨x, h⟩)
        have hxy : x = y := by
          rcases h5 with h5 | ⟨h5, e5⟩ <;> rcases h2 with h2 | ⟨h2, e2⟩
          · rw [h5] at h2; cases h2; rfl
          · rw [h5] at h2; cases h2
          · rw [h5] at h2; cases h2
          · rw [e5, e2]
        subst hxy
        refine ⟨x, w', q, κ', σ, h6 cs, I.add rok hid ho hun haft hies h1 h3 fun p hp hpi => ?_⟩
        obtain ⟨_, o', a', k1, k2, _⟩ := F.pairs p (hpairs p hp)
        rw [hpi, ho] at k1; cases k1
        rw [hc] at k2; cases k2
end
end Go.Proofs.YtiemogegdoogaaaGreat.Eng

namespace Go.Proofs.YtiemogegdoogaaaGreat.Eng
open Go
variable [Interp]
variable {E : Nat → Option Value}

section
variable {tb : Tab} {P : Program} {ev : EvS} {g : Rg} {d : DS}

theorem countP_lt {α : Type} {p p' : α → Bool} : ∀ (l : List α), (∀ x, p' x = true → p x = true) → (∃ i ∈ l, p i = true ∧ p' i = false) → l.countP p' < l.countP p
  | [], _, ⟨i, h, _⟩ => by cases h
  | x :: l, hs, ⟨i, hi, h1, h2⟩ => by
    have hle : ∀ l : List α, l.countP p' ≤ l.countP p := fun l => List.countP_mono_left fun x _ => hs x
    rcases List.mem_cons.1 hi with rfl | hi
    · rw [List.countP_cons, List.countP_cons, h1, h2]
      have := hle l
      simp only [Bool.false_eq_true, if_false, if_true]
      omega
    · have ih := countP_lt l hs ⟨i, hi, h1, h2⟩
      rw [List.countP_cons, List.countP_cons]
      cases hp : p' x with
      | true => simp only [hs x hp, if_true]; omega
      | false => simp only [Bool.false_eq_true, if_false]; split <;> omega

noncomputable def left (g : Rg) (listed : Array Bool) : Nat := (List.range g.ops.size).countP fun i => !listed.getD i false

theorem some_ready (rok : RgOK g) {listed : Array Bool} (hsz : listed.size = g.ops.size) : ∀ i, i < g.ops.size → listed.getD i false = false → Region.ready .any g.ops listed ≠ [] := by
  intro i
  induction i using Nat.strongRecOn with
  | _ i ih =>
    intro hi hun
    have ho : g.ops[i]? = some g.ops[i] := Array.getElem?_eq_getElem hi
    by_cases h : ∀ e ∈ g.ops[i].after, Region.binds .any e = true → listed.getD e.on false = true
    · have : i ∈ Region.ready .any g.ops listed := by
        rw [mem_ready]
        refine ⟨?_, _, ho, h⟩
        have hlt : i < listed.size := by omega
        simpa [Array.getD, hlt] using hun
      intro e; rw [e] at this; cases this
    · simp only [Classical.not_forall] at h
      obtain ⟨e, he, hb, hl⟩ := h
      have hlt := rok.edges i _ ho e he (by rw [bindsA_eq]; exact hb)
      exact ih e.on hlt (by omega) (by simpa using hl)

theorem region_run {κ0 : Pl} (ok : tb.OK P) (hev : EvSOK E P ev) (hE : EnvIn E κ0) (rok : RgOK g) {σ0 : St} (F : DFacts tb P ev g σ0 d) (hall : ∀ i, i < g.ops.size → Nat.testBit d.D i = true)
    (hreads : allReads tb P g d.vals (d.es.foldl (fun m e => m ||| 2 ^ e) 0) d.es (d.st :: d.σs) 0 g.ops.toList = true)
    {s0 : St} {W0 : World} {dfs : List Deferred} (hid : s0.next ≤ g.id0) {b : Frame} {k : List Item} {cs : List Frame} :
    ∀ (fuel t : Nat) (listed : Array Bool) (a : Act) (w : World) (q : Nat) (κ : Pl) (σ : St), Inv g d κ0 s0 W0 dfs listed a w q κ σ → left g listed ≤ fuel →
    ∃ listed' a' w' q' κ' σ', Steps P (lone (b.atR a (.inRegion g.ops (Region.linearise.go .any g.ops fuel t listed []) :: k)) cs w) (lone (b.atR a' (.inRegion g.ops [] :: k)) cs w') ∧
      Inv g d κ0 s0 W0 dfs listed' a' w' q' κ' σ' ∧ ∀ i, i < g.ops.size → listed'.getD i false = true := by
  intro fuel
  induction fuel with
  | zero =>
    intro t listed a w q κ σ I hl
    refine ⟨listed, a, w, q, κ, σ, (by simp only [Region.linearise.go, List.reverse_nil]; exact .refl P _), I, fun i hi => ?_⟩
    have h0 : (List.range g.ops.size).countP (fun i => !listed.getD i false) = 0 := by unfold left at hl; omega
    have := List.countP_eq_zero.1 h0 i (List.mem_range.2 hi)
    simpa using this
  | succ fuel ih =>
    intro t listed a w q κ σ I hl
    have hgo : Region.linearise.go .any g.ops (fuel + 1) t listed [] = (match (Region.ready .any g.ops listed)[t % (Region.ready .any g.ops listed).length]? with
      | some i => Region.linearise.go .any g.ops fuel (t / (Region.ready .any g.ops listed).length) (listed.setIfInBounds i true) [i]
      | none => [].reverse) := by
      simp only [Region.linearise.go]; rfl
    cases hi : (Region.ready .any g.ops listed)[t % (Region.ready .any g.ops listed).length]? with
    | none =>
      have hnil : Region.ready .any g.ops listed = [] := by
        cases hr : Region.ready .any g.ops listed with
        | nil => rfl
        | cons x xs =>
          rw [hr] at hi
          have hlt : t % (x :: xs).length < (x :: xs).length := Nat.mod_lt _ (by simp)
          rw [List.getElem?_eq_getElem hlt] at hi
          cases hi
      rw [hi] at hgo
      refine ⟨listed, a, w, q, κ, σ, (by rw [hgo]; exact .refl P _), I, fun i hin => ?_⟩
      cases hli : listed.getD i false with
      | true => rfl
      | false => exact absurd hnil (some_ready rok I.size i hin hli)
    | some i =>
      rw [hi] at hgo
      simp only at hgo
      rw [linearise_go_acc .any g.ops fuel _ _ [i], List.reverse_singleton, List.singleton_append] at hgo
      obtain ⟨hun, o, ho, haft⟩ := mem_ready.1 (List.mem_of_getElem? hi)
      have hin : i < g.ops.size := (Array.getElem?_eq_some_iff.1 ho).1
      have hil : i < listed.size := by rw [I.size]; exact hin
      have hun' : listed.getD i false = false := by simpa [Array.getD, hil] using hun
      obtain ⟨x, w', q', κ', σ', h1, h2⟩ := I.step ok hev hE rok F hid ho (hall i hin) (fun hc hw => by
          have hro := allReads_spec g.ops.toList 0 hreads i o (by simpa using ho) hc (by rw [Nat.zero_add]; exact hw)
          rw [Nat.zero_add] at hro; exact hro) hun' (fun e he hb => haft e he (by rw [← bindsA_eq]; exact hb)) (b := b) (k := k) (cs := cs)
        (rst := Region.linearise.go .any g.ops fuel (t / (Region.ready .any g.ops listed).length) (listed.setIfInBounds i true) [])
      have hless : left g (listed.setIfInBounds i true) < left g listed := by
        refine countP_lt _ (fun y hy => ?_) ⟨i, List.mem_range.2 hin, by simp only [hun', Bool.not_false], by simp only [getD_set_self hil, Bool.not_true]⟩
        by_cases e : i = y
        · subst e; simp only [getD_set_self hil, Bool.not_true] at hy; cases hy
        · simp only [getD_set_ne' e] at hy; exact hy
      obtain ⟨listed', a', w'', q'', κ'', σ'', h3, h4, h5⟩ := ih _ _ _ _ _ _ _ h2 (by omega)
      exact ⟨listed', a', w'', q'', κ'', σ'', (by rw [hgo]; exact h1.trans h3), h4, h5⟩

theorem endSlots_other {V : T AVal} {t : Nat} : ∀ (l : List Oper) (i : Nat) (sl : T AVal), (∀ (x : Nat) (o : Oper) (d : Nat), l[x]? = some o → o.dst = some d → d < 1000000000) → (∀ (x : Nat) (o : Oper), l[x]? = some o → o.dst ≠ some t) →
    slot (endSlots V i l sl) t = slot sl t
  | [], _, _, _, _ => rfl
  | o :: l, i, sl, hb, h => by
    unfold endSlots
    split
    · rename_i d hd
      rw [endSlots_other l (i + 1) _ (fun x o d hx => hb (x + 1) o d (by simpa using hx)) (fun x o hx => h (x + 1) o (by simpa using hx)), slot_put (hb 0 o d rfl hd),
        if_neg (by intro e; exact h 0 o rfl (by rw [hd, e]))]
    · exact endSlots_other l (i + 1) _ (fun x o d hx => hb (x + 1) o d (by simpa using hx)) (fun x o hx => h (x + 1) o (by simpa using hx))

theorem endSlots_at {V : T AVal} {t : Nat} : ∀ (l : List Oper) (i : Nat) (sl : T AVal) (x : Nat) (o : Oper), (∀ (x : Nat) (o : Oper) (d : Nat), l[x]? = some o → o.dst = some d → d < 1000000000) →
    l[x]? = some o → o.dst = some t → (∀ (x' : Nat) (o' : Oper), l[x']? = some o' → o'.dst = some t → x' = x) → slot (endSlots V i l sl) t = slot V (i + x)
  | [], _, _, x, o, _, h, _, _ => by simp at h
  | o' :: l, i, sl, x, o, hb, hx, ht, hu => by
    have hb' : ∀ (x : Nat) (o : Oper) (d : Nat), l[x]? = some o → o.dst = some d → d < 1000000000 := fun x o d hx => hb (x + 1) o d (by simpa using hx)
    cases x with
    | zero =>
      simp only [List.getElem?_cons_zero, Option.some.injEq] at hx
      subst hx
      unfold endSlots
      rw [ht]
      simp only
      rw [endSlots_other l (i + 1) _ hb' (fun x o hx hd => by have := hu (x + 1) o (by simpa using hx) hd; omega), slot_put (hb 0 _ t rfl ht), if_pos rfl]
      rfl
    | succ x =>
      have e : i + (x + 1) = i + 1 + x := by omega
      unfold endSlots
      rw [e]
      split
      · exact endSlots_at l (i + 1) _ x o hb' (by simpa using hx) ht fun x' o' hx' hd => by have := hu (x' + 1) o' (by simpa using hx') hd; omega
      · exact endSlots_at l (i + 1) _ x o hb' (by simpa using hx) ht fun x' o' hx' hd => by have := hu (x' + 1) o' (by simpa using hx') hd; omega

def PGoal (P : Program) (κ : Pl) (s : St) (fr : Frame) (cs : List Frame) (w : World) (c' : Cfg) : Prop :=
  ∀ cs0, ∃ κ' fr' cs' w', Steps P (lone fr (cs ++ cs0) w) (lone fr' (cs' ++ cs0) w') ∧ Sim κ' c' fr' cs' w' ∧ Goes (· < s.next) κ s w κ' c'.st w'

theorem Goal.each {κ : Pl} {s : St} {fr : Frame} {cs : List Frame} {w : World} {c' : Cfg} (h : Goal P κ s fr cs w c') : PGoal P κ s fr cs w c' := fun cs0 => by
  obtain ⟨κ', fr', cs', w', h1, h2, h3⟩ := h
  exact ⟨κ', fr', cs', w', h1 cs0, h2, h3⟩

theorem drawA_sound {κ : Pl} (ok : tb.OK P) (hev : EvSOK E P ev) (hE : EnvIn E κ) {c c' : Cfg} {fr : Frame} {cs : List Frame} {w : World} (hs : Sim κ c fr cs w) (hm : c.top.mode = .run) {id : Nat} {ops : Array Oper} {k : List AItem}
    (ht : c.top.todo = .code (.region id ops true) :: k) (h : drawA tb P ev c ops k = some c') : PGoal P κ c.st fr cs w c' := by
  intro cs0
  have hmode := mode_run hs.top hm
  have htd := hs.top.todo hm
  rw [ht] at htd
  obtain ⟨xi, k', hk0, hx, hk⟩ := htd.append_left
  cases hx
  obtain ⟨fn, tmps, todo, defers, mode, kind, ro⟩ := fr
  simp only at hmode hk0
  subst hmode; subst hk0
  unfold drawA at h
  split at h
  case h_2 => cases h
  rename_i slF stF hdr
  cases h
  have h := hdr
  unfold drawR at h
  simp only at h
  cases hlim : (Nat.blt 1000 ops.size || Nat.ble 1000000000 (c.st.next + ops.size)) with
  | true => rw [hlim] at h; cases h
  | false =>
  rw [hlim] at h
  simp only [cond_false] at h
  simp only [Bool.or_eq_false_iff] at hlim
  have hn : ops.size < 1000000000 := by
    have : ¬ (1000 < ops.size) := fun e => by have := hlim.1; rw [Bool.eq_false_iff] at this; exact this (by simpa [Nat.blt_eq] using e)
    omega
  have hnx : ¬ (1000000000 ≤ c.st.next + ops.size) := fun e => by rw [Nat.ble_eq_true_of_le e] at hlim; cases hlim.2
  split at h
  case h_2 => cases h
  rename_i B W hB hW
  split at h
  · cases h
  rename_i d hd
  obtain ⟨g, hg⟩ : ∃ g : Rg, g = { ops, nt := c.top.nt, wr := W, B, sl := c.top.slots, id0 := c.st.next } := ⟨_, rfl⟩
  have rok : RgOK g := by rw [hg]; exact rgOK hs.top.slots.lim hn hB hW
  rw [← hg] at hd h
  have hgo : g.ops = ops := by rw [hg]
  have hgi : g.id0 = c.st.next := by rw [hg]
  have hgn : g.nt = c.top.nt := by rw [hg]
  have hgs : g.sl = c.top.slots := by rw [hg]
  cases hchk : (Nat.beq d.D (2 ^ ops.size - 1) && allReads tb P g d.vals (d.es.foldl (fun m e => m ||| 2 ^ e) 0) d.es (d.st :: d.σs) 0 ops.toList) with
  | false => rw [hchk] at h; cases h
  | true =>
  rw [hchk] at h
  simp only [cond_true] at h
  cases h
  simp only [Bool.and_eq_true] at hchk
  have hD : d.D = 2 ^ ops.size - 1 := by simpa [Nat.beq_eq] using hchk.1
  have F := dSteps_facts (tb := tb) (P := P) (ev := ev) (g := g) (by rw [hgo]; exact hn) facts_init hd
  have hall : ∀ i, i < g.ops.size → Nat.testBit d.D i = true := fun i hi => by
    rw [hgo] at hi
    rw [hD, Nat.testBit_two_pow_sub_one]; simpa using hi
  have hreads : allReads tb P g d.vals (d.es.foldl (fun m e => m ||| 2 ^ e) 0) d.es (d.st :: d.σs) 0 g.ops.toList = true := by rw [hgo]; exact hchk.2
  obtain ⟨hgl, hlast, _⟩ := EffL_at F.effL
  have hrel : Rel κ c.st { w with drawn := w.drawn + 1 } := hs.rel.drawn _
  have hb0 := Goes.bump (U := (· < c.st.next)) hrel ops.size (by omega)
  have hrep : ∀ i b, (Array.replicate ops.size false).getD i false = b → b = false := fun i b h => by
    rw [← h]; simp [Array.getD]
  have I : Inv g d κ c.st { w with drawn := w.drawn + 1 } defers (Array.replicate ops.size false) ⟨tmps, defers⟩ { w with drawn := w.drawn + 1 } d.es.length κ { c.st with next := c.st.next + ops.size } := by
    refine ⟨Nat.le_refl _, hlast, by simp [hgo], fun i o _ hl => (by have := hrep i _ hl; cases this), fun e he => ?_, hb0, by rw [hgi, hgo]; exact Nat.le_refl _, ?_, fun i o t _ _ hl => (by have := hrep i _ hl; cases this), fun t _ => ?_, rfl,
      fun p _ hl => (by have := hrep _ _ hl; cases this), fun p _ p' _ hl => (by have := hrep _ _ hl; cases this), fun i hi _ => ?_⟩
    · rw [List.drop_length]
      constructor
      · intro hl; have := hrep _ _ hl; cases this
      · intro hl; cases hl
    · rw [hgn]; exact hs.top.slots.size
    · rw [hgs]; exact hs.top.slots.val t
    · rw [hgi]; exact hs.rel.free (by omega)
  have hsch : ∀ t, Region.schedule (P.follows .mixedOrders) ops t = Region.linearise.go .any g.ops g.ops.size t (Array.replicate ops.size false) [] := fun t => by
    simp only [Region.schedule, ok.mixed, Bool.true_or, if_true, hgo]; rfl
  obtain ⟨listed', a', w', q', κ', σ', hst, I', hfull⟩ := region_run ok hev hE rok F hall hreads (by rw [hgi]; exact Nat.le_refl _) (b := ⟨fn, tmps, [], defers, .run, kind, ro⟩) (k := k') (cs := cs ++ cs0)
    g.ops.size (w.tape w.drawn (.order fn id)) _ _ _ _ _ _ I (by unfold left; exact Nat.le_trans List.countP_le_length (by simp))
  have hq0 : q' = 0 := by
    rcases Nat.eq_zero_or_pos q' with h | h
    · exact h
    · exfalso
      have hlt : 0 < d.es.length := Nat.lt_of_lt_of_le h I'.q_le
      have hm : d.es[0] ∈ d.es := List.getElem_mem hlt
      obtain ⟨es', G, σ1, σ2, oe, m1, _⟩ := F.effL.es_mem _ hm
      have := (I'.effs _ hm).1 (hfull _ (Array.getElem?_eq_some_iff.1 m1).1)
      obtain ⟨t, ht⟩ := List.mem_iff_getElem?.1 this
      rw [List.getElem?_drop] at ht
      have hlt' : q' + t < d.es.length := (List.getElem?_eq_some_iff.1 ht).1
      have e1 : d.es[q' + t]? = d.es[0]? := by rw [ht, List.getElem?_eq_getElem hlt]
      have := (List.getElem?_inj hlt' F.esNodup).1 e1
      omega
  subst hq0
  have hσ : σ' = d.st := by have := I'.st; simpa using this.symm
  subst hσ
  have hrest : rest d 0 = d.pend := by simp [rest]
  have hpi : ∀ p ∈ d.pend, p.1 < g.ops.size := fun p hp => by
    obtain ⟨_, o', a', h1, _⟩ := F.pairs p (List.mem_append_left _ hp)
    exact (Array.getElem?_eq_some_iff.1 h1).1
  have hlim' := I'.goes.rel.lim
  have hlo := I'.lo
  obtain ⟨g1, _⟩ := adopt_sound d.pend d.st I'.goes (fun p hp => by have := hpi p hp; exact ⟨by omega, Nat.not_lt.2 (by first | omega | (rw [hgi]; omega) | (simp only; omega))⟩) (by have := F.nodup; rw [List.map_append] at this; exact (List.nodup_append.1 this).1)
    (fun p hp => I'.pend p (by rw [hrest]; exact hp) (hfull _ (hpi p hp)))
    (fun p hp p' hp' hne => I'.apart p (by rw [hrest]; exact hp) p' (by rw [hrest]; exact hp') (hfull _ (hpi p hp)) (hfull _ (hpi p' hp')) hne)
  have hslots : SR κ' c.top.nt (endSlots d.vals 0 ops.toList c.top.slots) a'.tmps := by
    have hb : ∀ (x : Nat) (o : Oper) (dd : Nat), ops.toList[x]? = some o → o.dst = some dd → dd < 1000000000 := fun x o dd hx hd => by
      have := (rok.wr x o dd (by rw [hgo]; simpa using hx) hd).1
      exact Nat.lt_trans this rok.nt
    refine ⟨hs.top.slots.lim, by rw [I'.tsize, hgn], fun t => ?_⟩
    by_cases hex : ∃ (x : Nat) (o : Oper), ops[x]? = some o ∧ o.dst = some t
    · obtain ⟨x, o, hx, hd⟩ := hex
      have hx' : ops.toList[x]? = some o := by simpa using hx
      rw [endSlots_at ops.toList 0 _ x o hb hx' hd fun x' o' hx'' hd' => by
        have h1 := (rok.wr x o t (by rw [hgo]; exact hx) hd).2
        have h2 := (rok.wr x' o' t (by rw [hgo]; simpa using hx'') hd').2
        rw [h1] at h2; cases h2; rfl]
      rw [Nat.zero_add]
      exact I'.vals x o t (by rw [hgo]; exact hx) hd (hfull x (by rw [hgo]; exact (Array.getElem?_eq_some_iff.1 hx).1))
    · rw [endSlots_other ops.toList 0 _ hb fun x o hx hd => hex ⟨x, o, by simpa using hx, hd⟩]
      have := I'.olds t fun i o hi _ hd => hex ⟨i, o, by rw [hgo] at hi; exact hi, hd⟩
      rw [hgs] at this; exact this
  have hfin : Goes (· < c.st.next) κ c.st w κ' (adopt c.st.next d.pend d.st) w' := by have := g1.of_drawn; rw [hgi] at this; exact this
  refine ⟨κ', ⟨fn, a'.tmps, k', a'.defers, .run, kind, ro⟩, cs, w', ?_, ⟨⟨hs.top.fn, hslots, (fun _ => hk.mono fun _ _ => IR.mono hfin.le), ?_, ?_, hs.top.kind, hs.top.ro.mono hfin.le⟩, mono_below hfin.le hs.below, hfin.rel⟩, hfin⟩
  · have h1 := stepR_region_draw (P := P) (b := ⟨fn, tmps, [], defers, .run, kind, ro⟩) (a := ⟨tmps, defers⟩) (k := k') (cs := cs ++ cs0) (w := w) (ops := ops) (id := id)
    rw [hsch] at h1
    have h2 := hst
    rw [hgo] at h2 h1
    exact .head h1 (Steps.trans h2 (.one stepR_region_end))
  · simp only; rw [I'.defers]; exact hs.top.defers.mono fun _ _ => DR.mono hfin.le
  · simp only; rw [hm]; exact .run

theorem nextA_sound {κ : Pl} (ok : tb.OK P) (hev : EvSOK E P ev) (hE : EnvIn E κ) {c c' : Cfg} {fr : Frame} {cs : List Frame} {w : World} (hs : Sim κ c fr cs w) (h : nextA tb P ev c = some c') : PGoal P κ c.st fr cs w c' := by
  unfold nextA at h
  split at h
  · rename_i ops k hd
    unfold drawnOf at hd
    split at hd
    case h_2 => cases hd
    rename_i hm
    split at hd
    case h_2 => cases hd
    rename_i id ops' k' ht
    cases hd
    exact drawA_sound ok hev hE hs hm ht h
  · exact (stepA_sound ok hs h).each

theorem arun_sound (ok : tb.OK P) : ∀ n, EvOK P (arun tb P n) := by
  intro n
  induction n with
  | zero => intro c r h; cases h
  | succ n ih =>
    intro c r h κ fr cs w hs cs0
    unfold arun at h
    split at h
    · rename_i r' hd
      cases h
      obtain ⟨h1, v, h2, h3, h4, h5⟩ := doneA_sound ok hs hd
      subst h1
      exact ⟨κ, fr, w, v, .refl P _, h2, h3, by rw [h4]; exact .refl hs.rel, h5⟩
    · split at h
      case h_2 => cases h
      rename_i c' hn
      obtain ⟨κ1, fr1, cs1, w1, s1, sim1, g1⟩ := nextA_sound (E := fun _ => none) ok (evOf_ok ok ih) (fun _ _ h => nomatch h) hs hn cs0
      obtain ⟨κ2, fr2, w2, v, s2, l2, v2, g2, f2⟩ := ih _ _ h κ1 fr1 cs1 w1 sim1 cs0
      refine ⟨κ2, fr2, w2, v, s1.trans s2, l2, v2, g1.trans (g2.less fun j hj => Nat.lt_of_lt_of_le hj g1.next), f2⟩

theorem callA_sound (ok : tb.OK P) {n f : Nat} {args : List AVal} {vs : List Value} {s s' : St} {v : AVal} {κ : Pl} {w : World} (hr : Rel κ s w) (hv : VL κ args vs)
    (h : callA tb P n f args s = some (v, s', f)) : Calls P f vs.toArray w fun e w' => ∃ κ' x, e = .returned x ∧ V κ' v x ∧ Goes (· < s.next) κ s w κ' s' w' := by
  unfold callA at h
  split at h
  case h_2 => cases h
  rename_i g hg
  obtain ⟨e1, e2, _⟩ := enterA_sound (w := w) ok hg hv
  intro cs
  obtain ⟨κ', fr', w', x, hst, hl, hx, hgo, hfn⟩ := arun_sound ok n _ _ h κ _ [] w ⟨e1, .nil, hr⟩ cs
  exact ⟨.returned x, w', fr', ⟨κ', x, rfl, hx, hgo⟩, hst, hfn, hl⟩

theorem rel_nil (w : World) : Rel ⟨fun _ => none, fun _ => none, E⟩ { heap := .leaf, next := 0 } w where
  lim := by simp
  fresh _ _ := rfl
  size _ _ h := by cases h
  inj _ _ _ hl := absurd hl (not_live_leaf _ _)
  room _ _ h := by cases h
  obj _ _ h := by simp only [T.get_leaf] at h; cases h
  dead _ _ := not_live_leaf _ _

theorem calls_lit (ok : tb.OK P) {n f : Nat} {vs : List Value} {s' : St} {v : Value} {w : World}
    (h : callA tb P n f (vs.map .lit) { heap := .leaf, next := 0 } = some (.lit v, s', f)) :
    Calls P f vs.toArray w fun e w' => e = .returned v ∧ w.heap.size ≤ w'.heap.size ∧ (∀ b, b < w.heap.size → w'.heap[b]? = w.heap[b]?) ∧ w'.os = w.os ∧ w'.output = w.output ∧ w'.tape = w.tape := by
  refine (callA_sound ok (rel_nil (E := fun _ => none) w) (VL.lits vs) h).mono fun e w' ⟨κ', x, h1, h2, h3⟩ => ?_
  rw [h1, h2.of_lit rfl]
  exact ⟨rfl, h3.size, fun b hb => h3.old b hb fun i hl => absurd hl (not_may_leaf _ _), h3.os, h3.output, h3.tape⟩
end
end Go.Proofs.YtiemogegdoogaaaGreat.Eng

namespace Go.Proofs.YtiemogegdoogaaaGreat.Eng
open Go
variable [Interp]

noncomputable def undRow (types : List TypeInfo) (i : TypeInfo) : Option TypeDesc :=
  match i.desc with
  | .named _ u => (types[u]?).map (·.desc)
  | d => some d

theorem get_lay0 {α : Type} (l : List α) (h : l.length < 1000000000) (m : Nat) : (T.lay l 0 .leaf).get m = l[m]? := by
  rw [T.get_lay _ _ _ _ (by omega)]
  by_cases hm : m < l.length
  · rw [if_pos (by omega), Nat.sub_zero]
  · rw [if_neg (by omega), List.getElem?_eq_none (by omega), T.get_leaf]

theorem tabOK {P : Program} {types : List TypeInfo} {unds : List TypeDesc} {funcs : List Func} {I : T TypeInfo} {U : T TypeDesc} {F : T Func}
    (h1 : P.types.toList = types) (h2 : T.lay types 0 .leaf = I) (h3 : T.lay unds 0 .leaf = U) (h4 : types.map (undRow types) = unds.map some)
    (h5 : P.funcs.toList = funcs) (h6 : T.lay funcs 0 .leaf = F) (h7 : (funcs.all fun f => !(f.name == "runtime.NumGoroutine")) = true)
    (h8 : (Nat.blt types.length 1000000000 && Nat.blt funcs.length 1000000000) = true) (hm : P.follows .mixedOrders = true) :
    Tab.OK { info := I.get, und := U.get, func := F.get } P := by
  simp only [Bool.and_eq_true, Nat.blt_eq] at h8
  have hlen : unds.length = types.length := by have := congrArg List.length h4; simpa using this.symm
  have hinfo : ∀ (t : Nat) i, types[t]? = some i → P.info? t = some i := fun t i h => by
    have hP : P.types[t]? = some i := by rw [← h1] at h; simpa using h
    have hlt : t < P.types.size := (Array.getElem?_eq_some_iff.1 hP).1
    unfold Tables.info?
    rw [if_pos hlt]; exact hP
  refine ⟨fun t i h => ?_, fun t d h => ?_, fun f G h => ?_, hm, fun f G h => ?_, (fun q hq => by cases hq), fun f x h => by cases h⟩
  · simp only [← h2, get_lay0 _ h8.1] at h
    exact hinfo t i h
  · simp only [← h3, get_lay0 _ (hlen ▸ h8.1)] at h
    have hlt : t < types.length := by rw [← hlen]; exact (List.getElem?_eq_some_iff.1 h).1
    have e : (types.map (undRow types))[t]? = (unds.map some)[t]? := by rw [h4]
    rw [List.getElem?_map, List.getElem?_map, h, List.getElem?_eq_getElem hlt] at e
    simp only [Option.map_some, Option.some.injEq] at e
    have hi := hinfo t _ (List.getElem?_eq_getElem hlt)
    unfold Program.underlying
    rw [hi]
    unfold undRow at e
    split at e
    · rename_i n u hd
      cases hu : types[u]? with
      | none => rw [hu] at e; cases e
      | some iu =>
        rw [hu] at e
        simp only [Option.map_some, Option.some.injEq] at e
        have hiu := hinfo u _ hu
        generalize types[t] = it at hd
        obtain ⟨desc, _⟩ := it
        simp only at hd
        subst hd
        simp only [hiu, Option.map_some, e]
    · rename_i hd
      generalize types[t] = it at hd e
      obtain ⟨desc, _⟩ := it
      simp only [Option.some.injEq] at e hd
      subst e
      cases desc <;> first | rfl | exact absurd rfl (hd _ _)
  · simp only [← h6, get_lay0 _ h8.2] at h
    rw [← h5] at h; simpa using h
  · simp only [← h6, get_lay0 _ h8.2] at h
    have := List.all_eq_true.1 h7 G (List.mem_of_getElem? h)
    simpa using this

noncomputable def Tab.knows (tb : Tab) (fs : Facts) : Tab := { tb with facts := fs }
theorem Tab.OK.knows {tb : Tab} {P : Program} {fs : Facts} (h : tb.OK P) (hf : Holds fs) : (tb.knows fs).OK P := ⟨h.info, h.und, h.func, h.mixed, h.name, hf, h.ext⟩
noncomputable def extAt : List (Nat × Ext) → Nat → Option Ext
  | [], _ => none
  | q :: l, f => bif Nat.beq q.1 f then some q.2 else extAt l f
def ExtOK (P : Program) (q : Nat × Ext) : Prop := ∃ F, P.funcs[q.1]? = some F ∧ (F.name == "runtime.NumGoroutine") = false ∧ F.body.isNone = true ∧ Extern.findNext F = none ∧ Extern.find F = some q.2.sem
theorem extAt_ok {P : Program} : ∀ {l : List (Nat × Ext)}, (∀ q ∈ l, ExtOK P q) → ∀ f x, extAt l f = some x → ∃ F, P.funcs[f]? = some F ∧ (F.name == "runtime.NumGoroutine") = false ∧ F.body.isNone = true ∧ Extern.findNext F = none ∧ Extern.find F = some x.sem
  | [], _, _, _, h => by cases h
  | q :: l, hq, f, x, h => by
    unfold extAt at h
    cases hb : Nat.beq q.1 f with
    | true => rw [hb] at h; cases h; rw [← nbeq hb]; exact hq q (List.mem_cons_self ..)
    | false => rw [hb] at h; exact extAt_ok (fun q hm => hq q (List.mem_cons_of_mem _ hm)) f x h
theorem Tab.OK.exts {tb : Tab} {P : Program} {l : List (Nat × Ext)} (h : tb.OK P) (hl : ∀ q ∈ l, ExtOK P q) : ({ tb with ext := extAt l } : Tab).OK P := ⟨h.info, h.und, h.func, h.mixed, h.name, h.holds, extAt_ok hl⟩
end Go.Proofs.YtiemogegdoogaaaGreat.Eng

