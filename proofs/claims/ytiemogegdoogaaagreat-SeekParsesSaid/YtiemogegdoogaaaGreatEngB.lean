/- Part B of an evaluator for this program: the small steps of the evaluator are steps of the model. No condition. -/
import Derived.Test.YtiemogegdoogaaaGreatEngS
import Derived.CallsIn
import Derived.DefersIn
import Derived.RecoverIn
import Derived.RangeFuncNested
import Derived.RangeFuncLeaves
set_option linter.unusedVariables false
set_option linter.unusedSectionVars false
namespace Go.Proofs.YtiemogegdoogaaaGreat.Eng
open Go
variable [Interp]

inductive AItem where
  | code (c : Code)
  | inBlock (id : Nat)
  | inLoop (c : Code)
  | inScope (c : Code)
  | regL (ops : Array Oper) (i : Nat) (l : List Oper)
  | inRF (l : Nat)
  | endRF (l : Nat)
  | beginRound

inductive ADef where
  | fn (f : FuncId) (captured args : List AVal)
  | coll (id : Nat)

inductive AMode where
  | run
  | ret
  | pan (chain : List (AVal × Bool))

structure AFr where
  fn : Nat
  nt : Nat
  slots : T AVal
  todo : List AItem
  defers : List ADef
  mode : AMode
  kind : CallKind
  ro : Option Nat

structure Cfg where
  top : AFr
  below : List AFr
  st : St

inductive OpR where
  | val (a : AVal) (s : St)
  | call (f : FuncId) (args : List AVal)
  | round (l : Nat) (args : List AVal)
  | defer (d : ADef)
  | recov
  | panic (v : AVal)

noncomputable def opnd (sl : T AVal) : Operand → AVal
  | .tmp t => slot sl t
  | .const v => .lit v
  | .global g => .lit (.pointer (some ⟨g, 0, none⟩))
  | .func f => .fn f [] []

noncomputable def valR (a : Option AVal) (s : St) : Option OpR := match a with | some a => some (.val a s) | none => none
noncomputable def valS (r : Option (AVal × St)) : Option OpR := match r with | some (a, s) => some (.val a s) | none => none
noncomputable def valU (r : Option St) : Option OpR := match r with | some s => some (.val (.lit undef) s) | none => none

noncomputable def convI (tb : Tab) (src dst : Nat) (x : AVal) : Option AVal :=
  match x with
  | .lit (.int _ n) => match tb.und dst, tb.und src with
    | some (.int k), some _ => some (.lit (.int k (k.wrap n)))
    | _, _ => none
  | _ => none

noncomputable def builtinA (tb : Tab) (P : Program) (ρ : Operand → AVal) (o : Oper) (b : Builtin) (ts : List Nat) (args : List AVal) (id : Nat) (s : St) : Option OpR :=
  match b, ts, args with
  | .len, [t], [x] => match litOf x with
    | some _ => valR (litA P ρ o) s
    | none => match isSliceT tb t with
      | true => match lenA x with | some n => some (.val (.lit (.int .i64 n)) s) | none => none
      | false => none
  | .append, [t, u], [a, x] => match a with
    | .slu _ _ _ _ => valS (appendU tb t u a x id s)
    | _ => valS (appendA tb t u a x id s)
  | .copy, t :: _, [a, x] => valS (copyA tb t a x s)
  | .recover, _, [] => some .recov
  | .min, _, _ => valR (litA P ρ o) s
  | .max, _, _ => valR (litA P ρ o) s
  | _, _, _ => none

noncomputable def aPick (tb : Tab) (P : Program) (ρ : Operand → AVal) (o : Oper) (id : Nat) (s : St) (c x y : Operand) : Option OpR :=
  match ρ c with | .lit (.bool b) => some (.val (bif b then ρ x else ρ y) s) | _ => none

noncomputable def aAlloc (tb : Tab) (P : Program) (ρ : Operand → AVal) (o : Oper) (id : Nat) (s : St) (e : TypeId) : Option OpR :=
  match zeroA tb e with
  | some z => match rowA e (AVal.lit z).cells id s with | some s' => some (.val (.ptr id 0) s') | none => none
  | none => none

noncomputable def aBox (tb : Tab) (P : Program) (ρ : Operand → AVal) (o : Oper) (id : Nat) (s : St) (e : TypeId) (x : Operand) : Option OpR :=
  match (ρ x).known with
  | true => match rowA e (ρ x).cells id s with | some s' => some (.val (.ptr id 0) s') | none => none
  | false => none

noncomputable def aBuild (tb : Tab) (P : Program) (ρ : Operand → AVal) (o : Oper) (id : Nat) (s : St) (t : TypeId) (ps : Array (Nat × Operand)) : Option OpR :=
  valR (buildA tb t (ps.toList.map fun p => (p.1, ρ p.2))) s

noncomputable def aBuildSlice (tb : Tab) (P : Program) (ρ : Operand → AVal) (o : Oper) (id : Nat) (s : St) (t : TypeId) (len : Nat) (ps : Array (Nat × Operand)) : Option OpR :=
  match Nat.beq len 0, ps.toList with
  | true, [] => valS (emptyA tb t id s)
  | _, _ => valS (buildSliceA tb t len (ps.toList.map fun p => (p.1, ρ p.2)) id s)

noncomputable def aMakeSlice (tb : Tab) (P : Program) (ρ : Operand → AVal) (o : Oper) (id : Nat) (s : St) (t : TypeId) (l c : Operand) : Option OpR :=
  match ρ l with
  | .lit (.int _ n) => match ρ c with
    | .lit (.int _ m) => valS (makeSliceA tb t n m id s)
    | _ => none
  | _ => none

noncomputable def aLoad (tb : Tab) (P : Program) (ρ : Operand → AVal) (o : Oper) (id : Nat) (s : St) (t : TypeId) (x : Operand) : Option OpR :=
  match ρ x with | .ptr i off => valR (loadA tb t i off s) s | _ => none

noncomputable def aStore (tb : Tab) (P : Program) (ρ : Operand → AVal) (o : Oper) (id : Nat) (s : St) (t : TypeId) (x y : Operand) : Option OpR :=
  match ρ x with | .ptr i off => valU (storeA tb t i off (ρ y) s) | _ => none

noncomputable def aNilCheck (tb : Tab) (P : Program) (ρ : Operand → AVal) (o : Oper) (id : Nat) (s : St) (x : Operand) : Option OpR :=
  match ρ x with
  | .ptr i off => some (.val (.ptr i off) s)
  | .ifc t v => some (.val (.ifc t v) s)
  | .fn f l m => some (.val (.fn f l m) s)
  | _ => none

noncomputable def sameSym (_ _ : AVal) : Bool := false

noncomputable def aBin (tb : Tab) (P : Program) (ρ : Operand → AVal) (o : Oper) (id : Nat) (s : St) (op : BinOp) (t : TypeId) (x y : Operand) : Option OpR :=
  match ρ x with
  | .lit (.int k m) => match ρ y with
    | .lit (.int k' n) => match intA op k m k' n with | some v => some (.val (.lit v) s) | none => none
    | _ => none
  | a => match isLit a && isLit (ρ y) with
    | true => valR (litA P ρ o) s
    | false => match sameSym a (ρ y) with
      | true => match op with
        | .eql => some (.val (.lit (.bool true)) s)
        | .neq => some (.val (.lit (.bool false)) s)
        | _ => none
      | false => match op, nilA tb t a (ρ y) with
        | .eql, true => some (.val (.lit (.bool false)) s)
        | .neq, true => some (.val (.lit (.bool true)) s)
        | _, _ => none

noncomputable def litsOf : List AVal → Option (List Value)
  | [] => some []
  | a :: l => match litOf a, litsOf l with
    | some v, some vs => some (v :: vs)
    | _, _ => none
noncomputable def aggL : AVal → AVal
  | .agg l => match litsOf l with | some vs => .lit (.agg vs.toArray) | none => .agg l
  | a => a
theorem litsOf_ok {κ : Pl} : ∀ {l : List AVal} {vs us : List Value}, litsOf l = some vs → VL κ l us → us = vs
  | [], _, _, h, hv => by cases hv; cases h; rfl
  | a :: l, vs, us, h, hv => by
    cases hv with
    | cons x y =>
    simp only [litsOf] at h
    split at h
    · rename_i v vs' h1 h2
      cases h
      rw [x.of_lit h1, litsOf_ok h2 y]
    · cases h
theorem aggL_V {κ : Pl} {a : AVal} {v : Value} (h : V κ a v) : V κ (aggL a) v := by
  unfold aggL
  split
  · split
    · rename_i vs hl
      cases h with
      | agg x => rw [litsOf_ok hl x]; exact .lit _
    · exact h
  · exact h
noncomputable def aBin2 (tb : Tab) (P : Program) (ρ : Operand → AVal) (o : Oper) (id : Nat) (s : St) (op : BinOp) (t : TypeId) (x y : Operand) : Option OpR :=
  match aBin tb P ρ o id s op t x y with
  | some r => some r
  | none => valR (litA P (fun x => aggL (ρ x)) o) s

noncomputable def aConvert (tb : Tab) (P : Program) (ρ : Operand → AVal) (o : Oper) (id : Nat) (s : St) (sr d : TypeId) (x : Operand) : Option OpR :=
  match convI tb sr d (ρ x) with
  | some a => some (.val a s)
  | none => match strBytesA tb sr d (ρ x) id s with
    | some (a, s') => some (.val a s')
    | none => match bytesStrA tb sr d (ρ x) s with
      | some a => some (.val a s)
      | none => match convSameA tb sr d (ρ x) s with
        | some (a, s') => some (.val a s')
        | none => valR (litA P ρ o) s

noncomputable def aIface (tb : Tab) (P : Program) (ρ : Operand → AVal) (o : Oper) (id : Nat) (s : St) (t : TypeId) (x : Operand) : Option OpR :=
  match tb.und t with
  | some (.interface _) => none
  | some _ => some (.val (.ifc t (ρ x)) s)
  | none => none

noncomputable def aSlice (tb : Tab) (P : Program) (ρ : Operand → AVal) (o : Oper) (id : Nat) (s : St) (t : TypeId) (x : Operand) (lo hi mx : Option Operand) : Option OpR :=
  match (lo.map fun x => litOf (ρ x)), (hi.map fun x => litOf (ρ x)), (mx.map fun x => litOf (ρ x)) with
  | some none, _, _ => none
  | _, some none, _ => none
  | _, _, some none => none
  | lo, hi, mx => match isLit (ρ x) with
    | true => valR (litA P ρ o) s
    | false => valR (sliceA tb t (ρ x) lo.join hi.join mx.join) s

noncomputable def aFieldAddr (tb : Tab) (P : Program) (ρ : Operand → AVal) (o : Oper) (id : Nat) (s : St) (t : TypeId) (x : Operand) (n : Nat) : Option OpR :=
  match ρ x with
  | .ptr i off => match tb.und t with
    | some (.struct fs) => match fs[n]? with
      | some f => match tb.info f.type with
        | some fi => bif Nat.beq fi.size 0 then none else some (.val (.ptr i (off + f.offset)) s)
        | none => none
      | none => none
    | _ => none
  | _ => none

noncomputable def aField (tb : Tab) (P : Program) (ρ : Operand → AVal) (o : Oper) (id : Nat) (s : St) (t : TypeId) (x : Operand) (n : Nat) : Option OpR :=
  match ρ x with
  | .agg cs => valR (fieldA tb t n cs) s
  | _ => valR (litA P ρ o) s

noncomputable def aIndexAddr (tb : Tab) (P : Program) (ρ : Operand → AVal) (o : Oper) (id : Nat) (s : St) (t : TypeId) (x y : Operand) : Option OpR :=
  match ρ y with
  | .lit (.int _ i) => valR (indexA tb t (ρ x) i) s
  | _ => none

noncomputable def aIndex (tb : Tab) (P : Program) (ρ : Operand → AVal) (o : Oper) (id : Nat) (s : St) (t : TypeId) (x y : Operand) : Option OpR :=
  match ρ x with
  | .agg cs => match ρ y with
    | .lit (.int _ i) => valR (aggIndexA tb t cs i) s
    | _ => none
  | _ => valR (litA P ρ o) s

noncomputable def aExtract (tb : Tab) (P : Program) (ρ : Operand → AVal) (o : Oper) (id : Nat) (s : St) (x : Operand) (i : Nat) : Option OpR :=
  match ρ x with
  | .tup l => valR l[i]? s
  | _ => valR (litA P ρ o) s

noncomputable def aCall (tb : Tab) (P : Program) (ρ : Operand → AVal) (o : Oper) (id : Nat) (s : St) (c : Call) : Option OpR :=
  match c.callee with
  | .builtin b => builtinA tb P ρ o b c.argTypes.toList (c.args.toList.map ρ) id s
  | .value f => match ρ f with
    | .fn f l m => match tb.ext f with
      | none => some (.call f (l ++ c.args.toList.map ρ ++ m))
      | some x => valR (extA tb.facts x (l ++ c.args.toList.map ρ ++ m) s) s
    | .yld l => some (.round l (c.args.toList.map ρ))
    | _ => none
  | .invoke _ _ => none

noncomputable def aDefer (tb : Tab) (P : Program) (ρ : Operand → AVal) (o : Oper) (id : Nat) (s : St) (c : Call) : Option OpR :=
  match c.callee with
  | .value f => match ρ f with
    | .fn f l m => some (.defer (.fn f m (l ++ c.args.toList.map ρ)))
    | _ => none
  | _ => none

noncomputable def aPanic (tb : Tab) (P : Program) (ρ : Operand → AVal) (o : Oper) (id : Nat) (s : St) (x : Operand) : Option OpR :=
  match ρ x with
  | .ifc t v => some (.panic (.ifc t v))
  | _ => none

noncomputable def opO (tb : Tab) (P : Program) (ρ : Operand → AVal) (o : Oper) (id : Nat) (s : St) : Option OpR :=
  match o.op with
  | .move x => some (.val (ρ x) s)
  | .assign x => some (.val (ρ x) s)
  | .pick c x y => aPick tb P ρ o id s c x y
  | .alloc e => aAlloc tb P ρ o id s e
  | .box e x => aBox tb P ρ o id s e x
  | .build t ps => aBuild tb P ρ o id s t ps
  | .buildSlice t len ps => aBuildSlice tb P ρ o id s t len ps
  | .makeSlice t l c => aMakeSlice tb P ρ o id s t l c
  | .typeAssert x _ u c => valR (assertA tb (ρ x) u c) s
  | .load t x => aLoad tb P ρ o id s t x
  | .store t x y => aStore tb P ρ o id s t x y
  | .nilCheck x => aNilCheck tb P ρ o id s x
  | .binOp op t x y _ => aBin2 tb P ρ o id s op t x y
  | .unOp _ _ _ => valR (litA P ρ o) s
  | .convert sr d x => aConvert tb P ρ o id s sr d x
  | .makeInterface t x => aIface tb P ρ o id s t x
  | .makeFunc (.func f) l m => some (.val (.fn f (l.toList.map ρ) (m.toList.map ρ)) s)
  | .slice t x lo hi mx => aSlice tb P ρ o id s t x lo hi mx
  | .fieldAddr t x n => aFieldAddr tb P ρ o id s t x n
  | .field t x n => aField tb P ρ o id s t x n
  | .indexAddr t x y => aIndexAddr tb P ρ o id s t x y
  | .index t x y => aIndex tb P ρ o id s t x y
  | .extract x i => aExtract tb P ρ o id s x i
  | .call c => aCall tb P ρ o id s c
  | .defer c => aDefer tb P ρ o id s c
  | .panic x => aPanic tb P ρ o id s x
  | _ => none

noncomputable def opA (tb : Tab) (P : Program) (ρ : Operand → AVal) (o : Oper) (id : Nat) (s : St) : Option OpR :=
  match opO tb P ρ o id s with
  | some r => some r
  | none => match symA tb ρ o id s with
    | some (a, s') => some (.val a s')
    | none => none

theorem opA_opO {tb : Tab} {P : Program} {ρ : Operand → AVal} {o : Oper} {id : Nat} {s : St} {r : OpR} (h : opO tb P ρ o id s = some r) : opA tb P ρ o id s = some r := by
  unfold opA; rw [h]
theorem opA_symA {tb : Tab} {P : Program} {ρ : Operand → AVal} {o : Oper} {id : Nat} {s s' : St} {a : AVal} (h : opO tb P ρ o id s = none) (h2 : symA tb ρ o id s = some (a, s')) : opA tb P ρ o id s = some (.val a s') := by
  unfold opA; rw [h]; simp only [h2]

section
variable (tb : Tab) (P : Program)

noncomputable def exitA (id : Nat) : List AItem → Option (List AItem)
  | [] => none
  | x :: k => match x with
    | .inBlock j => bif Nat.beq j id then some k else exitA id k
    | _ => exitA id k

noncomputable def putA (f : AFr) (d : Option Tmp) (a : AVal) : Option (T AVal) :=
  match d with
  | none => some f.slots
  | some d => bif Nat.blt d f.nt then some (f.slots.put d a) else none

noncomputable def finA (f : AFr) (a : AVal) : Option AFr :=
  match f.todo with
  | .regL ops i (o :: r) :: k => match putA f o.dst a with
    | some sl => some { f with slots := sl, todo := .regL ops (i + 1) r :: k }
    | none => none
  | .inRF l :: k => some { f with todo := .endRF l :: k }
  | _ => none

noncomputable def slotsOf : Nat → List AVal → T AVal → T AVal
  | _, [], t => t
  | n, v :: r, t => slotsOf (n + 1) r (t.put n v)

noncomputable def enterA (f : FuncId) (args : List AVal) (kind : CallKind) : Option AFr :=
  match tb.func f with
  | some F => match F.body with
    | some c => bif Nat.ble args.length F.ntmps && Nat.blt F.ntmps 1000000000 then
        some { fn := f, nt := F.ntmps, slots := slotsOf 0 args .leaf, todo := [.code c], defers := [], mode := .run, kind, ro := none }
      else none
    | none => none
  | none => none

noncomputable def setLoop (s : St) (l : Nat) (stt : LoopState) (pe : Option Code) : Option St :=
  match s.heap.get l with
  | some (.loop _ _ fn nt sl ps a b d) => some { s with heap := s.heap.put l (.loop stt pe fn nt sl ps a b d) }
  | _ => none

noncomputable def stateAfter : Option Code → LoopState
  | none => .ready
  | some _ => .done

noncomputable def endRoundA (c : Cfg) (l : Nat) (jump : Option Code) : Option Cfg :=
  match setLoop c.st l (stateAfter jump) jump, c.below with
  | some s, g :: r => match c.top.kind with
    | .normal => match g.mode with
      | .run => match finA g (.lit (.bool jump.isNone)) with
        | some g => some ⟨g, r, s⟩
        | none => none
      | _ => none
    | _ => none
  | _, _ => none

noncomputable def leaveA (c : Cfg) (jump : Option Code) : Option Cfg :=
  match c.top.ro with
  | none => match jump with
    | none => some { c with top := { c.top with mode := .ret } }
    | some .ret => some { c with top := { c.top with mode := .ret } }
    | _ => none
  | some l => endRoundA c l jump

noncomputable def foldPut : List Nat → List AVal → T AVal → T AVal
  | p :: ps, a :: as, t => foldPut ps as (t.put p a)
  | _, _, t => t

noncomputable def wantedA (fs : Facts) (f : AFr) (ops : Array Oper) (o : Oper) : Option Bool :=
  match o.guard with
  | none => some true
  | some (j, want) => match (ops[j]?).bind (·.dst) with
    | some t => bif Nat.blt t f.nt then (match slot f.slots t with
      | .lit (.bool b) => some (b == want)
      | .lit (.tuple _) => some false
      | .sb e => (match decB fs e with | some b => some (b == want) | none => none)
      | _ => none) else none
    | none => none

noncomputable def opStep (c : Cfg) (ops : Array Oper) (o : Oper) : Option Cfg :=
  match wantedA tb.facts c.top ops o with
  | none => none
  | some false => match finA c.top (.lit undef) with | some g => some { c with top := g } | none => none
  | some true => bif Nat.ble 1000000000 c.st.next then none else
    match opA tb P (opnd c.top.slots) o c.st.next { c.st with next := c.st.next + 1 } with
    | none => none
    | some r => match r with
      | .val a s => match finA c.top a with | some g => some ⟨g, c.below, s⟩ | none => none
      | .call f args => match enterA tb f args .normal with | some g => some ⟨g, c.top :: c.below, c.st⟩ | none => none
      | .round l args => match c.st.heap.get l with
        | some (.loop _ _ fn nt sl ps a b _) => bif Nat.beq args.length ps.size && ps.all (Nat.blt · nt) then
            some ⟨{ fn, nt, slots := foldPut ps.toList args sl, todo := [.code a, .beginRound, .code b], defers := [], mode := .run, kind := .normal, ro := some l }, c.top :: c.below, c.st⟩
          else none
        | _ => none
      | .defer d => match c.top.ro with
        | none => match finA { c.top with defers := d :: c.top.defers } (.lit undef) with | some g => some { c with top := g } | none => none
        | some _ => none
      | .recov => match c.top.ro, c.top.kind, c.below with
        | none, .normal, _ => match finA c.top (.lit .nilIface) with | some g => some { c with top := g } | none => none
        | none, .deferred, b :: r => match b.mode with
          | .pan ((v, false) :: older) => match finA c.top v with | some g => some { c with top := g, below := { b with mode := .pan ((v, true) :: older) } :: r } | none => none
          | .run => none
          | _ => match finA c.top (.lit .nilIface) with | some g => some { c with top := g } | none => none
        | _, _, _ => none
      | .panic v => some { c with top := { c.top with mode := .pan [(v, false)] } }

noncomputable def boolA (fs : Facts) (a : AVal) : Option Bool :=
  match a with
  | .lit (.bool t) => some t
  | .sb e => decB fs e
  | _ => none

noncomputable def codeStep (c : Cfg) (x : Code) (k : List AItem) : Option Cfg :=
  let to (t : List AItem) : Option Cfg := some { c with top := { c.top with todo := t } }
  match x with
  | .skip => to k
  | .label _ => to k
  | .seq a b => to (.code a :: .code b :: k)
  | .cond q a b => match boolA tb.facts (opnd c.top.slots q) with
    | some t => to (.code (bif t then a else b) :: k)
    | none => none
  | .block id b => to (.code b :: .inBlock id :: k)
  | .loop b => to (.code b :: .inLoop b :: k)
  | .scope b => to (.code b :: .inScope b :: k)
  | .exit id => match exitA id k with
    | some k' => to k'
    | none => match c.top.ro with | some _ => leaveA c (some (.exit id)) | none => none
  | .ret => leaveA c (some .ret)
  | .region _ ops false => to (.regL ops 0 ops.toList :: k)
  | .rangeFunc g ps a b =>
    match opnd c.top.slots g with
    | .fn f l m =>
      bif Nat.ble 1000000000 (c.st.next + 1) then none else
      match c.top.ro with
      | none =>
        let d := c.st.next
        let l' := c.st.next + 1
        let s : St := { heap := (c.st.heap.put d .dfr).put l' (.loop .ready none c.top.fn c.top.nt c.top.slots ps a b d), next := c.st.next + 2 }
        match enterA tb f (l ++ [.yld l'] ++ m) .normal with
        | some g => some ⟨g, { c.top with todo := .inRF l' :: k, defers := .coll d :: c.top.defers } :: c.below, s⟩
        | none => none
      | some r => match c.st.heap.get r with
        | some (.loop _ _ _ _ _ _ _ _ d) =>
          let l' := c.st.next
          let s : St := { heap := c.st.heap.put l' (.loop .ready none c.top.fn c.top.nt c.top.slots ps a b d), next := c.st.next + 1 }
          match enterA tb f (l ++ [.yld l'] ++ m) .normal with
          | some g => some ⟨g, { c.top with todo := .inRF l' :: k } :: c.below, s⟩
          | none => none
        | _ => none
    | _ => none
  | _ => none

noncomputable def pend (pe : Option Code) (k : List AItem) : List AItem := match pe with | some j => .code j :: k | none => k

noncomputable def runStep (c : Cfg) : Option Cfg :=
  match c.top.todo with
  | [] => leaveA c none
  | x :: k => match x with
    | .code x => codeStep tb c x k
    | .inBlock _ => some { c with top := { c.top with todo := k } }
    | .inScope _ => some { c with top := { c.top with todo := k } }
    | .inLoop b => some { c with top := { c.top with todo := .code b :: .inLoop b :: k } }
    | .regL ops _ l => match l with
      | [] => some { c with top := { c.top with todo := k } }
      | o :: _ => opStep tb P c ops o
    | .inRF _ => none
    | .endRF l => match c.st.heap.get l with
      | some (.loop stt pe fn nt sl ps a b d) => match stt with
        | .busy => none
        | _ => some { c with top := { c.top with todo := pend pe k }, st := { c.st with heap := c.st.heap.put l (.loop .exhausted pe fn nt sl ps a b d) } }
      | _ => none
    | .beginRound => match c.top.ro with
      | some l => match c.st.heap.get l with
        | some (.loop .ready pe fn nt sl ps a b d) => some { c with top := { c.top with todo := k }, st := { c.st with heap := c.st.heap.put l (.loop .busy pe fn nt sl ps a b d) } }
        | _ => none
      | none => none

noncomputable def resultA (s : St) (sl : T AVal) : ResultVar → Option AVal
  | .tmp t => some (slot sl t)
  | .cell a t => match slot sl a with
    | .ptr i off => loadA tb t i off s
    | _ => none

noncomputable def resultsA (s : St) (sl : T AVal) : List ResultVar → Option (List AVal)
  | [] => some []
  | r :: rs => match resultA tb s sl r with
    | some v => match resultsA s sl rs with
      | some l => some (v :: l)
      | none => none
    | none => none

noncomputable def resA (s : St) (f : AFr) : Option AVal :=
  match tb.func f.fn with
  | some F => match resultsA tb s f.slots F.results.toList with
    | some [v] => some v
    | some l => some (.tup l)
    | none => none
  | none => none

noncomputable def settleA : AMode → AMode
  | .pan ((_, true) :: _) => .ret
  | m => m

noncomputable def outStep (c : Cfg) : Option Cfg :=
  match c.top.defers with
  | .coll d :: ds => match c.st.heap.get d with
    | some .dfr => some { c with top := { c.top with defers := ds }, st := { c.st with heap := c.st.heap.put d .gone } }
    | _ => none
  | .fn f m args :: ds => match enterA tb f (args ++ m) .deferred with
    | some g => some ⟨g, { c.top with defers := ds } :: c.below, c.st⟩
    | none => none
  | [] => match c.top.mode with
    | .run => none
    | .pan ch => match tb.func c.top.fn, c.below with
      | some _, b :: r => match b.mode with
        | .run => some ⟨{ b with mode := .pan ch }, r, c.st⟩
        | .ret => some ⟨{ b with mode := .pan ch }, r, c.st⟩
        | .pan old => some ⟨{ b with mode := .pan (ch ++ old) }, r, c.st⟩
      | _, _ => none
    | .ret => match resA tb c.st c.top, c.below with
      | some v, b :: r => match c.top.kind with
        | .normal => match b.mode with
          | .run => match finA b v with | some g => some ⟨g, r, c.st⟩ | none => none
          | _ => none
        | .deferred => some ⟨{ b with mode := settleA b.mode }, r, c.st⟩
        | _ => none
      | _, _ => none

noncomputable def stepA (c : Cfg) : Option Cfg :=
  match c.top.mode with
  | .run => runStep tb P c
  | _ => outStep tb c

noncomputable def doneA (c : Cfg) : Option (AVal × St × Nat) :=
  match c.top.mode, c.top.defers, c.below, c.top.kind with
  | .ret, [], [], .normal => match resA tb c.st c.top with
    | some v => some (v, c.st, c.top.fn)
    | none => none
  | _, _, _, _ => none
end
end Go.Proofs.YtiemogegdoogaaaGreat.Eng

namespace Go.Proofs.YtiemogegdoogaaaGreat.Eng
open Go
variable [Interp]

inductive DR (κ : Pl) : ADef → Deferred → Prop where
  | fn {f : FuncId} {m l : List AVal} {m' l' : List Value} : VL κ m m' → VL κ l l' → DR κ (.fn f m l) { target := .fn (.func f) m'.toArray, args := l'.toArray }
  | coll {d b : Nat} : κ d = some b → DR κ (.coll d) { target := .collected b, args := #[] }

theorem DR.mono {κ κ' : Pl} (h : κ.le κ') {a : ADef} {d : Deferred} : DR κ a d → DR κ' a d
  | .fn x y => .fn (x.mono h) (y.mono h)
  | .coll x => .coll (h.on _ _ x)

section
variable {tb : Tab} {P : Program} {κ : Pl} {s s' : St} {w : World} {ρ : Operand → AVal} {ρ' : Operand → Value} {id : Nat} {a : AVal}

noncomputable def OpOK (P : Program) (κ : Pl) (s : St) (w : World) (id : Nat) (e : Sem Next) : OpR → Prop
  | .val a s' => Sure P e w (Yield κ s w id a s')
  | .call f args => ∃ vs : List Value, VL κ args vs ∧ e = callFunc f vs.toArray
  | .round l args => ∃ b, ∃ vs : List Value, κ l = some b ∧ VL κ args vs ∧ e = Instr.yield b vs.toArray
  | .defer d => ∃ d', DR κ d d' ∧ e = .pure (.defer d')
  | .recov => e = .pure .recover
  | .panic v => ∃ x, V κ v x ∧ e.run P w = .halt (.panic x) w

theorem ok_valR {e : Sem Next} {x : Option AVal} {r : OpR} (h : valR x s = some r) (hs : ∀ a, x = some a → Sure P e w (Yield κ s w id a s)) : OpOK P κ s w id e r := by
  unfold valR at h
  split at h
  · cases h; exact hs _ rfl
  · cases h

theorem ok_valS {e : Sem Next} {x : Option (AVal × St)} {r : OpR} (h : valS x = some r) (hs : ∀ p, x = some p → Sure P e w (Yield κ s w id p.1 p.2)) : OpOK P κ s w id e r := by
  unfold valS at h
  split at h
  · cases h; exact hs _ rfl
  · cases h

theorem ok_valU {e : Sem Next} {x : Option St} {r : OpR} (h : valU x = some r) (hs : ∀ s', x = some s' → Sure P e w (Yield κ s w id (.lit undef) s')) : OpOK P κ s w id e r := by
  unfold valU at h
  split at h
  · cases h; exact hs _ rfl
  · cases h

theorem sure_yield {e : Sem Value} (hr : Rel κ s w) (h : Sure P e w fun y w' => w' = w ∧ V κ a y) : Sure P (do pure (.value (← e)) : Sem Next) w (Yield κ s w id a s) :=
  sure_value (h.mono fun v w' ⟨h1, h2⟩ => by rw [h1]; exact .same hr h2)

theorem sure_new {e : Sem Value} (h : Sure P e w fun y w' => ∃ κ' : Pl, Goes (· ≠ id) κ s w κ' s' w' ∧ V κ' a y) : Sure P (do pure (.value (← e)) : Sem Next) w (Yield κ s w id a s') :=
  sure_value (h.mono fun v _ ⟨κ', h1, h2⟩ => ⟨κ', h1, .inl ⟨v, rfl, h2⟩⟩)

theorem map_args (hρ : ∀ x, V κ (ρ x) (ρ' x)) (l : Array Operand) : ∃ vs : List Value, l.map ρ' = vs.toArray ∧ VL κ (l.toList.map ρ) vs :=
  ⟨l.toList.map ρ', by apply Array.ext'; simp only [Array.toList_map], VL.map _ _ _ fun x _ => hρ x⟩

theorem convI_sound (ok : tb.OK P) {src dst : Nat} {x : AVal} {v : Value} (hx : V κ x v) (h : convI tb src dst x = some a) :
    Sure P (convert src dst v) w fun y w' => w' = w ∧ V κ a y := by
  unfold convI at h
  split at h
  case h_2 => cases h
  rename_i k0 n
  split at h
  case h_2 => cases h
  rename_i k d hk hd
  cases h
  cases hx.of_lit rfl
  unfold convert
  refine (sure_und (ok.und _ _ hd)).bind fun y w' ⟨h1, h2⟩ => ?_
  rw [h1, h2]
  refine (sure_und (ok.und _ _ hk)).bind fun y w' ⟨h1, h2⟩ => ?_
  rw [h1, h2]
  exact .pure ⟨rfl, .lit _⟩

theorem builtinA_sound (ok : tb.OK P) (hr : Rel κ s w) (hid : id < s.next) (hk : Free κ s id) (hρ : ∀ x, V κ (ρ x) (ρ' x)) {o : Oper} {c : Call} {b : Builtin} {r : OpR}
    (ho : o.op = .call c) (hc : c.callee = .builtin b) (h : builtinA tb P ρ o b c.argTypes.toList (c.args.toList.map ρ) id s = some r) : OpOK P κ s w id (execOp ρ' o) r := by
  obtain ⟨vs, hvs, hV⟩ := map_args hρ c.args
  have he : ∀ (e : Sem Value), (∀ cs, builtin b c.argTypes o.type cs (c.args.map ρ') = (do pure (.value (← e)) : Sem Next)) → execOp ρ' o = (do pure (.value (← e)) : Sem Next) := by
    intro e h1
    unfold execOp; rw [ho]; simp only [resolve, hc]
    exact h1 _
  have hlit : ∀ a, litA P ρ o = some a → Sure P (execOp ρ' o) w (Yield κ s w id a s) := fun a h => litA_sound hr (fun x _ => hρ x) h
  generalize hts : c.argTypes.toList = ts at h
  have hts' : c.argTypes = ts.toArray := by rw [← hts]
  generalize hav : c.args.toList.map ρ = av at h hV
  unfold builtinA at h
  split at h
  · -- len
    rename_i t x
    cases hV with
    | @cons _ xv _ _ hx hV =>
    cases hV
    split at h
    · exact ok_valR h hlit
    rename_i hnl
    split at h
    case h_2 => cases h
    rename_i hsl
    split at h
    case h_2 => cases h
    rename_i n hn
    cases h
    rw [he (Builtin.len_ c.argTypes o.type (c.args.map ρ')) (fun _ => rfl), hts', hvs]
    exact sure_yield hr ((len_sound ok hx hsl hnl hn).mono fun v w' ⟨h1, h2⟩ => ⟨h1, h2 ▸ .lit _⟩)
  · -- append
    rename_i t u a x
    cases hV with
    | @cons _ av' _ _ ha hV =>
    cases hV with
    | @cons _ xv _ _ hx hV =>
    cases hV
    rw [he (Builtin.append_ c.argTypes o.type (c.args.map ρ')) (fun _ => rfl), hts', hvs]
    split at h
    · exact ok_valS h fun p hp => sure_new (appendU_sound ok hr hid hk ha hx hp)
    · exact ok_valS h fun p hp => sure_new (appendA_sound ok hr hid hk ha hx hp)
  · -- copy
    rename_i t ts' a x
    cases hV with
    | @cons _ av' _ _ ha hV =>
    cases hV with
    | @cons _ xv _ _ hx hV =>
    cases hV
    rw [he (Builtin.copy_ c.argTypes o.type (c.args.map ρ')) (fun _ => rfl), hts', hvs]
    exact ok_valS h fun p hp => sure_new ((copyA_sound (U := (· ≠ id)) ok hr (by simp) ha hx hp).mono fun y w' ⟨h1, h2⟩ => ⟨κ, h1, h2⟩)
  · cases h
    unfold execOp; rw [ho]; simp only [resolve, hc]; rfl
  · exact ok_valR h hlit
  · exact ok_valR h hlit
  · cases h
end
end Go.Proofs.YtiemogegdoogaaaGreat.Eng

namespace Go.Proofs.YtiemogegdoogaaaGreat.Eng
open Go
variable [Interp]

section
variable {tb : Tab} {P : Program} {κ : Pl} {s s' : St} {w : World} {ρ : Operand → AVal} {ρ' : Operand → Value} {id : Nat} {a : AVal}

theorem opt_lit (hρ : ∀ x, V κ (ρ x) (ρ' x)) (lo : Option Operand) (h : (lo.map fun x => litOf (ρ x)) ≠ some none) : (lo.map fun x => litOf (ρ x)).join = lo.map ρ' := by
  cases lo with
  | none => rfl
  | some x =>
    cases e : litOf (ρ x) with
    | none => simp [e] at h
    | some v => simp [e, (hρ x).of_lit e]

theorem sameSym_int {κ : Pl} {x y : AVal} {xv yv : Value} (h : sameSym x y = true) (_ : V κ x xv) (_ : V κ y yv) : ∃ k n, xv = .int k n ∧ yv = .int k n := by cases h

theorem opO_sound (ok : tb.OK P) (hr : Rel κ s w) (hid : id < s.next) (hk : Free κ s id) (hρ : ∀ x, V κ (ρ x) (ρ' x)) {o : Oper} {r : OpR}
    (h : opO tb P ρ o id s = some r) : OpOK P κ s w id (execOp ρ' o) r := by
  have hlit : ∀ a, litA P ρ o = some a → Sure P (execOp ρ' o) w (Yield κ s w id a s) := fun a h => litA_sound hr (fun x _ => hρ x) h
  unfold opO at h
  split at h <;> rename_i hop <;> try first | unfold aPick at h | unfold aAlloc at h | unfold aBox at h | unfold aBuild at h | unfold aBuildSlice at h | unfold aMakeSlice at h | unfold aLoad at h | unfold aStore at h | unfold aNilCheck at h | unfold aBin at h | unfold aConvert at h | unfold aIface at h | unfold aSlice at h | unfold aFieldAddr at h | unfold aField at h | unfold aIndexAddr at h | unfold aIndex at h | unfold aExtract at h | unfold aCall at h | unfold aDefer at h | unfold aPanic at h
  · cases h; exact move_sound hr (.inl hop) (hρ _)
  · cases h; exact move_sound hr (.inr hop) (hρ _)
  · rename_i c x y
    split at h
    case h_2 => cases h
    rename_i b hc
    cases h
    exact pick_sound hr hop (hc ▸ hρ c) (hρ x) (hρ y)
  · split at h
    case h_2 => cases h
    rename_i z hz
    split at h
    case h_2 => cases h
    rename_i s' hs
    cases h
    exact alloc_sound ok hr hid hk hop hz hs
  · split at h
    case h_2 => cases h
    rename_i hkn
    split at h
    case h_2 => cases h
    rename_i s' hs
    cases h
    exact box_sound hr hid hk hop (hρ _) hkn hs
  · rename_i t ps
    refine ok_valR h fun a ha => ?_
    unfold execOp; rw [hop]
    refine sure_yield hr (buildA_sound ok ?_ ?_ ha)
    · simp [List.map_map, Function.comp_def]
    · simp only [List.map_map, Function.comp_def, Array.toList_map]
      exact VL.map _ _ _ fun x _ => hρ _
  · rename_i t len ps
    split at h
    · rename_i hl hps
      have hl : len = 0 := by simpa [Nat.beq_eq] using hl
      subst hl
      refine ok_valS h fun p hp => ?_
      unfold execOp; rw [hop]
      refine sure_new (emptyA_sound ok hr hid hk ?_ hp)
      have : ps = #[] := by apply Array.ext'; exact hps
      rw [this]; simp
    refine ok_valS h fun p hp => ?_
    unfold execOp; rw [hop]
    refine sure_new (buildSliceA_sound ok hr hid hk ?_ ?_ hp)
    · simp [List.map_map, Function.comp_def]
    · simp only [List.map_map, Function.comp_def, Array.toList_map]
      exact VL.map _ _ _ fun x _ => hρ _
  · rename_i t l c
    split at h
    case h_2 => cases h
    rename_i k n hl
    split at h
    case h_2 => cases h
    rename_i k' m hc
    refine ok_valS h fun p hp => ?_
    unfold execOp; rw [hop]
    simp only
    rw [(hl ▸ hρ l : V κ (.lit (.int k n)) (ρ' l)).of_lit rfl, (hc ▸ hρ c : V κ (.lit (.int k' m)) (ρ' c)).of_lit rfl]
    exact sure_new (makeSliceA_sound ok hr hid hk hp)
  · rename_i x t u c
    refine ok_valR h fun a ha => ?_
    unfold execOp; rw [hop]
    exact sure_yield hr (assertA_sound ok (hρ x) ha)
  · rename_i t x
    split at h
    case h_2 => cases h
    rename_i i off hx
    exact ok_valR h fun a ha => load_sound ok hr hop (hx ▸ hρ x) ha
  · rename_i t x y
    split at h
    case h_2 => cases h
    rename_i i off hx
    exact ok_valU h fun s' hs => store_sound ok hr hop (hx ▸ hρ x) (hρ y) hs
  · rename_i x
    split at h
    · rename_i i off hx
      cases h; have := nilCheck_sound (P := P) (ρ := ρ) (id := id) hr hop (hρ x) (.inl ⟨_, _, hx⟩); rwa [hx] at this
    · rename_i t v hx
      cases h; have := nilCheck_sound (P := P) (ρ := ρ) (id := id) hr hop (hρ x) (.inr (.inl ⟨_, _, hx⟩)); rwa [hx] at this
    · rename_i f l m hx
      cases h; have := nilCheck_sound (P := P) (ρ := ρ) (id := id) hr hop (hρ x) (.inr (.inr ⟨_, _, _, hx⟩)); rwa [hx] at this
    · cases h
  · rename_i op t x y u
    unfold aBin2 at h
    split at h
    · rename_i r1 h1
      cases h
      replace h := h1
      clear h1
      unfold aBin at h
      split at h
      · rename_i k m hx
        split at h
        case h_2 => cases h
        rename_i k' n hy
        split at h
        case h_2 => cases h
        rename_i v hv
        cases h
        exact bin_sound hr hop (hx ▸ hρ x) (hy ▸ hρ y) hv
      · split at h
        · exact ok_valR h hlit
        · split at h
          · rename_i hss
            obtain ⟨k, n, hxv, hyv⟩ := sameSym_int hss (hρ x) (hρ y)
            have hx' : V κ (.lit (.int k n)) (ρ' x) := by rw [hxv]; exact .lit _
            have hy' : V κ (.lit (.int k n)) (ρ' y) := by rw [hyv]; exact .lit _
            split at h
            · cases h
              exact bin_sound hr hop hx' hy' (by simp [intA])
            · cases h
              exact bin_sound hr hop hx' hy' (by simp [intA])
            · cases h
          · split at h
            · rename_i hn
              cases h
              exact nilcmp_sound (neq := false) ok hr hop (hρ x) (hρ y) hn
            · rename_i hn
              cases h
              exact nilcmp_sound (neq := true) ok hr hop (hρ x) (hρ y) hn
            · cases h
    · exact ok_valR h fun a ha => litA_sound hr (fun x _ => aggL_V (hρ x)) ha
  · exact ok_valR h hlit
  · rename_i sr d x
    split at h
    · rename_i a ha
      cases h
      unfold execOp; rw [hop]
      exact sure_yield hr (convI_sound ok (hρ x) ha)
    · split at h
      · rename_i a s1 ha
        cases h
        have := strBytesA_sound ok hr hid hk (hρ x) ha
        unfold execOp; rw [hop]
        exact sure_new this
      · split at h
        · rename_i a ha
          cases h
          unfold execOp; rw [hop]
          exact sure_yield hr (bytesStrA_sound ok hr (hρ x) ha)
        · split at h
          · rename_i a s1 ha
            cases h
            unfold execOp; rw [hop]
            exact sure_new ((convSameA_sound ok hr (hρ x) ha).mono fun y w' ⟨h1, h2⟩ => ⟨κ, h1, h2⟩)
          · exact ok_valR h hlit
  · rename_i t x
    split at h
    · cases h
    · rename_i d hn hd
      cases h
      exact iface_sound ok hr hop hd (fun m e => hn m (e ▸ rfl)) (hρ x)
    · cases h
  · cases h
    exact func_sound hr hop (fun x _ => hρ x) (fun x _ => hρ x)
  · rename_i t x lo hi mx
    split at h
    · cases h
    · cases h
    · cases h
    rename_i h1 h2 h3
    split at h
    · exact ok_valR h hlit
    · refine ok_valR h fun a ha => ?_
      unfold execOp; rw [hop]
      simp only
      rw [← opt_lit hρ lo h1, ← opt_lit hρ hi h2, ← opt_lit hρ mx h3]
      exact sure_yield hr (sliceA_sound ok (hρ x) ha)
  · rename_i t x n
    split at h
    case h_2 => cases h
    rename_i i off hx
    split at h
    case h_2 => cases h
    rename_i fs hu
    split at h
    case h_2 => cases h
    rename_i f hf
    split at h
    case h_2 => cases h
    rename_i fi hfi
    cases hz : Nat.beq fi.size 0 with
    | true => rw [hz] at h; cases h
    | false =>
      rw [hz] at h; cases h
      exact fieldAddr_sound ok hr hop hu hf hfi (by rw [Bool.eq_false_iff] at hz; simpa [Nat.beq_eq] using hz) (hx ▸ hρ x)
  · rename_i t x n
    split at h
    · rename_i cs hx
      refine ok_valR h fun a ha => ?_
      unfold execOp; rw [hop]
      exact sure_yield hr (fieldA_sound ok (hx ▸ hρ x) ha)
    · exact ok_valR h hlit
  · rename_i t x y
    split at h
    case h_2 => cases h
    rename_i k i hy
    exact ok_valR h fun a ha => indexAddr_sound ok hr hop (hρ x) (hy ▸ hρ y) ha
  · rename_i t x y
    split at h
    · rename_i cs hx
      split at h
      case h_2 => cases h
      rename_i k i hy
      refine ok_valR h fun a ha => ?_
      unfold execOp; rw [hop]
      simp only
      rw [(hy ▸ hρ y : V κ (.lit (.int k i)) (ρ' y)).of_lit rfl]
      exact sure_yield hr (aggIndexA_sound ok (hx ▸ hρ x) ha)
    · exact ok_valR h hlit
  · rename_i x i
    split at h
    · rename_i l hx
      exact ok_valR h fun a ha => extract_sound hr hop (hx ▸ hρ x) ha
    · exact ok_valR h hlit
  · rename_i c
    split at h
    · rename_i b hc
      exact builtinA_sound ok hr hid hk hρ hop hc h
    · rename_i f hc
      obtain ⟨vs, hvs, hV⟩ := map_args hρ c.args
      have hfv := hρ f
      split at h
      · rename_i g l m hf
        rw [hf] at hfv
        generalize hgv : ρ' f = gv at hfv
        cases hfv with
        | @fn _ _ _ l' m' hl hm =>
        have hcall : execOp ρ' o = callFunc g (l' ++ vs ++ m').toArray := by
          unfold execOp; rw [hop]; simp only [resolve, hc, hgv, hvs, Deferred.ofValue]
          change callFunc g _ = _
          congr 1
          apply Array.ext'; simp
        split at h
        · cases h
          exact ⟨l' ++ vs ++ m', (hl.append hV).append hm, hcall⟩
        · rename_i xe hxe
          refine ok_valR h fun a ha => ?_
          rw [hcall]
          exact callExt_sound ok hr hxe ((hl.append hV).append hm) ha
      · rename_i l hf
        cases h
        rw [hf] at hfv
        generalize hgv : ρ' f = gv at hfv
        cases hfv with
        | @yld _ b hb =>
        refine ⟨b, vs, hb, hV, ?_⟩
        unfold execOp; rw [hop]; simp only [resolve, hc, hgv, hvs, Deferred.ofValue]
        change Instr.yield b _ = _
        congr 1
        apply Array.ext'; simp
      · cases h
    · cases h
  · rename_i c
    split at h
    · rename_i f hc
      obtain ⟨vs, hvs, hV⟩ := map_args hρ c.args
      have hfv := hρ f
      split at h
      · rename_i g l m hf
        cases h
        rw [hf] at hfv
        generalize hgv : ρ' f = gv at hfv
        cases hfv with
        | @fn _ _ _ l' m' hl hm =>
        refine ⟨_, .fn hm (hl.append hV), ?_⟩
        unfold execOp; rw [hop]; simp only [resolve, hc, hgv, hvs, Deferred.ofValue]
        change Sem.pure (Next.defer _) = _
        congr 3
        apply Array.ext'; simp
      · cases h
    · cases h
  · rename_i x
    split at h
    · rename_i t v hx
      cases h
      have hv := hρ x
      rw [hx] at hv
      generalize hgv : ρ' x = gv at hv
      cases hv with
      | ifc hv =>
      refine ⟨_, .ifc hv, ?_⟩
      unfold execOp; rw [hop]; simp only [hgv]
      rfl
    · cases h
  · cases h
end
end Go.Proofs.YtiemogegdoogaaaGreat.Eng

namespace Go.Proofs.YtiemogegdoogaaaGreat.Eng
open Go
variable [Interp]

section
variable {tb : Tab} {P : Program} {κ : Pl} {s s' : St} {w : World} {ρ : Operand → AVal} {ρ' : Operand → Value} {id : Nat} {a : AVal}

theorem withSt_some {s s' : St} {x : Option AVal} {a : AVal} (h : withSt s x = some (a, s')) : x = some a ∧ s' = s := by
  unfold withSt at h
  split at h
  · cases h; exact ⟨rfl, rfl⟩
  · cases h

theorem symMin_sound (ok : tb.OK P) {ts : Array TypeId} {ty : TypeId} {x y : AVal} {v u : Value} (hx : V κ x v) (hy : V κ y u) (h : symMin tb.facts x y = some a) :
    Sure P (Builtin.min_ ts ty #[v, u]) w fun y w' => w' = w ∧ V κ a y := by
  unfold symMin at h
  split at h
  case h_2 => cases h
  rename_i k e k' e' h1 h2
  rw [sxI_V h1 hx, sxI_V h2 hy]
  refine .eq (a := .int k (if e'.ev.int < e.ev.int then e'.ev.int else e.ev.int)) (w' := w) rfl ⟨rfl, ?_⟩
  split at h
  · rename_i hd
    cases h
    rw [if_pos (of_decide_eq_true (dec_lt ok hd))]
    exact mkI_V _ _
  · rename_i hd
    cases h
    rw [if_neg (of_decide_eq_false (dec_lt ok hd))]
    exact mkI_V _ _
  · cases h; exact .si

theorem symMax_sound (ok : tb.OK P) {ts : Array TypeId} {ty : TypeId} {x y : AVal} {v u : Value} (hx : V κ x v) (hy : V κ y u) (h : symMax tb.facts x y = some a) :
    Sure P (Builtin.max_ ts ty #[v, u]) w fun y w' => w' = w ∧ V κ a y := by
  unfold symMax at h
  split at h
  case h_2 => cases h
  rename_i k e k' e' h1 h2
  rw [sxI_V h1 hx, sxI_V h2 hy]
  refine .eq (a := .int k (if e'.ev.int > e.ev.int then e'.ev.int else e.ev.int)) (w' := w) rfl ⟨rfl, ?_⟩
  split at h
  · rename_i hd
    cases h
    rw [if_pos (of_decide_eq_true (dec_lt ok hd))]
    exact mkI_V _ _
  · rename_i hd
    cases h
    rw [if_neg (of_decide_eq_false (dec_lt ok hd))]
    exact mkI_V _ _
  · cases h; exact .si

theorem symField_sound (ok : tb.OK P) {t n : Nat} {x : AVal} {v : Value} (hx : V κ x v) (h : symField tb t x n = some a) : Sure P (Instr.fieldAt t v n) w fun y w' => w' = w ∧ V κ a y := by
  unfold symField at h
  split at h
  case h_2 => cases h
  rename_i i off fs hu
  split at h
  case h_2 => cases h
  rename_i f hf
  split at h
  case h_2 => cases h
  rename_i fi hfi
  split at h
  · cases h
  rename_i hz
  have hz : fi.size ≠ 0 := fun e => by rw [e] at hz; cases hz
  cases h
  cases hx with
  | @ptv _ o b _ hb ho =>
  simp only [Instr.fieldAt]
  refine (sure_und (ok.und _ _ hu)).bind fun d w' ⟨h1, h2⟩ => ?_
  rw [h1, h2]
  simp only [hf]
  change Sure P (do let a ← fieldPlace ⟨b, o, none⟩ f; pure (.pointer (some a)) : Sem Value) w _
  unfold fieldPlace
  refine Sure.bind (R := fun a w' => a = ⟨b, o + f.offset, none⟩ ∧ w' = w) ?_ fun a w' ⟨h3, h4⟩ => .pure ?_
  · refine (sure_size (ok.info _ _ hfi)).bind fun z w' ⟨h3, h4⟩ => ?_
    rw [h3, h4, if_neg hz, add_at]
    exact .pure ⟨rfl, rfl⟩
  · rw [h3, h4]
    refine ⟨rfl, .ptv hb ?_⟩
    rw [mkAdd_ev, ← ho]
    rfl

theorem symCall_sound (ok : tb.OK P) (hr : Rel κ s w) (hid : id < s.next) (hk : Free κ s id) (hρ : ∀ x, V κ (ρ x) (ρ' x)) {o : Oper} {c : Call}
    (ho : o.op = .call c) (h : symCall tb ρ c id s = some (a, s')) : Sure P (execOp ρ' o) w (Yield κ s w id a s') := by
  unfold symCall at h
  split at h
  case h_2 => cases h
  rename_i b hc
  obtain ⟨vs, hvs, hV⟩ := map_args hρ c.args
  have he : ∀ (e : Sem Value), (∀ cs, builtin b c.argTypes o.type cs (c.args.map ρ') = (do pure (.value (← e)) : Sem Next)) → execOp ρ' o = (do pure (.value (← e)) : Sem Next) := by
    intro e h1
    unfold execOp; rw [ho]; simp only [resolve, hc]
    exact h1 _
  generalize hts : c.argTypes.toList = ts at h
  have hts' : c.argTypes = ts.toArray := by rw [← hts]
  generalize hav : c.args.toList.map ρ = av at h hV
  split at h
  · rename_i t x
    cases hV with
    | @cons _ xv _ _ hx hV =>
    cases hV
    rw [he (Builtin.len_ c.argTypes o.type (c.args.map ρ')) (fun _ => rfl), hts', hvs]
    split at h
    · rename_i a1 h1
      cases h
      exact sure_yield hr (symLen_sound ok hx h1)
    · obtain ⟨h1, h2⟩ := withSt_some h
      subst h2
      exact sure_yield hr (mapLen_sound ok hr hx h1)
  · rename_i t x
    cases hV with
    | @cons _ xv _ _ hx hV =>
    cases hV
    obtain ⟨h1, h2⟩ := withSt_some h
    subst h2
    rw [he (Builtin.cap_ c.argTypes o.type (c.args.map ρ')) (fun _ => rfl), hts', hvs]
    exact sure_yield hr (symCap_sound ok hx h1)
  · rename_i t u a' x
    cases hV with
    | @cons _ av' _ _ ha hV =>
    cases hV with
    | @cons _ xv _ _ hx hV =>
    cases hV
    rw [he (Builtin.append_ c.argTypes o.type (c.args.map ρ')) (fun _ => rfl), hts', hvs]
    split at h
    · rename_i r h1
      cases h
      exact sure_new (appendZ_sound ok hr hid hk ha hx h1)
    · split at h
      · rename_i r h1
        cases h
        exact sure_new (appendS_sound ok hr hid hk ha hx h1)
      · exact sure_new (appendP_sound ok hr hid hk ha hx h)
  · rename_i t ts' a' x
    cases hV with
    | @cons _ av' _ _ ha hV =>
    cases hV with
    | @cons _ xv _ _ hx hV =>
    cases hV
    rw [he (Builtin.copy_ c.argTypes o.type (c.args.map ρ')) (fun _ => rfl), hts', hvs]
    exact sure_new ((symCopy_sound (U := (· ≠ id)) ok hr ha hx h).mono fun y w' ⟨h1, h2⟩ => ⟨κ, h1, h2⟩)
  · rename_i x y
    cases hV with
    | @cons _ av' _ _ ha hV =>
    cases hV with
    | @cons _ xv _ _ hx hV =>
    cases hV
    obtain ⟨h1, h2⟩ := withSt_some h
    subst h2
    rw [he (Builtin.min_ c.argTypes o.type (c.args.map ρ')) (fun _ => rfl), hvs]
    exact sure_yield hr (symMin_sound ok ha hx h1)
  · rename_i x y
    cases hV with
    | @cons _ av' _ _ ha hV =>
    cases hV with
    | @cons _ xv _ _ hx hV =>
    cases hV
    obtain ⟨h1, h2⟩ := withSt_some h
    subst h2
    rw [he (Builtin.max_ c.argTypes o.type (c.args.map ρ')) (fun _ => rfl), hvs]
    exact sure_yield hr (symMax_sound ok ha hx h1)
  · cases h

theorem symA_sound (ok : tb.OK P) (hr : Rel κ s w) (hid : id < s.next) (hk : Free κ s id) (hρ : ∀ x, V κ (ρ x) (ρ' x)) {o : Oper} (h : symA tb ρ o id s = some (a, s')) :
    Sure P (execOp ρ' o) w (Yield κ s w id a s') := by
  unfold symA at h
  split at h
  · rename_i op t x y u ho
    split at h
    · rename_i a1 h1
      cases h
      exact nilSB_sound ok hr ho (hρ x) (hρ y) h1
    · split at h
      · rename_i a1 h1
        cases h
        exact symBin_sound ok hr ho hρ h1
      · obtain ⟨h1, h2⟩ := withSt_some h
        subst h2
        exact symPair_sound ok hr ho hρ h1
  · rename_i op t x ho
    obtain ⟨h1, h2⟩ := withSt_some h
    subst h2
    unfold execOp; rw [ho]
    exact sure_yield hr (symUn_sound ok (hρ x) h1)
  · rename_i sr d x ho
    split at h
    · rename_i a' h1
      cases h
      unfold execOp; rw [ho]
      exact sure_yield hr (symConv_sound ok (hρ x) h1)
    · obtain ⟨h1, h2⟩ := withSt_some h
      subst h2
      unfold execOp; rw [ho]
      exact sure_yield hr (symStr8_sound ok hr (hρ x) h1)
  · rename_i c x y ho
    split at h
    case h_2 => cases h
    rename_i e he
    split at h
    case h_2 => cases h
    rename_i b hb
    cases h
    have e1 := sxB_V he (hρ c)
    rw [decB_sound ok.holds hb] at e1
    refine pick_sound hr ho (b := b) ?_ (hρ x) (hρ y)
    rw [e1]; exact .lit _
  · rename_i x ho
    split at h
    case h_2 => cases h
    rename_i i off hx
    cases h
    refine .eq (a := .value (ρ' x)) (w' := w) ?_ (.same hr (hx ▸ hρ x))
    have := hρ x
    rw [hx] at this
    unfold execOp; rw [ho]
    simp only
    generalize ρ' x = y at this ⊢
    cases this; rfl
  · rename_i t x y ho
    obtain ⟨h1, h2⟩ := withSt_some h
    subst h2
    unfold execOp; rw [ho]
    exact sure_yield hr (symIdx_sound ok (hρ x) (hρ y) h1)
  · rename_i t x n ho
    obtain ⟨h1, h2⟩ := withSt_some h
    subst h2
    unfold execOp; rw [ho]
    exact sure_yield hr (symField_sound ok (hρ x) h1)
  · rename_i t x ho
    obtain ⟨h1, h2⟩ := withSt_some h
    subst h2
    unfold execOp; rw [ho]
    exact sure_yield hr (symLoad_sound ok hr (hρ x) h1)
  · rename_i t x y ho
    split at h
    case h_2 => cases h
    rename_i s1 h1
    cases h
    unfold execOp; rw [ho]
    exact sure_skip ((symStore_sound ok hr (hρ x) (hρ y) h1).mono fun _ w' hg => ⟨κ, hg, .inr ⟨rfl, rfl⟩⟩)
  · rename_i t x lo hi mx ho
    obtain ⟨h1, h2⟩ := withSt_some h
    subst h2
    unfold execOp; rw [ho]
    have hb : ∀ z : Option Operand, (z.map ρ).isSome = (z.map ρ').isSome ∧ ∀ a v, z.map ρ = some a → z.map ρ' = some v → V κ a v := fun z => by
      cases z with
      | none => exact ⟨rfl, fun _ _ h => by cases h⟩
      | some z => exact ⟨rfl, fun a v h1 h2 => by cases h1; cases h2; exact hρ z⟩
    exact sure_yield hr (symSlice_sound ok (hρ x) (hb lo) (hb hi) (hb mx) h1)
  · rename_i t l c ho
    unfold execOp; rw [ho]
    exact sure_new (symMake_sound ok hr hid hk (hρ l) (hρ c) h)
  · rename_i t ho
    cases h
    unfold execOp; rw [ho]
    exact sure_new (makeMap_sound hr hid hk)
  · rename_i t m k v ho
    split at h
    case h_2 => cases h
    rename_i s1 h1
    cases h
    unfold execOp; rw [ho]
    exact sure_skip ((mapUpdateA_sound ok hr (hρ m) (hρ k) (hρ v) h1).mono fun _ w' hg => ⟨κ, hg, .inr ⟨rfl, rfl⟩⟩)
  · rename_i t m k v ho
    split at h
    case h_2 => cases h
    rename_i s1 h1
    cases h
    unfold execOp; rw [ho]
    exact sure_skip ((mapUpdateA_sound ok hr (hρ m) (hρ k) (hρ v) h1).mono fun _ w' hg => ⟨κ, hg, .inr ⟨rfl, rfl⟩⟩)
  · rename_i t m k c ho
    obtain ⟨h1, h2⟩ := withSt_some h
    subst h2
    unfold execOp; rw [ho]
    exact sure_yield hr (lookupA_sound ok hr (hρ m) (hρ k) h1)
  · rename_i c ho
    exact symCall_sound ok hr hid hk hρ ho h
  · cases h

theorem opA_sound (ok : tb.OK P) (hr : Rel κ s w) (hid : id < s.next) (hk : Free κ s id) (hρ : ∀ x, V κ (ρ x) (ρ' x)) {o : Oper} {r : OpR}
    (h : opA tb P ρ o id s = some r) : OpOK P κ s w id (execOp ρ' o) r := by
  unfold opA at h
  split at h
  · rename_i r' h1
    cases h
    exact opO_sound ok hr hid hk hρ h1
  · split at h
    case h_2 => cases h
    rename_i a' s1 h1
    cases h
    exact symA_sound ok hr hid hk hρ h1
theorem boolA_V (ok : tb.OK P) {a : AVal} {v : Value} {b : Bool} (h : boolA tb.facts a = some b) (hv : V κ a v) : v = .bool b := by
  unfold boolA at h
  split at h
  · cases h; exact hv.of_lit rfl
  · cases hv; rw [decB_sound ok.holds h]
  · cases h
end
end Go.Proofs.YtiemogegdoogaaaGreat.Eng

namespace Go.Proofs.YtiemogegdoogaaaGreat.Eng
open Go
variable [Interp]

inductive All2 {α β : Type} (R : α → β → Prop) : List α → List β → Prop where
  | nil : All2 R [] []
  | cons {a : α} {b : β} {l : List α} {m : List β} : R a b → All2 R l m → All2 R (a :: l) (b :: m)

theorem All2.mono {α β : Type} {R R' : α → β → Prop} (h : ∀ a b, R a b → R' a b) : ∀ {l m}, All2 R l m → All2 R' l m
  | _, _, .nil => .nil
  | _, _, .cons x y => .cons (h _ _ x) (y.mono h)
theorem All2.append {α β : Type} {R : α → β → Prop} : ∀ {l m}, All2 R l m → ∀ {l' m'}, All2 R l' m' → All2 R (l ++ l') (m ++ m')
  | _, _, .nil, _, _, h => h
  | _, _, .cons x y, _, _, h => .cons x (y.append h)

inductive IR (κ : Pl) : AItem → Item → Prop where
  | code (c : Code) : IR κ (.code c) (.code c)
  | inBlock (i : Nat) : IR κ (.inBlock i) (.inBlock i)
  | inLoop (c : Code) : IR κ (.inLoop c) (.inLoop c)
  | inScope (c : Code) : IR κ (.inScope c) (.inScope c)
  | regL {ops : Array Oper} {i : Nat} {l : List Oper} : l = ops.toList.drop i → IR κ (.regL ops i l) (.inRegion ops (List.range' i (ops.size - i)))
  | inRF {l b : Nat} : κ l = some b → IR κ (.inRF l) (.inRangeFunc b)
  | endRF {l b : Nat} : κ l = some b → IR κ (.endRF l) (.endRangeFunc b)
  | beginRound : IR κ .beginRound .beginRound

theorem IR.mono {κ κ' : Pl} (h : κ.le κ') {a : AItem} {b : Item} : IR κ a b → IR κ' a b
  | .code c => .code c
  | .inBlock i => .inBlock i
  | .inLoop c => .inLoop c
  | .inScope c => .inScope c
  | .regL e => .regL e
  | .inRF x => .inRF (h.on _ _ x)
  | .endRF x => .endRF (h.on _ _ x)
  | .beginRound => .beginRound

structure PR (κ : Pl) (p : AVal × Bool) (e : PanicEntry) : Prop where
  v : V κ p.1 e.v
  recovered : e.recovered = p.2
  goexit : e.goexit = false

inductive MR (κ : Pl) : AMode → FrameMode → Prop where
  | run : MR κ .run .run
  | ret : MR κ .ret .returning
  | pan {l : List (AVal × Bool)} {l' : List PanicEntry} : All2 (PR κ) l l' → MR κ (.pan l) (.panicking l')

theorem MR.mono {κ κ' : Pl} (h : κ.le κ') {a : AMode} {b : FrameMode} : MR κ a b → MR κ' a b
  | .run => .run
  | .ret => .ret
  | .pan x => .pan (x.mono fun _ _ y => ⟨y.v.mono h, y.recovered, y.goexit⟩)

inductive RO (κ : Pl) : Option Nat → Option Nat → Prop where
  | none : RO κ none none
  | some {l b : Nat} : κ l = some b → RO κ (some l) (some b)

theorem RO.mono {κ κ' : Pl} (h : κ.le κ') {a b : Option Nat} : RO κ a b → RO κ' a b
  | .none => .none
  | .some x => .some (h.on _ _ x)

structure FR (κ : Pl) (f : AFr) (fr : Frame) : Prop where
  fn : fr.fn = f.fn
  slots : SR κ f.nt f.slots fr.tmps
  todo : f.mode = .run → All2 (IR κ) f.todo fr.todo
  defers : All2 (DR κ) f.defers fr.defers
  mode : MR κ f.mode fr.mode
  kind : fr.kind = f.kind
  ro : RO κ f.ro fr.roundOf

theorem FR.mono {κ κ' : Pl} (h : κ.le κ') {f : AFr} {fr : Frame} (r : FR κ f fr) : FR κ' f fr :=
  ⟨r.fn, r.slots.mono h, (fun hm => (r.todo hm).mono fun _ _ => IR.mono h), r.defers.mono fun _ _ => DR.mono h, r.mode.mono h, r.kind, r.ro.mono h⟩

structure Sim (κ : Pl) (c : Cfg) (fr : Frame) (cs : List Frame) (w : World) : Prop where
  top : FR κ c.top fr
  below : All2 (FR κ) c.below cs
  rel : Rel κ c.st w

noncomputable def Goal (P : Program) (κ : Pl) (s : St) (fr : Frame) (cs : List Frame) (w : World) (c' : Cfg) : Prop :=
  ∃ κ' fr' cs' w', (∀ cs0, Steps P (lone fr (cs ++ cs0) w) (lone fr' (cs' ++ cs0) w')) ∧ Sim κ' c' fr' cs' w' ∧ Goes (· < s.next) κ s w κ' c'.st w'

section
variable {tb : Tab} {P : Program} {κ : Pl} {w : World}

theorem regL_cons {ops : Array Oper} {i : Nat} {o : Oper} {r : List Oper} (h : o :: r = ops.toList.drop i) :
    ops[i]? = some o ∧ r = ops.toList.drop (i + 1) ∧ List.range' i (ops.size - i) = i :: List.range' (i + 1) (ops.size - (i + 1)) := by
  have hlt : i < ops.toList.length := by
    rcases Nat.lt_or_ge i ops.toList.length with h1 | h1
    · exact h1
    · rw [List.drop_eq_nil_of_le h1] at h; cases h
  have h2 := List.drop_eq_getElem_cons hlt
  rw [← h] at h2
  injection h2 with h3 h4
  have hlt' : i < ops.size := by simpa using hlt
  refine ⟨?_, h4, ?_⟩
  · rw [Array.getElem?_eq_getElem hlt']; simp [h3]
  · have : ops.size - i = (ops.size - (i + 1)) + 1 := by omega
    rw [this]; rfl

theorem regL_nil {ops : Array Oper} {i : Nat} (h : [] = ops.toList.drop i) : List.range' i (ops.size - i) = [] := by
  have : ops.toList.length ≤ i := by simpa using h.symm
  have : ops.size - i = 0 := by simp at this; omega
  rw [this]; rfl

noncomputable def putV (tmps : Array Value) (d : Option Tmp) (v : Value) : Array Value := match d with | some d => tmps.setIfInBounds d v | none => tmps

theorem putA_sound {f : AFr} {tmps : Array Value} {d : Option Tmp} {a : AVal} {v : Value} {sl : T AVal} (h : putA f d a = some sl) (hs : SR κ f.nt f.slots tmps) (hv : V κ a v) :
    SR κ f.nt sl (putV tmps d v) := by
  unfold putA at h
  cases d with
  | none => cases h; exact hs
  | some d =>
    simp only at h
    cases hlt : Nat.blt d f.nt with
    | false => rw [hlt] at h; cases h
    | true => rw [hlt] at h; cases h; exact hs.put (by simpa [Nat.blt_eq] using hlt) hv

theorem finA_sound {f g : AFr} {fr : Frame} {a : AVal} {v : Value} (h : finA f a = some g) (hf : FR κ f fr) (hm : f.mode = .run) (hv : V κ a v) : FR κ g (fr.finish v) := by
  obtain ⟨fn, tmps, todo, defers, mode, kind, ro⟩ := fr
  obtain ⟨h1, h2, h3, h4, h5, h6, h7⟩ := hf
  unfold finA at h
  have h3 := h3 hm
  simp only at h1 h2 h3 h4 h5 h6 h7
  split at h
  · rename_i ops i o r k htodo
    rw [htodo] at h3
    cases h3 with
    | cons x y =>
    cases x with
    | regL e =>
    obtain ⟨e1, e2, e3⟩ := regL_cons e
    split at h
    case h_2 => cases h
    rename_i sl hsl
    cases h
    rw [e3]
    simp only [Frame.finish, e1, Option.bind_some]
    have := putA_sound hsl h2 hv
    unfold putV at this
    exact ⟨h1, this, fun _ => .cons (.regL e2) y, h4, h5, h6, h7⟩
  · rename_i l k htodo
    cases h
    rw [htodo] at h3
    cases h3 with
    | cons x y =>
    cases x with
    | inRF e => exact ⟨h1, h2, fun _ => .cons (.endRF e) y, h4, h5, h6, h7⟩
  · cases h

theorem slotsOf_val {κ : Pl} : ∀ (l : List AVal) (vs : List Value) (n : Nat) (t : T AVal) (m : Nat), n + l.length < 1000000000 → VL κ l vs →
    (n ≤ m ∧ m < n + l.length → V κ (slot (slotsOf n l t) m) ((vs[m - n]?).getD undef)) ∧ (¬ (n ≤ m ∧ m < n + l.length) → slot (slotsOf n l t) m = slot t m)
  | [], _, n, t, m, _, _ => ⟨fun h => by simp at h; omega, fun _ => rfl⟩
  | a :: l, _, n, t, m, hlt, .cons (v := v) (l' := vs) hx hy => by
    simp only [List.length_cons] at hlt ⊢
    obtain ⟨i1, i2⟩ := slotsOf_val l vs (n + 1) (t.put n a) m (by omega) hy
    simp only [slotsOf]
    refine ⟨fun h => ?_, fun h => ?_⟩
    · by_cases e : m = n
      · subst e
        rw [i2 (by omega)]
        unfold slot
        rw [T.get_put _ _ _ _ (by omega), if_pos rfl]
        simpa using hx
      · have := i1 (by omega)
        have e2 : m - n = (m - (n + 1)) + 1 := by omega
        rw [e2, List.getElem?_cons_succ]; exact this
    · rw [i2 (by omega)]
      unfold slot
      rw [T.get_put _ _ _ _ (by omega), if_neg (by omega)]

theorem enterA_sound (ok : tb.OK P) {f : FuncId} {args : List AVal} {vs : List Value} {kind : CallKind} {g : AFr} (h : enterA tb f args kind = some g) (hv : VL κ args vs) :
    FR κ g (Frame.enter P f vs.toArray kind) ∧ (callFunc f vs.toArray).run P w = .ok (.enter f vs.toArray) w ∧ g.kind = kind := by
  unfold enterA at h
  split at h
  case h_2 => cases h
  rename_i F hF
  split at h
  case h_2 => cases h
  rename_i c hc
  cases hb : (Nat.ble args.length F.ntmps && Nat.blt F.ntmps 1000000000) with
  | false => rw [hb] at h; cases h
  | true =>
  rw [hb] at h; cases h
  simp only [Bool.and_eq_true] at hb
  have b1 := Nat.le_of_ble_eq_true hb.1
  have b2 : F.ntmps < 1000000000 := by simpa [Nat.blt_eq] using hb.2
  have hP := ok.func _ _ hF
  have hname := ok.name _ _ hF
  have hlen := hv.length
  refine ⟨?_, ?_, rfl⟩
  · have he : Frame.enter P f vs.toArray kind = { fn := f, tmps := vs.toArray ++ Array.replicate (F.ntmps - vs.toArray.size) undef, todo := [.code c], defers := [], mode := .run, kind := kind } := by
      simp [Frame.enter, hP, hc]
    rw [he]
    refine ⟨rfl, ⟨b2, by simp; omega, fun t => ?_⟩, fun _ => .cons (.code c) .nil, .nil, .run, rfl, .none⟩
    obtain ⟨i1, i2⟩ := slotsOf_val args vs 0 .leaf t (by omega) hv
    by_cases ht : t < args.length
    · have := i1 ⟨by omega, by omega⟩
      have e : (vs.toArray ++ Array.replicate (F.ntmps - vs.toArray.size) undef).getD t undef = (vs[t - 0]?).getD undef := by
        rw [Array.getD_eq_getD_getElem?, Array.getElem?_append]
        simp [← hlen, ht]
      rw [e]; exact this
    · rw [i2 (by omega)]
      have e : (vs.toArray ++ Array.replicate (F.ntmps - vs.toArray.size) undef).getD t undef = undef := by
        rw [Array.getD_eq_getD_getElem?, Array.getElem?_append]
        simp only [List.size_toArray, ← hlen, if_neg ht]
        simp [Array.getElem?_replicate]
        split <;> rfl
      rw [e]
      have : slot .leaf t = .lit undef := by unfold slot; rw [T.get_leaf]
      rw [this]; exact .lit _
  · unfold callFunc
    simp only [program]
    change (match P.funcs[f]? with | none => _ | some fn => _ : Sem Next).run P w = _
    rw [hP]
    simp only [hname, hc]
    rfl
end
end Go.Proofs.YtiemogegdoogaaaGreat.Eng

namespace Go.Proofs.YtiemogegdoogaaaGreat.Eng
open Go
variable [Interp]

section
variable {tb : Tab} {P : Program} {κ : Pl} {w : World} {c : Cfg} {fr : Frame} {cs : List Frame}

theorem opnd_eval {nt : Nat} {sl : T AVal} {tmps : Array Value} {ds : List Deferred} (h : SR κ nt sl tmps) (x : Operand) : V κ (opnd sl x) (Act.eval ⟨tmps, ds⟩ x) := by
  cases x with
  | tmp t => exact h.val t
  | const v => exact .lit v
  | global g => exact .lit _
  | func f => exact .fn .nil .nil

theorem goal_to (hs : Sim κ c fr cs w) {t : List AItem} {t' : List Item} (ht : All2 (IR κ) t t')
    (hstep : ∀ cs0, step P (lone fr (cs ++ cs0) w) = .next (lone { fr with todo := t' } (cs ++ cs0) w)) :
    Goal P κ c.st fr cs w { c with top := { c.top with todo := t } } :=
  ⟨κ, { fr with todo := t' }, cs, w, fun cs0 => .one (hstep cs0), ⟨⟨hs.top.fn, hs.top.slots, fun _ => ht, hs.top.defers, hs.top.mode, hs.top.kind, hs.top.ro⟩, hs.below, hs.rel⟩, .refl hs.rel⟩

theorem exitA_sound {id : Nat} : ∀ {k : List AItem} {t : List Item}, All2 (IR κ) k t →
    (∀ k', exitA id k = some k' → ∃ t', exitTo id t = some t' ∧ All2 (IR κ) k' t') ∧ (exitA id k = none → exitTo id t = none)
  | _, _, .nil => ⟨(fun k' h => by cases h), fun _ => rfl⟩
  | _, _, .cons (a := a) (b := b) x y => by
    have ih := exitA_sound (id := id) y
    cases x with
    | inBlock j =>
      simp only [exitA, exitTo]
      by_cases e : j = id
      · subst e
        simp only [Nat.beq_refl, cond_true, beq_self_eq_true, if_true]
        exact ⟨fun k' h => by cases h; exact ⟨_, rfl, y⟩, fun h => by cases h⟩
      · have e1 : Nat.beq j id = false := by rw [Bool.eq_false_iff]; simpa [Nat.beq_eq] using e
        have e2 : (j == id) = false := by simpa using e
        simp only [e1, e2, cond_false, Bool.false_eq_true, if_false]
        exact ih
    | _ => simp only [exitA, exitTo]; exact ih

theorem setLoop_sound {U : Nat → Prop} {s s' : St} {l b : Nat} {stt : LoopState} {pe : Option Code} (hr : Rel κ s w) (hb : κ l = some b) (h : setLoop s l stt pe = some s') :
    ∃ r, w.heap[b]? = some (.loop r) ∧ Goes U κ s w κ s' (w.putObj b (.loop { r with state := stt, pending := pe })) := by
  unfold setLoop at h
  split at h
  case h_2 => cases h
  rename_i st0 pe0 fn nt sl ps a bd d hl
  cases h
  obtain ⟨b', ob, h1, h2, h3⟩ := hr.at hl id
  cases h1.symm.trans hb
  cases h3 with
  | loop h4 h5 =>
  exact ⟨_, h2, hr.turn (may_of hl) hb (fun cs t fz h => by rw [h2] at h; cases h) (.loop h4 h5)⟩

theorem All2.append_left {α β : Type} {R : α → β → Prop} {a : α} {l : List α} {m : List β} (h : All2 R (a :: l) m) : ∃ b m', m = b :: m' ∧ R a b ∧ All2 R l m' := by
  cases h with
  | cons x y => exact ⟨_, _, rfl, x, y⟩

theorem mono_below {κ' : Pl} (h : κ.le κ') {l : List AFr} {cs : List Frame} (r : All2 (FR κ) l cs) : All2 (FR κ') l cs := r.mono fun _ _ x => x.mono h

theorem endRound_sound (hs : Sim κ c fr cs w) {l : Nat} (hl : c.top.ro = some l) {jump : Option Code} {c' : Cfg} (h : endRoundA c l jump = some c')
    (hstep : ∀ b v w' (g : Frame) cs', fr.roundOf = some b → fr.kind = .normal → (Instr.endRound b jump).run P w = .ok v w' → step P (lone fr (g :: cs') w) = .next (lone (g.finish v) cs' w')) :
    Goal P κ c.st fr cs w c' := by
  unfold endRoundA at h
  split at h
  case h_2 => cases h
  rename_i s g r hset hbelow
  split at h
  case h_2 => cases h
  rename_i hkind
  split at h
  case h_2 => cases h
  rename_i hgm
  split at h
  case h_2 => cases h
  rename_i g' hg
  cases h
  have hro := hs.top.ro
  rw [hl] at hro
  generalize hrr : fr.roundOf = ro at hro
  cases hro with
  | @some _ b hb =>
  obtain ⟨rc, h1, h2⟩ := setLoop_sound (U := (· < c.st.next)) hs.rel hb hset
  have hbl := hs.below
  rw [hbelow] at hbl
  obtain ⟨gf, cs', e, hgf, hcs'⟩ := hbl.append_left
  subst e
  have hend := run_endRound (P := P) jump h1
  have hw : (if jump.isNone then LoopState.ready else LoopState.done) = stateAfter jump := by cases jump <;> rfl
  rw [hw] at hend
  refine ⟨κ, _, cs', _, fun cs0 => .one (hstep b _ _ gf (cs' ++ cs0) hrr (hs.top.kind.trans hkind) hend), ⟨finA_sound hg hgf hgm (.lit _), hcs', h2.rel⟩, h2⟩

theorem leave_sound (hs : Sim κ c fr cs w) {jump : Option Code} {c' : Cfg} (h : leaveA c jump = some c')
    (h0 : c.top.ro = none → (jump = none ∨ jump = some .ret) → fr.roundOf = none → ∀ cs0, step P (lone fr (cs ++ cs0) w) = .next (lone { fr with mode := .returning } (cs ++ cs0) w))
    (hstep : ∀ b v w' (g : Frame) cs', fr.roundOf = some b → fr.kind = .normal → (Instr.endRound b jump).run P w = .ok v w' → step P (lone fr (g :: cs') w) = .next (lone (g.finish v) cs' w')) :
    Goal P κ c.st fr cs w c' := by
  have hret : c.top.ro = none → (jump = none ∨ jump = some .ret) → Goal P κ c.st fr cs w { c with top := { c.top with mode := .ret } } := fun hro hj => by
    have hr := hs.top.ro
    rw [hro] at hr
    generalize hrr : fr.roundOf = ro at hr
    cases hr
    exact ⟨κ, _, cs, w, fun cs0 => .one (h0 hro hj hrr cs0), ⟨⟨hs.top.fn, hs.top.slots, (fun h => by cases h), hs.top.defers, .ret, hs.top.kind, hs.top.ro⟩, hs.below, hs.rel⟩, .refl hs.rel⟩
  unfold leaveA at h
  split at h
  · rename_i hro
    split at h
    · cases h; exact hret hro (.inl rfl)
    · cases h; exact hret hro (.inr rfl)
    · cases h
  · rename_i l hro
    exact endRound_sound hs hro h hstep
end
end Go.Proofs.YtiemogegdoogaaaGreat.Eng

namespace Go.Proofs.YtiemogegdoogaaaGreat.Eng
open Go
variable [Interp]

section
variable {tb : Tab} {P : Program} {κ : Pl} {w : World} {c : Cfg} {fr : Frame} {cs : List Frame}

theorem Goes.bump {U : Nat → Prop} {s : St} (hr : Rel κ s w) (n : Nat) (h : s.next + n ≤ 1000000000) : Goes U κ s w κ { s with next := s.next + n } w where
  le := Pl.le_refl κ
  rel := ⟨h, fun i hi => hr.fresh i (by simp at hi; omega), hr.size, hr.inj, hr.room, hr.obj, fun i hi => hr.dead i (by simp at hi; omega)⟩
  next := by simp
  size := Nat.le_refl _
  old _ _ _ := rfl
  born i _ hl hk := .inr ⟨i, hl, hk⟩
  bornM i _ hl hk := .inr ⟨i, hl, hk⟩
  unborn _ _ h := h
  still _ _ h := h
  os := rfl
  output := rfl
  tape := rfl

theorem mode_run {f : AFr} (hf : FR κ f fr) (hm : f.mode = .run) : fr.mode = .run := by
  have := hf.mode
  rw [hm] at this
  generalize fr.mode = m at this
  cases this; rfl

theorem leave_code (hs : Sim κ c fr cs w) (hm : c.top.mode = .run) {x : Code} {k' : List Item} (ht : fr.todo = .code x :: k') {c' : Cfg} (h : leaveA c (some x) = some c')
    (hx : x = .ret ∨ ∃ id, x = .exit id ∧ exitTo id k' = none) : Goal P κ c.st fr cs w c' := by
  have hmode := mode_run hs.top hm
  obtain ⟨fn, tmps, todo, defers, mode, kind, ro⟩ := fr
  simp only at hmode ht
  subst hmode; subst ht
  refine leave_sound hs h (fun h1 h2 h3 cs0 => ?_) (fun b v w' g cs' h1 h2 h3 => ?_)
  · simp only at h3
    subst h3
    rcases h2 with h2 | h2
    · cases h2
    · cases h2
      exact stepR_ret (P := P) (b := ⟨fn, tmps, [], defers, .run, kind, none⟩) (a := ⟨tmps, defers⟩) (k := k') (cs := cs ++ cs0) (w := w) rfl
  · simp only at h1 h2
    subst h1; subst h2
    rcases hx with hx | ⟨id, hx, hk⟩
    · subst hx
      exact stepR_round_ret (P := P) (b := ⟨fn, tmps, [], defers, .run, .normal, some b⟩) (a := ⟨tmps, defers⟩) (k := k') (cs := cs') (c := g) (w := w) rfl rfl h3
    · subst hx
      exact stepR_round_exit (P := P) (b := ⟨fn, tmps, [], defers, .run, .normal, some b⟩) (a := ⟨tmps, defers⟩) (k := k') (cs := cs') (c := g) (w := w) rfl rfl hk h3

theorem enterLoop_sound (ok : tb.OK P) (hs : Sim κ c fr cs w) (hm : c.top.mode = .run) {g : Operand} {ps : Array Tmp} {a b : Code} {k : List AItem} {k' : List Item}
    (ht : fr.todo = .code (.rangeFunc g ps a b) :: k') (hk : All2 (IR κ) k k') {c' : Cfg}
    (h : codeStep tb c (.rangeFunc g ps a b) k = some c') : Goal P κ c.st fr cs w c' := by
  have hmode := mode_run hs.top hm
  obtain ⟨fn, tmps, todo, defers, mode, kind, ro⟩ := fr
  simp only at hmode ht
  subst hmode; subst ht
  unfold codeStep at h
  simp only at h
  have hg := opnd_eval (ds := defers) hs.top.slots g
  generalize opnd c.top.slots g = ga at h hg
  generalize hgv : (Act.eval ⟨tmps, defers⟩ g) = gv at hg
  split at h
  case h_2 => cases h
  rename_i f l m
  cases hg with
  | @fn _ _ _ l' m' hl hm' =>
  cases hlim : Nat.ble 1000000000 (c.st.next + 1) with
  | true => rw [hlim] at h; cases h
  | false =>
  rw [hlim] at h
  simp only [cond_false] at h
  have hlim' : ¬ (1000000000 ≤ c.st.next + 1) := fun e => by rw [Nat.ble_eq_true_of_le e] at hlim; cases hlim
  have hro := hs.top.ro
  have hinv : ∀ (lb : Nat) (W : World) (κ' : Pl) (l'' : Nat) (G : AFr), κ.le κ' → κ' l'' = some lb → enterA tb f (l ++ [.yld l''] ++ m) .normal = some G →
      FR κ' G (Frame.enter P f (l' ++ [Value.func (.yield lb) #[] #[]] ++ m').toArray .normal) ∧
      (resolve (Act.eval ⟨tmps, defers⟩) (rangeCall g lb) 0).run P W = .ok { target := .fn (.func f) m'.toArray, args := l'.toArray ++ #[Value.func (.yield lb) #[] #[]] } W ∧
      (invoke (.fn (.func f) m'.toArray) (l'.toArray ++ #[Value.func (.yield lb) #[] #[]])).run P W = .ok (.enter f (l' ++ [Value.func (.yield lb) #[] #[]] ++ m').toArray) W := by
    intro lb W κ' l'' G hle hlb hG
    obtain ⟨e1, e2, _⟩ := enterA_sound (w := W) ok hG (((hl.mono hle).append (.cons (.yld hlb) .nil)).append (hm'.mono hle))
    refine ⟨e1, ?_, ?_⟩
    · simp only [resolve, hgv, Deferred.ofValue]
      simp [Act.eval]
    · simp only [invoke]
      have e : l'.toArray ++ #[Value.func (.yield lb) #[] #[]] ++ m'.toArray = (l' ++ [Value.func (.yield lb) #[] #[]] ++ m').toArray := by apply Array.ext'; simp
      rw [e]; exact e2
  split at h
  · rename_i hron
    rw [hron] at hro
    cases hro
    split at h
    case h_2 => cases h
    rename_i G hG
    cases h
    have hb := Goes.bump (U := (· < c.st.next)) hs.rel 2 (by omega)
    obtain ⟨κ1, k1, _, g1⟩ := hb.rel.bear (i := c.st.next) (o := .dfr) (ob := .deferred (some [])) (by simp) (hs.rel.free (Nat.le_refl _)) none (fun _ h => by cases h) fun κ' _ _ => .dfr
    have hn0 : κ1 (c.st.next + 1) = none := g1.unborn _ (by simp) (hs.rel.fresh _ (by omega))
    have hn : Free κ1 { heap := c.st.heap.put c.st.next .dfr, next := c.st.next + 2 } (c.st.next + 1) := ⟨hn0, not_live_put (s := c.st) (by omega) (by omega) (hs.rel.dead _ (by omega))⟩
    obtain ⟨κ2, k2, _, g2⟩ := g1.rel.bear (i := c.st.next + 1) (o := .loop .ready none c.top.fn c.top.nt c.top.slots ps a b c.st.next)
      (ob := .loop { state := .ready, pending := none, fn := fn, tmps := tmps, params := ps, assign := a, body := b, defers := w.heap.size }) (by simp) hn none (fun _ h => by cases h)
      fun κ' hle _ => by
        have := hs.top.fn
        simp only at this
        rw [← this]
        exact .loop ((hs.top.slots.mono g1.le).mono hle) (hle.on _ _ k1)
    simp only [Array.size_push] at k2
    have hle : κ.le κ2 := Pl.le_trans g1.le g2.le
    obtain ⟨e1, e2, e3⟩ := hinv (w.heap.size + 1) ((w.alloc (.deferred (some []))).alloc (.loop { state := .ready, pending := none, fn := fn, tmps := tmps, params := ps, assign := a, body := b, defers := w.heap.size })) κ2 _ G hle k2 hG
    have henter := run_enterLoop_outer (P := P) (w := w) fn tmps ps a b
    refine ⟨κ2, _, _ :: cs, _, fun cs0 => .one (stepR_rangeFunc (P := P) (b := ⟨fn, tmps, [], defers, .run, kind, none⟩) (a := ⟨tmps, defers⟩) (k := k') (cs := cs ++ cs0) (w := w) henter e2 e3),
      ⟨e1, .cons ⟨hs.top.fn, hs.top.slots.mono hle, (fun _ => .cons (.inRF k2) (hk.mono fun _ _ => IR.mono hle)), .cons (.coll (g2.le.on _ _ k1)) (hs.top.defers.mono fun _ _ => DR.mono hle), ?_, hs.top.kind, ?_⟩ (mono_below hle hs.below), g2.rel⟩, ?_⟩
    · simp only [Frame.atR]; rw [hm]; exact .run
    · simp only [Frame.atR]; rw [hron]; exact .none
    · exact hb.trans ((g1.less fun i (hi : i < c.st.next) => Nat.ne_of_lt hi).trans (g2.less fun i (hi : i < c.st.next) => Nat.ne_of_lt (by omega)))
  · rename_i r hron
    rw [hron] at hro
    cases hro with
    | @some _ rb hrb =>
    split at h
    case h_2 => cases h
    rename_i st0 pe0 fn0 nt0 sl0 ps0 a0 b0 d hloop
    split at h
    case h_2 => cases h
    rename_i G hG
    cases h
    obtain ⟨rb', ob, q1, q2, q3⟩ := hs.rel.at hloop id
    cases q1.symm.trans hrb
    cases q3 with
    | @loop _ _ _ _ _ _ _ _ _ db _ q4 q5 =>
    have hb := Goes.bump (U := (· < c.st.next)) hs.rel 1 (by omega)
    obtain ⟨κ2, k2, _, g2⟩ := hb.rel.bear (i := c.st.next) (o := .loop .ready none c.top.fn c.top.nt c.top.slots ps a b d)
      (ob := .loop { state := .ready, pending := none, fn := fn, tmps := tmps, params := ps, assign := a, body := b, defers := db }) (by simp) (hs.rel.free (Nat.le_refl _)) none (fun _ h => by cases h)
      fun κ' hle _ => by
        have := hs.top.fn
        simp only at this
        rw [← this]
        exact .loop (hs.top.slots.mono hle) (hle.on _ _ q5)
    have hle : κ.le κ2 := g2.le
    obtain ⟨e1, e2, e3⟩ := hinv w.heap.size (w.alloc (.loop { state := .ready, pending := none, fn := fn, tmps := tmps, params := ps, assign := a, body := b, defers := db })) κ2 _ G hle k2 hG
    have henter := run_enterLoop_inner (P := P) (w := w) q2 fn tmps ps a b
    refine ⟨κ2, _, _ :: cs, _, fun cs0 => .one (stepR_rangeFunc (P := P) (b := ⟨fn, tmps, [], defers, .run, kind, some rb⟩) (a := ⟨tmps, defers⟩) (k := k') (cs := cs ++ cs0) (w := w) henter e2 e3),
      ⟨e1, .cons ⟨hs.top.fn, hs.top.slots.mono hle, (fun _ => .cons (.inRF k2) (hk.mono fun _ _ => IR.mono hle)), (hs.top.defers.mono fun _ _ => DR.mono hle), ?_, hs.top.kind, ?_⟩ (mono_below hle hs.below), g2.rel⟩, ?_⟩
    · simp only [Frame.atR]; rw [hm]; exact .run
    · simp only [Frame.atR]; rw [hron]; exact .some (hle.on _ _ hrb)
    · exact hb.trans (g2.less fun i (hi : i < c.st.next) => Nat.ne_of_lt hi)

theorem codeStep_sound (ok : tb.OK P) (hs : Sim κ c fr cs w) (hm : c.top.mode = .run) {x : Code} {k : List AItem} (ht : c.top.todo = .code x :: k) {c' : Cfg} (h : codeStep tb c x k = some c') :
    Goal P κ c.st fr cs w c' := by
  have hmode := mode_run hs.top hm
  have htd := hs.top.todo hm
  rw [ht] at htd
  obtain ⟨xi, k', hk0, hx, hk⟩ := htd.append_left
  cases hx
  by_cases hrf : ∃ g ps a b, x = .rangeFunc g ps a b
  · obtain ⟨g, ps, a, b, e⟩ := hrf
    subst e
    exact enterLoop_sound ok hs hm hk0 hk h
  have hleave : (x = .ret ∨ ∃ id, x = .exit id ∧ exitTo id k' = none) → leaveA c (some x) = some c' → Goal P κ c.st fr cs w c' := fun h1 h2 => leave_code hs hm hk0 h2 h1
  obtain ⟨fn, tmps, todo, defers, mode, kind, ro⟩ := fr
  simp only at hmode hk0
  subst hmode; subst hk0
  have S : ∀ {t' : List Item}, (∀ (b : Frame) (a : Act) cs, (∀ x, a.eval x = Act.eval ⟨tmps, defers⟩ x) → step P (lone (b.atR a (.code x :: k')) cs w) = .next (lone (b.atR a t') cs w)) →
      ∀ cs0, step P (lone { fn := fn, tmps := tmps, todo := .code x :: k', defers := defers, mode := .run, kind := kind, roundOf := ro } (cs ++ cs0) w) =
        .next (lone { fn := fn, tmps := tmps, todo := t', defers := defers, mode := .run, kind := kind, roundOf := ro } (cs ++ cs0) w) :=
    fun h cs0 => h ⟨fn, tmps, [], defers, .run, kind, ro⟩ ⟨tmps, defers⟩ (cs ++ cs0) fun _ => rfl
  cases x with
  | skip => cases h; exact goal_to hs hk (S fun b a cs _ => stepR_skip)
  | label l => cases h; exact goal_to hs hk (S fun b a cs _ => stepR_label)
  | seq a b => cases h; exact goal_to hs (.cons (.code _) (.cons (.code _) hk)) (S fun _ _ _ _ => stepR_seq)
  | cond q a b =>
    unfold codeStep at h
    simp only at h
    have hq := opnd_eval (ds := defers) hs.top.slots q
    split at h
    case h_2 => cases h
    rename_i t hqa
    cases h
    have hq' := boolA_V ok hqa hq
    have e : (bif t then a else b) = (if t then a else b) := by cases t <;> rfl
    rw [e]
    exact goal_to hs (.cons (.code _) hk) (S fun b' a' cs' he => stepR_cond ((he q).trans hq'))
  | block id b => cases h; exact goal_to hs (.cons (.code _) (.cons (.inBlock _) hk)) (S fun _ _ _ _ => stepR_block)
  | loop b => cases h; exact goal_to hs (.cons (.code _) (.cons (.inLoop _) hk)) (S fun _ _ _ _ => stepR_loop)
  | scope b => cases h; exact goal_to hs (.cons (.code _) (.cons (.inScope _) hk)) (S fun _ _ _ _ => step_lone_go (by simp [stepG, stepG.exec, Frame.atR]))
  | exit id =>
    unfold codeStep at h
    simp only at h
    have hex := exitA_sound (id := id) hk
    split at h
    · rename_i t ht'
      cases h
      obtain ⟨t', e1, e2⟩ := hex.1 _ ht'
      exact goal_to hs e2 (S fun _ _ _ _ => stepR_exit e1)
    · rename_i hn
      split at h
      · exact hleave (.inr ⟨id, rfl, hex.2 hn⟩) h
      · cases h
  | ret => exact hleave (.inl rfl) h
  | region id ops draw =>
    cases draw with
    | true => cases h
    | false =>
      cases h
      have e : List.range ops.size = List.range' 0 (ops.size - 0) := by rw [List.range_eq_range']; rfl
      refine goal_to hs (.cons (.regL (by simp)) hk) (S fun _ _ _ _ => ?_)
      rw [← e]; exact stepR_region
  | rangeFunc g ps a b => exact absurd ⟨g, ps, a, b, rfl⟩ hrf
  | goto l => cases h
  | refuse s => cases h
end
end Go.Proofs.YtiemogegdoogaaaGreat.Eng

namespace Go.Proofs.YtiemogegdoogaaaGreat.Eng
open Go
variable [Interp]

section
variable {tb : Tab} {P : Program} {κ : Pl} {w : World} {c : Cfg} {fr : Frame} {cs : List Frame}

theorem wanted_sound {f : AFr} {ops : Array Oper} {o : Oper} {b : Bool} {tmps : Array Value} (ok : tb.OK P) (h : wantedA tb.facts f ops o = some b) (hs : SR κ f.nt f.slots tmps) :
    Region.wanted o (yielded ops tmps) = b := by
  unfold wantedA at h
  unfold Region.wanted
  split at h
  · rename_i hg; rw [hg]; cases h; rfl
  · rename_i j want hg
    rw [hg]
    split at h
    case h_2 => cases h
    rename_i t ht
    cases hlt : Nat.blt t f.nt with
    | false => rw [hlt] at h; cases h
    | true =>
    rw [hlt] at h
    have hlt' : t < tmps.size := by rw [hs.size]; simpa [Nat.blt_eq] using hlt
    have hv := hs.val t
    have hget : tmps[t]? = some (tmps.getD t undef) := by simp [Array.getD, hlt']
    simp only [cond_true] at h
    have hy : yielded ops tmps j = match tmps.getD t undef with | .bool b => some b | _ => none := by
      unfold yielded
      rw [ht]
      simp only [Option.bind_some, hget]
      generalize tmps.getD t undef = x
      cases x <;> rfl
    simp only [hy]
    split at h
    · rename_i v hsl
      rw [hsl] at hv
      rw [hv.of_lit rfl]
      cases h
      cases v <;> cases want <;> rfl
    · rename_i v hsl
      rw [hsl] at hv
      rw [hv.of_lit rfl]
      cases h
      rfl
    · rename_i q hsl
      rw [hsl] at hv
      split at h
      · rename_i b' hb
        have hq : tmps.getD t undef = .bool b' := by
          generalize tmps.getD t undef = y at hv
          cases hv
          rw [decB_sound ok.holds hb]
        rw [hq]
        cases h
        cases b' <;> cases want <;> rfl
      · cases h
    · cases h

theorem opA_defer {ρ : Operand → AVal} {o : Oper} {id : Nat} {s : St} {r : OpR} {d : Call} (ho : o.op = .defer d) (h : opA tb P ρ o id s = some r) : ∃ d', r = .defer d' := by
  have h' : opO tb P ρ o id s = some r := by
    unfold opA at h
    split at h
    · rename_i r' h1; cases h; exact h1
    · unfold symA at h
      rw [ho] at h
      cases h
  unfold opO at h'
  rw [ho] at h'
  simp only [aDefer] at h'
  split at h'
  · split at h'
    · cases h'; exact ⟨_, rfl⟩
    · cases h'
  · cases h'

theorem foldPut_sound {nt : Nat} : ∀ (ps : List Nat) (args : List AVal) (vs : List Value) (sl : T AVal) (tmps : Array Value), SR κ nt sl tmps → (∀ p ∈ ps, p < nt) → VL κ args vs →
    SR κ nt (foldPut ps args sl) ((ps.zip vs).foldl (fun t (p, v) => t.setIfInBounds p v) tmps)
  | [], _, _, _, _, h, _, _ => by simpa [foldPut] using h
  | p :: ps, _, _, _, _, h, _, .nil => by simpa [foldPut] using h
  | p :: ps, _, _, sl, tmps, h, hp, .cons x y => by
    simp only [foldPut, List.zip_cons_cons, List.foldl_cons]
    exact foldPut_sound ps _ _ _ _ (h.put (hp p (by simp)) x) (fun q hq => hp q (by simp [hq])) y

theorem opStep_sound (ok : tb.OK P) (hs : Sim κ c fr cs w) (hm : c.top.mode = .run) {ops : Array Oper} {i : Nat} {o : Oper} {r : List Oper} {k : List AItem}
    (ht : c.top.todo = .regL ops i (o :: r) :: k) {c' : Cfg} (h : opStep tb P c ops o = some c') : Goal P κ c.st fr cs w c' := by
  have hmode := mode_run hs.top hm
  have htd := hs.top.todo hm
  rw [ht] at htd
  obtain ⟨xi, k', hk0, hx, hk⟩ := htd.append_left
  cases hx with
  | regL e =>
  obtain ⟨e1, e2, e3⟩ := regL_cons e
  rw [e3] at hk0
  have hfin : ∀ {κ' : Pl} {a : AVal} {v : Value} {g : AFr}, κ.le κ' → finA c.top a = some g → V κ' a v → FR κ' g (fr.finish v) := fun hle h1 h2 => finA_sound h1 (hs.top.mono hle) hm h2
  obtain ⟨fn, tmps, todo, defers, mode, kind, ro⟩ := fr
  simp only at hmode hk0
  subst hmode; subst hk0
  obtain ⟨rest, hrest⟩ : ∃ rest, List.range' (i + 1) (ops.size - (i + 1)) = rest := ⟨_, rfl⟩
  rw [hrest] at hs hfin ⊢
  obtain ⟨b, hb⟩ : ∃ b : Frame, b = ⟨fn, tmps, [], defers, .run, kind, ro⟩ := ⟨_, rfl⟩
  obtain ⟨a, ha⟩ : ∃ a : Act, a = ⟨tmps, defers⟩ := ⟨_, rfl⟩
  have hfr : (⟨fn, tmps, .inRegion ops (i :: rest) :: k', defers, .run, kind, ro⟩ : Frame) = b.atR a (.inRegion ops (i :: rest) :: k') := by rw [hb, ha]; rfl
  have hfr' : ∀ v, (b.atR a (.inRegion ops (i :: rest) :: k')).finish v = b.atR (a.put o.dst v) (.inRegion ops rest :: k') := by
    intro v; rw [Frame.finish_atR, e1]; rfl
  have hρ : ∀ x, V κ (opnd c.top.slots x) (a.eval x) := fun x => by rw [ha]; exact opnd_eval hs.top.slots x
  have hat : a.tmps = tmps := by rw [ha]
  have hbk : b.kind = kind := by rw [hb]
  have hbr : b.roundOf = ro := by rw [hb]
  have hkk : kind = c.top.kind := hs.top.kind
  have hro : RO κ c.top.ro ro := hs.top.ro
  unfold opStep at h
  split at h
  · cases h
  · rename_i hw
    have hw' := wanted_sound ok hw hs.top.slots
    split at h
    case h_2 => cases h
    rename_i g hg
    cases h
    refine ⟨κ, _, cs, w, fun cs0 => .one ?_, ⟨hfin (Pl.le_refl κ) hg (.lit undef), hs.below, hs.rel⟩, .refl hs.rel⟩
    rw [hfr, hfr']
    have := stepR_op_skip (P := P) (b := b) (a := a) (k := k') (cs := cs ++ cs0) (w := w) (ops := ops) (i := i) (rest := rest) (by rw [hat]; simp [e1]; simpa using hw')
    rw [e1] at this
    exact this
  · rename_i hw
    have hw' := wanted_sound ok hw hs.top.slots
    have hw'' : Region.wanted o (yielded ops a.tmps) = true := by rw [hat]; exact hw'
    cases hlim : Nat.ble 1000000000 c.st.next with
    | true => rw [hlim] at h; cases h
    | false =>
    rw [hlim] at h
    simp only [cond_false] at h
    have hlim' : ¬ (1000000000 ≤ c.st.next) := fun e => by rw [Nat.ble_eq_true_of_le e] at hlim; cases hlim
    have hbp := Goes.bump (U := (· < c.st.next)) hs.rel 1 (by omega)
    split at h
    · cases h
    rename_i res hres
    have hok := opA_sound (ρ' := a.eval) ok hbp.rel (id := c.st.next) (by simp) (hs.rel.free (Nat.le_refl _)) hρ hres
    have hsem : (∀ d, res ≠ .defer d) → o.semAt b.roundOf a.eval = execOp a.eval o := fun hnd =>
      Oper.semAt_eq _ _ _ fun d hd => by obtain ⟨d', e⟩ := opA_defer hd hres; exact hnd _ e
    have hgo : ∀ cs0, stepG P true { frame := b.atR a (.inRegion ops (i :: rest) :: k'), callers := cs ++ cs0, status := .running, dying := none } w =
        stepG.apply P true (b.atR a (.inRegion ops (i :: rest) :: k')) (cs ++ cs0) none (o.semAt b.roundOf a.eval) w := fun cs0 => stepGR_op e1 hw''
    split at h
    · -- a value
      rename_i av s1
      split at h
      case h_2 => cases h
      rename_i g hg
      cases h
      obtain ⟨n, w', hrun, κ', hgoes, hn⟩ := hok
      have hgoes' := hbp.trans (hgoes.less fun i (hi : i < c.st.next) => Nat.ne_of_lt hi)
      rw [hsem fun d hd => by cases hd] at hgo
      rcases hn with ⟨x, rfl, hx⟩ | ⟨rfl, rfl⟩
      · refine ⟨κ', _, cs, w', fun cs0 => .one ?_, ⟨hfin hgoes'.le hg hx, mono_below hgoes'.le hs.below, hgoes'.rel⟩, hgoes'⟩
        rw [hfr]
        refine step_lone_go ?_
        rw [hgo]; simp [stepG.apply, hrun]
      · refine ⟨κ', _, cs, w', fun cs0 => .one ?_, ⟨hfin hgoes'.le hg (.lit undef), mono_below hgoes'.le hs.below, hgoes'.rel⟩, hgoes'⟩
        rw [hfr]
        refine step_lone_go ?_
        rw [hgo]; simp [stepG.apply, hrun]
    · -- a call
      rename_i f args
      split at h
      case h_2 => cases h
      rename_i g hg
      cases h
      obtain ⟨vs, hvs, hex⟩ := hok
      obtain ⟨q1, q2, _⟩ := enterA_sound (w := w) ok hg hvs
      rw [hsem fun d hd => by cases hd] at hgo
      refine ⟨κ, _, _ :: cs, w, fun cs0 => .one ?_, ⟨q1, .cons hs.top hs.below, hs.rel⟩, .refl hs.rel⟩
      rw [hfr]
      refine step_lone_go ?_
      rw [hgo, hex]; simp [stepG.apply, q2, Frame.atR]
    · -- a round
      rename_i l args
      split at h
      case h_2 => cases h
      rename_i st0 pe0 fn0 nt sl ps as bd d hloop
      cases hc : (Nat.beq args.length ps.size && ps.all (Nat.blt · nt)) with
      | false => rw [hc] at h; cases h
      | true =>
      rw [hc] at h
      cases h
      simp only [Bool.and_eq_true] at hc
      have hc1 : args.length = ps.size := by simpa [Nat.beq_eq] using hc.1
      have hc2 : ∀ p ∈ ps.toList, p < nt := fun p hp => by
        have := Array.all_eq_true_iff_forall_mem.1 hc.2 p (by simpa using hp)
        simpa [Nat.blt_eq] using this
      obtain ⟨lb, vs, hlb, hvs, hex⟩ := hok
      obtain ⟨lb', ob, q1, q2, q3⟩ := hs.rel.at hloop id
      cases q1.symm.trans hlb
      cases q3 with
      | @loop _ _ _ _ _ _ _ _ _ db tm q4 q5 =>
      have hy := run_yield (P := P) (args := vs.toArray) q2 (by rw [List.size_toArray, ← hvs.length]; exact hc1)
      rw [hsem fun d hd => by cases hd] at hgo
      have hz : ∀ (tm : Array Value), (ps.zip vs.toArray).foldl (fun tmps (t, a) => tmps.setIfInBounds t a) tm = (ps.toList.zip vs).foldl (fun t (p, v) => t.setIfInBounds p v) tm := fun tm => by
        rw [← Array.foldl_toList]; simp
      simp only [hz] at hy
      refine ⟨κ, Frame.round lb fn0 ((ps.toList.zip vs).foldl (fun t (p, v) => t.setIfInBounds p v) tm) as bd .normal, _ :: cs, w, fun cs0 => .one ?_, ⟨?_, .cons hs.top hs.below, hs.rel⟩, .refl hs.rel⟩
      · rw [hfr]
        refine step_lone_go ?_
        rw [hgo, hex]; simp only [stepG.apply, Sem.runT_eq, hy, GStep.bare_after, if_true]
        rfl
      · simp only [Frame.round]
        refine ⟨rfl, ?_, fun _ => .cons (.code _) (.cons .beginRound (.cons (.code _) .nil)), .nil, .run, rfl, .some hlb⟩
        exact foldPut_sound _ _ _ _ _ q4 hc2 hvs
    · -- a deferred call
      rename_i d
      split at h
      case h_2 => cases h
      rename_i hron
      split at h
      case h_2 => cases h
      rename_i g hg
      cases h
      obtain ⟨d', hd', hex⟩ := hok
      rw [hron] at hro
      cases hro
      have hF := finA_sound (fr := ⟨fn, tmps, .inRegion ops (i :: rest) :: k', d' :: defers, .run, kind, none⟩) hg
        ⟨hs.top.fn, hs.top.slots, hs.top.todo, .cons hd' hs.top.defers, hs.top.mode, hs.top.kind, hs.top.ro⟩ hm (.lit undef)
      refine ⟨κ, _, cs, w, fun cs0 => .one ?_, ⟨hF, hs.below, hs.rel⟩, .refl hs.rel⟩
      rw [hfr]
      refine step_lone_go ?_
      rw [hgo, hbr, Oper.semAt_none, hex]
      simp [stepG.apply, Frame.atR, hb, ha, Sem.run]
    · -- recover
      have hex : execOp a.eval o = .pure .recover := hok
      rw [hsem fun d hd => by cases hd] at hgo
      split at h
      · rename_i hron hkn
        split at h
        case h_2 => cases h
        rename_i g hg
        cases h
        rw [hron] at hro
        cases hro
        rw [hkn] at hkk
        refine ⟨κ, _, cs, w, fun cs0 => .one ?_, ⟨hfin (Pl.le_refl κ) hg (.lit _), hs.below, hs.rel⟩, .refl hs.rel⟩
        rw [hfr]
        refine step_lone_go ?_
        rw [hgo, hex]
        have ht : ∀ cs, tryRecover (b.atR a (.inRegion ops (i :: rest) :: k')) cs = none := fun cs => by
          unfold tryRecover; simp [Frame.atR, hbk, hkk]
        have hr : (b.atR a (.inRegion ops (i :: rest) :: k')).roundOf = none := hbr
        simp [stepG.apply, hr, ht, Sem.run]
      · rename_i bf rr hron hkd hbelow
        rw [hron] at hro
        cases hro
        rw [hkd] at hkk
        have hkd' : (b.atR a (.inRegion ops (i :: rest) :: k')).kind = .deferred := by simp [Frame.atR, hbk, hkk]
        have hr : (b.atR a (.inRegion ops (i :: rest) :: k')).roundOf = none := hbr
        have htr := fun cs => tryRecover_deferred hkd' cs
        have hbl := hs.below
        rw [hbelow] at hbl
        obtain ⟨cf, cs', ecs, hcf, hcs'⟩ := hbl.append_left
        subst ecs
        have hcm := hcf.mode
        have hnil : recoverD (cf :: cs') = none ∧ (∀ cs0, recoverD (cf :: cs' ++ cs0) = none) → ∀ g, finA c.top (.lit .nilIface) = some g →
            Goal P κ c.st (⟨fn, tmps, .inRegion ops (i :: rest) :: k', defers, .run, kind, none⟩ : Frame) (cf :: cs') w { c with top := g } := fun hn g hg => by
          refine ⟨κ, _, cf :: cs', w, fun cs0 => .one ?_, ⟨hfin (Pl.le_refl κ) hg (.lit _), hs.below, hs.rel⟩, .refl hs.rel⟩
          rw [hfr]
          refine step_lone_go ?_
          have := hn.2 cs0
          simp only [List.cons_append] at this
          rw [hgo, hex]
          simp [stepG.apply, hr, htr, this, Sem.run]
        split at h
        · rename_i v older hpan
          split at h
          case h_2 => cases h
          rename_i g hg
          cases h
          rw [hpan] at hcm
          generalize hcfm : cf.mode = cm at hcm
          cases hcm with
          | pan hl =>
          obtain ⟨pe, older', el, hpe, hol⟩ := hl.append_left
          subst el
          obtain ⟨pv, prec, pgo⟩ := pe
          obtain ⟨hp1, hp2, hp3⟩ := hpe
          simp only at hp1 hp2 hp3
          subst hp2; subst hp3
          refine ⟨κ, _, { cf with mode := .panicking ({ v := pv, recovered := true } :: older') } :: cs', w, fun cs0 => .one ?_,
            ⟨hfin (Pl.le_refl κ) hg hp1, .cons ⟨hcf.fn, hcf.slots, (fun h => by cases h), hcf.defers, .pan (.cons ⟨hp1, rfl, rfl⟩ hol), hcf.kind, hcf.ro⟩ hcs', hs.rel⟩, .refl hs.rel⟩
          rw [hfr]
          refine step_lone_go ?_
          rw [hgo, hex]
          have hrd : recoverD (cf :: (cs' ++ cs0)) = some (pv, { cf with mode := .panicking ({ v := pv, recovered := true } :: older') } :: (cs' ++ cs0)) := by
            simp only [recoverD, hcfm]
          simp [stepG.apply, hr, htr, hrd, Sem.run]
        · cases h
        · rename_i hne hnrun
          split at h
          case h_2 => cases h
          rename_i g hg
          cases h
          refine hnil ?_ g hg
          have hcfm : ∀ cs, recoverD (cf :: cs) = none := fun cs => by
            simp only [recoverD]
            generalize cf.mode = cm at hcm
            generalize bf.mode = bm at hcm hne hnrun
            cases hcm with
            | run => rfl
            | ret => rfl
            | pan hl =>
              cases hl with
              | nil => rfl
              | @cons p pe l l' hpe hol =>
                obtain ⟨pv, prec, pgo⟩ := pe
                obtain ⟨hp1, hp2, hp3⟩ := hpe
                obtain ⟨pa, pb⟩ := p
                simp only at hp1 hp2 hp3
                subst hp2
                cases prec with
                | false => exact absurd rfl (hne _ _)
                | true => rfl
          exact ⟨hcfm _, fun cs0 => hcfm _⟩
      · cases h
    · -- a panic
      rename_i v
      cases h
      obtain ⟨x, hx, hrun⟩ := hok
      rw [hsem fun d hd => by cases hd] at hgo
      refine ⟨κ, ⟨fn, tmps, .inRegion ops (i :: rest) :: k', defers, .panicking [{ v := x, recovered := false }], kind, ro⟩, cs, w, fun cs0 => .one ?_, ⟨⟨hs.top.fn, hs.top.slots, (fun h => by cases h), hs.top.defers, .pan (.cons ⟨hx, rfl, rfl⟩ .nil), hs.top.kind, hs.top.ro⟩, hs.below, hs.rel⟩, .refl hs.rel⟩
      have he : (⟨fn, tmps, .inRegion ops (i :: rest) :: k', defers, .panicking [{ v := x, recovered := false }], kind, ro⟩ : Frame) = (b.atR a (.inRegion ops (i :: rest) :: k')).raise [{ v := x, recovered := false }] := by
        rw [Frame.raise_atR, hb, ha]; rfl
      rw [hfr, he]
      refine step_lone_go ?_
      rw [hgo]; simp [stepG.apply, hrun]
end
end Go.Proofs.YtiemogegdoogaaaGreat.Eng

namespace Go.Proofs.YtiemogegdoogaaaGreat.Eng
open Go
variable [Interp]

section
variable {tb : Tab} {P : Program} {κ : Pl} {w : World} {c : Cfg} {fr : Frame} {cs : List Frame}

theorem sure_mapM2 {α : Type} {f : α → Sem Value} : ∀ (l : List α) (as : List AVal), All2 (fun x a => Sure P (f x) w fun v w' => w' = w ∧ V κ a v) l as →
    Sure P (l.mapM f) w fun vs w' => w' = w ∧ VL κ as vs
  | _, _, .nil => by rw [List.mapM_nil]; exact .pure ⟨rfl, .nil⟩
  | _, _, .cons (l := l) (m := m) x y => by
    rw [List.mapM_cons]
    refine x.bind fun v w' ⟨h1, h2⟩ => ?_
    rw [h1]
    refine (sure_mapM2 l m y).bind fun vs w' ⟨h3, h4⟩ => ?_
    exact .pure ⟨h3, .cons h2 h4⟩

theorem resultsA_all {s : St} {sl : T AVal} : ∀ {l : List ResultVar} {as : List AVal}, resultsA tb s sl l = some as → All2 (fun r a => resultA tb s sl r = some a) l as
  | [], _, h => by cases h; exact .nil
  | r :: rs, as, h => by
    unfold resultsA at h
    split at h
    case h_2 => cases h
    rename_i v hv
    split at h
    case h_2 => cases h
    rename_i l hl
    cases h
    exact .cons hv (resultsA_all hl)

theorem resA_sound (ok : tb.OK P) {s : St} {f : AFr} {a : AVal} (hr : Rel κ s w) (hf : FR κ f fr) (h : resA tb s f = some a) :
    ∃ F v, P.funcs[fr.fn]? = some F ∧ (results F fr.tmps).run P w = .ok v w ∧ V κ a v := by
  unfold resA at h
  split at h
  case h_2 => cases h
  rename_i F hF
  have hP := ok.func _ _ hF
  rw [← hf.fn] at hP
  have key : ∀ as, resultsA tb s f.slots F.results.toList = some as → ∃ vs : List Value, VL κ as vs ∧ (results F fr.tmps).run P w = .ok (if h : vs.toArray.size = 1 then vs.toArray[0] else .tuple vs.toArray) w := by
    intro as has
    have hall := resultsA_all has
    have hsure : Sure P (results F fr.tmps) w fun v w' => w' = w ∧ ∃ vs : List Value, VL κ as vs ∧ v = (if h : vs.toArray.size = 1 then vs.toArray[0] else .tuple vs.toArray) := by
      unfold results
      rw [Array.mapM_eq_mapM_toList, ← bind_pure_comp]
      refine Sure.bind (R := fun v w' => w' = w ∧ ∃ vs : List Value, VL κ as vs ∧ v = vs.toArray) (Sure.bind (R := fun vs w' => w' = w ∧ VL κ as vs) (sure_mapM2 _ as (hall.mono fun r a hra => ?_)) fun vs w' ⟨h1, h2⟩ => .pure ⟨h1, vs, h2, rfl⟩) fun v w' ⟨h1, vs, h2, h3⟩ => .pure ⟨h1, vs, h2, by subst h3; rfl⟩
      cases r with
      | tmp t => cases hra; exact .pure ⟨rfl, hf.slots.val t⟩
      | cell ad t =>
        simp only [resultA] at hra
        split at hra
        case h_2 => cases hra
        rename_i i off hsl
        have hv := hf.slots.val ad
        rw [hsl] at hv
        have hl := loadA_sound ok hr hra hv
        change Sure P (do loadVar t (← asAddr (fr.tmps.getD ad undef))) w _
        generalize fr.tmps.getD ad undef = x at hv hl
        cases hv with
        | ptr hb => exact hl
    obtain ⟨v, w', h1, h2, vs, h3, h4⟩ := hsure
    exact ⟨vs, h3, by rw [h1, h2, h4]⟩
  split at h
  · rename_i v hv
    cases h
    obtain ⟨vs, h1, h2⟩ := key _ hv
    cases h1 with
    | cons x y =>
    cases y
    exact ⟨F, _, hP, h2, x⟩
  · rename_i l hn hl
    cases h
    obtain ⟨vs, h1, h2⟩ := key _ hl
    refine ⟨F, _, hP, h2, ?_⟩
    have hne : ¬ vs.toArray.size = 1 := fun e => by
      have := h1.length
      simp only [List.size_toArray] at e
      rw [e] at this
      match l, this with
      | [x], _ => exact hn x rfl
    rw [dif_neg hne]
    exact .tup h1
  · cases h

theorem outStep_sound (ok : tb.OK P) (hs : Sim κ c fr cs w) (hm : c.top.mode ≠ .run) {c' : Cfg} (h : outStep tb c = some c') : Goal P κ c.st fr cs w c' := by
  have hmode := hs.top.mode
  have hnr : fr.mode ≠ .run := fun e => by
    rw [e] at hmode
    generalize c.top.mode = m at hmode hm
    cases hmode; exact hm rfl
  unfold outStep at h
  split at h
  · -- a mark
    rename_i d ds hdef
    split at h
    case h_2 => cases h
    rename_i hd
    cases h
    have hds := hs.top.defers
    rw [hdef] at hds
    obtain ⟨xd, ds', ed, hx, hds'⟩ := hds.append_left
    cases hx with
    | @coll _ b hb =>
    obtain ⟨b', ob, q1, q2, q3⟩ := hs.rel.at hd id
    cases q1.symm.trans hb
    cases q3
    have hk := run_takeDeferred (P := P) q2
    have hg : Goes (· < c.st.next) κ c.st w κ { c.st with heap := c.st.heap.put d .gone } (w.putObj b (.deferred none)) :=
      hs.rel.turn (may_of hd) hb (fun cs t fz h => by rw [q2] at h; cases h) .gone
    exact ⟨κ, _, cs, _, fun cs0 => .one (step_collected hnr ed rfl hk), ⟨⟨hs.top.fn, hs.top.slots, hs.top.todo, hds', hs.top.mode, hs.top.kind, hs.top.ro⟩, hs.below, hg.rel⟩, hg⟩
  · -- a deferred call
    rename_i f m args ds hdef
    split at h
    case h_2 => cases h
    rename_i g hg
    cases h
    have hds := hs.top.defers
    rw [hdef] at hds
    obtain ⟨xd, ds', ed, hx, hds'⟩ := hds.append_left
    cases hx with
    | @fn _ _ _ m' l' hm' hl' =>
    obtain ⟨e1, e2, _⟩ := enterA_sound (w := w) ok hg (hl'.append hm')
    have hinv : (invoke (.fn (.func f) m'.toArray) l'.toArray).run P w = .ok (.enter f (l' ++ m').toArray) w := by
      simp only [invoke]
      have e : l'.toArray ++ m'.toArray = (l' ++ m').toArray := by apply Array.ext'; simp
      rw [e]; exact e2
    exact ⟨κ, _, _ :: cs, w, fun cs0 => .one (step_defer hnr ed rfl hinv), ⟨e1, .cons ⟨hs.top.fn, hs.top.slots, hs.top.todo, hds', hs.top.mode, hs.top.kind, hs.top.ro⟩ hs.below, hs.rel⟩, .refl hs.rel⟩
  · rename_i hdef
    have hds := hs.top.defers
    rw [hdef] at hds
    have ed : fr.defers = [] := by generalize fr.defers = d at hds; cases hds; rfl
    split at h
    · rename_i hrun; exact absurd hrun hm
    · -- panicking
      rename_i ch hch
      rw [hch] at hmode
      generalize hfm : fr.mode = fm at hmode
      cases hmode with
      | @pan _ ch' hchr =>
      split at h
      case h_2 => cases h
      rename_i F b r hF hbelow
      have hP := ok.func _ _ hF
      rw [← hs.top.fn] at hP
      have hbl := hs.below
      rw [hbelow] at hbl
      obtain ⟨bf, cs', ecs, hbf, hcs'⟩ := hbl.append_left
      subst ecs
      have hbm := hbf.mode
      have hstep : ∀ cs0, step P (lone fr (bf :: (cs' ++ cs0)) w) = .next (lone (bf.raise ch') (cs' ++ cs0) w) := fun cs0 => step_leave_panicked ⟨hfm, ed, F, hP⟩
      split at h
      · rename_i hb
        cases h
        rw [hb] at hbm
        generalize hbfm : bf.mode = bfm at hbm
        cases hbm
        refine ⟨κ, _, cs', w, fun cs0 => .one (hstep cs0), ⟨?_, hcs', hs.rel⟩, .refl hs.rel⟩
        unfold Frame.raise; rw [hbfm]
        exact ⟨hbf.fn, hbf.slots, (fun h => by cases h), hbf.defers, .pan hchr, hbf.kind, hbf.ro⟩
      · rename_i hb
        cases h
        rw [hb] at hbm
        generalize hbfm : bf.mode = bfm at hbm
        cases hbm
        refine ⟨κ, _, cs', w, fun cs0 => .one (hstep cs0), ⟨?_, hcs', hs.rel⟩, .refl hs.rel⟩
        unfold Frame.raise; rw [hbfm]
        exact ⟨hbf.fn, hbf.slots, (fun h => by cases h), hbf.defers, .pan hchr, hbf.kind, hbf.ro⟩
      · rename_i old hb
        cases h
        rw [hb] at hbm
        generalize hbfm : bf.mode = bfm at hbm
        cases hbm with
        | pan hold =>
        refine ⟨κ, _, cs', w, fun cs0 => .one (hstep cs0), ⟨?_, hcs', hs.rel⟩, .refl hs.rel⟩
        unfold Frame.raise; rw [hbfm]
        exact ⟨hbf.fn, hbf.slots, (fun h => by cases h), hbf.defers, .pan (hchr.append hold), hbf.kind, hbf.ro⟩
    · -- returning
      rename_i hret
      rw [hret] at hmode
      generalize hfm : fr.mode = fm at hmode
      cases hmode
      split at h
      case h_2 => cases h
      rename_i v b r hv hbelow
      obtain ⟨F, x, hP, hres, hx⟩ := resA_sound ok hs.rel hs.top hv
      have hbl := hs.below
      rw [hbelow] at hbl
      obtain ⟨bf, cs', ecs, hbf, hcs'⟩ := hbl.append_left
      subst ecs
      split at h
      · rename_i hkn
        split at h
        case h_2 => cases h
        rename_i hbrun
        split at h
        case h_2 => cases h
        rename_i g hg
        cases h
        exact ⟨κ, _, cs', w, fun cs0 => .one (step_leave_returned ⟨hfm, ed, hs.top.kind.trans hkn, F, hP, hres⟩), ⟨finA_sound hg hbf hbrun hx, hcs', hs.rel⟩, .refl hs.rel⟩
      · rename_i hkd
        cases h
        refine ⟨κ, _, cs', w, fun cs0 => .one (step_going_returned (hs.top.kind.trans hkd) ⟨hfm, ed, F, hP, hres⟩), ⟨?_, hcs', hs.rel⟩, .refl hs.rel⟩
        refine ⟨hbf.fn, hbf.slots, (fun hm => hbf.todo ?_), hbf.defers, ?_, hbf.kind, hbf.ro⟩
        · simp only at hm
          generalize b.mode = bm at hm ⊢
          unfold settleA at hm
          split at hm
          · cases hm
          · exact hm
        have hbm := hbf.mode
        simp only
        generalize b.mode = bm at hbm
        generalize bf.mode = bfm at hbm
        cases hbm with
        | run => exact .run
        | ret => exact .ret
        | pan hl =>
          cases hl with
          | nil => exact .pan .nil
          | @cons p pe l l' hpe hol =>
            obtain ⟨pv, prec, pgo⟩ := pe
            obtain ⟨hp1, hp2, hp3⟩ := hpe
            obtain ⟨pa, pb⟩ := p
            simp only at hp1 hp2 hp3
            subst hp2; subst hp3
            cases prec with
            | false => exact .pan (.cons ⟨hp1, rfl, rfl⟩ hol)
            | true =>
              have hdrop : ∀ {l : List (AVal × Bool)} {l' : List PanicEntry}, All2 (PR κ) l l' → l'.dropWhile (!·.goexit) = [] := by
                intro l l' hol
                induction hol with
                | nil => rfl
                | cons x y ih => simp [List.dropWhile, x.goexit, ih]
              simp only [settleA, settle, hdrop hol]
              exact .ret
      · cases h

theorem runStep_sound (ok : tb.OK P) (hs : Sim κ c fr cs w) (hm : c.top.mode = .run) {c' : Cfg} (h : runStep tb P c = some c') : Goal P κ c.st fr cs w c' := by
  have hmode := mode_run hs.top hm
  have htd := hs.top.todo hm
  unfold runStep at h
  split at h
  · -- the end
    rename_i ht
    rw [ht] at htd
    obtain ⟨fn, tmps, todo, defers, mode, kind, ro⟩ := fr
    simp only at hmode htd
    subst hmode
    generalize htt : todo = tt at htd
    cases htd
    subst htt
    refine leave_sound hs h (fun h1 h2 h3 cs0 => ?_) (fun b v w' g cs' h1 h2 h3 => ?_)
    · simp only at h3; subst h3
      exact stepR_end (P := P) (b := ⟨fn, tmps, [], defers, .run, kind, none⟩) (a := ⟨tmps, defers⟩) (cs := cs ++ cs0) (w := w) rfl
    · simp only at h1 h2; subst h1; subst h2
      exact stepR_round_end (P := P) (b := ⟨fn, tmps, [], defers, .run, .normal, some b⟩) (a := ⟨tmps, defers⟩) (cs := cs') (c := g) (w := w) rfl rfl h3
  · rename_i xa k ht
    split at h
    · exact codeStep_sound ok hs hm ht h
    all_goals
      rw [ht] at htd
      obtain ⟨xi, k', hk0, hx, hk⟩ := htd.append_left
    · -- inBlock
      cases hx
      obtain ⟨fn, tmps, todo, defers, mode, kind, ro⟩ := fr
      simp only at hmode hk0
      subst hmode; subst hk0
      cases h
      exact goal_to hs hk fun cs0 => stepR_inBlock (P := P) (b := ⟨fn, tmps, [], defers, .run, kind, ro⟩) (a := ⟨tmps, defers⟩) (cs := cs ++ cs0)
    · cases hx
      obtain ⟨fn, tmps, todo, defers, mode, kind, ro⟩ := fr
      simp only at hmode hk0
      subst hmode; subst hk0
      cases h
      exact goal_to hs hk fun cs0 => step_lone_go (by simp [stepG, stepG.exec])
    · cases hx
      obtain ⟨fn, tmps, todo, defers, mode, kind, ro⟩ := fr
      simp only at hmode hk0
      subst hmode; subst hk0
      cases h
      exact goal_to hs (.cons (.code _) (.cons (.inLoop _) hk)) fun cs0 => stepR_inLoop (P := P) (b := ⟨fn, tmps, [], defers, .run, kind, ro⟩) (a := ⟨tmps, defers⟩) (cs := cs ++ cs0)
    · -- a region
      split at h
      · cases hx with
        | regL e =>
        rw [regL_nil e] at hk0
        obtain ⟨fn, tmps, todo, defers, mode, kind, ro⟩ := fr
        simp only at hmode hk0
        subst hmode; subst hk0
        cases h
        exact goal_to hs hk fun cs0 => stepR_region_end (P := P) (b := ⟨fn, tmps, [], defers, .run, kind, ro⟩) (a := ⟨tmps, defers⟩) (cs := cs ++ cs0)
      · exact opStep_sound ok hs hm ht h
    · cases h
    · -- a range over a function ends
      rename_i l
      split at h
      case h_2 => cases h
      rename_i stt pe fn0 nt sl ps a b d hloop
      cases hx with
      | @endRF _ lb hlb =>
      obtain ⟨lb', ob, q1, q2, q3⟩ := hs.rel.at hloop id
      cases q1.symm.trans hlb
      cases q3 with
      | @loop _ _ _ _ _ _ _ _ _ db tm q4 q5 =>
      have main : stt ≠ .busy → ∀ c', some { c with top := { c.top with todo := pend pe k }, st := { c.st with heap := c.st.heap.put l (.loop .exhausted pe fn0 nt sl ps a b d) } } = some c' → Goal P κ c.st fr cs w c' := by
        intro hnb c' h
        cases h
        have hend := run_endLoop (P := P) q2 hnb
        have hg : Goes (· < c.st.next) κ c.st w κ { c.st with heap := c.st.heap.put l (.loop .exhausted pe fn0 nt sl ps a b d) } (w.putObj lb (.loop { state := .exhausted, pending := pe, fn := fn0, tmps := tm, params := ps, assign := a, body := b, defers := db })) :=
          hs.rel.turn (may_of hloop) hlb (fun cs t fz h => by rw [q2] at h; cases h) (.loop q4 q5)
        obtain ⟨fn, tmps, todo, defers, mode, kind, ro⟩ := fr
        simp only at hmode hk0
        subst hmode; subst hk0
        refine ⟨κ, ⟨fn, tmps, (pe.map Item.code).toList ++ k', defers, .run, kind, ro⟩, cs, _, fun cs0 => .one (stepR_endRangeFunc (P := P) (b := ⟨fn, tmps, [], defers, .run, kind, ro⟩) (a := ⟨tmps, defers⟩) (cs := cs ++ cs0) hend), ⟨⟨hs.top.fn, hs.top.slots, fun _ => ?_, hs.top.defers, hs.top.mode, hs.top.kind, hs.top.ro⟩, hs.below, hg.rel⟩, hg⟩
        cases pe with
        | none => exact hk
        | some j => exact .cons (.code j) hk
      split at h
      · cases h
      · rename_i hnb; exact main hnb _ h
    · -- a round begins
      split at h
      case h_2 => cases h
      rename_i l hron
      split at h
      case h_2 => cases h
      rename_i pe fn0 nt sl ps a b d hloop
      cases hx
      cases h
      have hro := hs.top.ro
      rw [hron] at hro
      obtain ⟨fn, tmps, todo, defers, mode, kind, ro⟩ := fr
      simp only at hmode hk0 hro
      subst hmode; subst hk0
      cases hro with
      | @some _ lb hlb =>
      obtain ⟨lb', ob, q1, q2, q3⟩ := hs.rel.at hloop id
      cases q1.symm.trans hlb
      cases q3 with
      | @loop _ _ _ _ _ _ _ _ _ db tm q4 q5 =>
      have hb := run_beginRound (P := P) q2 rfl
      have hg : Goes (· < c.st.next) κ c.st w κ { c.st with heap := c.st.heap.put l (.loop .busy pe fn0 nt sl ps a b d) } (w.putObj lb (.loop { state := .busy, pending := pe, fn := fn0, tmps := tm, params := ps, assign := a, body := b, defers := db })) :=
        hs.rel.turn (may_of hloop) hlb (fun cs t fz h => by rw [q2] at h; cases h) (.loop q4 q5)
      exact ⟨κ, _, cs, _, fun cs0 => .one (stepR_beginRound (P := P) (b := ⟨fn, tmps, [], defers, .run, kind, some lb⟩) (a := ⟨tmps, defers⟩) (k := k') (cs := cs ++ cs0) rfl hb), ⟨⟨hs.top.fn, hs.top.slots, fun _ => hk, hs.top.defers, hs.top.mode, hs.top.kind, hs.top.ro⟩, hs.below, hg.rel⟩, hg⟩

theorem stepA_sound (ok : tb.OK P) (hs : Sim κ c fr cs w) {c' : Cfg} (h : stepA tb P c = some c') : Goal P κ c.st fr cs w c' := by
  unfold stepA at h
  split at h
  · rename_i hm; exact runStep_sound ok hs hm h
  · rename_i hm; exact outStep_sound ok hs hm h

theorem doneA_sound (ok : tb.OK P) (hs : Sim κ c fr cs w) {r : AVal × St × Nat} (h : doneA tb c = some r) : cs = [] ∧ ∃ v, fr.leaving P w (.returned v) ∧ V κ r.1 v ∧ r.2.1 = c.st ∧ fr.fn = r.2.2 := by
  unfold doneA at h
  split at h
  case h_2 => cases h
  rename_i hm hd hb hk
  split at h
  case h_2 => cases h
  rename_i a ha
  cases h
  obtain ⟨F, v, hP, hres, hv⟩ := resA_sound ok hs.rel hs.top ha
  have hmode := hs.top.mode
  rw [hm] at hmode
  have hds := hs.top.defers
  rw [hd] at hds
  have hbl := hs.below
  rw [hb] at hbl
  refine ⟨by cases hbl; rfl, v, ⟨?_, ?_, hs.top.kind.trans hk, F, hP, hres⟩, hv, rfl, hs.top.fn⟩
  · generalize fr.mode = m at hmode; cases hmode; rfl
  · generalize fr.defers = m at hds; cases hds; rfl
end
end Go.Proofs.YtiemogegdoogaaaGreat.Eng

