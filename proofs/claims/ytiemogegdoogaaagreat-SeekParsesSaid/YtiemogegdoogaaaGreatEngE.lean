/- Part E of an evaluator for this program: the conditions of a law may be open, and the result of a call may be known. No condition. -/
import Derived.Test.YtiemogegdoogaaaGreatEngD
set_option linter.unusedVariables false
set_option linter.unusedSectionVars false
namespace Go.Proofs.YtiemogegdoogaaaGreat.Eng
open Go
variable [Interp]
variable {E : Nat → Option Value}

inductive TR where
  | leaf (r : R1)
  | br (b : Bool) (t f : TR)

noncomputable def TR.pick : TR → R1
  | .leaf r => r
  | .br b t f => bif b then t.pick else f.pick

section
variable (tb : Tab) (P : Program)

noncomputable def topK (e : Ev) (fn nt : Nat) : Code → (T AVal → X → H → Nat → TR) → T AVal → X → H → Nat → TR
  | .seq a b, k, sl, xd, h, n => topK e fn nt a (fun sl xd h n => topK e fn nt b k sl xd h n) sl xd h n
  | .cond q a b, k, sl, xd, h, n => match asB tb.facts (opnd sl q) with
    | .some t => .br t (topK e fn nt a k sl xd h n) (topK e fn nt b k sl xd h n)
    | .none => .leaf (.bad "top")
  | c, k, sl, xd, h, n => match (codeK tb P (cdN tb P 20) fn nt c).run e sl xd h n with
    | .nrm sl xd h n => k sl xd h n
    | r => .leaf r

noncomputable def topF (e : Ev) (f : Nat) (args : List AVal) (h : H) (n : Nat) : TR :=
  match tb.func f with
  | some F => match F.body with
    | some c => bif Nat.ble args.length F.ntmps && Nat.blt F.ntmps 1000000000 then topK tb P e f F.ntmps c (fun sl xd h n => .leaf (.nrm sl xd h n)) (slotsOf 0 args .leaf) (.top []) h n else .leaf (.bad "top")
    | none => .leaf (.bad "top")
  | none => .leaf (.bad "top")

noncomputable def topNt (f : Nat) : Nat := match tb.func f with | some F => F.ntmps | none => 0

noncomputable def isTrue (r : R2) : Bool := match r with | .ret (.lit (.bool b)) _ _ => b | _ => false

noncomputable def TR.good (fn nt : Nat) : TR → Bool
  | .leaf r => isTrue (endF tb P fn nt r)
  | .br _ t f => t.good fn nt && f.good fn nt
end

section
variable {tb : Tab} {P : Program}

theorem TR.good_pick {fn nt : Nat} : ∀ {t : TR}, t.good tb P fn nt = true → isTrue (endF tb P fn nt t.pick) = true
  | .leaf r, h => h
  | .br b t f, h => by
    simp only [TR.good, Bool.and_eq_true] at h
    cases b with
    | true => exact TR.good_pick (t := t) h.1
    | false => exact TR.good_pick (t := f) h.2

theorem Ends.exit {B : Base} {k k0 : List AItem} (hk : ∀ id, exitA id k = exitA id k0) (hp : Pre k k0) {c0 : Cfg} : ∀ {r : R1}, (∀ sl xd h n, r ≠ .nrm sl xd h n) → Ends E P B k c0 r → Ends E P B k0 c0 r
  | .nrm .., h, _ => absurd rfl (h _ _ _ _)
  | .ext .., _, ⟨k1, e, p, h⟩ => ⟨k1, e.trans (hk _), p.trans hp, h⟩
  | .ret .., _, ⟨k1, p, h⟩ => ⟨k1, p.trans hp, h⟩
  | .pan .., _, h => h
  | .bad _, _, _ => trivial

theorem topK_ends (ok : tb.OK P) {e : Ev} (he : EvFOK E tb P e) {fn nt : Nat} {below : List AFr} {k0 : List AItem} (hk0 : k0.all pureI = true) : ∀ (c : Code) (kt : T AVal → X → H → Nat → TR) (k : List AItem), (∀ id, exitA id k = exitA id k0) → Pre k k0 →
    (∀ sl xd h n, Ends E P ⟨fn, nt, .normal, below⟩ k0 (Base.cfg ⟨fn, nt, .normal, below⟩ xd k sl h n) (kt sl xd h n).pick) →
    ∀ sl xd h n, Ends E P ⟨fn, nt, .normal, below⟩ k0 (Base.cfg ⟨fn, nt, .normal, below⟩ xd (.code c :: k) sl h n) (topK tb P e fn nt c kt sl xd h n).pick := by
  have leaf : ∀ (c : Code) (kt : T AVal → X → H → Nat → TR) (k : List AItem), (∀ id, exitA id k = exitA id k0) → Pre k k0 →
    (∀ sl xd h n, Ends E P ⟨fn, nt, .normal, below⟩ k0 (Base.cfg ⟨fn, nt, .normal, below⟩ xd k sl h n) (kt sl xd h n).pick) →
    ∀ sl xd h n, Ends E P ⟨fn, nt, .normal, below⟩ k0 (Base.cfg ⟨fn, nt, .normal, below⟩ xd (.code c :: k) sl h n)
      (match (codeK tb P (cdN tb P 20) fn nt c).run e sl xd h n with | .nrm sl xd h n => kt sl xd h n | r => TR.leaf r).pick := by
    intro c kt k hk hp hkt sl xd h n
    have h1 := codeK_ok ok (drawP_ok ok) (cdN_ok ok (drawP_ok ok) 20) fn nt c e he .normal below k (hp.pure hk0) sl xd h n
    generalize (codeK tb P (cdN tb P 20) fn nt c).run e sl xd h n = r at h1
    cases r with
    | nrm sl xd h n => exact Ends.of h1 (hkt sl xd h n)
    | ext id sl xd h n => exact Ends.exit hk hp (fun _ _ _ _ e => nomatch (show R1.ext id sl xd h n = _ from e)) h1
    | ret sl xd h n => exact Ends.exit hk hp (fun _ _ _ _ e => nomatch (show R1.ret sl xd h n = _ from e)) h1
    | pan ch sl xd h n => exact Ends.exit hk hp (fun _ _ _ _ e => nomatch (show R1.pan ch sl xd h n = _ from e)) h1
    | bad w => trivial
  intro c
  induction c with
  | seq a b iha ihb =>
    intro kt k hk hp hkt sl xd h n
    exact Ends.of (Leads.step ok (step_run rfl rfl)) (iha _ (.code b :: k) hk ((Pre.cons rfl).trans hp) (fun sl xd h n => ihb kt k hk hp hkt sl xd h n) sl xd h n)
  | cond q a b iha ihb =>
    intro kt k hk hp hkt sl xd h n
    unfold topK
    cases hb : asB tb.facts (opnd sl q) with
    | none => trivial
    | some t =>
      have hq := asB_some hb
      have hst : stepA tb P (Base.cfg ⟨fn, nt, .normal, below⟩ xd (.code (.cond q a b) :: k) sl h n) = some (Base.cfg ⟨fn, nt, .normal, below⟩ xd (.code (bif t then a else b) :: k) sl h n) :=
        step_run rfl (by
          unfold runStep
          change codeStep tb _ (.cond q a b) k = _
          unfold codeStep
          change (match boolA tb.facts (opnd sl q) with | some t => _ | none => none) = _
          rw [hq]
          rfl)
      cases t with
      | true => exact Ends.of (Leads.step ok hst) (iha kt k hk hp hkt sl xd h n)
      | false => exact Ends.of (Leads.step ok hst) (ihb kt k hk hp hkt sl xd h n)
  | _ => exact leaf _

theorem law_top (ok : tb.OK P) {e : Ev} (he : EvFOK E tb P e) {f : Nat} {args : List AVal} {vs : List Value} {w : World} (hv : VL ⟨fun _ => none, fun _ => none, E⟩ args vs) (h : (topF tb P e f args .leaf 0).good tb P f (topNt tb f) = true) :
    Calls P f vs.toArray w fun e w' => e = .returned (.bool true) ∧ RowKit.Below w.heap.size w w' := by
  have key : ∃ g r, enterA tb f args .normal = some g ∧ EndsF E P f ⟨g, [], { heap := .leaf, next := 0 }⟩ r ∧ isTrue r = true := by
    unfold topF topNt at h
    cases hF : tb.func f with
    | none => rw [hF] at h; cases h
    | some F =>
      rw [hF] at h
      simp only at h
      cases hb : F.body with
      | none => rw [hb] at h; cases h
      | some c =>
        rw [hb] at h
        simp only at h
        cases hle : (Nat.ble args.length F.ntmps && Nat.blt F.ntmps 1000000000) with
        | false => rw [hle] at h; cases h
        | true =>
          rw [hle] at h
          simp only [cond_true] at h
          refine ⟨_, _, ?_, endF_ends (fn := f) (nt := F.ntmps) ok (topK_ends (fn := f) (nt := F.ntmps) (below := []) (k0 := []) ok he rfl c (fun sl xd h n => .leaf (.nrm sl xd h n)) [] (fun _ => rfl) (.refl _) (fun sl xd h n => (Leads.refl : Leads E P _ _)) (slotsOf 0 args .leaf) (.top []) .leaf 0), TR.good_pick h⟩
          unfold enterA
          simp only [hF, hb, hle, cond_true]
          rfl
  obtain ⟨g, r, hg, hE, hr⟩ := key
  cases r with
  | bad w => cases hr
  | pan ch h n => cases hr
  | ret v h' n' =>
    cases v with
    | lit v =>
      cases v with
      | bool b =>
        cases b with
        | true =>
          obtain ⟨e1, e2, _⟩ := enterA_sound (w := w) ok hg hv
          intro cs
          obtain ⟨κ', fr', w', x, hst, hlv, hx, hgo, hfn⟩ := hE _ _ [] w ⟨e1, .nil, rel_nil w⟩ (fun _ _ h => h) cs
          refine ⟨.returned x, w', fr', ⟨?_, ⟨hgo.os, hgo.tape, hgo.output, hgo.size, fun b hb => hgo.old b hb fun i hl => absurd hl (not_may_leaf _ _)⟩⟩, hst, hfn, hlv⟩
          rw [hx.of_lit rfl]
        | false => cases hr
      | _ => cases hr
    | _ => cases hr
end
end Go.Proofs.YtiemogegdoogaaaGreat.Eng

namespace Go.Proofs.YtiemogegdoogaaaGreat.Eng
open Go
variable [Interp]
variable {E : Nat → Option Value}

theorem Rel.grown {κ : Pl} {s : St} {w w' : World} (h : Rel κ s w) (hb : ∀ b, b < w.heap.size → w'.heap[b]? = w.heap[b]?) (hs : w.heap.size ≤ w'.heap.size) : Rel κ s w' where
  lim := h.lim
  fresh := h.fresh
  size i b hk := Nat.lt_of_lt_of_le (h.size i b hk) hs
  inj := h.inj
  room b n hr := by
    obtain ⟨cs, t, fz, h1, h2⟩ := h.room b n hr
    exact ⟨cs, t, fz, by rw [hb b (Array.getElem?_eq_some_iff.1 h1).1]; exact h1, h2⟩
  obj i o hg := by
    rcases h.obj i o hg with ⟨b, ob, h1, h2, h3⟩ | hx
    · exact .inl ⟨b, ob, h1, by rw [hb b (Array.getElem?_eq_some_iff.1 h2).1]; exact h2, h3⟩
    · exact .inr hx
  dead := h.dead

noncomputable def evK (k : Nat) (v : Value) (e : Ev) : Ev := fun f args h n =>
  match args with
  | [] => ifB (Nat.beq f k) (.ret (.lit v) h n) (e f [] h n)
  | a :: l => e f (a :: l) h n

section
variable {tb : Tab} {P : Program}

theorem FR.bare {κ κ' : Pl} {f : FuncId} {g : AFr} {fr : Frame} (hg : enterA tb f [] .normal = some g) (h : FR κ g fr) : FR κ' g fr := by
  unfold enterA at hg
  split at hg
  case h_2 => cases hg
  rename_i F hF
  split at hg
  case h_2 => cases hg
  rename_i c hc
  cases hb : (Nat.ble ([] : List AVal).length F.ntmps && Nat.blt F.ntmps 1000000000) with
  | false => rw [hb] at hg; cases hg
  | true =>
  rw [hb] at hg; cases hg
  obtain ⟨h1, h2, h3, h4, h5, h6, h7⟩ := h
  refine ⟨h1, ⟨h2.lim, h2.size, fun t => ?_⟩, fun hm => ?_, ?_, ?_, h6, ?_⟩
  · have := h2.val t
    simp only [slotsOf] at this ⊢
    have e : slot (.leaf : T AVal) t = .lit undef := by unfold slot; rw [T.get_leaf]
    rw [e] at this ⊢
    rw [this.of_lit rfl]; exact .lit _
  · have := h3 hm
    generalize fr.todo = td at this
    cases this with
    | cons x y => cases y; cases x; exact .cons (.code _) .nil
  · generalize fr.defers = td at h4
    cases h4; exact .nil
  · generalize fr.mode = td at h5
    cases h5; exact .run
  · generalize fr.roundOf = td at h7
    cases h7; exact .none

theorem evK_ok {e e0 : Ev} (he : EvFOK E tb P e) (he0 : EvFOK E tb P e0) {k : Nat} {v : Value} (hk : litR (e0 k [] .leaf 0) = some v) : EvFOK E tb P (evK k v e) := by
  intro f args h n
  cases args with
  | cons a l => exact he f (a :: l) h n
  | nil =>
    by_cases hf : Nat.beq f k = true
    case neg =>
      have e1 : evK k v e f [] h n = e f [] h n := by change ifB (Nat.beq f k) _ _ = _; rw [ifB_eq, if_neg hf]
      rw [e1]; exact he f [] h n
    have e1 : evK k v e f [] h n = .ret (.lit v) h n := by change ifB (Nat.beq f k) _ _ = _; rw [ifB_eq, if_pos hf]
    rw [e1]
    have hf : f = k := by simpa [Nat.beq_eq] using hf
    subst hf
    unfold litR at hk
    split at hk
    case h_2 => cases hk
    rename_i v' h' n' hev
    cases hk
    have h1 := he0 f [] .leaf 0
    rw [hev] at h1
    obtain ⟨g, hg, H⟩ := h1
    refine ⟨g, hg, fun κ fr w hfr hrel _ cs => ?_⟩
    obtain ⟨κ', fr', w', x, hst, hlv, hx, hgo, hfn⟩ := H ⟨fun _ => none, fun _ => none, E⟩ fr w (hfr.bare hg) (rel_nil w) (fun _ _ h => h) cs
    have hold : ∀ b, b < w.heap.size → w'.heap[b]? = w.heap[b]? := fun b hb => hgo.old b hb fun i hl => absurd hl (not_may_leaf _ _)
    refine ⟨κ, fr', w', x, hst, hlv, ?_, ⟨Pl.le_refl κ, hrel.grown hold hgo.size, Nat.le_refl _, hgo.size, fun b hb _ => hold b hb, fun i b hl hk => .inr ⟨i, hl, hk⟩, fun i b hl hk => .inr ⟨i, hl, hk⟩, fun _ _ h => h, fun _ _ h => h, hgo.os, hgo.output, hgo.tape⟩, hfn⟩
    rw [hx.of_lit rfl]; exact .lit _

theorem know_ok (ok : tb.OK P) {d d0 k : Nat} {u : Value} (hk : litR (evN tb P d0 k [] .leaf 0) = some u) : EvFOK E tb P (evK k u (evN tb P d)) := evK_ok (evN_good ok d) (evN_good ok d0) hk

theorem law_know (ok : tb.OK P) {e : Ev} (hee : EvFOK E tb P e) {f : Nat} {args : List AVal} {vs : List Value} {v : Value} {w : World} (hv : VL ⟨fun _ => none, fun _ => none, E⟩ args vs)
    (h : litR (callF tb P e f args .leaf 0) = some v) :
    Calls P f vs.toArray w fun e w' => e = .returned v ∧ RowKit.Below w.heap.size w w' := by
  have he := callF_ends ok (drawP_ok ok) hee f args .leaf 0
  unfold litR at h
  split at h
  case h_2 => cases h
  rename_i v' h' n' hev
  cases h
  rw [hev] at he
  obtain ⟨g, hg, H⟩ := he
  obtain ⟨e1, e2, _⟩ := enterA_sound (w := w) ok hg hv
  intro cs
  obtain ⟨κ', fr', w', x, hst, hl, hx, hgo, hfn⟩ := H _ _ w e1 (rel_nil w) (fun _ _ h => h) cs
  refine ⟨.returned x, w', fr', ⟨?_, ⟨hgo.os, hgo.tape, hgo.output, hgo.size, fun b hb => hgo.old b hb fun i hl => absurd hl (not_may_leaf _ _)⟩⟩, hst, hfn, hl⟩
  rw [hx.of_lit rfl]
end
end Go.Proofs.YtiemogegdoogaaaGreat.Eng

namespace Go.Proofs.YtiemogegdoogaaaGreat.Eng
open Go
variable [Interp]
variable {E : Nat → Option Value}

noncomputable def flatA : AVal → Bool
  | .lit _ => true
  | .sym _ => true
  | _ => false
noncomputable def plainA : AVal → Bool
  | .lit _ => true
  | .sym _ => true
  | .agg l => l.all flatA
  | _ => false

theorem V.det0 {κ : Pl} {a : AVal} {x y : Value} (hp : flatA a = true) (hx : V κ a x) (hy : V κ a y) : x = y := by
  cases a with
  | lit v => rw [hx.of_lit rfl, hy.of_lit rfl]
  | sym i =>
    cases hx with
    | sym e1 => cases hy with
      | sym e2 => rw [e1] at e2; cases e2; rfl
  | _ => cases hp

theorem VL.det0 {κ : Pl} : ∀ {l : List AVal} {m n : List Value}, l.all flatA = true → VL κ l m → VL κ l n → m = n
  | _, _, _, _, .nil, .nil => rfl
  | _, _, _, hp, .cons x y, .cons x' y' => by
    simp only [List.all_cons, Bool.and_eq_true] at hp
    rw [V.det0 hp.1 x x', VL.det0 hp.2 y y']

theorem V.det {κ : Pl} {a : AVal} {x y : Value} (hp : plainA a = true) (hx : V κ a x) (hy : V κ a y) : x = y := by
  cases a with
  | lit v => exact V.det0 (a := .lit v) rfl hx hy
  | sym i => exact V.det0 (a := .sym i) rfl hx hy
  | agg l =>
    cases hx with
    | agg h1 => cases hy with
      | agg h2 => rw [VL.det0 hp h1 h2]
  | _ => cases hp

theorem slotsOf_plain : ∀ (l : List AVal) (n : Nat) (t : T AVal) (m : Nat), n + l.length < 1000000000 → l.all plainA = true → plainA (slot t m) = true → plainA (slot (slotsOf n l t) m) = true
  | [], _, _, _, _, _, h => h
  | a :: l, n, t, m, hlt, hp, h => by
    simp only [List.length_cons] at hlt
    simp only [List.all_cons, Bool.and_eq_true] at hp
    refine slotsOf_plain l (n + 1) (t.put n a) m (by omega) hp.2 ?_
    rw [slot_put (by omega)]
    by_cases e : m = n
    · rw [if_pos e]; exact hp.1
    · rw [if_neg e]; exact h

section
variable {tb : Tab} {P : Program}

theorem FR.enter (ok : tb.OK P) {κ : Pl} {f : FuncId} {args : List AVal} {vs : List Value} {g : AFr} {fr : Frame} (hg : enterA tb f args .normal = some g) (hp : args.all plainA = true) (hv : VL κ args vs) (h : FR κ g fr) :
    fr = Frame.enter P f vs.toArray .normal := by
  obtain ⟨h0, _, _⟩ := enterA_sound (w := (default : World)) ok hg hv
  generalize Frame.enter P f vs.toArray .normal = fr0 at h0
  have hsl : ∀ t, plainA (slot g.slots t) = true ∧ g.mode = .run ∧ (∃ c, g.todo = [.code c]) ∧ g.defers = [] ∧ g.ro = none := by
    intro t
    unfold enterA at hg
    split at hg
    case h_2 => cases hg
    rename_i F hF
    split at hg
    case h_2 => cases hg
    rename_i c hc
    cases hb : (Nat.ble args.length F.ntmps && Nat.blt F.ntmps 1000000000) with
    | false => rw [hb] at hg; cases hg
    | true =>
    rw [hb] at hg; cases hg
    simp only [Bool.and_eq_true] at hb
    have b1 := Nat.le_of_ble_eq_true hb.1
    have b2 : F.ntmps < 1000000000 := by simpa [Nat.blt_eq] using hb.2
    refine ⟨slotsOf_plain args 0 .leaf t (by omega) hp ?_, rfl, ⟨c, rfl⟩, rfl, rfl⟩
    unfold slot; rw [T.get_leaf]; rfl
  obtain ⟨fn, tmps, todo, defers, mode, kind, ro⟩ := fr
  obtain ⟨fn', tmps', todo', defers', mode', kind', ro'⟩ := fr0
  obtain ⟨a1, a2, a3, a4, a5, a6, a7⟩ := h
  obtain ⟨b1, b2, b3, b4, b5, b6, b7⟩ := h0
  obtain ⟨_, s2, ⟨c, s3⟩, s4, s5⟩ := hsl 0
  simp only at a1 a2 a3 a4 a5 a6 a7 b1 b2 b3 b4 b5 b6 b7
  have ht : tmps = tmps' := by
    apply Array.ext (by rw [a2.size, b2.size])
    intro i hi hi'
    have e := V.det (hsl i).1 (a2.val i) (b2.val i)
    simpa [Array.getD, hi, hi'] using e
  have htd : todo = todo' := by
    have x := a3 s2
    have y := b3 s2
    rw [s3] at x y
    cases x with
    | cons x1 x2 => cases x2; cases x1; cases y with
      | cons y1 y2 => cases y2; cases y1; rfl
  have hdf : defers = defers' := by
    rw [s4] at a4 b4; cases a4; cases b4; rfl
  have hmd : mode = mode' := by
    rw [s2] at a5 b5; cases a5; cases b5; rfl
  have hro : ro = ro' := by
    rw [s5] at a7 b7; cases a7; cases b7; rfl
  subst ht htd hdf hmd hro
  rw [a1, b1, a6, b6]

noncomputable def evC (c : FuncId → List AVal → Option AVal) (e : Ev) : Ev := fun f args h n =>
  Option.rec (motive := fun _ => R2) (e f args h n) (fun a => .ret a h n) (c f args)

def ConOK (E : Nat → Option Value) (tb : Tab) (P : Program) (c : FuncId → List AVal → Option AVal) : Prop :=
  ∀ f args a, c f args = some a → args.all plainA = true ∧ (enterA tb f args .normal).isSome = true ∧ ∃ (vs : List Value) (v : Value), (∀ κ, EnvIn E κ → VL κ args vs ∧ V κ a v) ∧
    ∀ w, Calls P f vs.toArray w fun e w' => e = .returned v ∧ RowKit.Below w.heap.size w w'

theorem evC_ok (ok : tb.OK P) {c : FuncId → List AVal → Option AVal} (hc : ConOK E tb P c) {e : Ev} (he : EvFOK E tb P e) : EvFOK E tb P (evC c e) := by
  intro f args h n
  cases hcf : c f args with
  | none =>
    have e1 : evC c e f args h n = e f args h n := by unfold evC; rw [hcf]
    rw [e1]; exact he f args h n
  | some a =>
    have e1 : evC c e f args h n = .ret a h n := by unfold evC; rw [hcf]
    rw [e1]
    obtain ⟨hp, hg, vs, v, hv, hcall⟩ := hc f args a hcf
    obtain ⟨g, hg⟩ := Option.isSome_iff_exists.1 hg
    refine ⟨g, hg, fun κ fr w hfr hrel hE cs => ?_⟩
    obtain ⟨hvs, hav⟩ := hv κ hE
    have hfe := hfr.enter ok hg hp hvs
    subst hfe
    obtain ⟨en, w', fr', ⟨hen, hb⟩, hst, hfn, hlv⟩ := hcall w cs
    subst hen
    exact ⟨κ, fr', w', v, hst, hlv, hav, ⟨Pl.le_refl κ, hrel.grown (fun b hlt => hb.block b hlt) hb.size, Nat.le_refl _, hb.size, fun b hlt _ => hb.block b hlt, fun i b hl hk => .inr ⟨i, hl, hk⟩, fun i b hl hk => .inr ⟨i, hl, hk⟩, fun _ _ h => h, fun _ _ h => h, hb.os, hb.output, hb.tape⟩, hfn⟩
end
end Go.Proofs.YtiemogegdoogaaaGreat.Eng

