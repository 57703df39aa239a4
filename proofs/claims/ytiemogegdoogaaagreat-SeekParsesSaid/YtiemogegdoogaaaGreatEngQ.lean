/- Part Q of an evaluator for this program: loops with contracts, proved by one round and an induction. No condition. -/
import Derived.Test.YtiemogegdoogaaaGreatEngP
import Derived.Below
import Derived.Deep.Slices
import Derived.OpenShut
set_option linter.unusedVariables false
set_option linter.unusedSectionVars false
namespace Go.Proofs.YtiemogegdoogaaaGreat.Eng
open Go

inductive LWay where
  | nrm
  | ext (id : Nat)
  | ret
  | pan (ch : List (AVal × Bool))

structure LCon where
  f : FuncId
  pl : List Bool
  nt : Nat
  ins : List (Nat × AVal)
  wrs : List (Nat × AVal)
  objs : List PObj
  mv : List Nat
  facts : Facts
  way : LWay
  objs' : List (Nat × PObj)
  next' : Nat
  meas : SX

noncomputable def findS : List (Nat × AVal) → Nat → Option AVal
  | [], _ => none
  | q :: l, t => bif Nat.beq q.1 t then some q.2 else findS l t
noncomputable def headV (c : LCon) (t : Nat) : AVal := match findS c.ins t with | some a => a | none => match findS c.wrs t with | some _ => .any | none => .sym t
noncomputable def tailV (c : LCon) (t : Nat) : AVal := match findS c.wrs t with | some a => a | none => match findS c.ins t with | some a => a | none => .sym t
noncomputable def slotsV (nt : Nat) (f : Nat → AVal) : T AVal := slotsOf 0 ((List.range nt).map f) .leaf
theorem slotsV_get {nt : Nat} (hn : nt < 1000000000) (f : Nat → AVal) (t : Nat) : slot (slotsV nt f) t = if t < nt then f t else .lit undef := by
  unfold slotsV
  rw [slotsOf_get _ _ _ _ (by simp; omega)]
  by_cases h : t < nt
  · rw [if_pos ⟨Nat.zero_le _, by simp; omega⟩, if_pos h]; simp [h]
  · rw [if_neg (by simp; omega), if_neg h]; unfold slot; rw [T.get_leaf]

noncomputable def symL : Nat → List AVal → List AVal
  | _, [] => []
  | n, _ :: l => .sym n :: symL (n + 1) l
noncomputable def symD : Nat → List ADef → List ADef
  | _, [] => []
  | n, .fn f m l :: r => .fn f (symL n m) (symL (n + m.length) l) :: symD (n + m.length + l.length) r
  | n, .coll d :: r => .coll d :: symD n r
noncomputable def noColl : List ADef → Bool
  | [] => true
  | .fn _ _ _ :: r => noColl r
  | .coll _ :: _ => false
def SymOnly : List ADef → Prop
  | [] => True
  | .fn _ m l :: r => (∀ a ∈ m, ∃ i, a = AVal.sym i) ∧ (∀ a ∈ l, ∃ i, a = AVal.sym i) ∧ SymOnly r
  | .coll _ :: _ => False
def capD (d : Deferred) : List Value := match d.target with | .fn (.func _) m => m.toList | _ => []
def valsD : List Deferred → List Value
  | [] => []
  | d :: r => capD d ++ d.args.toList ++ valsD r

theorem symL_sym : ∀ (l : List AVal) (n : Nat), ∀ a ∈ symL n l, ∃ i, a = AVal.sym i
  | [], _, a, h => by cases h
  | x :: l, n, a, h => by
    rcases List.mem_cons.1 h with h | h
    · exact ⟨n, h⟩
    · exact symL_sym l (n + 1) a h
theorem symD_only : ∀ (ds : List ADef) (n : Nat), noColl ds = true → SymOnly (symD n ds)
  | [], _, _ => trivial
  | .fn f m l :: r, n, h => ⟨symL_sym m n, symL_sym l _, symD_only r _ h⟩
  | .coll _ :: _, _, h => by cases h

section
variable [Interp]
theorem symL_ok {κ : Pl} : ∀ (l : List AVal) (vs : List Value) (n : Nat), l.length = vs.length → (∀ i v, vs[i]? = some v → κ.env (n + i) = some v) → VL κ (symL n l) vs
  | [], [], _, _, _ => .nil
  | a :: l, v :: vs, n, h, he => .cons (.sym (he 0 v rfl)) (symL_ok l vs (n + 1) (by simpa using h) fun i v hv => by rw [show n + 1 + i = n + (i + 1) by omega]; exact he (i + 1) v (by simpa using hv))
  | [], _ :: _, _, h, _ => by cases h
  | _ :: _, [], _, h, _ => by cases h
theorem symL_back {κ : Pl} : ∀ (l : List AVal) (vs vs' : List Value) (n : Nat), l.length = vs.length → (∀ i v, vs[i]? = some v → κ.env (n + i) = some v) → VL κ (symL n l) vs' → vs' = vs
  | [], [], _, _, _, _, h => by cases h; rfl
  | a :: l, v :: vs, _, n, h, he, hv => by
    cases hv with
    | cons x y =>
      cases x with
      | sym e =>
        have e2 := he 0 v rfl
        rw [Nat.add_zero, e] at e2
        cases e2
        rw [symL_back l vs _ (n + 1) (by simpa using h) (fun i v hv => by rw [show n + 1 + i = n + (i + 1) by omega]; exact he (i + 1) v (by simpa using hv)) y]
  | [], _ :: _, _, _, h, _, _ => by cases h
  | _ :: _, [], _, _, h, _, _ => by cases h

theorem symD_ok {I : Interp} {J : Interp} {κ κ2 : Pl} : ∀ {ds : List ADef} {dl : List Deferred}, @All2 _ _ (@DR I κ) ds dl → noColl ds = true → ∀ (n : Nat), (∀ i v, (valsD dl)[i]? = some v → κ2.env (n + i) = some v) → All2 (DR κ2) (symD n ds) dl
  | _, _, .nil, _, _, _ => .nil
  | _, _, .cons x y, hc, n, he => by
    cases x with
    | coll _ => cases hc
    | @fn f m l m' l' x1 x2 =>
      have e1 := @VL.length I _ _ _ x1
      have e2 := @VL.length I _ _ _ x2
      have hv : ∀ q, valsD ({ target := .fn (.func f) m'.toArray, args := l'.toArray } :: q) = m' ++ l' ++ valsD q := fun _ => rfl
      refine .cons (.fn (symL_ok _ _ _ e1 fun i v hi => he i v ?_) (symL_ok _ _ _ e2 fun i v hi => ?_)) (symD_ok y hc _ fun i v hi => ?_)
      · rw [hv, List.append_assoc, List.getElem?_append_left (List.getElem?_eq_some_iff.1 hi).1]; exact hi
      · rw [Nat.add_assoc]
        refine he _ v ?_
        rw [hv, List.append_assoc, List.getElem?_append_right (by omega), List.getElem?_append_left (by have := (List.getElem?_eq_some_iff.1 hi).1; omega), show m.length + i - m'.length = i by omega]; exact hi
      · rw [Nat.add_assoc, Nat.add_assoc]
        refine he _ v ?_
        rw [hv, List.getElem?_append_right (by simp; omega), List.length_append, show m.length + (l.length + i) - (m'.length + l'.length) = i by omega]; exact hi
theorem symD_back {κ κ2 : Pl} : ∀ {ds : List ADef} {dl dl' : List Deferred}, All2 (DR κ) ds dl → noColl ds = true → ∀ (n : Nat), (∀ i v, (valsD dl)[i]? = some v → κ2.env (n + i) = some v) → All2 (DR κ2) (symD n ds) dl' → dl' = dl
  | _, _, _, .nil, _, _, _, h => by cases h; rfl
  | _, _, _, .cons x y, hc, n, he, h => by
    cases x with
    | coll _ => cases hc
    | @fn f m l m' l' x1 x2 =>
      have e1 := x1.length
      have e2 := x2.length
      have hv : ∀ q, valsD ({ target := .fn (.func f) m'.toArray, args := l'.toArray } :: q) = m' ++ l' ++ valsD q := fun _ => rfl
      cases h with
      | cons z t =>
        cases z with
        | fn z1 z2 =>
          rw [symL_back _ _ _ _ e1 (fun i v hi => he i v (by rw [hv, List.append_assoc, List.getElem?_append_left (List.getElem?_eq_some_iff.1 hi).1]; exact hi)) z1,
            symL_back _ _ _ _ e2 (fun i v hi => by
              rw [Nat.add_assoc]
              refine he _ v ?_
              rw [hv, List.append_assoc, List.getElem?_append_right (by omega), List.getElem?_append_left (by have := (List.getElem?_eq_some_iff.1 hi).1; omega), show m.length + i - m'.length = i by omega]; exact hi) z2,
            symD_back y hc _ (fun i v hi => by
              rw [Nat.add_assoc, Nat.add_assoc]
              refine he _ v ?_
              rw [hv, List.getElem?_append_right (by simp; omega), List.length_append, show m.length + (l.length + i) - (m'.length + l'.length) = i by omega]; exact hi) t]
theorem SymOnly.dr {κ κ' : Pl} (he : ∀ i v, κ.env i = some v → κ'.env i = some v) : ∀ {ds : List ADef} {dl : List Deferred}, SymOnly ds → All2 (DR κ) ds dl → All2 (DR κ') ds dl
  | _, _, _, .nil => .nil
  | _, _, hs, .cons x y => by
    cases x with
    | coll _ => cases hs
    | fn x1 x2 =>
      have hv : ∀ {l : List AVal} {vs : List Value}, (∀ a ∈ l, ∃ i, a = AVal.sym i) → VL κ l vs → VL κ' l vs := by
        intro l
        induction l with
        | nil => intro vs _ h; cases h; exact .nil
        | cons a l ih =>
          intro vs hl h
          cases h with
          | cons p q =>
            obtain ⟨i, rfl⟩ := hl a (List.mem_cons_self ..)
            cases p with
            | sym e => exact .cons (.sym (he _ _ e)) (ih (fun a h => hl a (List.mem_cons_of_mem _ h)) q)
      exact .cons (.fn (hv hs.1 x1) (hv hs.2.1 x2)) (SymOnly.dr he hs.2.2 y)
theorem pure_IR {κ κ' : Pl} : ∀ {l : List AItem} {m : List Item}, l.all pureI = true → All2 (IR κ) l m → All2 (IR κ') l m
  | _, _, _, .nil => .nil
  | _, _, h, .cons x y => by
    simp only [List.all_cons, Bool.and_eq_true] at h
    refine .cons ?_ (pure_IR h.2 y)
    cases x with
    | code c => exact .code c
    | inBlock i => exact .inBlock i
    | inLoop c => exact .inLoop c
    | inScope c => exact .inScope c
    | regL e => exact .regL e
    | inRF _ => cases h.1
    | endRF _ => cases h.1
    | beginRound => exact .beginRound

def PGoalM (M : List Nat) (P : Program) (κ : Pl) (s : St) (fr : Frame) (cs : List Frame) (w : World) (c' : Cfg) : Prop :=
  ∀ cs0, ∃ κ' fr' cs' w', Steps P (lone fr (cs ++ cs0) w) (lone fr' (cs' ++ cs0) w') ∧ Sim κ' c' fr' cs' w' ∧ GoesM M κ s w κ' c'.st w'
def LeadsM (M : List Nat) (P : Program) (c c' : Cfg) : Prop := ∀ κ fr cs w, Sim κ c fr cs w → PGoalM M P κ c.st fr cs w c'
def LEnds (M : List Nat) (P : Program) (B : Base) (k : List AItem) (c0 : Cfg) : R1 → Prop
  | .nrm sl xd h n => LeadsM M P c0 (B.cfg xd k sl h n)
  | .ext id sl xd h n => ∃ k1, exitA id k1 = exitA id k ∧ Pre k1 k ∧ LeadsM M P c0 (B.cfg xd (.code (.exit id) :: k1) sl h n)
  | .ret sl xd h n => ∃ k1, Pre k1 k ∧ LeadsM M P c0 (B.cfg xd (.code .ret :: k1) sl h n)
  | .pan ch sl xd h n => ∃ k1, LeadsM M P c0 (B.cfg xd k1 sl h n (.pan ch))
  | .bad _ => True
end

noncomputable def resL (c : LCon) (xd : X) : R1 :=
  match c.way with
  | .nrm => .nrm (slotsV c.nt (tailV c)) xd (resH c.objs') c.next'
  | .ext id => .ext id (slotsV c.nt (tailV c)) xd (resH c.objs') c.next'
  | .ret => .ret (slotsV c.nt (tailV c)) xd (resH c.objs') c.next'
  | .pan ch => .pan ch (slotsV c.nt (tailV c)) xd (resH c.objs') c.next'

def LGoodV [Interp] (P : Program) (b : Code) (c : LCon) : Prop := ∀ (kind : CallKind) (k : List AItem), k.all pureI = true → ∀ ds, SymOnly ds →
  LEnds c.mv P ⟨c.f, c.nt, kind, []⟩ k (Base.cfg ⟨c.f, c.nt, kind, []⟩ (.top ds) (.code b :: .inLoop b :: k) (slotsV c.nt (headV c)) (layO c.objs) c.objs.length) (resL c (.top ds))
def AtLoop (tb : Tab) (c : LCon) (b : Code) : Prop := ∃ F c0, tb.func c.f = some F ∧ F.body = some c0 ∧ F.ntmps = c.nt ∧ codeAt c0 c.pl = some (.loop b)
def LGood (tb : Tab) (P : Program) (I : Interp) (c : LCon) : Prop := ∀ b, AtLoop tb c b → ∀ v : Nat → D, @Holds (I.at v) c.facts → @LGoodV (I.at v) P b c

noncomputable def bindT (p a : AVal) (s : Bind) : Bind :=
  match p with
  | .slv i o l c z => match a with
    | .lit (.slice none 0 0) => match c with
      | some c => bindX c (.lit 0) (bindX o (.lit 0) (bindX l (.lit 0) s))
      | none => bindX o (.lit 0) (bindX l (.lit 0) s)
    | a => bindA 30 (.slv i o l c z) a s
  | p => bindA 30 p a s
noncomputable def bindS (sl : T AVal) : List (Nat × AVal) → Bind → Bind
  | [], s => s
  | q :: l, s => bindS sl l (bindT q.2 (slot sl q.1) s)
noncomputable def bindOsL (h : H) : List PObj → Nat → Bind → Bind
  | [], _, s => s
  | p :: l, i, s => bindOsL h l (i + 1) (match s.ρ.get i with
    | some j => (match h.get j with | some o => bindO p o s | none => s)
    | none => match p with | .seq _ a _ => bindX a (.str []) s | .win _ _ a => bindX a (.str []) s | _ => s)
noncomputable def rhoFill (t : T Nat) (n : Nat) : Nat → Nat → List Nat
  | 0, _ => []
  | k + 1, i => (match t.get i with | some j => j | none => n + i) :: rhoFill t n k (i + 1)
noncomputable def putS (g : AVal → AVal) : List (Nat × AVal) → T AVal → T AVal
  | [], sl => sl
  | q :: l, sl => (putS g l sl).put q.1 (g q.2)
theorem putS_get {g : AVal → AVal} : ∀ {l : List (Nat × AVal)} {sl : T AVal}, (∀ q ∈ l, q.1 < 1000000000) → ∀ t, slot (putS g l sl) t = match findS l t with | some p => g p | none => slot sl t
  | [], _, _, _ => rfl
  | q :: l, sl, h, t => by
    haveI : Interp := .void
    simp only [putS, findS]
    rw [slot_put (h q (List.mem_cons_self ..))]
    by_cases e : t = q.1
    · subst e; rw [if_pos rfl, Nat.beq_refl]; rfl
    · rw [if_neg e, putS_get (fun q hq => h q (List.mem_cons_of_mem _ hq))]
      have : Nat.beq q.1 t = false := by rw [Bool.eq_false_iff]; intro h; exact e (nbeq h).symm
      rw [this]; rfl
noncomputable def outL (fs : Facts) (σ : Nat → Nat) (β : Nat → SX) (c : LCon) (sl : T AVal) : T AVal := putS (inst fs σ β 30) c.wrs (putS (inst fs σ β 30) c.ins sl)
noncomputable def instCh (fs : Facts) (σ : Nat → Nat) (β : Nat → SX) (ch : List (AVal × Bool)) : List (AVal × Bool) := ch.map fun q => (inst fs σ β 30 q.1, q.2)
noncomputable def measOK (fs : Facts) (β : Nat → SX) (m : Bool) (e : SX) : Bool :=
  match m with
  | false => true
  | true => (match decB fs (.a2 .lt (e.sub β) e) with | some b => b | none => false) && (match decB fs (.a2 .lt (e.sub β) (.lit 0)) with | some b => !b | none => false)
noncomputable def outW (way : LWay) (ich : List (AVal × Bool) → List (AVal × Bool)) (sl : T AVal) (xd : X) (h : H) (n : Nat) : R1 :=
  match way with
  | .nrm => .nrm sl xd h n
  | .ext id => .ext id sl xd h n
  | .ret => .ret sl xd h n
  | .pan ch => .pan (ich ch) sl xd h n
noncomputable def useL (fs : Facts) (c : LCon) (m : Bool) (sl : T AVal) (xd : X) (h : H) (n : Nat) : Option R1 :=
  match xd with
  | .rnd _ => none
  | .top ds =>
    let s := bindF fs c.facts (bindOsL h c.objs 0 (bindS sl c.ins ⟨.leaf, .leaf⟩))
    let ρ := rhoFill s.ρ n c.objs.length 0
    let β := betaOf s.β
    match (m || noColl ds) && c.ins.all (fun q => Nat.blt q.1 c.nt && fits fs ρ β 30 q.2 (slot sl q.1)) && c.wrs.all (fun q => Nat.blt q.1 c.nt) && factsOK fs β c.facts && rhoOK fs ρ c.mv β h n c.objs c.objs' c.next' && measOK fs β m c.meas with
    | true => some (outW c.way (instCh fs (sigmaM ρ c.mv n) β) (outL fs (sigmaM ρ c.mv n) β c sl) (.top ds) (backH fs ρ c.mv β c.objs' h n) (n + c.next'))
    | false => none

section
variable {tb : Tab} {P : Program} {E : Nat → Option Value}
theorem findS_mem : ∀ {l : List (Nat × AVal)} {t : Nat} {p : AVal}, findS l t = some p → ∃ q ∈ l, q.1 = t ∧ q.2 = p
  | [], _, _, h => by cases h
  | q :: l, t, p, h => by
    simp only [findS] at h
    cases hb : Nat.beq q.1 t with
    | true => rw [hb] at h; cases h; exact ⟨q, List.mem_cons_self .., nbeq hb, rfl⟩
    | false =>
      rw [hb] at h
      obtain ⟨q', h1, h2⟩ := findS_mem h
      exact ⟨q', List.mem_cons_of_mem _ h1, h2⟩

def envL (nt : Nat) (fr : Frame) : Nat → Option Value := fun j => if j < nt then fr.tmps[j]? else (valsD fr.defers)[j - nt]?
theorem envL_lt {nt : Nat} {fr : Frame} {t : Nat} (ht : t < nt) (hsz : fr.tmps.size = nt) : envL nt fr t = some (fr.tmps.getD t undef) := by
  unfold envL
  rw [if_pos ht]
  simp only [Array.getD_eq_getD_getElem?]
  rw [Array.getElem?_eq_getElem (by omega)]; rfl
theorem envL_ds {nt : Nat} {fr : Frame} {i : Nat} : envL nt fr (nt + i) = (valsD fr.defers)[i]? := by
  unfold envL
  rw [if_neg (by omega), Nat.add_sub_cancel_left]
theorem undef_ge {tmps : Array Value} {t : Nat} (h : tmps.size ≤ t) : tmps.getD t undef = undef := by
  simp only [Array.getD_eq_getD_getElem?]
  rw [Array.getElem?_eq_none h]; rfl

theorem enterL {I : Interp} {J : Interp} {fs : Facts} {ρ : List Nat} {β : Nat → SX} (hfs : @Holds I fs) (hJ : Of J I β) {c : LCon} {sl : T AVal} {h : H} {n : Nat} {kind : CallKind} {below : List AFr} {ds : List ADef} {todo : List AItem}
    (hk : todo.all pureI = true) (hd : noColl ds = true) (hins : ∀ t p, findS c.ins t = some p → t < c.nt ∧ fits fs ρ β 30 p (slot sl t) = true) (hnd : ρ.Nodup) (hm9 : c.objs.length < 1000000000) (k3 : fitsAll fs ρ β h n c.objs ρ = true)
    {κ : Pl} {fr : Frame} {cs : List Frame} {w : World} (hs : @Sim I κ (Base.cfg ⟨c.f, c.nt, kind, below⟩ (.top ds) todo sl h n) fr cs w) :
    @Sim J (κ.viaE ρ (envL c.nt fr)) (Base.cfg ⟨c.f, c.nt, kind, []⟩ (.top (symD c.nt ds)) todo (slotsV c.nt (headV c)) (layO c.objs) c.objs.length) fr [] w := by
  obtain ⟨⟨a1, a2, a3, a4, a5, a6, a7⟩, _, hrel⟩ := hs
  have hv := @SR.val I _ _ _ _ a2
  have hsz : fr.tmps.size = c.nt := @SR.size I _ _ _ _ a2
  have hlim : c.nt < 1000000000 := @SR.lim I _ _ _ _ a2
  refine ⟨⟨a1, ⟨hlim, hsz, fun t => ?_⟩, fun _ => pure_IR hk (a3 rfl), symD_ok (κ2 := κ.viaE ρ (envL c.nt fr)) a4 hd c.nt fun i v hi => envL_ds.trans hi, ?_, a6, ?_⟩, .nil, Rel_fit hfs hJ hnd k3 hrel hm9 _⟩
  · change V _ (slot (slotsV c.nt (headV c)) t) _
    rw [slotsV_get hlim]
    by_cases ht : t < c.nt
    · rw [if_pos ht]
      unfold headV
      cases hf : findS c.ins t with
      | some p => exact fits_V hfs hJ 30 (hins t p hf).2 (hv t)
      | none =>
        simp only
        cases findS c.wrs t with
        | some p => exact .any
        | none => exact .sym (envL_lt ht hsz)
    · rw [if_neg ht, undef_ge (by omega)]; exact .lit _
  · generalize fr.mode = md at a5
    cases a5; exact .run
  · generalize fr.roundOf = md at a7
    cases a7; exact .none

theorem backL {J : Interp} {I : Interp} {fs : Facts} {ρ : List Nat} {β : Nat → SX} (hfs : @Holds I fs) (hJ : Of J I β) {c : LCon} {sl : T AVal} {h : H} {n : Nat} {kind : CallKind} {below : List AFr} {ds : List ADef} {todo : List AItem}
    (hd : noColl ds = true) (hins : ∀ t p, findS c.ins t = some p → t < c.nt ∧ fits fs ρ β 30 p (slot sl t) = true) (hw : ∀ q ∈ c.wrs, q.1 < c.nt) (hi : ∀ q ∈ c.ins, q.1 < c.nt) (R : RhoOK ρ c.mv h n c.objs c.objs' c.next') (k3 : fitsAll fs ρ β h n c.objs ρ = true)
    {κ : Pl} {fr : Frame} {cs : List Frame} {w : World} (hs : Sim κ (Base.cfg ⟨c.f, c.nt, kind, below⟩ (.top ds) todo sl h n) fr cs w) {κp' : Pl} {fr' : Frame} {w' : World} {kk : List AItem} {md md' : AMode} (hkk : md = .run → kk.all pureI = true) (hmd : md' = .run → md = .run)
    (hmode : ∀ (κ' : Pl) fm, Under κp' κ' (sigmaM ρ c.mv n) → @MR J κp' md fm → MR κ' md' fm)
    (hs' : @Sim J κp' (Base.cfg ⟨c.f, c.nt, kind, []⟩ (.top (symD c.nt ds)) kk (slotsV c.nt (tailV c)) (resH c.objs') c.next' md) fr' [] w')
    (hgo : GoesM c.mv (κ.viaE ρ (envL c.nt fr)) { heap := layO c.objs, next := c.objs.length } w κp' { heap := resH c.objs', next := c.next' } w') :
    ∃ κ', Sim κ' (Base.cfg ⟨c.f, c.nt, kind, below⟩ (.top ds) kk (outL fs (sigmaM ρ c.mv n) β c sl) (backH fs ρ c.mv β c.objs' h n) (n + c.next') md') fr' cs w' ∧ Goes (· < n) κ { heap := h, next := n } w κ' { heap := backH fs ρ c.mv β c.objs' h n, next := n + c.next' } w' := by
  obtain ⟨⟨a1, a2, a3, a4, a5, a6, a7⟩, abelow, hrel⟩ := hs
  obtain ⟨⟨b1, b2, b3, b4, b5, b6, b7⟩, _, hrel'⟩ := hs'
  have hval := @SR.val J _ _ _ _ b2
  have hsz' : fr'.tmps.size = c.nt := @SR.size J _ _ _ _ b2
  have hsz : fr.tmps.size = c.nt := a2.size
  have hlim : c.nt < 1000000000 := a2.lim
  obtain ⟨κ', hu, hgo'⟩ := heap_back hfs hJ rfl R.len R.nd R.lt R.m9 R.mn R.lv R.lim R.nd' R.k8 (may_fit R.m9 k3 hrel) hrel hgo hrel'
  have hle : κ.le κ' := hgo'.le
  refine ⟨κ', ⟨⟨b1, ⟨hlim, hsz', fun t => ?_⟩, fun hm => pure_IR (κ := κp') (hkk (hmd hm)) (b3 (hmd hm)), ?_, hmode κ' _ hu b5, b6, ?_⟩, abelow.mono fun _ _ h => FR.mono hle h, hgo'.rel⟩, hgo'⟩
  · have hv : @V J κp' (slot (slotsV c.nt (tailV c)) t) (fr'.tmps.getD t undef) := hval t
    have hv0 : V κ (slot sl t) (fr.tmps.getD t undef) := a2.val t
    rw [slotsV_get hlim] at hv
    change V κ' (slot (outL fs (sigmaM ρ c.mv n) β c sl) t) _
    unfold outL
    rw [putS_get fun q hq => by have := hw q hq; omega]
    cases hfw : findS c.wrs t with
    | some p =>
      obtain ⟨q, hq, e1, _⟩ := findS_mem hfw
      have hlt := hw q hq
      rw [e1] at hlt
      rw [if_pos hlt] at hv
      simp only [tailV, hfw] at hv
      exact inst_V hJ hfs hu 30 hv
    | none =>
      simp only
      rw [putS_get fun q hq => by have := hi q hq; omega]
      cases hfi : findS c.ins t with
      | some p =>
        rw [if_pos (hins t p hfi).1] at hv
        simp only [tailV, hfw, hfi] at hv
        exact inst_V hJ hfs hu 30 hv
      | none =>
        simp only
        by_cases ht : t < c.nt
        · rw [if_pos ht] at hv
          simp only [tailV, hfw, hfi] at hv
          have henv : κp'.env t = some (fr.tmps.getD t undef) := hgo.env t _ (envL_lt ht hsz)
          have hx : ∀ x, @V J κp' (.sym t) x → x = fr.tmps.getD t undef := fun x hx => by
            cases hx with
            | sym e => rw [henv] at e; cases e; rfl
          rw [hx _ hv]
          exact hv0.mono hle
        · rw [undef_ge (by omega)] at hv0 ⊢
          exact hv0.mono hle
  · have h3 : ∀ {ds : List ADef} {dl : List Deferred}, SymOnly ds → @All2 _ _ (@DR J κp') ds dl → All2 (DR κp') ds dl := by
      intro ds
      induction ds with
      | nil => intro dl _ h; cases h; exact .nil
      | cons d ds ih =>
        intro dl hs h
        cases h with
        | cons x y =>
          cases x with
          | coll _ => cases hs
          | fn x1 x2 =>
            have hv : ∀ {l : List AVal} {vs : List Value}, (∀ a ∈ l, ∃ i, a = AVal.sym i) → @VL J κp' l vs → VL κp' l vs := by
              intro l
              induction l with
              | nil => intro vs _ h; cases h; exact .nil
              | cons a l ih =>
                intro vs hl h
                cases h with
                | cons p q =>
                  obtain ⟨i, rfl⟩ := hl a (List.mem_cons_self ..)
                  cases p with
                  | sym e => exact .cons (.sym e) (ih (fun a h => hl a (List.mem_cons_of_mem _ h)) q)
            exact .cons (.fn (hv hs.1 x1) (hv hs.2.1 x2)) (ih hs.2.2 y)
    have e : fr'.defers = fr.defers := symD_back (κ := κ) (κ2 := κp') a4 hd c.nt (fun i v hi => hgo.env _ v (envL_ds.trans hi)) (h3 (symD_only ds _ hd) b4)
    change All2 (DR κ') ds fr'.defers
    rw [e]
    exact a4.mono fun _ _ => DR.mono hle
  · change RO κ' none _
    generalize fr'.roundOf = md at b7
    cases b7; exact .none

theorem useL_ok {I : Interp} (ok : @Tab.OK I tb P) {c : LCon} {b : Code} {m : Bool} {sl : T AVal} {xd : X} {h : H} {n : Nat} {r : R1} (hu : useL tb.facts c m sl xd h n = some r)
    (hgood : ∀ v, @Holds (I.at v) c.facts → (m = true → (@SX.ev (I.at v) c.meas).int < (@SX.ev I c.meas).int ∧ 0 ≤ (@SX.ev (I.at v) c.meas).int) → @LGoodV (I.at v) P b c)
    (hds : ∀ ds, xd = .top ds → m = true → noColl ds = true) (kind : CallKind) (below : List AFr) (k : List AItem) (hk : k.all pureI = true) :
    @Ends I E P ⟨c.f, c.nt, kind, below⟩ k (Base.cfg ⟨c.f, c.nt, kind, below⟩ xd (.code b :: .inLoop b :: k) sl h n) r := by
  unfold useL at hu
  cases xd with
  | rnd l => cases hu
  | top ds =>
  simp only at hu
  generalize rhoFill (bindF tb.facts c.facts (bindOsL h c.objs 0 (bindS sl c.ins ⟨.leaf, .leaf⟩))).ρ n c.objs.length 0 = ρ at hu
  generalize betaOf (bindF tb.facts c.facts (bindOsL h c.objs 0 (bindS sl c.ins ⟨.leaf, .leaf⟩))).β = β at hu
  split at hu
  case h_2 => cases hu
  rename_i hcond
  cases hu
  simp only [Bool.and_eq_true] at hcond
  obtain ⟨⟨⟨⟨⟨c1, c2⟩, c3⟩, c4⟩, c5⟩, c6⟩ := hcond
  have c1 : noColl ds = true := by
    cases m with
    | true => exact hds ds rfl rfl
    | false => simpa using c1
  obtain ⟨R, k3⟩ := rhoOK_ok c5
  have hfs : @Holds I tb.facts := ok.holds
  have hvars := factsOK_holds (I := I) hfs c4
  obtain ⟨J, hJe⟩ : ∃ J, J = I.of β := ⟨_, rfl⟩
  have hJ : Of J I β := by rw [hJe]; exact SX.ev_sub I β
  have hg : @LGoodV J P b c := by
    rw [hJe]
    refine hgood _ hvars fun hm => ?_
    subst hm
    simp only [measOK, Bool.and_eq_true] at c6
    obtain ⟨d1, d2⟩ := c6
    split at d1
    case h_2 => cases d1
    rename_i b1 hb1
    split at d2
    case h_2 => cases d2
    rename_i b2 hb2
    subst d1
    have d2 : b2 = false := by simpa using d2
    subst d2
    have e1 := of_decide_eq_true ((@ltE I _ _).symm.trans (@decB_sound I _ hfs _ _ hb1))
    have e2 := of_decide_eq_false ((@ltE I _ _).symm.trans (@decB_sound I _ hfs _ _ hb2))
    rw [SX.ev_sub]
    exact ⟨e1, Int.not_lt.1 e2⟩
  have hins : ∀ t p, findS c.ins t = some p → t < c.nt ∧ fits tb.facts ρ β 30 p (slot sl t) = true := fun t p ht => by
    obtain ⟨q, hq, e1, e2⟩ := findS_mem ht
    have := List.all_eq_true.1 c2 q hq
    simp only [Bool.and_eq_true, Nat.blt_eq] at this
    rw [← e1, ← e2]; exact this
  have hw : ∀ q ∈ c.wrs, q.1 < c.nt := fun q hq => by
    have := List.all_eq_true.1 c3 q hq
    rwa [Nat.blt_eq] at this
  have hi : ∀ q ∈ c.ins, q.1 < c.nt := fun q hq => by
    have := List.all_eq_true.1 c2 q hq
    simp only [Bool.and_eq_true, Nat.blt_eq] at this; exact this.1
  have main : ∀ (kk : List AItem) (md md' : AMode), (md = .run → kk.all pureI = true) → (md' = .run → md = .run) →
      (∀ (κp' κ' : Pl) fm, Under κp' κ' (sigmaM ρ c.mv n) → @MR J κp' md fm → @MR I κ' md' fm) →
      @LeadsM J c.mv P (Base.cfg ⟨c.f, c.nt, kind, []⟩ (.top (symD c.nt ds)) (.code b :: .inLoop b :: k) (slotsV c.nt (headV c)) (layO c.objs) c.objs.length) (Base.cfg ⟨c.f, c.nt, kind, []⟩ (.top (symD c.nt ds)) kk (slotsV c.nt (tailV c)) (resH c.objs') c.next' md) →
      @Leads I E P (Base.cfg ⟨c.f, c.nt, kind, below⟩ (.top ds) (.code b :: .inLoop b :: k) sl h n) (Base.cfg ⟨c.f, c.nt, kind, below⟩ (.top ds) kk (outL tb.facts (sigmaM ρ c.mv n) β c sl) (backH tb.facts ρ c.mv β c.objs' h n) (n + c.next') md') := fun kk md md' h1 h2 h3 hL κ fr cs w hs _ cs0 => by
    obtain ⟨κp', fr', cs', w', hst, hs', hgo⟩ := hL _ fr [] w (enterL hfs hJ (by simp [pureI, hk]) c1 hins R.nd R.m9 k3 hs) (cs ++ cs0)
    have hcs : cs' = [] := by have := @Sim.below J _ _ _ _ _ hs'; generalize cs' = q at this; cases this; rfl
    subst hcs
    obtain ⟨κ', hs2, hgo2⟩ := backL hfs hJ c1 hins hw hi R k3 hs h1 h2 (h3 κp') hs' hgo
    exact ⟨κ', fr', cs, w', hst, hs2, hgo2⟩
  have hgg := hg kind k hk (symD c.nt ds) (symD_only ds _ c1)
  have hrun : ∀ (κp' κ' : Pl) fm, Under κp' κ' (sigmaM ρ c.mv n) → @MR J κp' .run fm → @MR I κ' .run fm := fun _ _ _ _ h => by
    have h2 : ∀ {J : Interp} {I : Interp} {κp' κ' : Pl} {fm : FrameMode}, @MR J κp' .run fm → @MR I κ' .run fm := fun {J I κp' κ' fm} h => by cases h; exact .run
    exact h2 h
  unfold resL at hgg
  cases hw : c.way with
  | nrm =>
    rw [hw] at hgg
    exact main k .run .run (fun _ => hk) (fun h => h) hrun hgg
  | ext id =>
    rw [hw] at hgg
    obtain ⟨k1, e1, p1, hgg⟩ := hgg
    exact ⟨k1, e1, p1, main _ .run .run (fun _ => by simpa [pureI] using p1.pure hk) (fun h => h) hrun hgg⟩
  | ret =>
    rw [hw] at hgg
    obtain ⟨k1, p1, hgg⟩ := hgg
    exact ⟨k1, p1, main _ .run .run (fun _ => by simpa [pureI] using p1.pure hk) (fun h => h) hrun hgg⟩
  | pan ch =>
    rw [hw] at hgg
    obtain ⟨k1, hgg⟩ := hgg
    have hch : ∀ {J : Interp} {I : Interp} {β : Nat → SX} {κp' κ' : Pl} {fm : FrameMode}, @Holds I tb.facts → Of J I β → Under κp' κ' (sigmaM ρ c.mv n) → @MR J κp' (.pan ch) fm → MR κ' (.pan (instCh tb.facts (sigmaM ρ c.mv n) β ch)) fm := fun {J I β κp' κ' fm} hfs hJ hu hm => by
      cases hm with
      | pan hp =>
        refine .pan ?_
        unfold instCh
        clear hgg hw
        generalize ch = l at hp
        generalize hl' : (_ : List PanicEntry) = l' at hp
        clear hl'
        induction hp with
        | nil => exact .nil
        | cons x y ih => exact .cons (@PR.mk I _ _ _ (inst_V hJ hfs hu 30 (@PR.v J _ _ _ x)) (by have h9 := @PR.recovered J _ _ _ x; exact h9) (@PR.goexit J _ _ _ x)) ih
    exact ⟨k1, main _ (.pan ch) (.pan (instCh tb.facts (sigmaM ρ c.mv n) β ch)) (fun h => by cases h) (fun h => by cases h) (fun κp' κ' fm hu hm => hch hfs hJ hu hm) hgg⟩
end
end Go.Proofs.YtiemogegdoogaaaGreat.Eng

namespace Go.Proofs.YtiemogegdoogaaaGreat.Eng
open Go

noncomputable def tailOK (fs : Facts) (ρ : List Nat) (c : LCon) (sl : T AVal) : Bool := (List.range c.nt).all fun t => match findS c.wrs t with
  | some p => fits fs ρ varB 30 p (slot sl t)
  | none => match findS c.ins t with
    | some p => fits fs ρ varB 30 p (slot sl t)
    | none => match slot sl t with | .sym i => Nat.beq i t | _ => false
noncomputable def objOK (fs : Facts) (ρ : List Nat) (h : H) (n : Nat) (q : Nat × PObj) : Bool := match ρ[q.1]? with
  | some j => match h.get j with | some o => fitsO fs ρ varB q.2 o | none => Nat.ble n j && absentF fs q.2
  | none => false
noncomputable def heapOK (fs : Facts) (ρ : List Nat) (c : LCon) (h : H) (n : Nat) : Bool :=
  Nat.beq ρ.length c.next' && Nat.ble c.objs.length c.next' && Nat.ble c.next' 1000000000 && nodupN ρ && nodupN (c.objs'.map (·.1)) && (c.objs'.all fun q => Nat.blt q.1 c.next' && objOK fs ρ h n q) &&
    (List.range c.objs.length).all fun i => memN i c.mv || match ρ[i]? with | some j => Nat.beq j i | none => false
noncomputable def bindSelf (mv : List Nat) : Nat → Nat → Bind → Bind
  | 0, _, s => s
  | k + 1, i, s => bindSelf mv k (i + 1) (match memN i mv with | true => s | false => bindI i i s)
noncomputable def bindOT (h : H) : List (Nat × PObj) → Bind → Bind
  | [], s => s
  | q :: l, s => bindOT h l (match s.ρ.get q.1 with | some j => (match h.get j with | some o => bindO q.2 o s | none => s) | none => s)
noncomputable def chOK (fs : Facts) (ρ : List Nat) : List (AVal × Bool) → List (AVal × Bool) → Bool
  | [], [] => true
  | p :: l, q :: m => fits fs ρ varB 30 p.1 q.1 && (p.2 == q.2) && chOK fs ρ l m
  | _, _ => false
noncomputable def chkT (fs : Facts) (c : LCon) (sl : T AVal) (xd : X) (h : H) (n : Nat) (more : List Nat → Bool) : Option X :=
  let s := bindOT h c.objs' (bindS sl c.ins (bindS sl c.wrs (bindSelf c.mv c.objs.length 0 ⟨.leaf, .leaf⟩)))
  let ρ := rhoFill s.ρ n c.next' 0
  match tailOK fs ρ c sl && heapOK fs ρ c h n && more ρ with
  | true => some xd
  | false => none
noncomputable def chkL (fs : Facts) (c : LCon) (r : R1) : Option X :=
  match r with
  | .nrm sl xd h n => match c.way with | .nrm => chkT fs c sl xd h n fun _ => true | _ => none
  | .ext id' sl xd h n => match c.way with | .ext id => (match Nat.beq id id' with | true => chkT fs c sl xd h n fun _ => true | false => none) | _ => none
  | .ret sl xd h n => match c.way with | .ret => chkT fs c sl xd h n fun _ => true | _ => none
  | .pan ch' sl xd h n => match c.way with | .pan ch => chkT fs c sl xd h n fun ρ => chOK fs ρ ch ch' | _ => none
  | .bad _ => none

section
variable [Interp] {fs : Facts} {ρ : List Nat} {c : LCon} {κ : Pl} {h : H} {n : Nat} {w : World} {P : Program} {E : Nat → Option Value}

theorem tail_SR (hf : Holds fs) {sl : T AVal} {tmps : Array Value} (hr : SR κ c.nt sl tmps) (hc : tailOK fs ρ c sl = true) : SR (κ.via ρ) c.nt (slotsV c.nt (tailV c)) tmps := by
  refine ⟨hr.lim, hr.size, fun t => ?_⟩
  rw [slotsV_get hr.lim]
  have hv := hr.val t
  by_cases ht : t < c.nt
  · rw [if_pos ht]
    have h1 := List.all_eq_true.1 hc t (List.mem_range.2 ht)
    unfold tailV
    split at h1
    · rename_i p hp
      try simp only [hp]
      exact fits_V hf (of_self _) 30 h1 hv
    · rename_i hp
      split at h1
      · rename_i q hq
        try simp only [hp, hq]
        exact fits_V hf (of_self _) 30 h1 hv
      · rename_i hq
        try simp only [hp, hq]
        split at h1
        · rename_i i hs
          rw [hs] at hv
          rw [nbeq h1] at hv
          generalize tmps.getD t undef = x at hv
          cases hv with | sym e => exact .sym e
        · cases h1
  · rw [if_neg ht]
    have : tmps.getD t undef = undef := by
      simp only [Array.getD_eq_getD_getElem?]
      rw [Array.getElem?_eq_none (by rw [hr.size]; omega)]; rfl
    rw [this]; exact .lit _

structure HeapOK (fs : Facts) (ρ : List Nat) (c : LCon) (h : H) (n : Nat) : Prop where
  len : ρ.length = c.next'
  mn : c.objs.length ≤ c.next'
  lim : c.next' ≤ 1000000000
  nd : ρ.Nodup
  nd' : (c.objs'.map (·.1)).Nodup
  lt : ∀ q ∈ c.objs', q.1 < c.next'
  ob : ∀ q ∈ c.objs', ∃ j, ρ[q.1]? = some j ∧ ((∃ o, h.get j = some o ∧ fitsO fs ρ varB q.2 o = true) ∨ (h.get j = none ∧ n ≤ j ∧ absentF fs q.2 = true))
  own : ∀ i, i < c.objs.length → i ∉ c.mv → ρ[i]? = some i
theorem heapOK_ok (hc : heapOK fs ρ c h n = true) : HeapOK fs ρ c h n := by
  simp only [heapOK, Bool.and_eq_true] at hc
  obtain ⟨⟨⟨⟨⟨⟨h1, h2⟩, h3⟩, h4⟩, h5⟩, h6⟩, h7⟩ := hc
  refine ⟨nbeq h1, Nat.le_of_ble_eq_true h2, Nat.le_of_ble_eq_true h3, nodupN_nodup h4, nodupN_nodup h5, fun q hq => ?_, fun q hq => ?_, fun i hi hm => ?_⟩
  · have := List.all_eq_true.1 h6 q hq
    simp only [Bool.and_eq_true, Nat.blt_eq] at this; exact this.1
  · have := List.all_eq_true.1 h6 q hq
    simp only [Bool.and_eq_true] at this
    have h8 := this.2
    unfold objOK at h8
    split at h8
    case h_2 => cases h8
    rename_i j hj
    refine ⟨j, hj, ?_⟩
    split at h8
    · rename_i o ho; exact .inl ⟨o, ho, h8⟩
    · rename_i ho
      simp only [Bool.and_eq_true] at h8
      exact .inr ⟨ho, Nat.le_of_ble_eq_true h8.1, h8.2⟩
  · have := List.all_eq_true.1 h7 i (List.mem_range.2 hi)
    rw [Bool.or_eq_true, memN_iff] at this
    rcases this with h8 | h8
    · exact absurd h8 hm
    · exact atR_eq (ρ := ρ) h8

theorem tail_Rel (hf : Holds fs) (hr : Rel κ { heap := h, next := n } w) (H : HeapOK fs ρ c h n) : Rel (κ.via ρ) { heap := resH c.objs', next := c.next' } w ∧
    (∀ i b, ({ heap := resH c.objs', next := c.next' } : St).live i → κ.via ρ i = some b → ∃ j, κ j = some b ∧ ({ heap := h, next := n } : St).live j) ∧
    (∀ i b, ({ heap := resH c.objs', next := c.next' } : St).may i → κ.via ρ i = some b → ∃ j, κ j = some b ∧ ({ heap := h, next := n } : St).may j) := by
  have hget := resH_get (l := c.objs') (fun q hq => by have := H.lt q hq; have := H.lim; omega) H.nd'
  have hobj : ∀ i o, (resH c.objs').get i = some o → ∃ q ∈ c.objs', q.1 = i ∧ o = q.2.obj := fun i o ho => by
    rw [hget] at ho
    cases hf : c.objs'.find? (fun q => q.1 == i) with
    | none => rw [hf] at ho; cases ho
    | some q =>
      rw [hf] at ho
      cases ho
      exact ⟨q, List.mem_of_find?_eq_some hf, by simpa using List.find?_some hf, rfl⟩
  have hvia : ∀ i b, κ.via ρ i = some b → ∃ j, ρ[i]? = some j ∧ κ j = some b := fun i b hb => by
    change (ρ[i]?).bind κ.on = some b at hb
    cases hj : ρ[i]? with
    | none => rw [hj] at hb; cases hb
    | some j => rw [hj] at hb; exact ⟨j, rfl, hb⟩
  have hlive : ∀ i, ({ heap := resH c.objs', next := c.next' } : St).live i → ∃ q ∈ c.objs', q.1 = i := fun i hl => by
    unfold St.live at hl
    cases hg : (resH c.objs').get i with
    | none => exact absurd hg hl
    | some o => obtain ⟨q, h1, h2, _⟩ := hobj i o hg; exact ⟨q, h1, h2⟩
  have hlv : ∀ i b, ({ heap := resH c.objs', next := c.next' } : St).live i → κ.via ρ i = some b → ∃ j, ρ[i]? = some j ∧ κ j = some b ∧ ({ heap := h, next := n } : St).live j := fun i b hl hb => by
    obtain ⟨q, hq, e⟩ := hlive i hl
    obtain ⟨j, hj, hx⟩ := H.ob q hq
    obtain ⟨j', hj', hb'⟩ := hvia i b hb
    rw [e, hj'] at hj; cases hj
    rcases hx with ⟨o, ho, _⟩ | ⟨_, hx, _⟩
    · exact ⟨j, hj', hb', live_of ho⟩
    · rw [hr.fresh j hx] at hb'; cases hb'
  refine ⟨⟨H.lim, fun i hi => ?_, fun i b hb => ?_, fun i j b hi hj h1 h2 => ?_, hr.room, fun i o hg => ?_, fun i hi hl => ?_⟩, fun i b hl hb => ?_, fun i b hl hb => ?_⟩
  · change (ρ[i]?).bind κ.on = none
    rw [List.getElem?_eq_none (by rw [H.len]; exact hi)]; rfl
  · obtain ⟨j, _, h2⟩ := hvia i b hb
    exact hr.size _ _ h2
  · obtain ⟨i', a1, a2, a3⟩ := hlv i b hi h1
    obtain ⟨j', b1, b2, b3⟩ := hlv j b hj h2
    have e := hr.inj _ _ b a3 b3 a2 b2
    subst e
    exact (List.getElem?_inj (List.getElem?_eq_some_iff.1 a1).1 H.nd).1 (a1.trans b1.symm)
  · obtain ⟨q, hq, e, eo⟩ := hobj i o hg
    subst eo
    obtain ⟨j, hj, hx⟩ := H.ob q hq
    rw [e] at hj
    have ev : κ.via ρ i = κ j := by
      change (ρ[i]?).bind κ.on = _
      rw [hj]; rfl
    rcases hx with ⟨o, ho, hft⟩ | ⟨_, hx, hab⟩
    · rcases hr.obj j o ho with ⟨b, ob, k1, k2, k3⟩ | ⟨k1, k2⟩
      · exact .inl ⟨b, ob, ev.trans k1, k2, fitsO_ORel hf (of_self _) hft k3⟩
      · exact .inr ⟨ev.trans k1, fitsO_bare hf (of_self _) hft k2⟩
    · exact .inr ⟨ev.trans (hr.fresh j hx), absentF_bare hf hab⟩
  · obtain ⟨q, hq, e⟩ := hlive i hl
    have := H.lt q hq
    simp only at hi; omega
  · obtain ⟨j, _, h2, h3⟩ := hlv i b hl hb; exact ⟨j, h2, h3⟩
  · obtain ⟨o, h1, h2⟩ := hl
    obtain ⟨q, hq, e, eo⟩ := hobj i o h1
    obtain ⟨j, hj, hb', hl'⟩ := hlv i b (live_of h1) hb
    obtain ⟨j', hj', hx⟩ := H.ob q hq
    rw [e, hj] at hj'; cases hj'
    rcases hx with ⟨o', ho, hft⟩ | ⟨hx, _, _⟩
    · exact ⟨j, hb', o', ho, by rw [fitsO_win hft, ← eo]; exact h2⟩
    · exact absurd hx hl'

theorem wk_leads (hf : Holds fs) {B : Base} {c0 : Cfg} {ds : List ADef} {kk : List AItem} {sl : T AVal} {md md' : AMode} (hnt : B.nt = c.nt) (hb : B.below = []) (hds : SymOnly ds) (hkk : md = .run → kk.all pureI = true) (hmd : md' = .run → md = .run)
    (hmode : ∀ (κ : Pl) fm, MR κ md fm → MR (κ.via ρ) md' fm) (hst : c0.st.next = c.objs.length)
    (hL : Leads (fun _ => none) P c0 (B.cfg (.top ds) kk sl h n md)) (h1 : tailOK fs ρ c sl = true) (h2 : HeapOK fs ρ c h n) :
    LeadsM c.mv P c0 (B.cfg (.top ds) kk (slotsV c.nt (tailV c)) (resH c.objs') c.next' md') := by
  intro κ fr cs w hs cs0
  obtain ⟨κ1, fr1, cs1, w1, hst1, hs1, hgo⟩ := hL κ fr cs w hs (fun _ _ h => by cases h) cs0
  obtain ⟨⟨a1, a2, a3, a4, a5, a6, a7⟩, abelow, hrel⟩ := hs1
  obtain ⟨fn, nt, kind, below⟩ := B
  simp only at hnt hb
  subst hnt; subst hb
  simp only [Base.cfg, Base.fr, X.ds, X.ro] at a1 a2 a3 a4 a5 a6 a7 abelow hrel
  have hcs : cs1 = [] := by generalize cs1 = q at abelow; cases abelow; rfl
  subst hcs
  obtain ⟨r1, r2, r3⟩ := tail_Rel hf hrel h2
  refine ⟨κ1.via ρ, fr1, [], w1, hst1, ⟨⟨a1, tail_SR hf a2 h1, fun hm => pure_IR (hkk (hmd hm)) (a3 (hmd hm)), SymOnly.dr (κ := κ1) (κ' := κ1.via ρ) (fun _ _ h => h) hds a4, hmode _ _ a5, a6, ?_⟩, .nil, r1⟩, ?_⟩
  · simp only [Base.cfg, Base.fr, X.ro]
    generalize fr1.roundOf = q at a7
    cases a7; exact .none
  · refine ⟨fun i b hi hk => ?_, hgo.le.room, hgo.le.env, ?_, hgo.size, hgo.old, fun i b hl hk => ?_, fun i b hl hk => ?_, fun i hi hm hk => ?_, hgo.os, hgo.output, hgo.tape⟩
    · have hlt : i < c.objs.length := by
        rcases Nat.lt_or_ge i c.objs.length with h3 | h3
        · exact h3
        · rw [hs.rel.fresh i (by rw [hst]; exact h3)] at hk; cases hk
      change (ρ[i]?).bind κ1.on = some b
      rw [h2.own i hlt hi]
      exact hgo.le.on i b hk
    · rw [hst]; exact h2.mn
    · obtain ⟨j, h3, h4⟩ := r2 i b hl hk
      exact hgo.born j b h4 h3
    · obtain ⟨j, h3, h4⟩ := r3 i b hl hk
      exact hgo.bornM j b h4 h3
    · rw [hst] at hi
      change (ρ[i]?).bind κ1.on = none
      rw [h2.own i hi hm]
      exact hgo.unborn i (by rw [hst]; exact hi) hk

theorem chOK_MR (hf : Holds fs) {ch ch' : List (AVal × Bool)} (h : chOK fs ρ ch ch' = true) (κ : Pl) (fm : FrameMode) (hm : MR κ (.pan ch') fm) : MR (κ.via ρ) (.pan ch) fm := by
  cases hm with
  | pan hp =>
    refine .pan ?_
    generalize hl' : (_ : List PanicEntry) = l' at hp
    clear hl'
    induction hp generalizing ch with
    | nil => cases ch with | nil => exact .nil | cons _ _ => cases h
    | cons x y ih =>
      cases ch with
      | nil => cases h
      | cons p ch =>
        simp only [chOK, Bool.and_eq_true] at h
        exact .cons ⟨fits_V hf (of_self _) 30 h.1.1 x.v, by rw [x.recovered, eq_of_beq h.1.2], x.goexit⟩ (ih h.2)

theorem chk_ends (hf : Holds fs) {kind : CallKind} {k : List AItem} (hk : k.all pureI = true) {c0 : Cfg} (hst : c0.st.next = c.objs.length) {r : R1} {ds : List ADef} (hds : SymOnly ds) (hE : Ends (fun _ => none) P ⟨c.f, c.nt, kind, []⟩ k c0 r) (hc : chkL fs c r = some (.top ds)) :
    LEnds c.mv P ⟨c.f, c.nt, kind, []⟩ k c0 (resL c (.top ds)) := by
  have hT : ∀ {sl xd h n more}, chkT fs c sl xd h n more = some (.top ds) → ∃ ρ, xd = .top ds ∧ tailOK fs ρ c sl = true ∧ HeapOK fs ρ c h n ∧ more ρ = true := fun {sl xd h n more} he => by
    unfold chkT at he
    simp only at he
    generalize rhoFill _ n c.next' 0 = ρ at he
    split at he
    · rename_i hq
      cases he
      simp only [Bool.and_eq_true] at hq
      exact ⟨ρ, rfl, hq.1.1, heapOK_ok hq.1.2, hq.2⟩
    · cases he
  have hrun : ∀ {ρ : List Nat} (κ : Pl) fm, MR κ .run fm → MR (κ.via ρ) .run fm := fun _ _ h => by cases h; exact .run
  unfold resL
  unfold chkL at hc
  cases r with
  | bad w => cases hc
  | nrm sl xd h n =>
    simp only at hc
    split at hc
    case h_2 => cases hc
    rename_i hw
    obtain ⟨ρ, rfl, h1, h2, _⟩ := hT hc
    rw [hw]
    exact wk_leads hf rfl rfl hds (fun _ => hk) (fun h => h) hrun hst hE h1 h2
  | ext id' sl xd h n =>
    simp only at hc
    split at hc
    case h_2 => cases hc
    rename_i id hw
    split at hc
    case h_2 => cases hc
    rename_i hid
    have hid := nbeq hid
    subst hid
    obtain ⟨ρ, rfl, h1, h2, _⟩ := hT hc
    rw [hw]
    obtain ⟨k1, e1, p1, hE⟩ := hE
    exact ⟨k1, e1, p1, wk_leads hf rfl rfl hds (fun _ => by simp [pureI, p1.pure hk]) (fun h => h) hrun hst hE h1 h2⟩
  | ret sl xd h n =>
    simp only at hc
    split at hc
    case h_2 => cases hc
    rename_i hw
    obtain ⟨ρ, rfl, h1, h2, _⟩ := hT hc
    rw [hw]
    obtain ⟨k1, p1, hE⟩ := hE
    exact ⟨k1, p1, wk_leads hf rfl rfl hds (fun _ => by simp [pureI, p1.pure hk]) (fun h => h) hrun hst hE h1 h2⟩
  | pan ch' sl xd h n =>
    simp only at hc
    split at hc
    case h_2 => cases hc
    rename_i ch hw
    obtain ⟨ρ, rfl, h1, h2, h3⟩ := hT hc
    rw [hw]
    obtain ⟨k1, hE⟩ := hE
    exact ⟨k1, wk_leads hf rfl rfl hds (fun h => by cases h) (fun h => by cases h) (fun κ fm hm => chOK_MR hf h3 κ fm hm) hst hE h1 h2⟩
end

noncomputable def beqP : List Bool → List Bool → Bool
  | [], [] => true
  | a :: l, b :: m => (a == b) && beqP l m
  | _, _ => false
theorem beqP_eq : ∀ {l m : List Bool}, beqP l m = true → l = m
  | [], [], _ => rfl
  | a :: l, b :: m, h => by simp only [beqP, Bool.and_eq_true] at h; rw [eq_of_beq h.1, beqP_eq h.2]
  | [], _ :: _, h => by cases h
  | _ :: _, [], h => by cases h
noncomputable def tryL (fs : Facts) : List LCon → CK → Fn1
  | [], k => k.run
  | c :: l, k => fun e sl xd h n => match useL fs c false sl xd h n with
    | some r => r
    | none => tryL fs l k e sl xd h n
noncomputable def mine (f nt : Nat) (π : List Bool) : List LCon → List LCon
  | [] => []
  | c :: l => match Nat.beq c.f f && Nat.beq c.nt nt && beqP c.pl π with
    | true => c :: mine f nt π l
    | false => mine f nt π l
noncomputable def lpK (tb : Tab) (cs : List LCon) (f : Nat) : List Bool → CK → CK := fun π k =>
  match tb.func f with
  | none => k
  | some F => match mine f F.ntmps π cs with
    | [] => k
    | l => .mk (tryL tb.facts l k)

section
variable {tb : Tab} {P : Program} {E : Nat → Option Value}
theorem tryL_ok {I : Interp} (ok : @Tab.OK I tb P) {b : Code} {f nt : Nat} : ∀ {l : List LCon}, (∀ c ∈ l, c.f = f ∧ c.nt = nt ∧ LGood tb P I c ∧ AtLoop tb c b) → ∀ (k : CK), @CodeOK I E tb P f nt (.loop b) k.run → @CodeOK I E tb P f nt (.loop b) (tryL tb.facts l k)
  | [], _, k, hk => hk
  | c :: l, hl, k, hk => fun e he kind below K hK sl xd h n => by
    have ih := tryL_ok ok (fun c' hc' => hl c' (List.mem_cons_of_mem _ hc')) k hk e he kind below K hK sl xd h n
    obtain ⟨h1, h2, h3, h4⟩ := hl c (List.mem_cons_self ..)
    subst h1; subst h2
    change @Ends I E P _ K _ (match useL tb.facts c false sl xd h n with | some r => r | none => tryL tb.facts l k e sl xd h n)
    cases hu : useL tb.facts c false sl xd h n with
    | none => exact ih
    | some r => exact @Ends.of I E P _ _ _ _ (@Leads.step I E tb P ok _ _ (step_run rfl rfl)) _ (useL_ok ok hu (fun v hv _ => h3 b h4 v hv) (fun _ _ h => by cases h) kind below K hK)

theorem lpK_ok {I : Interp} (ok : @Tab.OK I tb P) {cs : List LCon} (hcs : ∀ c ∈ cs, LGood tb P I c) {f : Nat} {F : Func} {c0 : Code} (hF : tb.func f = some F) (hb : F.body = some c0) : @LpOK I E tb P f F.ntmps c0 (lpK tb cs f) := by
  intro π k b hπ hk
  unfold lpK
  rw [hF]
  simp only
  have hm : ∀ (cs : List LCon), (∀ c ∈ cs, LGood tb P I c) → ∀ c ∈ mine f F.ntmps π cs, c.f = f ∧ c.nt = F.ntmps ∧ LGood tb P I c ∧ AtLoop tb c b := by
    intro cs
    induction cs with
    | nil => intro _ c hc; cases hc
    | cons d cs ih =>
      intro hcs c hc
      have ih := ih (fun c hc => hcs c (List.mem_cons_of_mem _ hc))
      simp only [mine] at hc
      split at hc
      · rename_i hq
        simp only [Bool.and_eq_true] at hq
        rcases List.mem_cons.1 hc with e | hc
        · subst e
          have e1 := nbeq hq.1.1
          have e2 := nbeq hq.1.2
          have e3 := beqP_eq hq.2
          exact ⟨e1, e2, hcs c (List.mem_cons_self ..), F, c0, by rw [e1]; exact hF, hb, e2.symm, by rw [e3]; exact hπ⟩
        · exact ih c hc
      · exact ih c hc
  have := hm cs hcs
  split
  · exact hk
  · exact tryL_ok ok this k hk

theorem LGood.knows {I : Interp} {c : LCon} (h : LGood tb P I c) (v : Nat → D) (fs : Facts) : LGood (tb.knows fs) P (I.at v) c := fun b hb v' hv => h b hb v' hv

noncomputable def appX : Option (List X) → Option (List X) → Option (List X)
  | some a, some b => some (a ++ b)
  | _, _ => none
noncomputable def allX (L : Nat → Facts → Facts) (p : Facts → Option X) : ST → Facts → Option (List X)
  | .leaf, fs => match p fs with | some x => some [x] | none => none
  | .br e t f, fs => appX (allX L p t ((e, true) :: fs)) (allX L p f ((e, false) :: fs))
  | .lem i t, fs => allX L p t (L i fs ++ fs)
  | .no i, fs => match (L i fs).any (against fs) with | true => some [] | false => none
theorem allX_ok [Interp] {L : Nat → Facts → Facts} (hL : ∀ i fs, Holds fs → Holds (L i fs)) {p : Facts → Option X} : ∀ {t : ST} {fs : Facts} {xs : List X}, allX L p t fs = some xs → Holds fs → ∃ fs', Holds fs' ∧ ∃ x ∈ xs, p fs' = some x
  | .leaf, fs, xs, h, hf => by
    simp only [allX] at h
    split at h
    · rename_i x hx; cases h; exact ⟨fs, hf, x, List.mem_cons_self .., hx⟩
    · cases h
  | .br e t f, fs, xs, h, hf => by
    simp only [allX] at h
    cases h1 : allX L p t ((e, true) :: fs) with
    | none => rw [h1] at h; cases h
    | some a =>
      cases h2 : allX L p f ((e, false) :: fs) with
      | none => rw [h1, h2] at h; cases h
      | some b =>
        rw [h1, h2] at h
        cases h
        cases he : e.ev.tr with
        | true =>
          obtain ⟨fs', q1, x, q2, q3⟩ := allX_ok hL h1 (List.forall_mem_cons.2 ⟨he, hf⟩)
          exact ⟨fs', q1, x, List.mem_append_left _ q2, q3⟩
        | false =>
          obtain ⟨fs', q1, x, q2, q3⟩ := allX_ok hL h2 (List.forall_mem_cons.2 ⟨he, hf⟩)
          exact ⟨fs', q1, x, List.mem_append_right _ q2, q3⟩
  | .lem i t, fs, xs, h, hf => allX_ok hL (t := t) h fun q hq => (List.mem_append.1 hq).elim (hL i fs hf q) (hf q)
  | .no i, fs, xs, h, hf => by
    simp only [allX] at h
    cases hb : (L i fs).any (against fs) with
    | false => rw [hb] at h; cases h
    | true =>
    obtain ⟨q, hq, ha⟩ := List.any_eq_true.1 hb
    have h1 := hL i fs hf q hq
    unfold against at ha
    split at ha
    · rename_i b hb
      have h2 := decB_sound hf hb
      rw [h1] at h2
      rw [h2] at ha
      simp at ha
    · cases ha

noncomputable def useM (fs : Facts) (c : LCon) : Fn1 := fun _ sl xd h n => match useL fs c true sl xd h n with | some r => r | none => .bad "the head again"

theorem useL_xd {fs fs' : Facts} {c c' : LCon} {m : Bool} {sl : T AVal} {xd x : X} {h : H} {n : Nat} {r : R1} (hu : useL fs c m sl xd h n = some r) (hc : chkL fs' c' r = some x) : xd = x := by
  have hT : ∀ {sl xd h n more}, chkT fs' c' sl xd h n more = some x → xd = x := fun {sl xd h n more} he => by
    unfold chkT at he
    simp only at he
    split at he
    · cases he; rfl
    · cases he
  unfold useL at hu
  cases xd with
  | rnd l => cases hu
  | top ds =>
  simp only at hu
  split at hu
  case h_2 => cases hu
  cases hu
  unfold outW at hc
  split at hc <;> (unfold chkL at hc; simp only at hc; split at hc)
  all_goals first | exact hT hc | (cases hc; done) | skip
  split at hc
  · exact hT hc
  · cases hc
theorem SymOnly.noColl : ∀ {ds : List ADef}, SymOnly ds → noColl ds = true
  | [], _ => rfl
  | .fn _ _ _ :: r, h => SymOnly.noColl (ds := r) h.2.2
  | .coll _ :: _, h => by cases h
theorem bindR_ends1 [Interp] {E : Nat → Option Value} {P : Program} {B : Base} {k k' : List AItem} {c0 : Cfg} {r : R1} {e : Ev} {g : Fn1} (hr : Ends E P B k' c0 r) (hx : ∀ id, exitA id k' = exitA id k) (hp : Pre k' k) (hg : ∀ sl xd h n, r = .nrm sl xd h n → Ends E P B k (B.cfg xd k' sl h n) (g e sl xd h n)) :
    Ends E P B k c0 (bindR r e g) := by
  cases r with
  | nrm sl xd h n => exact Ends.of hr (hg _ _ _ _ rfl)
  | ext id sl xd h n => obtain ⟨k1, h1, p1, h2⟩ := hr; exact ⟨k1, h1.trans (hx id), p1.trans hp, h2⟩
  | ret sl xd h n => obtain ⟨k1, p1, h2⟩ := hr; exact ⟨k1, p1.trans hp, h2⟩
  | pan ch sl xd h n => exact hr
  | bad w => trivial

noncomputable def bodyAt (tb : Tab) (c : LCon) : Option Code := match tb.func c.f with
  | some F => match Nat.beq F.ntmps c.nt with
    | true => match F.body with
      | some c0 => match codeAt c0 c.pl with
        | some x => match x with | .loop b => some b | _ => none
        | none => none
      | none => none
    | false => none
  | none => none
theorem bodyAt_ok {c : LCon} {b : Code} (h : bodyAt tb c = some b) : ∃ F c0, tb.func c.f = some F ∧ F.body = some c0 ∧ F.ntmps = c.nt ∧ codeAt c0 c.pl = some (.loop b) := by
  unfold bodyAt at h
  split at h
  case h_2 => cases h
  rename_i F hF
  split at h
  case h_2 => cases h
  rename_i hn
  split at h
  case h_2 => cases h
  rename_i c0 hc
  split at h
  case h_2 => cases h
  rename_i x hx
  split at h
  case h_2 => cases h
  cases h
  exact ⟨F, c0, hF, hc, nbeq hn, hx⟩

noncomputable def roundL (tb : Tab) (P : Program) (e : Ev) (lps : List LCon) (c : LCon) (ds : List ADef) : R1 :=
  match bodyAt tb c with
  | some b => bindR ((codeKL tb P (lpK tb lps c.f) (cdN tb P 20) c.f c.nt b (false :: c.pl)).run e (slotsV c.nt (headV c)) (.top ds) (layO c.objs) c.objs.length) e (useM tb.facts c)
  | none => .bad "no loop"

theorem lcon_good {I : Interp} (hok : ∀ [Interp], tb.OK P) {c : LCon} {l : List Con} {d : Nat} (hl : ∀ c' ∈ l, ConGood (fun _ => none) tb P I c') {lps : List LCon} (hlps : ∀ q ∈ lps, LGood tb P I q)
    {L : Nat → Facts → Facts} (hL : ∀ v : Nat → D, ∀ i fs, @Holds (I.at v) fs → @Holds (I.at v) (L i fs)) {t : ST} {m : Nat}
    (h : ∀ ds, allX L (fun fs => chkL fs c (roundL (tb.knows fs) P (evR (tb.knows fs) P l d) lps c ds)) t c.facts = some (List.replicate m (.top ds))) : LGood tb P I c := by
  intro b hb
  obtain ⟨F, c0, hF, hbd, hnt, hat⟩ := hb
  suffices H : ∀ N v, (@SX.ev (I.at v) c.meas).int.toNat < N → @Holds (I.at v) c.facts → @LGoodV (I.at v) P b c from fun v hv => H _ v (Nat.lt_succ_self _) hv
  intro N
  induction N with
  | zero => intro v h; exact absurd h (Nat.not_lt_zero _)
  | succ N ih =>
    intro v hN hv kind k hk ds hds
    obtain ⟨fs', hf', x, hx, hp⟩ := @allX_ok (I.at v) L (hL v) _ t c.facts _ (h ds) hv
    have hx : x = .top ds := List.eq_of_mem_replicate hx
    subst hx
    have ok' : @Tab.OK (I.at v) (tb.knows fs') P := @Tab.OK.knows (I.at v) tb P fs' (@hok (I.at v)) hf'
    have hev : @EvFOK (I.at v) (fun _ => none) (tb.knows fs') P (evR (tb.knows fs') P l d) := @evR_ok (fun _ => none) (tb.knows fs') P (I.at v) ok' l (fun c' hc' => hl c' hc') d
    refine @chk_ends (I.at v) fs' c P hf' kind k hk _ rfl _ ds hds ?_ hp
    unfold roundL
    cases hbb : bodyAt (tb.knows fs') c with
    | none => trivial
    | some b' =>
      obtain ⟨F', c0', g1, g2, g3, g4⟩ := bodyAt_ok hbb
      have g1 : tb.func c.f = some F' := g1
      rw [hF] at g1; cases g1
      rw [hbd] at g2; cases g2
      rw [hat] at g4; cases g4
      simp only
      have hlp : @LpOK (I.at v) (fun _ => none) (tb.knows fs') P c.f F.ntmps c0 (lpK (tb.knows fs') lps c.f) := lpK_ok ok' (fun q hq => (hlps q hq).knows v fs') hF hbd
      rw [hnt] at hlp
      have pb : codeAt c0 (false :: c.pl) = some b := by simp only [codeAt, hat, childC, cond_false]
      have hcode := @codeKL_ok (I.at v) (fun _ => none) (tb.knows fs') P _ ok' (@drawP_ok (I.at v) (fun _ => none) (tb.knows fs') P ok') (@cdN_ok (I.at v) (fun _ => none) (tb.knows fs') P ok' (@drawP_ok (I.at v) (fun _ => none) (tb.knows fs') P ok') 20) c.f c.nt c0 _ hlp b (false :: c.pl) pb (evR (tb.knows fs') P l d) hev kind [] (.inLoop b :: k) (by simp [pureI, hk]) (slotsV c.nt (headV c)) (.top ds) (layO c.objs) c.objs.length
      refine @bindR_ends1 (I.at v) (fun _ => none) P ⟨c.f, c.nt, kind, []⟩ k (.inLoop b :: k) _ _ _ _ hcode (fun id => rfl) (.cons rfl) fun sl xd h n hrn => ?_
      have hp2 := hp
      unfold roundL at hp2
      rw [hbb] at hp2
      simp only at hp2
      rw [hrn] at hp2
      change chkL fs' c (useM (tb.knows fs').facts c (evR (tb.knows fs') P l d) sl xd h n) = _ at hp2
      unfold useM at hp2 ⊢
      cases hu : useL (tb.knows fs').facts c true sl xd h n with
      | none => trivial
      | some r =>
        rw [hu] at hp2
        have hxd := useL_xd hu hp2
        simp only
        exact @Ends.of (I.at v) _ P _ _ _ _ (@Leads.step (I.at v) _ (tb.knows fs') P ok' _ _ (step_run rfl rfl)) _ (useL_ok ok' hu (fun v' hv' hm => ih v' (by have h8 := (hm rfl).1; have h9 := (hm rfl).2; omega) hv') (fun ds' h1 _ => by rw [hxd] at h1; cases h1; exact hds.noColl) kind [] k hk)

theorem con_loops {I : Interp} (hok : ∀ [Interp], tb.OK P) {c : Con} {l : List Con} {d : Nat} (hl : ∀ c' ∈ l, ConGood E tb P I c') {lps : List LCon} (hlps : ∀ q ∈ lps, LGood tb P I q) {L : Nat → Facts → Facts} (hL : ∀ v : Nat → D, ∀ i fs, @Holds (I.at v) fs → @Holds (I.at v) (L i fs)) {t : ST}
    (h : allT L (fun fs => asWritten { c with facts := fs } (callFL (tb.knows fs) P (lpK (tb.knows fs) lps c.f) (evR (tb.knows fs) P l d) c.f c.args (layO c.objs) c.objs.length)) t c.facts = true) : ConGood E tb P I c := by
  intro v hv
  obtain ⟨fs', h1, h2⟩ := @allT_ok (I.at v) L (hL v) _ t c.facts h hv
  have ok' : @Tab.OK (I.at v) (tb.knows fs') P := @Tab.OK.knows (I.at v) tb P fs' (@hok (I.at v)) h1
  have hD := @drawP_ok (I.at v) E (tb.knows fs') P ok'
  have hE := @callFL_ends (I.at v) E (tb.knows fs') P ok' hD _ (@evR_ok E (tb.knows fs') P (I.at v) ok' l (fun c' hc' => hl c' hc') d) (lpK (tb.knows fs') lps c.f) c.f (fun F c0 hF hb => lpK_ok ok' (fun q hq => (hlps q hq).knows v fs') hF hb) c.args (layO c.objs) c.objs.length
  generalize callFL (tb.knows fs') P (lpK (tb.knows fs') lps c.f) (evR (tb.knows fs') P l d) c.f c.args (layO c.objs) c.objs.length = r at h2 hE
  cases r with
  | bad w => cases h2
  | pan ch h' n' => cases h2
  | ret x h' n' =>
    obtain ⟨g, hg, H⟩ := hE
    refine ⟨g, hg, fun κ fr w hfr hrel hEn cs => ?_⟩
    obtain ⟨κ', fr', w', y, hst, hlv, hy, hgo, hfn⟩ := H κ fr w hfr hrel hEn cs
    obtain ⟨k1, k2⟩ := @Goes.written (I.at v) _ _ _ _ _ _ _ _ { c with facts := fs' } _ h1 hgo h2 (fun i hi => hi)
    exact ⟨κ', fr', w', y, hst, hlv, k2 y hy, k1, hfn⟩
end
end Go.Proofs.YtiemogegdoogaaaGreat.Eng

namespace Go.Proofs.YtiemogegdoogaaaGreat.Eng
open Go
section
variable [Interp] {tb : Tab} {P : Program}

theorem FR.read (ok : tb.OK P) {κ : Pl} {f : FuncId} {args : List AVal} {g : AFr} {fr : Frame} (hg : enterA tb f args .normal = some g) (h : FR κ g fr) : ∃ vs : List Value, VL κ args vs ∧ fr = Frame.enter P f vs.toArray .normal := by
  obtain ⟨F, c, h1, h2, h3, h4, e⟩ := enterA_some hg
  have hg0 := hg
  subst e
  obtain ⟨fn, tmps, todo, defers, mode, kind, ro⟩ := fr
  obtain ⟨a1, a2, a3, a4, a5, a6, a7⟩ := h
  simp only at a1 a2 a3 a4 a5 a6 a7
  have hval := a2.val
  have hsz : tmps.size = F.ntmps := a2.size
  obtain ⟨vs, hvs⟩ : ∃ vs : List Value, vs = (List.range args.length).map fun t => tmps.getD t undef := ⟨_, rfl⟩
  have hlen : vs.length = args.length := by rw [hvs]; simp
  have hget : ∀ t, t < args.length → vs[t]? = some (tmps.getD t undef) := fun t ht => by rw [hvs]; simp [ht]
  have hv : VL κ args vs := by
    refine VL.of_get hlen.symm fun i a v hi hv => ?_
    have hlt := (List.getElem?_eq_some_iff.1 hi).1
    rw [hget i hlt] at hv
    cases hv
    have := hval i
    rw [slotsOf_get _ _ _ _ (by omega), if_pos (by omega), Nat.sub_zero, hi] at this
    exact this
  refine ⟨vs, hv, ?_⟩
  have he : Frame.enter P f vs.toArray .normal = { fn := f, tmps := vs.toArray ++ Array.replicate (F.ntmps - vs.toArray.size) undef, todo := [.code c], defers := [], mode := .run, kind := .normal } := by
    simp [Frame.enter, ok.func _ _ h1, h2]
  rw [he]
  have e1 : tmps = vs.toArray ++ Array.replicate (F.ntmps - vs.toArray.size) undef := by
    apply Array.ext (by simp; omega)
    intro i hi hi'
    by_cases ht : i < args.length
    · have h5 := hget i ht
      rw [Array.getElem_append_left (by simp; omega)]
      have h6 : vs[i] = tmps.getD i undef := by
        rw [List.getElem?_eq_getElem (by omega)] at h5
        exact Option.some.inj h5
      simp only [List.getElem_toArray, h6]
      simp [Array.getD, hi]
    · have h5 := hval i
      rw [slotsOf_get _ _ _ _ (by omega), if_neg (by omega)] at h5
      have e0 : slot (.leaf : T AVal) i = .lit undef := by unfold slot; rw [T.get_leaf]
      rw [e0] at h5
      have h6 := V.of_lit h5 rfl
      rw [Array.getElem_append_right (by simp; omega)]
      simp only [Array.getElem_replicate]
      simpa [Array.getD, hi] using h6
  have htd : todo = [.code c] := by
    have x := a3 trivial
    cases x with
    | cons x1 x2 => cases x2; cases x1; rfl
  have hdf : defers = [] := by cases a4; rfl
  have hmd : mode = .run := by cases a5; rfl
  have hro : ro = none := by cases a7; rfl
  subst htd hdf hmd hro
  rw [← e1, a1, a6]
end

theorem con_calls {E : Nat → Option Value} {tb : Tab} {P : Program} {I : Interp} (hok : ∀ [Interp], tb.OK P) {c : Con} (hent : (enterA tb c.f c.args .normal).isSome = true)
    (h : ∀ v, @Holds (I.at v) c.facts → ∀ κ vs w, @VL (I.at v) κ c.args vs → @Rel (I.at v) κ { heap := layO c.objs, next := c.objs.length } w →
      Calls P c.f vs.toArray w fun e w' => ∃ κ' x, e = .returned x ∧ @V (I.at v) κ' c.ret x ∧ @Goes (I.at v) (· < c.objs.length) κ { heap := layO c.objs, next := c.objs.length } w κ' { heap := resH c.objs', next := c.next' } w') : ConGood E tb P I c := by
  intro v hv
  obtain ⟨g, hg⟩ := Option.isSome_iff_exists.1 hent
  refine ⟨g, hg, fun κ fr w hfr hrel hE cs => ?_⟩
  obtain ⟨vs, hvs, e⟩ := @FR.read (I.at v) tb P (@hok (I.at v)) κ c.f c.args g fr hg hfr
  subst e
  obtain ⟨en, w', fr', ⟨κ', x, hen, hx, hgo⟩, hst, hfn, hlv⟩ := h v hv κ vs w hvs hrel cs
  subst hen
  exact ⟨κ', fr', w', x, hst, hlv, hx, hgo, hfn⟩
end Go.Proofs.YtiemogegdoogaaaGreat.Eng

namespace Go.Proofs.YtiemogegdoogaaaGreat.Eng
open Go

structure Lem where
  conds : Facts
  concl : Facts
noncomputable def Lem.use (fs : Facts) (l : Lem) : Facts := match l.conds.all fun q => match decS fs q.1 with | some b => b == q.2 | none => false with
  | true => l.concl
  | false => []
noncomputable def lemL (ls : List Lem) (i : Nat) (fs : Facts) : Facts := match ls[i]? with | some l => l.use fs | none => []
def Lem.Valid (I : Interp) (l : Lem) : Prop := ∀ v : Nat → D, @Holds (I.at v) l.conds → @Holds (I.at v) l.concl
theorem Lem.use_ok {I : Interp} {l : Lem} (hl : l.Valid I) (v : Nat → D) {fs : Facts} (hf : @Holds (I.at v) fs) : @Holds (I.at v) (l.use fs) := by
  unfold Lem.use
  split
  · rename_i h
    refine hl v fun q hq => ?_
    have h1 := List.all_eq_true.1 h q hq
    split at h1
    · rename_i b hb
      rw [@decS_sound (I.at v) fs hf _ _ hb]; exact eq_of_beq h1
    · cases h1
  · intro q hq; cases hq
theorem lemL_ok {I : Interp} {ls : List Lem} (h : ∀ l ∈ ls, l.Valid I) : ∀ v : Nat → D, ∀ i fs, @Holds (I.at v) fs → @Holds (I.at v) (lemL ls i fs) := fun v i fs hf => by
  unfold lemL
  split
  · rename_i l hl; exact Lem.use_ok (h l (List.mem_of_getElem? hl)) v hf
  · intro q hq; cases hq

section
variable [Interp]
theorem fact_lt {a b : SX} {t : Bool} : (SX.a2 .lt a b).ev.tr = t ↔ decide (a.ev.int < b.ev.int) = t := by
  change (D.ofB (decide _)).tr = t ↔ _
  rw [D.tr_ofB]
theorem fact_eq {a b : SX} {t : Bool} : (SX.a2 .eq a b).ev.tr = t ↔ decide (a.ev.int = b.ev.int) = t := by
  change (D.ofB (decide _)).tr = t ↔ _
  rw [D.tr_ofB]
open Classical in
theorem fact_same {a b : SX} {t : Bool} : (SX.a2 .same a b).ev.tr = t ↔ decide (a.ev = b.ev) = t := by
  change (D.ofB (decide _)).tr = t ↔ _
  rw [D.tr_ofB]
theorem ev_lit {n : Int} : (SX.lit n).ev.int = n := rfl
theorem ev_str {l : List Int} : (SX.str l).ev.list = l := rfl
theorem ev_var {i : Nat} : (SX.var i).ev = Interp.v i := rfl
theorem ev_add {x y : SX} : (SX.a2 .add x y).ev.int = x.ev.int + y.ev.int := rfl
theorem ev_sub {x y : SX} : (SX.a2 .sub x y).ev.int = x.ev.int - y.ev.int := rfl
theorem ev_mul {x y : SX} : (SX.a2 .mul x y).ev.int = x.ev.int * y.ev.int := rfl
theorem ev_len {x : SX} : (SX.a1 .len x).ev.int = (x.ev.list.length : Int) := rfl
theorem ev_neg {k : IntKind} {x : SX} : (SX.a1 (.neg k) x).ev.int = k.wrap (0 - x.ev.int) := rfl
theorem ev_cv {k : IntKind} {x : SX} : (SX.a1 (.cv k) x).ev.int = k.wrap x.ev.int := rfl
theorem ev_ar {o : BinOp} {k : IntKind} {x y : SX} : (SX.a2 (.ar o k) x y).ev.int = arI o k x.ev.int y.ev.int := rfl
theorem ev_rd {x y : SX} : (SX.a2 .rd x y).ev.int = x.ev.list[y.ev.int.toNat]?.getD 0 := rfl
theorem ev_push {x y : SX} : (SX.a2 .push x y).ev.list = x.ev.list ++ [y.ev.int] := rfl
theorem ev_app {x y : SX} : (SX.a2 .app x y).ev.list = x.ev.list ++ y.ev.list := rfl
theorem ev_rep {x y : SX} : (SX.a2 .rep x y).ev.list = List.replicate x.ev.int.toNat y.ev.int := rfl
theorem ev_cut {x y z : SX} : (SX.a3 .cut x y z).ev.list = cutL x.ev.list y.ev.int z.ev.int := rfl
theorem ev_mx {x y : SX} : (SX.a2 .mx x y).ev.int = max x.ev.int y.ev.int := by
  change (if y.ev.int > x.ev.int then y.ev.int else x.ev.int) = _
  split <;> omega
theorem ev_mn {x y : SX} : (SX.a2 .mn x y).ev.int = min x.ev.int y.ev.int := by
  change (if y.ev.int < x.ev.int then y.ev.int else x.ev.int) = _
  split <;> omega
theorem ev_u1 {n : Nat} {x : SX} : (SX.a1 (.u n) x).ev = Interp.f1 n x.ev := rfl
theorem ev_u2 {n : Nat} {x y : SX} : (SX.a2 (.u n) x y).ev = Interp.f2 n x.ev y.ev := rfl
theorem ev_u3 {n : Nat} {x y z : SX} : (SX.a3 (.u n) x y z).ev = Interp.f3 n x.ev y.ev z.ev := rfl
theorem ev_pair {x y : SX} : (SX.a2 .pair x y).ev = .p x.ev y.ev := rfl
theorem D.int_i (n : Int) : (D.i n).int = n := rfl
theorem D.list_l (l : List Int) : (D.l l).list = l := rfl
theorem holds_cons {q : SX × Bool} {fs : Facts} : Holds (q :: fs) ↔ q.1.ev.tr = q.2 ∧ Holds fs := List.forall_mem_cons
theorem holds_nil : Holds [] ↔ True := ⟨fun _ => trivial, fun _ _ h => by cases h⟩
end
end Go.Proofs.YtiemogegdoogaaaGreat.Eng

namespace Go.Proofs.YtiemogegdoogaaaGreat.Eng
open Go
section
variable [Interp] {tb : Tab} {P : Program}
theorem FR.swap {κ : Pl} {f : FuncId} {args args' : List AVal} {g g' : AFr} {fr : Frame} (hg : enterA tb f args .normal = some g) (hg' : enterA tb f args' .normal = some g') (hl : args.length = args'.length)
    (h : FR κ g fr) (hs : ∀ t a a', args[t]? = some a → args'[t]? = some a' → V κ a (fr.tmps.getD t undef) → V κ a' (fr.tmps.getD t undef)) : FR κ g' fr := by
  obtain ⟨F, c, h1, h2, h3, h4, e⟩ := enterA_some hg
  obtain ⟨F', c', h1', h2', h3', h4', e'⟩ := enterA_some hg'
  rw [h1] at h1'; cases h1'
  rw [h2] at h2'; cases h2'
  subst e; subst e'
  obtain ⟨a1, a2, a3, a4, a5, a6, a7⟩ := h
  refine ⟨a1, ⟨a2.lim, a2.size, fun t => ?_⟩, a3, a4, a5, a6, a7⟩
  have hv := a2.val t
  simp only at hv ⊢
  rw [slotsOf_get _ _ _ _ (by omega)] at hv ⊢
  by_cases ht : 0 ≤ t ∧ t < 0 + args'.length
  · rw [if_pos ht]
    rw [if_pos (by omega)] at hv
    have e1 : args[t - 0]? = some args[t - 0] := List.getElem?_eq_getElem (by omega)
    have e2 : args'[t - 0]? = some args'[t - 0] := List.getElem?_eq_getElem (by omega)
    rw [e1] at hv
    rw [e2]
    exact hs t _ _ e1 e2 hv
  · rw [if_neg ht]
    rw [if_neg (by omega)] at hv
    exact hv
end

theorem con_nil {E : Nat → Option Value} {tb : Tab} {P : Program} {I : Interp} {c : Con} {p i : Nat} {o l : SX} {z : Nat} (hp : c.args[p]? = some (.slv i o l none z))
    (h1 : ConGood E tb P I { c with args := c.args.set p (.slv i o l (some (.str [])) z) }) (h2 : ConGood E tb P I { c with args := c.args.set p (.lit (.slice none 0 0)), facts := (.a2 .eq l (.lit 0), true) :: c.facts }) : ConGood E tb P I c := by
  intro v hv
  obtain ⟨g1, hg1, H1⟩ := h1 v hv
  obtain ⟨g, hg⟩ := enterA_len (args := c.args) hg1 (by simp)
  refine ⟨g, hg, fun κ fr w hfr hrel hE cs => ?_⟩
  have hlt : p < c.args.length := (List.getElem?_eq_some_iff.1 hp).1
  have hval : @V (I.at v) κ (.slv i o l none z) (fr.tmps.getD p undef) := by
    obtain ⟨F, b, a1, a2, a3, a4, e⟩ := enterA_some hg
    subst e
    have := @SR.val (I.at v) _ _ _ _ (@FR.slots (I.at v) _ _ _ hfr) p
    simp only at this
    rw [slotsOf_get _ _ _ _ (by omega), if_pos (by omega), Nat.sub_zero, hp] at this
    exact this
  have other : ∀ (x : AVal) (t : Nat) a a', c.args[t]? = some a → (c.args.set p x)[t]? = some a' → (t = p → @V (I.at v) κ x (fr.tmps.getD t undef)) → @V (I.at v) κ a (fr.tmps.getD t undef) → @V (I.at v) κ a' (fr.tmps.getD t undef) := fun x t a a' ha ha' hx hv => by
    rw [List.getElem?_set] at ha'
    by_cases e : p = t
    · rw [if_pos e, if_pos (by omega)] at ha'
      cases ha'; exact hx e.symm
    · rw [if_neg e, ha] at ha'; cases ha'; exact hv
  have go1 : @V (I.at v) κ (.slv i o l (some (.str [])) z) (fr.tmps.getD p undef) → ∃ κ' fr' w' x, Steps P (lone fr cs w) (lone fr' cs w') ∧ fr'.leaving P w' (.returned x) ∧ @V (I.at v) κ' c.ret x ∧ @Goes (I.at v) (· < c.objs.length) κ { heap := layO c.objs, next := c.objs.length } w κ' { heap := resH c.objs', next := c.next' } w' ∧ fr'.fn = c.f := fun hx =>
    H1 κ fr w (@FR.swap (I.at v) tb κ c.f c.args _ g g1 fr hg hg1 (by simp) hfr fun t a a' ha ha' hv => other _ t a a' ha ha' (fun e => by rw [e]; exact hx) hv) hrel hE cs
  generalize hy : fr.tmps.getD p undef = y at hval go1
  cases hval with
  | slv x1 x2 x3 x4 x5 x6 => exact go1 (@V.slv (I.at v) _ _ _ _ _ _ _ _ _ _ x1 x2 x3 x4 (fun q hq hL => by cases hq; cases hL) x6)
  | @slv0 _ _ _ _ _ ad y1 y2 y3 =>
    cases ad with
    | some ad => exact go1 (@V.slv0 (I.at v) _ _ _ _ _ _ _ y1 (fun q hq => by cases hq; rfl) (fun _ _ _ h => by cases h))
    | none =>
      obtain ⟨g2, hg2, H2⟩ := h2 v (List.forall_mem_cons.2 ⟨(@fact_eq (I.at v) l (.lit 0) true).2 (decide_eq_true y1), hv⟩)
      exact H2 κ fr w (@FR.swap (I.at v) tb κ c.f c.args _ g g2 fr hg hg2 (by simp) hfr fun t a a' ha ha' hv => other _ t a a' ha ha' (fun e => by rw [e, hy]; exact @V.lit (I.at v) _ _) hv) hrel hE cs
end Go.Proofs.YtiemogegdoogaaaGreat.Eng
namespace Go.Proofs.YtiemogegdoogaaaGreat.Eng
open Go
theorem vt_lem {I : Interp} {T : VT} {k m w : Nat} (h1 : T.few m = true) (hw : T.wide w = true) (hI : ∀ n, n < w → ∀ x, I.f1 (k + n) x = T.fn n x) {fs qs : Facts}
    (h : allV (fun fs' => qs.all fun q => match decB fs' q.1 with | some b => b == q.2 | none => false) (vtU k m) T fs = true) : (Lem.mk fs qs).Valid I := fun v hv => by
  obtain ⟨fs', h2, h3⟩ := @allV_ok (I.at v) _ _ w T fs hw (fun n hn => by
    change (I.f1 (k + n) (@SX.ev (I.at v) (pkX m 0))).int = _
    rw [hI n hn, @VT.few_ev (I.at v) m T h1]
    rfl) h hv
  intro q hq
  have h4 := List.all_eq_true.1 h3 q hq
  split at h4
  · rename_i b hb
    rw [@decB_sound (I.at v) fs' h2 _ _ hb]; exact eq_of_beq h4
  · cases h4
end Go.Proofs.YtiemogegdoogaaaGreat.Eng

namespace Go.Proofs.YtiemogegdoogaaaGreat.Eng
open Go
section
variable [Interp]
theorem Rel.below {κ : Pl} {s : St} {w w' : World} (h : Rel κ s w) (hb : RowKit.Below w.heap.size w w') : Rel κ s w' where
  lim := h.lim
  fresh := h.fresh
  size i b hk := Nat.lt_of_lt_of_le (h.size i b hk) hb.size
  inj := h.inj
  room b n hk := by
    obtain ⟨cs, t, fz, e, e2⟩ := h.room b n hk
    exact ⟨cs, t, fz, by rw [hb.block b (Array.getElem?_eq_some_iff.1 e).1]; exact e, e2⟩
  obj i o hg := (h.obj i o hg).imp (fun ⟨b, ob, h1, h2, h3⟩ => ⟨b, ob, h1, by rw [hb.block b (h.size i b h1)]; exact h2, h3⟩) id
  dead := h.dead
theorem Rel.renum {κ : Pl} {s s' : St} {w : World} (h : Rel κ s w) (hg : ∀ i, s'.heap.get i = s.heap.get i) (hn : s.next ≤ s'.next) (hl : s'.next ≤ 1000000000) : Rel κ s' w where
  lim := hl
  fresh i hi := h.fresh i (by omega)
  size := h.size
  inj i j b hi hj := h.inj i j b (by unfold St.live at *; rwa [hg] at hi) (by unfold St.live at *; rwa [hg] at hj)
  room := h.room
  obj i o he := h.obj i o (by rw [← hg]; exact he)
  dead i hi hx := h.dead i (by omega) (by unfold St.live at *; rwa [hg] at hx)
theorem goes_below {U : Nat → Prop} {κ : Pl} {s s' : St} {w w' : World} (h : Rel κ s w) (hb : RowKit.Below w.heap.size w w') (hg : ∀ i, s'.heap.get i = s.heap.get i) (hn : s.next ≤ s'.next) (hl : s'.next ≤ 1000000000) : Goes U κ s w κ s' w' where
  le := Pl.le_refl κ
  rel := (h.below hb).renum hg hn hl
  next := hn
  size := hb.size
  old b hlt _ := hb.block b hlt
  born i b hi hk := .inr ⟨i, by unfold St.live at *; rwa [hg] at hi, hk⟩
  bornM i b hi hk := .inr ⟨i, by obtain ⟨o, h1, h2⟩ := hi; exact ⟨o, by rw [← hg]; exact h1, h2⟩, hk⟩
  unborn _ _ hk := hk
  still i _ hx hy := hx (by unfold St.live at *; rwa [hg] at hy)
  os := hb.os
  output := hb.output
  tape := hb.tape
noncomputable def numb (l : List PObj) : List (Nat × PObj) := (List.range l.length).zip l
theorem numb_get {l : List PObj} (hl : l.length < 1000000) (i : Nat) : (resH (numb l)).get i = (layO l).get i := by
  have hm : (numb l).map (·.1) = List.range l.length := by
    unfold numb
    rw [List.map_fst_zip (by simp)]
  have hn : ((numb l).map (·.1)).Nodup := by rw [hm]; exact List.nodup_range
  have hlt : ∀ q ∈ numb l, q.1 < 1000000000 := fun q hq => by
    have : q.1 ∈ (numb l).map (·.1) := List.mem_map_of_mem hq
    rw [hm, List.mem_range] at this; omega
  rw [layO_get (by omega)]
  by_cases hi : i < l.length
  · rw [List.getElem?_eq_getElem hi]
    have : (i, l[i]) ∈ numb l := by
      unfold numb
      rw [List.mem_iff_getElem]
      exact ⟨i, by simpa using hi, by simp⟩
    have h1 := resH_at hlt hn this
    exact h1
  · rw [List.getElem?_eq_none (by omega), resH_get hlt hn]
    rw [List.find?_eq_none.2 fun q hq => ?_]
    · rfl
    · intro e
      have : q.1 ∈ (numb l).map (·.1) := List.mem_map_of_mem hq
      rw [hm, List.mem_range] at this
      have := eq_of_beq e
      omega
theorem slv_cells {κ : Pl} {s : St} {w : World} (hr : Rel κ s w) {i : Nat} {lo ln A : SX} {k : IntKind} {c : Option SX} {v : Value} (hv : V κ (.slv i lo ln c 1) v)
    (hg : (∃ t, s.heap.get i = some (.seq k A t) ∧ lo.ev.int = 0) ∨ s.heap.get i = some (.win k lo A)) (hln : ln.ev.int = A.ev.list.length) :
    ∃ a cap, v = .slice a A.ev.list.length cap ∧ (0 < A.ev.list.length → ∃ b p, a = some ⟨b, p, none⟩ ∧ b < w.heap.size ∧ ∀ j, j < A.ev.list.length → w.cell? ⟨b, p + j, none⟩ = some (.int k (A.ev.list[j]?.getD 0))) := by
  cases hv with
  | @slv _ off len cap b _ _ _ _ x1 x2 x3 x4 x5 x6 =>
    have e : len = A.ev.list.length := by omega
    subst e
    refine ⟨_, cap, rfl, fun hp => ⟨b, off, rfl, hr.size _ _ x1, fun j hj => ?_⟩⟩
    rcases hg with ⟨t, hg, h0⟩ | hg
    · obtain ⟨ob, h1, h2⟩ := hr.on hg x1
      cases h2 with
      | seq q1 q2 q3 =>
        have : off = 0 := by omega
        subst this
        unfold World.cell?
        rw [h1]
        simpa using q2 j hj
    · obtain ⟨ob, h1, h2⟩ := hr.on hg x1
      cases h2 with
      | win q1 q2 =>
        unfold World.cell?
        rw [h1]
        have := q2 j hj
        rw [show lo.ev.int.toNat = off by omega] at this
        simpa using this
  | @slv0 _ _ _ _ _ a y1 y2 y3 =>
    have e : A.ev.list.length = 0 := by omega
    exact ⟨a, 0, by rw [e], fun hp => by omega⟩
end
theorem con_below {E : Nat → Option Value} {tb : Tab} {P : Program} {I : Interp} (hok : ∀ [Interp], tb.OK P) {c : Con} (hent : (enterA tb c.f c.args .normal).isSome = true) (ho : c.objs' = numb c.objs) (hn : (Nat.ble c.objs.length c.next' && Nat.ble c.next' 900000) = true)
    (h : ∀ v, @Holds (I.at v) c.facts → ∀ κ vs w, @VL (I.at v) κ c.args vs → @Rel (I.at v) κ { heap := layO c.objs, next := c.objs.length } w →
      Calls P c.f vs.toArray w fun e w' => ∃ x, e = .returned x ∧ @V (I.at v) κ c.ret x ∧ RowKit.Below w.heap.size w w') : ConGood E tb P I c := by
  rw [Bool.and_eq_true] at hn
  have h1 := Nat.le_of_ble_eq_true hn.1
  have h2 := Nat.le_of_ble_eq_true hn.2
  refine con_calls hok hent fun v hv κ vs w hvs hr => (h v hv κ vs w hvs hr).mono ?_
  rintro e w' ⟨x, hx, hV, hb⟩
  exact ⟨κ, x, hx, hV, @goes_below (I.at v) _ _ _ _ _ _ hr hb (fun i => by rw [ho]; exact numb_get (by omega) i) h1 (by change c.next' ≤ _; omega)⟩
end Go.Proofs.YtiemogegdoogaaaGreat.Eng
namespace Go.Proofs.YtiemogegdoogaaaGreat.Eng
open Go
theorem slv_cut [Interp] {κ : Pl} {s : St} {w : World} (hr : Rel κ s w) {i t : Nat} {lo ln A : SX} {k : IntKind} {c : Option SX} {v : Value} (hv : V κ (.slv i lo ln c 1) v)
    (hg : s.heap.get i = some (.seq k A t)) (h0 : 0 ≤ lo.ev.int) (h1 : 0 ≤ ln.ev.int) (h2 : lo.ev.int + ln.ev.int ≤ A.ev.list.length) {l : List Int} (hl : cutL A.ev.list lo.ev.int (lo.ev.int + ln.ev.int) = l) :
    ∃ a cap, v = .slice a l.length cap ∧ (0 < l.length → ∃ b p, a = some ⟨b, p, none⟩ ∧ b < w.heap.size ∧ ∀ j, j < l.length → w.cell? ⟨b, p + j, none⟩ = some (.int k (l[j]?.getD 0))) := by
  obtain ⟨lo', e0⟩ : ∃ n : Nat, lo.ev.int = n := ⟨lo.ev.int.toNat, by omega⟩
  obtain ⟨ln', e1⟩ : ∃ n : Nat, ln.ev.int = n := ⟨ln.ev.int.toNat, by omega⟩
  rw [e0, e1] at h2 hl
  have hlen : l.length = ln' := by
    rw [← hl]; unfold cutL
    rw [List.length_drop, List.length_take]; omega
  cases hv with
  | @slv _ off len cap b _ _ _ _ x1 x2 x3 x4 x5 x6 =>
    have e : len = l.length := by omega
    subst e
    refine ⟨_, cap, rfl, fun hp => ⟨b, off, rfl, hr.size _ _ x1, fun j hj => ?_⟩⟩
    obtain ⟨ob, h3, h4⟩ := hr.on hg x1
    cases h4 with
    | seq q1 q2 q3 =>
      unfold World.cell?
      rw [h3]
      have h5 := q2 (off + j) (by omega)
      have h6 : l[j]? = some (A.ev.list[lo' + j]?.getD 0) := by
        rw [← hl]
        have := cutL_get A.ev.list lo' ln' j (by omega) (by omega)
        rw [← this]; congr 2
      rw [h6, Option.getD_some, show lo' + j = off + j by omega]
      simpa using h5
  | @slv0 _ _ _ _ _ a y1 y2 y3 =>
    have e : l.length = 0 := by omega
    exact ⟨a, 0, by rw [e], fun hp => by omega⟩
end Go.Proofs.YtiemogegdoogaaaGreat.Eng
namespace Go.Proofs.YtiemogegdoogaaaGreat.Eng
open Go
noncomputable def decN (fs : Facts) (e : SX) : Option Bool := match decB fs e with
  | some b => some b
  | none => match e with
    | .a2 f x y => match f with
      | .lt => decB fs (.a2 .lt (nrm fs false x) (nrm fs false y))
      | .eq => decB fs (.a2 .eq (nrm fs false x) (nrm fs false y))
      | _ => none
    | _ => none
theorem decN_sound [Interp] {fs : Facts} (hf : Holds fs) {e : SX} {b : Bool} (h : decN fs e = some b) : e.ev.tr = b := by
  unfold decN at h
  split at h
  · cases h; exact decB_sound hf ‹_›
  · split at h
    · rename_i f x y _
      split at h
      · have h1 := decB_sound hf h
        rw [ltE, (nrm_ev hf x).1, (nrm_ev hf y).1] at h1
        rw [ltE]; exact h1
      · have h1 := decB_sound hf h
        rw [eqE, (nrm_ev hf x).1, (nrm_ev hf y).1] at h1
        rw [eqE]; exact h1
      · cases h
    · cases h
noncomputable def lemB (fs' hs qs : Facts) : Bool := (hs.any fun q => match decN fs' q.1 with | some b => b != q.2 | none => false) || qs.all fun q => match decN (hs ++ fs') q.1 with | some b => b == q.2 | none => false
theorem lemB_ok [Interp] {fs' hs qs : Facts} (h : lemB fs' hs qs = true) (hf : Holds fs') (hh : Holds hs) : Holds qs := by
  unfold lemB at h
  rw [Bool.or_eq_true] at h
  rcases h with h | h
  · obtain ⟨q, h1, h2⟩ := List.any_eq_true.1 h
    split at h2
    · rename_i b hb
      have := decN_sound hf hb
      have h3 := hh q h1
      rw [this] at h3; subst h3
      simp at h2
    · cases h2
  · intro q hq
    have h4 := List.all_eq_true.1 h q hq
    split at h4
    · rename_i b hb
      rw [decN_sound (fun q hq => (List.mem_append.1 hq).elim (hh q) (hf q)) hb]; exact eq_of_beq h4
    · cases h4
theorem vt_lem' {I : Interp} {T : VT} {k m w : Nat} (h1 : T.few m = true) (hw : T.wide w = true) (hI : ∀ n, n < w → ∀ x, I.f1 (k + n) x = T.fn n x) {hs fs qs : Facts}
    (h : allV (fun fs' => lemB fs' hs qs) (vtU k m) T fs = true) : (Lem.mk (hs ++ fs) qs).Valid I := fun v hv => by
  obtain ⟨fs', h2, h3⟩ := @allV_ok (I.at v) _ _ w T fs hw (fun n hn => by
    change (I.f1 (k + n) (@SX.ev (I.at v) (pkX m 0))).int = _
    rw [hI n hn, @VT.few_ev (I.at v) m T h1]
    rfl) h (fun q hq => hv q (List.mem_append.2 (.inr hq)))
  exact @lemB_ok (I.at v) _ _ _ h3 h2 (fun q hq => hv q (List.mem_append.2 (.inl hq)))
end Go.Proofs.YtiemogegdoogaaaGreat.Eng

namespace Go.Proofs.YtiemogegdoogaaaGreat.Eng
open Go
noncomputable def upS (h : H) : AVal → AVal
  | .slc i o l c => match h.get i with
    | some (.row n _ _ u) => match Nat.ble (o + c * 1) n && Nat.ble l c with | true => .slu i o l 1 | false => .slc i o l c
    | _ => .slc i o l c
  | a => a
noncomputable def upP (h : H) : AVal → AVal → AVal
  | .slv _ _ _ _ _, a => upS h a
  | _, a => a
noncomputable def upL (h : H) : List AVal → List AVal → List AVal
  | p :: ps, a :: l => upP h p a :: upL h ps l
  | _, l => l
noncomputable def upR (h : H) : AVal → AVal → AVal
  | .tup ps, .tup l => .tup (upL h ps l)
  | p, a => upP h p a
noncomputable def bindM (h : H) : List (Nat × PObj) → Bind → Bind
  | [], s => s
  | q :: l, s => bindM h l (match s.ρ.get q.1 with | some j => (match h.get j with | some o => bindO q.2 o s | none => s) | none => s)
noncomputable def rhoM (c : Con) (v : AVal) (h : H) (n : Nat) : List Nat := rhoFill (bindM h c.objs' (bindA 30 c.ret v ⟨T.lay (List.range c.objs.length) 0 .leaf, .leaf⟩)).ρ n c.next' 0
noncomputable def writtenM (c : Con) (ρ : List Nat) (v : AVal) (h : H) (n : Nat) : Bool :=
  (Nat.ble c.objs.length c.next' && Nat.ble c.next' 1000000000) && Nat.ble ρ.length c.next' && nodupN (c.objs'.map (·.1)) && nodupN (c.objs'.map fun q => (ρ[q.1]?).getD 0) && (c.objs'.all fun q => Nat.blt q.1 c.next') &&
    ((List.range c.objs.length).all fun i => atR ρ i i) && fits c.facts ρ varB 30 c.ret v &&
    c.objs'.all fun q => match ρ[q.1]? with | some j => (match h.get j with | some o => fitsO c.facts ρ varB q.2 o | none => Nat.ble n j && absentF c.facts q.2) | none => false
noncomputable def asWrittenM (c : Con) (r : R2) : Bool :=
  match r with
  | .ret v h n => writtenM c (rhoM c (upR h c.ret v) h n) (upR h c.ret v) h n
  | _ => false
section
variable {E : Nat → Option Value} {tb : Tab} {P : Program}
theorem nodup_mapM {α β : Type} {f : α → β} : ∀ {l : List α}, (l.map f).Nodup → ∀ {a b : α}, a ∈ l → b ∈ l → f a = f b → a = b
  | [], _, _, _, h, _, _ => by cases h
  | x :: l, hn, a, b, ha, hb, e => by
    rw [List.map_cons, List.nodup_cons] at hn
    rcases List.mem_cons.1 ha with ha' | ha' <;> rcases List.mem_cons.1 hb with hb' | hb'
    · rw [ha', hb']
    · subst ha'; exact absurd (List.mem_map.2 ⟨b, hb', e.symm⟩) hn.1
    · subst hb'; exact absurd (List.mem_map.2 ⟨a, ha', e⟩) hn.1
    · exact nodup_mapM hn.2 ha' hb' e
theorem Goes.writtenM {J : Interp} {κ κ' : Pl} {w w' : World} {h : H} {n : Nat} {c : Con} {v : AVal} {ρ : List Nat} (hfs : @Holds J c.facts) (hrel : Rel κ { heap := layO c.objs, next := c.objs.length } w)
    (hgo : Goes (· < c.objs.length) κ { heap := layO c.objs, next := c.objs.length } w κ' { heap := h, next := n } w') (hw : Go.Proofs.YtiemogegdoogaaaGreat.Eng.writtenM c ρ v h n = true) :
    ∃ κ'' : Pl, Goes (· < c.objs.length) κ { heap := layO c.objs, next := c.objs.length } w κ'' { heap := resH c.objs', next := c.next' } w' ∧ ∀ x, V κ' v x → V κ'' c.ret x := by
  simp only [Go.Proofs.YtiemogegdoogaaaGreat.Eng.writtenM, Bool.and_eq_true] at hw
  obtain ⟨⟨⟨⟨⟨⟨⟨⟨k1, k6⟩, k7⟩, k2⟩, k8⟩, k3⟩, k9⟩, k4⟩, k5⟩ := hw
  have k1 : c.objs.length ≤ c.next' := Nat.le_of_ble_eq_true k1
  have k7 : ρ.length ≤ c.next' := Nat.le_of_ble_eq_true k7
  have hnd := nodupN_nodup k2
  have hnd2 := nodupN_nodup k8
  have hlt : ∀ q ∈ c.objs', q.1 < c.next' := fun q hq => by
    have := List.all_eq_true.1 k3 q hq
    simpa [Nat.blt_eq] using this
  have hid : ∀ i, i < c.objs.length → ρ[i]? = some i := fun i hi => atR_eq (List.all_eq_true.1 k9 i (List.mem_range.2 hi))
  have hlim : c.next' ≤ 1000000000 := Nat.le_of_ble_eq_true k6
  have hget := resH_get (fun q hq => by have := hlt q hq; omega) hnd
  have hobj : ∀ i o, (resH c.objs').get i = some o → ∃ q ∈ c.objs', ∃ j, q.1 = i ∧ ρ[i]? = some j ∧ o = q.2.obj ∧ ((∃ o', h.get j = some o' ∧ fitsO c.facts ρ varB q.2 o' = true) ∨ (h.get j = none ∧ n ≤ j ∧ absentF c.facts q.2 = true)) := fun i o ho => by
    rw [hget] at ho
    cases hf : c.objs'.find? (fun q => q.1 == i) with
    | none => rw [hf] at ho; cases ho
    | some q =>
      rw [hf] at ho
      cases ho
      have h1 := List.mem_of_find?_eq_some hf
      have h2 : q.1 = i := by simpa using List.find?_some hf
      have h3 := List.all_eq_true.1 k5 q h1
      rw [h2] at h3
      cases hj : ρ[i]? with
      | none => rw [hj] at h3; cases h3
      | some j =>
        rw [hj] at h3
        refine ⟨q, h1, j, h2, rfl, rfl, ?_⟩
        simp only at h3
        cases hh : h.get j with
        | none =>
          rw [hh] at h3
          simp only [Bool.and_eq_true] at h3
          exact .inr ⟨rfl, Nat.le_of_ble_eq_true h3.1, h3.2⟩
        | some o' => rw [hh] at h3; exact .inl ⟨o', rfl, h3⟩
  have hon : ∀ i j, ρ[i]? = some j → (κ'.viaE ρ κ'.env) i = κ' j := fun i j hj => by
    change (ρ[i]?).bind κ'.on = _
    rw [hj]; rfl
  have hlive : ∀ i, ({ heap := resH c.objs', next := c.next' } : St).live i → ∃ j, ρ[i]? = some j ∧ (({ heap := h, next := n } : St).live j ∨ n ≤ j) := fun i hl => by
    unfold St.live at hl ⊢
    cases hg : (resH c.objs').get i with
    | none => exact absurd hg hl
    | some o =>
      obtain ⟨_, _, j, _, hj, _, hx⟩ := hobj i o hg
      refine ⟨j, hj, ?_⟩
      rcases hx with ⟨o', ho', _⟩ | ⟨_, hx, _⟩
      · left; simp only [ho']; simp
      · exact .inr hx
  have hlv : ∀ i b, ({ heap := resH c.objs', next := c.next' } : St).live i → (κ'.viaE ρ κ'.env) i = some b → ∃ j, ρ[i]? = some j ∧ κ' j = some b ∧ ({ heap := h, next := n } : St).live j := fun i b hl hk => by
    obtain ⟨j, hj, h1⟩ := hlive i hl
    rw [hon i j hj] at hk
    refine ⟨j, hj, hk, ?_⟩
    rcases h1 with h1 | h1
    · exact h1
    · rw [hgo.rel.fresh j h1] at hk; cases hk
  have hlow : ∀ i, i < c.objs.length → (κ'.viaE ρ κ'.env) i = κ' i := fun i hi => hon i i (hid i hi)
  have hinL : ∀ i, ({ heap := resH c.objs', next := c.next' } : St).live i → ∃ q ∈ c.objs', q.1 = i := fun i hl => by
    unfold St.live at hl
    cases hg : (resH c.objs').get i with
    | none => exact absurd hg hl
    | some o => obtain ⟨q, h1, _, h2, _⟩ := hobj i o hg; exact ⟨q, h1, h2⟩
  refine ⟨κ'.viaE ρ κ'.env, ?_, fun x hx => fits_V (E' := κ'.env) hfs (of_self J) 30 k4 hx⟩
  exact {
    le := ⟨fun i b hk => by
      have hi : i < c.objs.length := Nat.lt_of_not_le fun hi => by rw [hrel.fresh i hi] at hk; cases hk
      rw [hlow i hi]; exact hgo.le.on i b hk, hgo.le.room, hgo.le.env⟩
    rel := {
      lim := hlim
      fresh := fun i hi => by
        change (ρ[i]?).bind κ'.on = none
        rw [List.getElem?_eq_none (by simp only at hi; omega)]; rfl
      size := fun i b hk => by
        change (ρ[i]?).bind κ'.on = some b at hk
        cases hj : ρ[i]? with
        | none => rw [hj] at hk; cases hk
        | some j => rw [hj] at hk; exact hgo.rel.size j b hk
      inj := fun i j b hi hj h1 h2 => by
        obtain ⟨i', e1, a1, a2⟩ := hlv i b hi h1
        obtain ⟨j', e2, b1, b2⟩ := hlv j b hj h2
        have e := hgo.rel.inj i' j' b a2 b2 a1 b1
        subst e
        obtain ⟨q, hq, rfl⟩ := hinL i hi
        obtain ⟨q', hq', rfl⟩ := hinL j hj
        have := nodup_mapM hnd2 hq hq' (by rw [e1, e2])
        rw [this]
      room := hgo.rel.room
      obj := fun i o hg => by
        obtain ⟨q, h1, j, h2, hj, h3, h4⟩ := hobj i o hg
        subst h3
        rw [hon i j hj]
        rcases h4 with ⟨o', h4, h5⟩ | ⟨_, h4, h5⟩
        · rcases hgo.rel.obj j o' h4 with ⟨b, ob, m1, m2, m3⟩ | ⟨m1, m2⟩
          · exact .inl ⟨b, ob, m1, m2, fitsO_ORel (E' := κ'.env) hfs (of_self J) h5 m3⟩
          · exact .inr ⟨m1, fitsO_bare hfs (of_self J) h5 m2⟩
        · exact .inr ⟨hgo.rel.fresh j h4, absentF_bare hfs h5⟩
      dead := fun i hi hl => by
        obtain ⟨q, hq, rfl⟩ := hinL i hl
        have := hlt q hq
        simp only at hi; omega }
    next := k1
    size := hgo.size
    old := hgo.old
    born := fun i b hi hk => by
      obtain ⟨j, _, h1, h2⟩ := hlv i b hi hk
      exact hgo.born j b h2 h1
    bornM := fun i b hi hk => by
      obtain ⟨o, h1, h2⟩ := hi
      obtain ⟨q, _, j, _, hj, h3, h4⟩ := hobj i o h1
      subst h3
      rw [hon i j hj] at hk
      rcases h4 with ⟨o', h4, h5⟩ | ⟨_, h4, _⟩
      · exact hgo.bornM j b ⟨o', h4, by rw [fitsO_win h5]; exact h2⟩ hk
      · rw [hgo.rel.fresh j h4] at hk; cases hk
    unborn := fun i hi hk => by rw [hlow i hi]; exact hgo.unborn i hi hk
    still := fun i hi hn hl => by
      obtain ⟨j, hj, h1⟩ := hlive i hl
      rw [hid i hi] at hj; cases hj
      rcases h1 with h1 | h1
      · exact hgo.still i hi hn h1
      · have h3 := hgo.next
        simp only at h3 hi; omega
    os := hgo.os
    output := hgo.output
    tape := hgo.tape }
noncomputable def Pl.full (κ : Pl) (w : World) : Pl := ⟨κ.on, fun b => match κ.room b with | some n => some n | none => (match w.heap[b]? with | some (.cells cs _ _) => some cs.size | _ => none), κ.env⟩
theorem Pl.le_full (κ : Pl) (w : World) : κ.le (κ.full w) := ⟨fun _ _ h => h, fun b r h => by simp only [Pl.full, h], fun _ _ h => h⟩
theorem Rel.full [Interp] {κ : Pl} {s : St} {w : World} (h : Rel κ s w) : Rel (κ.full w) s w where
  lim := h.lim
  fresh := h.fresh
  size := h.size
  inj := h.inj
  room b n hk := by
    simp only [Pl.full] at hk
    cases hm : κ.room b with
    | some m => rw [hm] at hk; cases hk; exact h.room b _ hm
    | none =>
      rw [hm] at hk
      simp only at hk
      split at hk
      · rename_i cs t fz hw; cases hk; exact ⟨cs, t, fz, hw, rfl⟩
      · cases hk
  obj i o hg := (h.obj i o hg).imp (fun ⟨b, ob, h1, h2, h3⟩ => ⟨b, ob, h1, h2, h3.mono (κ.le_full w)⟩) id
  dead := h.dead
theorem Goes.full [Interp] {U : Nat → Prop} {κ κ' : Pl} {s s' : St} {w w' : World} (h : Goes U κ s w κ' s' w') : Goes U κ s w (κ'.full w') s' w' where
  le := Pl.le_trans h.le (κ'.le_full w')
  rel := h.rel.full
  next := h.next
  size := h.size
  old := h.old
  born := h.born
  bornM := h.bornM
  unborn := h.unborn
  still := h.still
  os := h.os
  output := h.output
  tape := h.tape
theorem upS_V [Interp] {κ : Pl} {h : H} {n : Nat} {w : World} (hr : Rel κ { heap := h, next := n } w) {a : AVal} {v : Value} (hv : V κ a v) : V (κ.full w) (upS h a) v := by
  unfold upS
  split
  · rename_i i o l c
    split
    · rename_i n0 cs0 ty u hg
      split
      · rename_i hc
        simp only [Bool.and_eq_true] at hc
        have h1 := Nat.le_of_ble_eq_true hc.1
        have h2 := Nat.le_of_ble_eq_true hc.2
        cases hv with
        | slc hb =>
          rename_i b
          obtain ⟨ob, h3, h4⟩ := hr.on hg hb
          cases h4 with
          | @row _ _ _ _ cs fz r0 r1 r2 r3 nf =>
            have hm : ∃ m, (κ.full w).room b = some m ∧ n0 ≤ m := by
              cases hk : κ.room b with
              | some m =>
                obtain ⟨cs', t', fz', h5, h6⟩ := hr.room b m hk
                rw [h3] at h5; cases h5
                exact ⟨m, by simp only [Pl.full, hk], by omega⟩
              | none => exact ⟨cs.size, by simp only [Pl.full, hk, h3], r1⟩
            obtain ⟨m, h5, h6⟩ := hm
            exact .slu hb h2 (.inl ⟨rfl, m, h5, by omega⟩)
      · exact hv.mono (κ.le_full w)
    · exact hv.mono (κ.le_full w)
  · exact hv.mono (κ.le_full w)
theorem upP_V [Interp] {κ : Pl} {h : H} {n : Nat} {w : World} (hr : Rel κ { heap := h, next := n } w) {p a : AVal} {v : Value} (hv : V κ a v) : V (κ.full w) (upP h p a) v := by
  unfold upP
  split
  · exact upS_V hr hv
  · exact hv.mono (κ.le_full w)
theorem upL_V [Interp] {κ : Pl} {h : H} {n : Nat} {w : World} (hr : Rel κ { heap := h, next := n } w) : ∀ {ps l : List AVal} {vs : List Value}, VL κ l vs → VL (κ.full w) (upL h ps l) vs
  | [], l, _, hv => by
    unfold upL; exact VL.mono (κ.le_full w) hv
  | p :: ps, [], _, hv => by cases hv; exact .nil
  | p :: ps, a :: l, _, hv => by cases hv with | cons x y => exact .cons (upP_V hr x) (upL_V hr y)
theorem upR_V [Interp] {κ : Pl} {h : H} {n : Nat} {w : World} (hr : Rel κ { heap := h, next := n } w) {p a : AVal} {v : Value} (hv : V κ a v) : V (κ.full w) (upR h p a) v := by
  unfold upR
  split
  · cases hv with
    | tup x => exact .tup (upL_V hr x)
  · exact upP_V hr hv
theorem Goes.writtenU {J : Interp} {κ κ' : Pl} {w w' : World} {h : H} {n : Nat} {c : Con} {v : AVal} {ρ : List Nat} (hfs : @Holds J c.facts) (hrel : Rel κ { heap := layO c.objs, next := c.objs.length } w)
    (hgo : Goes (· < c.objs.length) κ { heap := layO c.objs, next := c.objs.length } w κ' { heap := h, next := n } w') (hw : Go.Proofs.YtiemogegdoogaaaGreat.Eng.writtenM c ρ (upR h c.ret v) h n = true) :
    ∃ κ'' : Pl, Goes (· < c.objs.length) κ { heap := layO c.objs, next := c.objs.length } w κ'' { heap := resH c.objs', next := c.next' } w' ∧ ∀ x, V κ' v x → V κ'' c.ret x := by
  obtain ⟨κ'', h1, h2⟩ := Goes.writtenM hfs hrel hgo.full hw
  exact ⟨κ'', h1, fun x hx => h2 x (upR_V hgo.rel hx)⟩
theorem con_goodM {I : Interp} (hok : ∀ [Interp], tb.OK P) {c : Con} {l : List Con} {d : Nat} (hl : ∀ c' ∈ l, ConGood E tb P I c')
    (h : asWrittenM c (callF (tb.knows c.facts) P (evR (tb.knows c.facts) P l d) c.f c.args (layO c.objs) c.objs.length) = true) : ConGood E tb P I c := by
  intro v hv
  have ok' : @Tab.OK (I.at v) (tb.knows c.facts) P := @Tab.OK.knows (I.at v) tb P c.facts (@hok (I.at v)) hv
  have he := @evR_ok E (tb.knows c.facts) P (I.at v) ok' l (fun c' hc' => hl c' hc') d
  have hE := @callF_ends (I.at v) E (tb.knows c.facts) P ok' (@drawP_ok (I.at v) E (tb.knows c.facts) P ok') _ he c.f c.args (layO c.objs) c.objs.length
  generalize callF (tb.knows c.facts) P (evR (tb.knows c.facts) P l d) c.f c.args (layO c.objs) c.objs.length = r at h hE
  cases r with
  | bad w => cases h
  | pan ch h' n' => cases h
  | ret x h' n' =>
    obtain ⟨g, hg, H⟩ := hE
    refine ⟨g, hg, fun κ fr w hfr hrel hEn cs => ?_⟩
    obtain ⟨κ', fr', w', y, hst, hlv, hy, hgo, hfn⟩ := H κ fr w hfr hrel hEn cs
    obtain ⟨κ'', h1, h2⟩ := @Goes.writtenU (I.at v) _ _ _ _ _ _ _ _ _ hv hrel hgo h
    exact ⟨κ'', fr', w', y, hst, hlv, h2 y hy, h1, hfn⟩
theorem con_casesM {I : Interp} (hok : ∀ [Interp], tb.OK P) {c : Con} {l : List Con} {d : Nat} (hl : ∀ c' ∈ l, ConGood E tb P I c') {L : Nat → Facts → Facts} (hL : ∀ v : Nat → D, ∀ i fs, @Holds (I.at v) fs → @Holds (I.at v) (L i fs)) {t : ST}
    (h : allT L (fun fs => asWrittenM { c with facts := fs } (callF (tb.knows fs) P (evR (tb.knows fs) P l d) c.f c.args (layO c.objs) c.objs.length)) t c.facts = true) : ConGood E tb P I c := by
  refine ConGood.of fun v hv => ?_
  obtain ⟨fs', h1, h2⟩ := @allT_ok (I.at v) L (hL v) _ t c.facts h hv
  exact ⟨⟨c.f, c.args, c.objs, fs', c.ret, c.objs', c.next'⟩, con_goodM (c := ⟨c.f, c.args, c.objs, fs', c.ret, c.objs', c.next'⟩) hok hl h2, rfl, rfl, rfl, rfl, rfl, h1, fun _ _ h => h⟩
theorem con_vtM {I : Interp} (hok : ∀ [Interp], tb.OK P) {c : Con} {l : List Con} {d k m w : Nat} (hl : ∀ c' ∈ l, ConGood E tb P I c') {T : VT} (h1 : T.few m = true) (hw : T.wide w = true) (hI : ∀ n, n < w → ∀ x, I.f1 (k + n) x = T.fn n x)
    (h : allV (fun fs => asWrittenM { c with facts := fs } (callF (tb.knows fs) P (evR (tb.knows fs) P l d) c.f c.args (layO c.objs) c.objs.length)) (vtU k m) T c.facts = true) : ConGood E tb P I c := by
  refine ConGood.of fun v hv => ?_
  obtain ⟨fs', h2, h3⟩ := @allV_ok (I.at v) _ _ w T c.facts hw (fun n hn => by
    change (I.f1 (k + n) (@SX.ev (I.at v) (pkX m 0))).int = _
    rw [hI n hn, @VT.few_ev (I.at v) m T h1]
    rfl) h hv
  exact ⟨⟨c.f, c.args, c.objs, fs', c.ret, c.objs', c.next'⟩, con_goodM (c := ⟨c.f, c.args, c.objs, fs', c.ret, c.objs', c.next'⟩) hok hl h3, rfl, rfl, rfl, rfl, rfl, h2, fun _ _ h => h⟩
theorem con_loopsM {I : Interp} (hok : ∀ [Interp], tb.OK P) {c : Con} {l : List Con} {d : Nat} (hl : ∀ c' ∈ l, ConGood E tb P I c') {lps : List LCon} (hlps : ∀ q ∈ lps, LGood tb P I q) {L : Nat → Facts → Facts} (hL : ∀ v : Nat → D, ∀ i fs, @Holds (I.at v) fs → @Holds (I.at v) (L i fs)) {t : ST}
    (h : allT L (fun fs => asWrittenM { c with facts := fs } (callFL (tb.knows fs) P (lpK (tb.knows fs) lps c.f) (evR (tb.knows fs) P l d) c.f c.args (layO c.objs) c.objs.length)) t c.facts = true) : ConGood E tb P I c := by
  intro v hv
  obtain ⟨fs', h1, h2⟩ := @allT_ok (I.at v) L (hL v) _ t c.facts h hv
  have ok' : @Tab.OK (I.at v) (tb.knows fs') P := @Tab.OK.knows (I.at v) tb P fs' (@hok (I.at v)) h1
  have hD := @drawP_ok (I.at v) E (tb.knows fs') P ok'
  have hE := @callFL_ends (I.at v) E (tb.knows fs') P ok' hD _ (@evR_ok E (tb.knows fs') P (I.at v) ok' l (fun c' hc' => hl c' hc') d) (lpK (tb.knows fs') lps c.f) c.f (fun F c0 hF hb => lpK_ok ok' (fun q hq => (hlps q hq).knows v fs') hF hb) c.args (layO c.objs) c.objs.length
  generalize callFL (tb.knows fs') P (lpK (tb.knows fs') lps c.f) (evR (tb.knows fs') P l d) c.f c.args (layO c.objs) c.objs.length = r at h2 hE
  cases r with
  | bad w => cases h2
  | pan ch h' n' => cases h2
  | ret x h' n' =>
    obtain ⟨g, hg, H⟩ := hE
    refine ⟨g, hg, fun κ fr w hfr hrel hEn cs => ?_⟩
    obtain ⟨κ', fr', w', y, hst, hlv, hy, hgo, hfn⟩ := H κ fr w hfr hrel hEn cs
    obtain ⟨κ'', k1, k2⟩ := @Goes.writtenU (I.at v) _ _ _ _ _ _ { c with facts := fs' } _ _ h1 hrel hgo h2
    exact ⟨κ'', fr', w', y, hst, hlv, k2 y hy, k1, hfn⟩
end
end Go.Proofs.YtiemogegdoogaaaGreat.Eng

namespace Go.Proofs.YtiemogegdoogaaaGreat.Eng
open Go

noncomputable def VT.sub (β : Nat → SX) : VT → VT
  | .leaf l => .leaf (l.map (SX.sub β))
  | .br e t f => .br (e.sub β) (VT.sub β t) (VT.sub β f)
theorem VT.ev_sub (J : Interp) (β : Nat → SX) : ∀ T : VT, @VT.ev (J.of β) T = @VT.ev J (T.sub β)
  | .leaf l => by
    simp only [VT.ev, VT.sub, List.map_map]
    exact List.map_congr_left fun e _ => by simp only [Function.comp, SX.ev_sub]
  | .br e t f => by simp only [VT.ev, VT.sub]; rw [SX.ev_sub, VT.ev_sub J β t, VT.ev_sub J β f]
theorem VT.wide_sub {w : Nat} (β : Nat → SX) : ∀ {T : VT}, T.wide w = true → (T.sub β).wide w = true
  | .leaf l, h => by simpa [VT.wide, VT.sub] using h
  | .br e t f, h => by
    simp only [VT.wide, VT.sub, Bool.and_eq_true] at h ⊢
    exact ⟨VT.wide_sub β h.1, VT.wide_sub β h.2⟩
noncomputable def allN (p : Facts → Bool) (U : Nat → SX) : VT → Facts → Bool
  | .leaf l, fs => p (vtFacts fs U 0 l ++ fs)
  | .br e t f, fs => allN p U t ((nrmQ fs e, true) :: fs) && allN p U f ((nrmQ fs e, false) :: fs)
theorem allN_ok [Interp] {p : Facts → Bool} {U : Nat → SX} {w : Nat} : ∀ {T : VT} {fs : Facts}, T.wide w = true → (∀ n, n < w → (U n).ev.int = (T.ev[n]?).getD 0) → allN p U T fs = true → Holds fs → ∃ fs', Holds fs' ∧ p fs' = true
  | .leaf l, fs, hw, hU, h, hf => by
    refine ⟨_, fun q hq => ?_, h⟩
    rcases List.mem_append.1 hq with hq | hq
    · refine vtFacts_ok hf (U := U) (n := 0) (l := l) (fun i e he => ?_) q hq
      have hi : i < l.length := (List.getElem?_eq_some_iff.1 he).1
      have hlw : l.length ≤ w := Nat.le_of_ble_eq_true hw
      rw [Nat.zero_add, hU i (by omega)]
      simp only [VT.ev, List.getElem?_map, he, Option.map_some, Option.getD_some]
    · exact hf q hq
  | .br e t f, fs, hw, hU, h, hf => by
    simp only [allN, Bool.and_eq_true] at h
    simp only [VT.wide, Bool.and_eq_true] at hw
    cases he : e.ev.tr with
    | true => exact allN_ok hw.1 (fun n hn => by rw [hU n hn]; simp only [VT.ev, he, cond_true]) h.1 (List.forall_mem_cons.2 ⟨(nrmQ_ev hf e).trans he, hf⟩)
    | false => exact allN_ok hw.2 (fun n hn => by rw [hU n hn]; simp only [VT.ev, he, cond_false]) h.2 (List.forall_mem_cons.2 ⟨(nrmQ_ev hf e).trans he, hf⟩)
noncomputable def defsOK (fs : Facts) (β : Nat → SX) (m : Nat) : Bool := (List.range m).all fun i => SX.eqv (β i) (.var i) || fs.any fun q => q.2 && SX.eqv q.1 (.a2 .same (.var i) (β i))
theorem defsOK_ev {J : Interp} {fs : Facts} (hf : @Holds J fs) {β : Nat → SX} {m : Nat} (h : defsOK fs β m = true) {i : Nat} (hi : i < m) : @SX.ev J (β i) = J.v i := by
  have h1 := List.all_eq_true.1 h i (List.mem_range.2 hi)
  rw [Bool.or_eq_true] at h1
  rcases h1 with h1 | h1
  · rw [SX.eqv_eq h1]; rfl
  · obtain ⟨q, hq, h2⟩ := List.any_eq_true.1 h1
    rw [Bool.and_eq_true] at h2
    have h3 := hf q hq
    rw [SX.eqv_eq h2.2, h2.1] at h3
    have h4 : (D.ofB (@decide (@SX.ev J (.var i) = @SX.ev J (β i)) (Classical.propDecidable _))).tr = true := h3
    exact (@of_decide_eq_true _ (Classical.propDecidable _) ((D.tr_ofB _).symm.trans h4)).symm
section
variable {E : Nat → Option Value} {tb : Tab} {P : Program}
theorem VT.ev_defs {J : Interp} {T : VT} {m : Nat} (h1 : T.few m = true) {β : Nat → SX} (hd : ∀ i, i < m → @SX.ev J (β i) = J.v i) : @VT.ev J (T.sub β) = @VT.ev (Interp.lone (@SX.ev J (pkX m 0))) T := by
  rw [← VT.ev_sub, @VT.few_ev (J.of β) m T h1]
  have e : @SX.ev (J.of β) (pkX m 0) = @SX.ev J (pkX m 0) := by
    rw [pkX_ev, pkX_ev]
    congr 1
    refine List.map_congr_left fun i hi => ?_
    have hi : i < m := by
      have := List.mem_range'.1 hi
      obtain ⟨j, h1, h2⟩ := this
      omega
    exact hd i hi
  rw [e]
theorem con_vtS {I : Interp} (hok : ∀ [Interp], tb.OK P) {c : Con} {l : List Con} {d k m w : Nat} (hl : ∀ c' ∈ l, ConGood E tb P I c') {T : VT} (β : Nat → SX) (h1 : T.few m = true) (hw : T.wide w = true) (hI : ∀ n, n < w → ∀ x, I.f1 (k + n) x = T.fn n x)
    (hd : defsOK c.facts β m = true)
    (h : allN (fun fs => asWrittenM { c with facts := fs } (callF (tb.knows fs) P (evR (tb.knows fs) P l d) c.f c.args (layO c.objs) c.objs.length)) (vtU k m) (T.sub β) c.facts = true) : ConGood E tb P I c := by
  refine ConGood.of fun v hv => ?_
  obtain ⟨fs', h2, h3⟩ := @allN_ok (I.at v) _ _ w (T.sub β) c.facts (VT.wide_sub β hw) (fun n hn => by
    change (I.f1 (k + n) (@SX.ev (I.at v) (pkX m 0))).int = _
    rw [hI n hn, @VT.ev_defs (I.at v) T m h1 β fun i hi => defsOK_ev hv hd hi]
    rfl) h hv
  exact ⟨⟨c.f, c.args, c.objs, fs', c.ret, c.objs', c.next'⟩, con_goodM (c := ⟨c.f, c.args, c.objs, fs', c.ret, c.objs', c.next'⟩) hok hl h3, rfl, rfl, rfl, rfl, rfl, h2, fun _ _ h => h⟩
noncomputable def Lem.sub (β : Nat → SX) (l : Lem) : Lem := ⟨l.conds.map fun q => (q.1.sub β, q.2), l.concl.map fun q => (q.1.sub β, q.2)⟩
theorem Lem.sub_ok {I : Interp} {l : Lem} (h : l.Valid I) (β : Nat → SX) : (l.sub β).Valid I := fun v hv => by
  have h1 : @Holds (I.at fun i => @SX.ev (I.at v) (β i)) l.conds := fun q hq => by
    have := hv (q.1.sub β, q.2) (List.mem_map.2 ⟨q, hq, rfl⟩)
    rw [← this]
    exact congrArg D.tr (SX.ev_sub (I.at v) β q.1)
  intro q hq
  obtain ⟨q', hq', rfl⟩ := List.mem_map.1 hq
  have := h _ h1 q' hq'
  rw [← this]
  exact congrArg D.tr (SX.ev_sub (I.at v) β q'.1).symm
noncomputable def evL (tb : Tab) (P : Program) (l : List Con) (lps : List LCon) (d : Nat) : Ev := Nat.rec (motive := fun _ => Ev) (fun _ _ _ _ => .bad (.s "25")) (fun _ ih => evM tb.facts (fun f args h n => callFL tb P (lpK tb lps f) ih f args h n) l) d
theorem evL_ok {I : Interp} (ok : @Tab.OK I tb P) {l : List Con} (hl : ∀ c ∈ l, ConGood E tb P I c) {lps : List LCon} (hlps : ∀ q ∈ lps, LGood tb P I q) : ∀ d, @EvFOK I E tb P (evL tb P l lps d)
  | 0 => fun _ _ _ _ => trivial
  | d + 1 => @evM_ok E tb P I ok _ (fun f args h n => @callFL_ends I E tb P ok (@drawP_ok I E tb P ok) _ (evL_ok ok hl hlps d) _ f (fun F c hF hb => lpK_ok ok hlps hF hb) args h n) l hl
theorem con_allM {I : Interp} (hok : ∀ [Interp], tb.OK P) {c : Con} {l : List Con} {d : Nat} (hl : ∀ c' ∈ l, ConGood E tb P I c') {lps : List LCon} (hlps : ∀ q ∈ lps, LGood tb P I q) {L : Nat → Facts → Facts} (hL : ∀ v : Nat → D, ∀ i fs, @Holds (I.at v) fs → @Holds (I.at v) (L i fs)) {t : ST}
    (h : allT L (fun fs => asWrittenM { c with facts := fs } (callFL (tb.knows fs) P (lpK (tb.knows fs) lps c.f) (evL (tb.knows fs) P l lps d) c.f c.args (layO c.objs) c.objs.length)) t c.facts = true) : ConGood E tb P I c := by
  intro v hv
  obtain ⟨fs', h1, h2⟩ := @allT_ok (I.at v) L (hL v) _ t c.facts h hv
  have ok' : @Tab.OK (I.at v) (tb.knows fs') P := @Tab.OK.knows (I.at v) tb P fs' (@hok (I.at v)) h1
  have hD := @drawP_ok (I.at v) E (tb.knows fs') P ok'
  have hE := @callFL_ends (I.at v) E (tb.knows fs') P ok' hD _ (@evL_ok E (tb.knows fs') P (I.at v) ok' l (fun c' hc' => hl c' hc') lps (fun q hq => (hlps q hq).knows v fs') d) (lpK (tb.knows fs') lps c.f) c.f (fun F c0 hF hb => lpK_ok ok' (fun q hq => (hlps q hq).knows v fs') hF hb) c.args (layO c.objs) c.objs.length
  generalize callFL (tb.knows fs') P (lpK (tb.knows fs') lps c.f) (evL (tb.knows fs') P l lps d) c.f c.args (layO c.objs) c.objs.length = r at h2 hE
  cases r with
  | bad w => cases h2
  | pan ch h' n' => cases h2
  | ret x h' n' =>
    obtain ⟨g, hg, H⟩ := hE
    refine ⟨g, hg, fun κ fr w hfr hrel hEn cs => ?_⟩
    obtain ⟨κ', fr', w', y, hst, hlv, hy, hgo, hfn⟩ := H κ fr w hfr hrel hEn cs
    obtain ⟨κ'', k1, k2⟩ := @Goes.writtenU (I.at v) _ _ _ _ _ _ { c with facts := fs' } _ _ h1 hrel hgo h2
    exact ⟨κ'', fr', w', y, hst, hlv, k2 y hy, k1, hfn⟩
end
end Go.Proofs.YtiemogegdoogaaaGreat.Eng

namespace Go.Proofs.YtiemogegdoogaaaGreat.Eng
open Go

theorem slc_arg {J : Interp} {w : World} {a0 : Option Addr} {len0 cap0 z : Nat} {k : IntKind} {z0 : List Int} (E : Nat → Option Value) {iA iL iN : Nat} (hA : J.v iA = .l (z0.take (len0 * z))) (hL : J.v iL = .i (loOf a0)) (hN : J.v iN = .i (len0 : Int)) (hz : 0 < z)
    (h : (a0 = none ∧ len0 = 0 ∧ cap0 = 0 ∧ z0 = []) ∨ ∃ x, a0 = some x ∧ len0 ≤ cap0 ∧ cap0 ≤ maxLen ∧ z0.length = cap0 * z ∧ ∀ i, i < z0.length → w.cell? (x.add i) = some (.int k (z0.getD i 0))) :
    (∃ κ : Pl, κ.env = E ∧ @V J κ (.slv 0 (.var iL) (.var iN) none z) (.slice a0 len0 cap0) ∧ @Rel J κ { heap := layO [.win k (.var iL) (.var iA)], next := 1 } w) ∧ (z0.take (len0 * z)).length = len0 * z := by
  have eA : (@SX.ev J (.var iA)).list = z0.take (len0 * z) := by change (J.v iA).list = _; rw [hA]; rfl
  have eL : (@SX.ev J (.var iL)).int = loOf a0 := by change (J.v iL).int = _; rw [hL]; rfl
  have eN : (@SX.ev J (.var iN)).int = (len0 : Int) := by change (J.v iN).int = _; rw [hN]; rfl
  have empty : z0 = [] → len0 = 0 → cap0 = 0 → ∃ κ : Pl, κ.env = E ∧ @V J κ (.slv 0 (.var iL) (.var iN) none z) (.slice a0 len0 cap0) ∧ @Rel J κ { heap := layO [.win k (.var iL) (.var iA)], next := 1 } w := fun e1 e2 e3 => by
    subst e1 e2 e3
    exact ⟨⟨fun _ => none, fun _ => none, E⟩, rfl, .slv0 (by rw [eN]; rfl) (fun c hc => by cases hc) (fun c hc => by cases hc), win_rel (fun _ _ => rfl) (fun b hb => by cases hb) (fun b n hb => by cases hb) (.inr ⟨rfl, by rw [eA]; simp⟩)⟩
  rcases h with ⟨e0, e1, e2, e3⟩ | ⟨x, e0, h1, h2, h3, h4⟩
  · refine ⟨empty e3 e1 e2, ?_⟩
    subst e3; subst e1; simp
  · have hle : len0 * z ≤ cap0 * z := Nat.mul_le_mul_right _ h1
    have hl : (z0.take (len0 * z)).length = len0 * z := by rw [List.length_take]; omega
    refine ⟨?_, hl⟩
    rcases Nat.eq_zero_or_pos cap0 with hc | hc
    · exact empty (List.eq_nil_of_length_eq_zero (by rw [h3, hc, Nat.zero_mul])) (by omega) hc
    · subst e0
      have hpos : 0 < cap0 * z := Nat.mul_pos hc hz
      have hcell := h4 0 (by omega)
      obtain ⟨b, o, sp⟩ := x
      have hx0 : (Addr.mk b o sp).add 0 = ⟨b, o, sp⟩ := rfl
      rw [hx0] at hcell
      unfold World.cell? at hcell
      simp only at hcell
      split at hcell
      case h_2 => cases hcell
      rename_i cs t fz hb
      have hsp : sp = none := by
        cases sp with
        | none => rfl
        | some _ => simp at hcell
      subst hsp
      have hcs : ∀ i, i < cap0 * z → cs[o + i]? = some (.int k (z0.getD i 0)) := fun i hi => by
        have h6 := h4 i (by omega)
        unfold World.cell? at h6
        have e6 : ((Addr.mk b o none).add i).block = b := by unfold Addr.add; split <;> rfl
        have e7 : ((Addr.mk b o none).add i).off = o + i := by unfold Addr.add; split <;> simp_all
        have e8 : ((Addr.mk b o none).add i).spot = none := by unfold Addr.add; split <;> rfl
        rw [e6, hb] at h6
        simp only [e7, e8] at h6
        exact h6
      have hbs : b < w.heap.size := (Array.getElem?_eq_some_iff.1 hb).1
      have hsz : o + cap0 * z ≤ cs.size := by
        have := hcs (cap0 * z - 1) (by omega)
        have := (Array.getElem?_eq_some_iff.1 this).1
        omega
      refine ⟨⟨fun i => if i = 0 then some b else none, fun c => if c = b then some cs.size else none, E⟩, rfl, ?_, ?_⟩
      · refine .slv rfl (by rw [eL]; rfl) (by rw [eN]) h1 (fun c hc _ => by cases hc) ⟨cs.size, by simp, hsz⟩
      · refine win_rel (fun i hi => if_neg (by omega)) (fun c hc => ?_) (fun c n hc => ?_) (.inl ⟨b, _, rfl, hb, ?_⟩)
        · have : some b = some c := hc
          cases this; exact hbs
        · by_cases e : c = b
          · subst e
            have : (if c = c then some cs.size else none) = some n := hc
            rw [if_pos rfl] at this
            cases this
            exact ⟨cs, t, fz, hb, rfl⟩
          · have : (if c = b then some cs.size else none) = some n := hc
            rw [if_neg e] at this; cases this
        · refine .win (by rw [eL]; exact Int.natCast_nonneg _) fun j hj => ?_
          rw [eA, hl] at hj
          rw [eA, eL]
          have e9 : (loOf (some ⟨b, o, none⟩)).toNat = o := by simp [loOf]
          rw [e9, hcs j (by omega)]
          congr 2
          rw [List.getElem?_take_of_lt hj, List.getD_eq_getElem?_getD]
end Go.Proofs.YtiemogegdoogaaaGreat.Eng
namespace Go.Proofs.YtiemogegdoogaaaGreat.Eng
open Go Go.ChangeShapes Go.WideShapes Go.Deep
theorem open_pairs {H : Type} {enc : TypeId × Value → H} {P : Program} {w : World} {base : Nat} {held : Bool} {k : IntKind} {t e i : TypeId} {fuel : Nat} {cs : List Value} {x : DataW H × List MemPlace}
    (ht : P.underlying t = some (.slice e)) (he : P.underlying e = some (.array 2 i)) (hi : P.underlying i = some (.int k)) (hc : P.cellsOf e = 2) (hc1 : P.cellsOf i = 1) (h : DataW.trod enc P w base (fun _ => true) held fuel t cs = some x) :
    cs = [.slice none 0 0] ∨ ∃ (a : Addr) (len cap : Nat) (zs : List Int), cs = [.slice (some a) len cap] ∧ len ≤ cap ∧ cap ≤ maxLen ∧ zs.length = cap * 2 ∧ (∀ j, j < zs.length → w.cell? (a.add j) = some (.int k (zs.getD j 0))) := by
  rcases open_slice ht h with h0 | ⟨a, len, cap, m, n, D, Pl, rfl, hb, hl, hm, hmm, rfl, hx⟩
  · exact .inl h0.1
  right
  have hmm : m = cap := by rw [hmm]; rfl
  subst hmm
  rw [hc] at hx
  obtain ⟨f, hf⟩ := choose_lt (α := Int × Int) (n := m) (p := fun i p => w.cell? (a.add (i * 2)) = some (.int k p.1) ∧ w.cell? (a.add (i * 2 + 1)) = some (.int k p.2)) (fun j hj => by
    obtain ⟨cs', h1, h2⟩ := hx j hj
    obtain ⟨_, hlen, hcell⟩ := World.cells?_some h1
    obtain ⟨xs, m', _, _, _, hxs, hat⟩ := DataW.trod_array he h2
    match cs', hlen with
    | [v0, v1], _ =>
      match xs, hxs with
      | [y0, y1], _ =>
        have g0 := hat 0 (by omega)
        have g1 := hat 1 (by omega)
        rw [hc1] at g0 g1
        obtain ⟨n0, e0, _, _⟩ := DataW.trod_int hi (show DataW.trod enc P w base (fun _ => true) held m' i [v0] = some y0 from g0)
        obtain ⟨n1, e1, _, _⟩ := DataW.trod_int hi (show DataW.trod enc P w base (fun _ => true) held m' i [v1] = some y1 from g1)
        have c0 := hcell 0 (by omega)
        have c1 := hcell 1 (by omega)
        rw [add_add] at c0 c1
        refine ⟨(n0, n1), ?_, ?_⟩
        · rw [show j * 2 = j * 2 + 0 from rfl, c0]
          simp only [List.cons.injEq, and_true] at e0
          rw [e0]; rfl
        · rw [c1]
          simp only [List.cons.injEq, and_true] at e1
          rw [e1]; rfl)
  refine ⟨a, len, m, (List.range (m * 2)).map fun j => if j % 2 = 0 then (f (j / 2)).1 else (f (j / 2)).2, rfl, hl, hm, by simp, fun j hj => ?_⟩
  have hj : j < m * 2 := by simpa using hj
  obtain ⟨q0, q1⟩ := hf (j / 2) (by omega)
  have eg : ((List.range (m * 2)).map fun j => if j % 2 = 0 then (f (j / 2)).1 else (f (j / 2)).2).getD j 0 = if j % 2 = 0 then (f (j / 2)).1 else (f (j / 2)).2 := by
    rw [List.getD_eq_getElem?_getD, List.getElem?_map, List.getElem?_range hj]; rfl
  rw [eg]
  by_cases hp : j % 2 = 0
  · rw [if_pos hp, ← q0]; congr 2; omega
  · rw [if_neg hp, ← q1]; congr 2; omega
end Go.Proofs.YtiemogegdoogaaaGreat.Eng

