/- Part Q of an evaluator for this program: loops with contracts, proved by one round and an induction. No condition. -/
import Derived.Test.YtkofoejjbmogaaaGreatEngP
set_option linter.unusedVariables false
set_option linter.unusedSectionVars false
namespace Go.Proofs.YtkofoejjbmogaaaGreat.Eng
open Go

/-- how a loop is left -/
inductive LWay where
  | nrm
  | ext (id : Nat)
  | ret
  | pan (ch : List (AVal × Bool))

/-- what a loop does, written down: the function, the loop's place in it, the slots at the head, those that are turned and what they hold behind it, the objects, those that may move, .. -/
structure LCon where
  f : FuncId
  pl : List Bool
  nt : Nat
  ins : List (Nat × AVal)
  wrs : List (Nat × AVal)
  objs : List PObj
  mv : List Nat
  facts : Facts
  way : LWay
  objs' : List (Nat × PObj)
  next' : Nat
  meas : SX

noncomputable def findS : List (Nat × AVal) → Nat → Option AVal
  | [], _ => none
  | q :: l, t => bif Nat.beq q.1 t then some q.2 else findS l t
noncomputable def headV (c : LCon) (t : Nat) : AVal := match findS c.ins t with | some a => a | none => match findS c.wrs t with | some _ => .any | none => .sym t
noncomputable def tailV (c : LCon) (t : Nat) : AVal := match findS c.wrs t with | some a => a | none => match findS c.ins t with | some a => a | none => .sym t
noncomputable def slotsV (nt : Nat) (f : Nat → AVal) : T AVal := slotsOf 0 ((List.range nt).map f) .leaf
theorem slotsV_get {nt : Nat} (hn : nt < 1000000000) (f : Nat → AVal) (t : Nat) : slot (slotsV nt f) t = if t < nt then f t else .lit undef := by
  unfold slotsV
  rw [slotsOf_get _ _ _ _ (by simp; omega)]
  by_cases h : t < nt
  · rw [if_pos ⟨Nat.zero_le _, by simp; omega⟩, if_pos h]; simp [h]
  · rw [if_neg (by simp; omega), if_neg h]; unfold slot; rw [T.get_leaf]

/-! ### deferred calls, not looked at -/
noncomputable def symL : Nat → List AVal → List AVal
  | _, [] => []
  | n, _ :: l => .sym n :: symL (n + 1) l
noncomputable def symD : Nat → List ADef → List ADef
  | _, [] => []
  | n, .fn f m l :: r => .fn f (symL n m) (symL (n + m.length) l) :: symD (n + m.length + l.length) r
  | n, .coll d :: r => .coll d :: symD n r
noncomputable def noColl : List ADef → Bool
  | [] => true
  | .fn _ _ _ :: r => noColl r
  | .coll _ :: _ => false
def SymOnly : List ADef → Prop
  | [] => True
  | .fn _ m l :: r => (∀ a ∈ m, ∃ i, a = AVal.sym i) ∧ (∀ a ∈ l, ∃ i, a = AVal.sym i) ∧ SymOnly r
  | .coll _ :: _ => False
def capD (d : Deferred) : List Value := match d.target with | .fn (.func _) m => m.toList | _ => []
def valsD : List Deferred → List Value
  | [] => []
  | d :: r => capD d ++ d.args.toList ++ valsD r

theorem symL_sym : ∀ (l : List AVal) (n : Nat), ∀ a ∈ symL n l, ∃ i, a = AVal.sym i
  | [], _, a, h => by cases h
  | x :: l, n, a, h => by
    rcases List.mem_cons.1 h with h | h
    · exact ⟨n, h⟩
    · exact symL_sym l (n + 1) a h
theorem symD_only : ∀ (ds : List ADef) (n : Nat), noColl ds = true → SymOnly (symD n ds)
  | [], _, _ => trivial
  | .fn f m l :: r, n, h => ⟨symL_sym m n, symL_sym l _, symD_only r _ h⟩
  | .coll _ :: _, _, h => by cases h

section
variable [Interp]
theorem symL_ok {κ : Pl} : ∀ (l : List AVal) (vs : List Value) (n : Nat), l.length = vs.length → (∀ i v, vs[i]? = some v → κ.env (n + i) = some v) → VL κ (symL n l) vs
  | [], [], _, _, _ => .nil
  | a :: l, v :: vs, n, h, he => .cons (.sym (he 0 v rfl)) (symL_ok l vs (n + 1) (by simpa using h) fun i v hv => by rw [show n + 1 + i = n + (i + 1) by omega]; exact he (i + 1) v (by simpa using hv))
  | [], _ :: _, _, h, _ => by cases h
  | _ :: _, [], _, h, _ => by cases h
theorem symL_back {κ : Pl} : ∀ (l : List AVal) (vs vs' : List Value) (n : Nat), l.length = vs.length → (∀ i v, vs[i]? = some v → κ.env (n + i) = some v) → VL κ (symL n l) vs' → vs' = vs
  | [], [], _, _, _, _, h => by cases h; rfl
  | a :: l, v :: vs, _, n, h, he, hv => by
    cases hv with
    | cons x y =>
      cases x with
      | sym e =>
        have e2 := he 0 v rfl
        rw [Nat.add_zero, e] at e2
        cases e2
        rw [symL_back l vs _ (n + 1) (by simpa using h) (fun i v hv => by rw [show n + 1 + i = n + (i + 1) by omega]; exact he (i + 1) v (by simpa using hv)) y]
  | [], _ :: _, _, _, h, _, _ => by cases h
  | _ :: _, [], _, _, h, _, _ => by cases h

theorem symD_ok {I : Interp} {J : Interp} {κ κ2 : Pl} : ∀ {ds : List ADef} {dl : List Deferred}, @All2 _ _ (@DR I κ) ds dl → noColl ds = true → ∀ (n : Nat), (∀ i v, (valsD dl)[i]? = some v → κ2.env (n + i) = some v) → All2 (DR κ2) (symD n ds) dl
  | _, _, .nil, _, _, _ => .nil
  | _, _, .cons x y, hc, n, he => by
    cases x with
    | coll _ => cases hc
    | @fn f m l m' l' x1 x2 =>
      have e1 := @VL.length I _ _ _ x1
      have e2 := @VL.length I _ _ _ x2
      have hv : ∀ q, valsD ({ target := .fn (.func f) m'.toArray, args := l'.toArray } :: q) = m' ++ l' ++ valsD q := fun _ => rfl
      refine .cons (.fn (symL_ok _ _ _ e1 fun i v hi => he i v ?_) (symL_ok _ _ _ e2 fun i v hi => ?_)) (symD_ok y hc _ fun i v hi => ?_)
      · rw [hv, List.append_assoc, List.getElem?_append_left (List.getElem?_eq_some_iff.1 hi).1]; exact hi
      · rw [Nat.add_assoc]
        refine he _ v ?_
        rw [hv, List.append_assoc, List.getElem?_append_right (by omega), List.getElem?_append_left (by have := (List.getElem?_eq_some_iff.1 hi).1; omega), show m.length + i - m'.length = i by omega]; exact hi
      · rw [Nat.add_assoc, Nat.add_assoc]
        refine he _ v ?_
        rw [hv, List.getElem?_append_right (by simp; omega), List.length_append, show m.length + (l.length + i) - (m'.length + l'.length) = i by omega]; exact hi
theorem symD_back {κ κ2 : Pl} : ∀ {ds : List ADef} {dl dl' : List Deferred}, All2 (DR κ) ds dl → noColl ds = true → ∀ (n : Nat), (∀ i v, (valsD dl)[i]? = some v → κ2.env (n + i) = some v) → All2 (DR κ2) (symD n ds) dl' → dl' = dl
  | _, _, _, .nil, _, _, _, h => by cases h; rfl
  | _, _, _, .cons x y, hc, n, he, h => by
    cases x with
    | coll _ => cases hc
    | @fn f m l m' l' x1 x2 =>
      have e1 := x1.length
      have e2 := x2.length
      have hv : ∀ q, valsD ({ target := .fn (.func f) m'.toArray, args := l'.toArray } :: q) = m' ++ l' ++ valsD q := fun _ => rfl
      cases h with
      | cons z t =>
        cases z with
        | fn z1 z2 =>
          rw [symL_back _ _ _ _ e1 (fun i v hi => he i v (by rw [hv, List.append_assoc, List.getElem?_append_left (List.getElem?_eq_some_iff.1 hi).1]; exact hi)) z1,
            symL_back _ _ _ _ e2 (fun i v hi => by
              rw [Nat.add_assoc]
              refine he _ v ?_
              rw [hv, List.append_assoc, List.getElem?_append_right (by omega), List.getElem?_append_left (by have := (List.getElem?_eq_some_iff.1 hi).1; omega), show m.length + i - m'.length = i by omega]; exact hi) z2,
            symD_back y hc _ (fun i v hi => by
              rw [Nat.add_assoc, Nat.add_assoc]
              refine he _ v ?_
              rw [hv, List.getElem?_append_right (by simp; omega), List.length_append, show m.length + (l.length + i) - (m'.length + l'.length) = i by omega]; exact hi) t]
theorem SymOnly.dr {κ κ' : Pl} (he : ∀ i v, κ.env i = some v → κ'.env i = some v) : ∀ {ds : List ADef} {dl : List Deferred}, SymOnly ds → All2 (DR κ) ds dl → All2 (DR κ') ds dl
  | _, _, _, .nil => .nil
  | _, _, hs, .cons x y => by
    cases x with
    | coll _ => cases hs
    | fn x1 x2 =>
      have hv : ∀ {l : List AVal} {vs : List Value}, (∀ a ∈ l, ∃ i, a = AVal.sym i) → VL κ l vs → VL κ' l vs := by
        intro l
        induction l with
        | nil => intro vs _ h; cases h; exact .nil
        | cons a l ih =>
          intro vs hl h
          cases h with
          | cons p q =>
            obtain ⟨i, rfl⟩ := hl a (List.mem_cons_self ..)
            cases p with
            | sym e => exact .cons (.sym (he _ _ e)) (ih (fun a h => hl a (List.mem_cons_of_mem _ h)) q)
      exact .cons (.fn (hv hs.1 x1) (hv hs.2.1 x2)) (SymOnly.dr he hs.2.2 y)
theorem pure_IR {κ κ' : Pl} : ∀ {l : List AItem} {m : List Item}, l.all pureI = true → All2 (IR κ) l m → All2 (IR κ') l m
  | _, _, _, .nil => .nil
  | _, _, h, .cons x y => by
    simp only [List.all_cons, Bool.and_eq_true] at h
    refine .cons ?_ (pure_IR h.2 y)
    cases x with
    | code c => exact .code c
    | inBlock i => exact .inBlock i
    | inLoop c => exact .inLoop c
    | inScope c => exact .inScope c
    | regL e => exact .regL e
    | inRF _ => cases h.1
    | endRF _ => cases h.1
    | beginRound => exact .beginRound

/-! ### from one configuration to another, where some numbers move -/
def PGoalM (M : List Nat) (P : Program) (κ : Pl) (s : St) (fr : Frame) (cs : List Frame) (w : World) (c' : Cfg) : Prop :=
  ∀ cs0, ∃ κ' fr' cs' w', Steps P (lone fr (cs ++ cs0) w) (lone fr' (cs' ++ cs0) w') ∧ Sim κ' c' fr' cs' w' ∧ GoesM M κ s w κ' c'.st w'
def LeadsM (M : List Nat) (P : Program) (c c' : Cfg) : Prop := ∀ κ fr cs w, Sim κ c fr cs w → PGoalM M P κ c.st fr cs w c'
def LEnds (M : List Nat) (P : Program) (B : Base) (k : List AItem) (c0 : Cfg) : R1 → Prop
  | .nrm sl xd h n => LeadsM M P c0 (B.cfg xd k sl h n)
  | .ext id sl xd h n => ∃ k1, exitA id k1 = exitA id k ∧ Pre k1 k ∧ LeadsM M P c0 (B.cfg xd (.code (.exit id) :: k1) sl h n)
  | .ret sl xd h n => ∃ k1, Pre k1 k ∧ LeadsM M P c0 (B.cfg xd (.code .ret :: k1) sl h n)
  | .pan ch sl xd h n => ∃ k1, LeadsM M P c0 (B.cfg xd k1 sl h n (.pan ch))
  | .bad _ => True
end

noncomputable def resL (c : LCon) (xd : X) : R1 :=
  match c.way with
  | .nrm => .nrm (slotsV c.nt (tailV c)) xd (resH c.objs') c.next'
  | .ext id => .ext id (slotsV c.nt (tailV c)) xd (resH c.objs') c.next'
  | .ret => .ret (slotsV c.nt (tailV c)) xd (resH c.objs') c.next'
  | .pan ch => .pan ch (slotsV c.nt (tailV c)) xd (resH c.objs') c.next'

/-- the contract, for one meaning of its variables -/
def LGoodV [Interp] (P : Program) (b : Code) (c : LCon) : Prop := ∀ (kind : CallKind) (k : List AItem), k.all pureI = true → ∀ ds, SymOnly ds →
  LEnds c.mv P ⟨c.f, c.nt, kind, []⟩ k (Base.cfg ⟨c.f, c.nt, kind, []⟩ (.top ds) (.code b :: .inLoop b :: k) (slotsV c.nt (headV c)) (layO c.objs) c.objs.length) (resL c (.top ds))
def AtLoop (tb : Tab) (c : LCon) (b : Code) : Prop := ∃ F c0, tb.func c.f = some F ∧ F.body = some c0 ∧ F.ntmps = c.nt ∧ codeAt c0 c.pl = some (.loop b)
/-- the contract holds, whatever the variables stand for -/
def LGood (tb : Tab) (P : Program) (I : Interp) (c : LCon) : Prop := ∀ b, AtLoop tb c b → ∀ v : Nat → D, @Holds (I.at v) c.facts → @LGoodV (I.at v) P b c

/-! ### the use of a contract -/
noncomputable def bindT (p a : AVal) (s : Bind) : Bind :=
  match p with
  | .slv i o l c z => match a with
    | .lit (.slice none 0 0) => match c with
      | some c => bindX c (.lit 0) (bindX o (.lit 0) (bindX l (.lit 0) s))
      | none => bindX o (.lit 0) (bindX l (.lit 0) s)
    | a => bindA 30 (.slv i o l c z) a s
  | p => bindA 30 p a s
noncomputable def bindS (sl : T AVal) : List (Nat × AVal) → Bind → Bind
  | [], s => s
  | q :: l, s => bindS sl l (bindT q.2 (slot sl q.1) s)
noncomputable def bindOsL (h : H) : List PObj → Nat → Bind → Bind
  | [], _, s => s
  | p :: l, i, s => bindOsL h l (i + 1) (match s.ρ.get i with
    | some j => (match h.get j with | some o => bindO p o s | none => s)
    | none => match p with | .seq _ a _ => bindX a (.str []) s | .win _ _ a => bindX a (.str []) s | _ => s)
noncomputable def rhoFill (t : T Nat) (n : Nat) : Nat → Nat → List Nat
  | 0, _ => []
  | k + 1, i => (match t.get i with | some j => j | none => n + i) :: rhoFill t n k (i + 1)
noncomputable def putS (g : AVal → AVal) : List (Nat × AVal) → T AVal → T AVal
  | [], sl => sl
  | q :: l, sl => (putS g l sl).put q.1 (g q.2)
theorem putS_get {g : AVal → AVal} : ∀ {l : List (Nat × AVal)} {sl : T AVal}, (∀ q ∈ l, q.1 < 1000000000) → ∀ t, slot (putS g l sl) t = match findS l t with | some p => g p | none => slot sl t
  | [], _, _, _ => rfl
  | q :: l, sl, h, t => by
    haveI : Interp := .void
    simp only [putS, findS]
    rw [slot_put (h q (List.mem_cons_self ..))]
    by_cases e : t = q.1
    · subst e; rw [if_pos rfl, Nat.beq_refl]; rfl
    · rw [if_neg e, putS_get (fun q hq => h q (List.mem_cons_of_mem _ hq))]
      have : Nat.beq q.1 t = false := by rw [Bool.eq_false_iff]; intro h; exact e (nbeq h).symm
      rw [this]; rfl
noncomputable def outL (fs : Facts) (σ : Nat → Nat) (β : Nat → SX) (c : LCon) (sl : T AVal) : T AVal := putS (inst fs σ β 30) c.wrs (putS (inst fs σ β 30) c.ins sl)
noncomputable def instCh (fs : Facts) (σ : Nat → Nat) (β : Nat → SX) (ch : List (AVal × Bool)) : List (AVal × Bool) := ch.map fun q => (inst fs σ β 30 q.1, q.2)
noncomputable def measOK (fs : Facts) (β : Nat → SX) (m : Bool) (e : SX) : Bool :=
  match m with
  | false => true
  | true => (match decB fs (.a2 .lt (e.sub β) e) with | some b => b | none => false) && (match decB fs (.a2 .lt (e.sub β) (.lit 0)) with | some b => !b | none => false)
noncomputable def outW (way : LWay) (ich : List (AVal × Bool) → List (AVal × Bool)) (sl : T AVal) (xd : X) (h : H) (n : Nat) : R1 :=
  match way with
  | .nrm => .nrm sl xd h n
  | .ext id => .ext id sl xd h n
  | .ret => .ret sl xd h n
  | .pan ch => .pan (ich ch) sl xd h n
noncomputable def useL (fs : Facts) (c : LCon) (m : Bool) (sl : T AVal) (xd : X) (h : H) (n : Nat) : Option R1 :=
  match xd with
  | .rnd _ => none
  | .top ds =>
    let s := bindOsL h c.objs 0 (bindS sl c.ins ⟨.leaf, .leaf⟩)
    let ρ := rhoFill s.ρ n c.objs.length 0
    let β := betaOf s.β
    match noColl ds && c.ins.all (fun q => Nat.blt q.1 c.nt && fits fs ρ β 30 q.2 (slot sl q.1)) && c.wrs.all (fun q => Nat.blt q.1 c.nt) && factsOK fs β c.facts && rhoOK fs ρ c.mv β h n c.objs c.objs' c.next' && measOK fs β m c.meas with
    | true => some (outW c.way (instCh fs (sigmaM ρ c.mv n) β) (outL fs (sigmaM ρ c.mv n) β c sl) (.top ds) (backH fs ρ c.mv β c.objs' h n) (n + c.next'))
    | false => none

section
variable {tb : Tab} {P : Program} {E : Nat → Option Value}
theorem findS_mem : ∀ {l : List (Nat × AVal)} {t : Nat} {p : AVal}, findS l t = some p → ∃ q ∈ l, q.1 = t ∧ q.2 = p
  | [], _, _, h => by cases h
  | q :: l, t, p, h => by
    simp only [findS] at h
    cases hb : Nat.beq q.1 t with
    | true => rw [hb] at h; cases h; exact ⟨q, List.mem_cons_self .., nbeq hb, rfl⟩
    | false =>
      rw [hb] at h
      obtain ⟨q', h1, h2⟩ := findS_mem h
      exact ⟨q', List.mem_cons_of_mem _ h1, h2⟩

/-- the environment that keeps what is not looked at -/
def envL (nt : Nat) (fr : Frame) : Nat → Option Value := fun j => if j < nt then fr.tmps[j]? else (valsD fr.defers)[j - nt]?
theorem envL_lt {nt : Nat} {fr : Frame} {t : Nat} (ht : t < nt) (hsz : fr.tmps.size = nt) : envL nt fr t = some (fr.tmps.getD t undef) := by
  unfold envL
  rw [if_pos ht]
  simp only [Array.getD_eq_getD_getElem?]
  rw [Array.getElem?_eq_getElem (by omega)]; rfl
theorem envL_ds {nt : Nat} {fr : Frame} {i : Nat} : envL nt fr (nt + i) = (valsD fr.defers)[i]? := by
  unfold envL
  rw [if_neg (by omega), Nat.add_sub_cancel_left]
theorem undef_ge {tmps : Array Value} {t : Nat} (h : tmps.size ≤ t) : tmps.getD t undef = undef := by
  simp only [Array.getD_eq_getD_getElem?]
  rw [Array.getElem?_eq_none h]; rfl

/-- the machine's frame, in the written numbers -/
theorem enterL {I : Interp} {J : Interp} {fs : Facts} {ρ : List Nat} {β : Nat → SX} (hfs : @Holds I fs) (hJ : Of J I β) {c : LCon} {sl : T AVal} {h : H} {n : Nat} {kind : CallKind} {below : List AFr} {ds : List ADef} {todo : List AItem}
    (hk : todo.all pureI = true) (hd : noColl ds = true) (hins : ∀ t p, findS c.ins t = some p → t < c.nt ∧ fits fs ρ β 30 p (slot sl t) = true) (hnd : ρ.Nodup) (hm9 : c.objs.length < 1000000000) (k3 : fitsAll fs ρ β h n c.objs ρ = true)
    {κ : Pl} {fr : Frame} {cs : List Frame} {w : World} (hs : @Sim I κ (Base.cfg ⟨c.f, c.nt, kind, below⟩ (.top ds) todo sl h n) fr cs w) :
    @Sim J (κ.viaE ρ (envL c.nt fr)) (Base.cfg ⟨c.f, c.nt, kind, []⟩ (.top (symD c.nt ds)) todo (slotsV c.nt (headV c)) (layO c.objs) c.objs.length) fr [] w := by
  obtain ⟨⟨a1, a2, a3, a4, a5, a6, a7⟩, _, hrel⟩ := hs
  have hv := @SR.val I _ _ _ _ a2
  have hsz : fr.tmps.size = c.nt := @SR.size I _ _ _ _ a2
  have hlim : c.nt < 1000000000 := @SR.lim I _ _ _ _ a2
  refine ⟨⟨a1, ⟨hlim, hsz, fun t => ?_⟩, fun _ => pure_IR hk (a3 rfl), symD_ok (κ2 := κ.viaE ρ (envL c.nt fr)) a4 hd c.nt fun i v hi => envL_ds.trans hi, ?_, a6, ?_⟩, .nil, Rel_fit hfs hJ hnd k3 hrel hm9 _⟩
  · change V _ (slot (slotsV c.nt (headV c)) t) _
    rw [slotsV_get hlim]
    by_cases ht : t < c.nt
    · rw [if_pos ht]
      unfold headV
      cases hf : findS c.ins t with
      | some p => exact fits_V hfs hJ 30 (hins t p hf).2 (hv t)
      | none =>
        simp only
        cases findS c.wrs t with
        | some p => exact .any
        | none => exact .sym (envL_lt ht hsz)
    · rw [if_neg ht, undef_ge (by omega)]; exact .lit _
  · generalize fr.mode = md at a5
    cases a5; exact .run
  · generalize fr.roundOf = md at a7
    cases a7; exact .none

/-- .. and back -/
theorem backL {J : Interp} {I : Interp} {fs : Facts} {ρ : List Nat} {β : Nat → SX} (hfs : @Holds I fs) (hJ : Of J I β) {c : LCon} {sl : T AVal} {h : H} {n : Nat} {kind : CallKind} {below : List AFr} {ds : List ADef} {todo : List AItem}
    (hd : noColl ds = true) (hins : ∀ t p, findS c.ins t = some p → t < c.nt ∧ fits fs ρ β 30 p (slot sl t) = true) (hw : ∀ q ∈ c.wrs, q.1 < c.nt) (hi : ∀ q ∈ c.ins, q.1 < c.nt) (R : RhoOK ρ c.mv h n c.objs c.objs' c.next') (k3 : fitsAll fs ρ β h n c.objs ρ = true)
    {κ : Pl} {fr : Frame} {cs : List Frame} {w : World} (hs : Sim κ (Base.cfg ⟨c.f, c.nt, kind, below⟩ (.top ds) todo sl h n) fr cs w) {κp' : Pl} {fr' : Frame} {w' : World} {kk : List AItem} {md md' : AMode} (hkk : md = .run → kk.all pureI = true) (hmd : md' = .run → md = .run)
    (hmode : ∀ (κ' : Pl) fm, Under κp' κ' (sigmaM ρ c.mv n) → @MR J κp' md fm → MR κ' md' fm)
    (hs' : @Sim J κp' (Base.cfg ⟨c.f, c.nt, kind, []⟩ (.top (symD c.nt ds)) kk (slotsV c.nt (tailV c)) (resH c.objs') c.next' md) fr' [] w')
    (hgo : GoesM c.mv (κ.viaE ρ (envL c.nt fr)) { heap := layO c.objs, next := c.objs.length } w κp' { heap := resH c.objs', next := c.next' } w') :
    ∃ κ', Sim κ' (Base.cfg ⟨c.f, c.nt, kind, below⟩ (.top ds) kk (outL fs (sigmaM ρ c.mv n) β c sl) (backH fs ρ c.mv β c.objs' h n) (n + c.next') md') fr' cs w' ∧ Goes (· < n) κ { heap := h, next := n } w κ' { heap := backH fs ρ c.mv β c.objs' h n, next := n + c.next' } w' := by
  obtain ⟨⟨a1, a2, a3, a4, a5, a6, a7⟩, abelow, hrel⟩ := hs
  obtain ⟨⟨b1, b2, b3, b4, b5, b6, b7⟩, _, hrel'⟩ := hs'
  have hval := @SR.val J _ _ _ _ b2
  have hsz' : fr'.tmps.size = c.nt := @SR.size J _ _ _ _ b2
  have hsz : fr.tmps.size = c.nt := a2.size
  have hlim : c.nt < 1000000000 := a2.lim
  obtain ⟨κ', hu, hgo'⟩ := heap_back hfs hJ rfl R.len R.nd R.lt R.m9 R.mn R.lv R.lim R.nd' R.k8 (may_fit R.m9 k3 hrel) hrel hgo hrel'
  have hle : κ.le κ' := hgo'.le
  refine ⟨κ', ⟨⟨b1, ⟨hlim, hsz', fun t => ?_⟩, fun hm => pure_IR (κ := κp') (hkk (hmd hm)) (b3 (hmd hm)), ?_, hmode κ' _ hu b5, b6, ?_⟩, abelow.mono fun _ _ h => FR.mono hle h, hgo'.rel⟩, hgo'⟩
  · have hv : @V J κp' (slot (slotsV c.nt (tailV c)) t) (fr'.tmps.getD t undef) := hval t
    have hv0 : V κ (slot sl t) (fr.tmps.getD t undef) := a2.val t
    rw [slotsV_get hlim] at hv
    change V κ' (slot (outL fs (sigmaM ρ c.mv n) β c sl) t) _
    unfold outL
    rw [putS_get fun q hq => by have := hw q hq; omega]
    cases hfw : findS c.wrs t with
    | some p =>
      obtain ⟨q, hq, e1, _⟩ := findS_mem hfw
      have hlt := hw q hq
      rw [e1] at hlt
      rw [if_pos hlt] at hv
      simp only [tailV, hfw] at hv
      exact inst_V hJ hfs hu 30 hv
    | none =>
      simp only
      rw [putS_get fun q hq => by have := hi q hq; omega]
      cases hfi : findS c.ins t with
      | some p =>
        rw [if_pos (hins t p hfi).1] at hv
        simp only [tailV, hfw, hfi] at hv
        exact inst_V hJ hfs hu 30 hv
      | none =>
        simp only
        by_cases ht : t < c.nt
        · rw [if_pos ht] at hv
          simp only [tailV, hfw, hfi] at hv
          have henv : κp'.env t = some (fr.tmps.getD t undef) := hgo.env t _ (envL_lt ht hsz)
          have hx : ∀ x, @V J κp' (.sym t) x → x = fr.tmps.getD t undef := fun x hx => by
            cases hx with
            | sym e => rw [henv] at e; cases e; rfl
          rw [hx _ hv]
          exact hv0.mono hle
        · rw [undef_ge (by omega)] at hv0 ⊢
          exact hv0.mono hle
  · have h3 : ∀ {ds : List ADef} {dl : List Deferred}, SymOnly ds → @All2 _ _ (@DR J κp') ds dl → All2 (DR κp') ds dl := by
      intro ds
      induction ds with
      | nil => intro dl _ h; cases h; exact .nil
      | cons d ds ih =>
        intro dl hs h
        cases h with
        | cons x y =>
          cases x with
          | coll _ => cases hs
          | fn x1 x2 =>
            have hv : ∀ {l : List AVal} {vs : List Value}, (∀ a ∈ l, ∃ i, a = AVal.sym i) → @VL J κp' l vs → VL κp' l vs := by
              intro l
              induction l with
              | nil => intro vs _ h; cases h; exact .nil
              | cons a l ih =>
                intro vs hl h
                cases h with
                | cons p q =>
                  obtain ⟨i, rfl⟩ := hl a (List.mem_cons_self ..)
                  cases p with
                  | sym e => exact .cons (.sym e) (ih (fun a h => hl a (List.mem_cons_of_mem _ h)) q)
            exact .cons (.fn (hv hs.1 x1) (hv hs.2.1 x2)) (ih hs.2.2 y)
    have e : fr'.defers = fr.defers := symD_back (κ := κ) (κ2 := κp') a4 hd c.nt (fun i v hi => hgo.env _ v (envL_ds.trans hi)) (h3 (symD_only ds _ hd) b4)
    change All2 (DR κ') ds fr'.defers
    rw [e]
    exact a4.mono fun _ _ => DR.mono hle
  · change RO κ' none _
    generalize fr'.roundOf = md at b7
    cases b7; exact .none

theorem useL_ok {I : Interp} (ok : @Tab.OK I tb P) {c : LCon} {b : Code} {m : Bool} {sl : T AVal} {xd : X} {h : H} {n : Nat} {r : R1} (hu : useL tb.facts c m sl xd h n = some r)
    (hgood : ∀ v, @Holds (I.at v) c.facts → (m = true → (@SX.ev (I.at v) c.meas).int < (@SX.ev I c.meas).int ∧ 0 ≤ (@SX.ev (I.at v) c.meas).int) → @LGoodV (I.at v) P b c)
    (kind : CallKind) (below : List AFr) (k : List AItem) (hk : k.all pureI = true) :
    @Ends I E P ⟨c.f, c.nt, kind, below⟩ k (Base.cfg ⟨c.f, c.nt, kind, below⟩ xd (.code b :: .inLoop b :: k) sl h n) r := by
  unfold useL at hu
  cases xd with
  | rnd l => cases hu
  | top ds =>
  simp only at hu
  generalize rhoFill (bindOsL h c.objs 0 (bindS sl c.ins ⟨.leaf, .leaf⟩)).ρ n c.objs.length 0 = ρ at hu
  generalize betaOf (bindOsL h c.objs 0 (bindS sl c.ins ⟨.leaf, .leaf⟩)).β = β at hu
  split at hu
  case h_2 => cases hu
  rename_i hcond
  cases hu
  simp only [Bool.and_eq_true] at hcond
  obtain ⟨⟨⟨⟨⟨c1, c2⟩, c3⟩, c4⟩, c5⟩, c6⟩ := hcond
  obtain ⟨R, k3⟩ := rhoOK_ok c5
  have hfs : @Holds I tb.facts := ok.holds
  have hvars := factsOK_holds (I := I) hfs c4
  obtain ⟨J, hJe⟩ : ∃ J, J = I.of β := ⟨_, rfl⟩
  have hJ : Of J I β := by rw [hJe]; exact SX.ev_sub I β
  have hg : @LGoodV J P b c := by
    rw [hJe]
    refine hgood _ hvars fun hm => ?_
    subst hm
    simp only [measOK, Bool.and_eq_true] at c6
    obtain ⟨d1, d2⟩ := c6
    split at d1
    case h_2 => cases d1
    rename_i b1 hb1
    split at d2
    case h_2 => cases d2
    rename_i b2 hb2
    subst d1
    have d2 : b2 = false := by simpa using d2
    subst d2
    have e1 := of_decide_eq_true ((@ltE I _ _).symm.trans (@decB_sound I _ hfs _ _ hb1))
    have e2 := of_decide_eq_false ((@ltE I _ _).symm.trans (@decB_sound I _ hfs _ _ hb2))
    rw [SX.ev_sub]
    exact ⟨e1, Int.not_lt.1 e2⟩
  have hins : ∀ t p, findS c.ins t = some p → t < c.nt ∧ fits tb.facts ρ β 30 p (slot sl t) = true := fun t p ht => by
    obtain ⟨q, hq, e1, e2⟩ := findS_mem ht
    have := List.all_eq_true.1 c2 q hq
    simp only [Bool.and_eq_true, Nat.blt_eq] at this
    rw [← e1, ← e2]; exact this
  have hw : ∀ q ∈ c.wrs, q.1 < c.nt := fun q hq => by
    have := List.all_eq_true.1 c3 q hq
    rwa [Nat.blt_eq] at this
  have hi : ∀ q ∈ c.ins, q.1 < c.nt := fun q hq => by
    have := List.all_eq_true.1 c2 q hq
    simp only [Bool.and_eq_true, Nat.blt_eq] at this; exact this.1
  have main : ∀ (kk : List AItem) (md md' : AMode), (md = .run → kk.all pureI = true) → (md' = .run → md = .run) →
      (∀ (κp' κ' : Pl) fm, Under κp' κ' (sigmaM ρ c.mv n) → @MR J κp' md fm → @MR I κ' md' fm) →
      @LeadsM J c.mv P (Base.cfg ⟨c.f, c.nt, kind, []⟩ (.top (symD c.nt ds)) (.code b :: .inLoop b :: k) (slotsV c.nt (headV c)) (layO c.objs) c.objs.length) (Base.cfg ⟨c.f, c.nt, kind, []⟩ (.top (symD c.nt ds)) kk (slotsV c.nt (tailV c)) (resH c.objs') c.next' md) →
      @Leads I E P (Base.cfg ⟨c.f, c.nt, kind, below⟩ (.top ds) (.code b :: .inLoop b :: k) sl h n) (Base.cfg ⟨c.f, c.nt, kind, below⟩ (.top ds) kk (outL tb.facts (sigmaM ρ c.mv n) β c sl) (backH tb.facts ρ c.mv β c.objs' h n) (n + c.next') md') := fun kk md md' h1 h2 h3 hL κ fr cs w hs _ cs0 => by
    obtain ⟨κp', fr', cs', w', hst, hs', hgo⟩ := hL _ fr [] w (enterL hfs hJ (by simp [pureI, hk]) c1 hins R.nd R.m9 k3 hs) (cs ++ cs0)
    have hcs : cs' = [] := by have := @Sim.below J _ _ _ _ _ hs'; generalize cs' = q at this; cases this; rfl
    subst hcs
    obtain ⟨κ', hs2, hgo2⟩ := backL hfs hJ c1 hins hw hi R k3 hs h1 h2 (h3 κp') hs' hgo
    exact ⟨κ', fr', cs, w', hst, hs2, hgo2⟩
  have hgg := hg kind k hk (symD c.nt ds) (symD_only ds _ c1)
  have hrun : ∀ (κp' κ' : Pl) fm, Under κp' κ' (sigmaM ρ c.mv n) → @MR J κp' .run fm → @MR I κ' .run fm := fun _ _ _ _ h => by
    have h2 : ∀ {J : Interp} {I : Interp} {κp' κ' : Pl} {fm : FrameMode}, @MR J κp' .run fm → @MR I κ' .run fm := fun {J I κp' κ' fm} h => by cases h; exact .run
    exact h2 h
  unfold resL at hgg
  cases hw : c.way with
  | nrm =>
    rw [hw] at hgg
    exact main k .run .run (fun _ => hk) (fun h => h) hrun hgg
  | ext id =>
    rw [hw] at hgg
    obtain ⟨k1, e1, p1, hgg⟩ := hgg
    exact ⟨k1, e1, p1, main _ .run .run (fun _ => by simpa [pureI] using p1.pure hk) (fun h => h) hrun hgg⟩
  | ret =>
    rw [hw] at hgg
    obtain ⟨k1, p1, hgg⟩ := hgg
    exact ⟨k1, p1, main _ .run .run (fun _ => by simpa [pureI] using p1.pure hk) (fun h => h) hrun hgg⟩
  | pan ch =>
    rw [hw] at hgg
    obtain ⟨k1, hgg⟩ := hgg
    have hch : ∀ {J : Interp} {I : Interp} {β : Nat → SX} {κp' κ' : Pl} {fm : FrameMode}, @Holds I tb.facts → Of J I β → Under κp' κ' (sigmaM ρ c.mv n) → @MR J κp' (.pan ch) fm → MR κ' (.pan (instCh tb.facts (sigmaM ρ c.mv n) β ch)) fm := fun {J I β κp' κ' fm} hfs hJ hu hm => by
      cases hm with
      | pan hp =>
        refine .pan ?_
        unfold instCh
        clear hgg hw
        generalize ch = l at hp
        generalize hl' : (_ : List PanicEntry) = l' at hp
        clear hl'
        induction hp with
        | nil => exact .nil
        | cons x y ih => exact .cons (@PR.mk I _ _ _ (inst_V hJ hfs hu 30 (@PR.v J _ _ _ x)) (by have h9 := @PR.recovered J _ _ _ x; exact h9) (@PR.goexit J _ _ _ x)) ih
    exact ⟨k1, main _ (.pan ch) (.pan (instCh tb.facts (sigmaM ρ c.mv n) β ch)) (fun h => by cases h) (fun h => by cases h) (fun κp' κ' fm hu hm => hch hfs hJ hu hm) hgg⟩
end
end Go.Proofs.YtkofoejjbmogaaaGreat.Eng

namespace Go.Proofs.YtkofoejjbmogaaaGreat.Eng
open Go

/-! ### what a round has left is as it is written -/
noncomputable def tailOK (fs : Facts) (ρ : List Nat) (c : LCon) (sl : T AVal) : Bool := (List.range c.nt).all fun t => match findS c.wrs t with
  | some p => fits fs ρ varB 30 p (slot sl t)
  | none => match findS c.ins t with
    | some p => fits fs ρ varB 30 p (slot sl t)
    | none => match slot sl t with | .sym i => Nat.beq i t | _ => false
noncomputable def absentF (fs : Facts) (p : PObj) : Bool := match p with | .seq _ a _ => sameL fs a (.str []) | .win _ _ a => sameL fs a (.str []) | _ => false
noncomputable def objOK (fs : Facts) (ρ : List Nat) (h : H) (n : Nat) (q : Nat × PObj) : Bool := match ρ[q.1]? with
  | some j => match h.get j with | some o => fitsO fs ρ varB q.2 o | none => Nat.ble n j && absentF fs q.2
  | none => false
noncomputable def heapOK (fs : Facts) (ρ : List Nat) (c : LCon) (h : H) (n : Nat) : Bool :=
  Nat.beq ρ.length c.next' && Nat.ble c.objs.length c.next' && Nat.ble c.next' 1000000000 && nodupN ρ && nodupN (c.objs'.map (·.1)) && (c.objs'.all fun q => Nat.blt q.1 c.next' && objOK fs ρ h n q) &&
    (List.range c.objs.length).all fun i => memN i c.mv || match ρ[i]? with | some j => Nat.beq j i | none => false
noncomputable def bindSelf (mv : List Nat) : Nat → Nat → Bind → Bind
  | 0, _, s => s
  | k + 1, i, s => bindSelf mv k (i + 1) (match memN i mv with | true => s | false => bindI i i s)
noncomputable def bindOT (h : H) : List (Nat × PObj) → Bind → Bind
  | [], s => s
  | q :: l, s => bindOT h l (match s.ρ.get q.1 with | some j => (match h.get j with | some o => bindO q.2 o s | none => s) | none => s)
noncomputable def chOK (fs : Facts) (ρ : List Nat) : List (AVal × Bool) → List (AVal × Bool) → Bool
  | [], [] => true
  | p :: l, q :: m => fits fs ρ varB 30 p.1 q.1 && (p.2 == q.2) && chOK fs ρ l m
  | _, _ => false
noncomputable def chkT (fs : Facts) (c : LCon) (sl : T AVal) (xd : X) (h : H) (n : Nat) (more : List Nat → Bool) : Option X :=
  let s := bindOT h c.objs' (bindS sl c.ins (bindS sl c.wrs (bindSelf c.mv c.objs.length 0 ⟨.leaf, .leaf⟩)))
  let ρ := rhoFill s.ρ n c.next' 0
  match tailOK fs ρ c sl && heapOK fs ρ c h n && more ρ with
  | true => some xd
  | false => none
noncomputable def chkL (fs : Facts) (c : LCon) (r : R1) : Option X :=
  match r with
  | .nrm sl xd h n => match c.way with | .nrm => chkT fs c sl xd h n fun _ => true | _ => none
  | .ext id' sl xd h n => match c.way with | .ext id => (match Nat.beq id id' with | true => chkT fs c sl xd h n fun _ => true | false => none) | _ => none
  | .ret sl xd h n => match c.way with | .ret => chkT fs c sl xd h n fun _ => true | _ => none
  | .pan ch' sl xd h n => match c.way with | .pan ch => chkT fs c sl xd h n fun ρ => chOK fs ρ ch ch' | _ => none
  | .bad _ => none

section
variable [Interp] {fs : Facts} {ρ : List Nat} {c : LCon} {κ : Pl} {h : H} {n : Nat} {w : World} {P : Program} {E : Nat → Option Value}

theorem tail_SR (hf : Holds fs) {sl : T AVal} {tmps : Array Value} (hr : SR κ c.nt sl tmps) (hc : tailOK fs ρ c sl = true) : SR (κ.via ρ) c.nt (slotsV c.nt (tailV c)) tmps := by
  refine ⟨hr.lim, hr.size, fun t => ?_⟩
  rw [slotsV_get hr.lim]
  have hv := hr.val t
  by_cases ht : t < c.nt
  · rw [if_pos ht]
    have h1 := List.all_eq_true.1 hc t (List.mem_range.2 ht)
    unfold tailV
    split at h1
    · rename_i p hp
      try simp only [hp]
      exact fits_V hf (of_self _) 30 h1 hv
    · rename_i hp
      split at h1
      · rename_i q hq
        try simp only [hp, hq]
        exact fits_V hf (of_self _) 30 h1 hv
      · rename_i hq
        try simp only [hp, hq]
        split at h1
        · rename_i i hs
          rw [hs] at hv
          rw [nbeq h1] at hv
          generalize tmps.getD t undef = x at hv
          cases hv with | sym e => exact .sym e
        · cases h1
  · rw [if_neg ht]
    have : tmps.getD t undef = undef := by
      simp only [Array.getD_eq_getD_getElem?]
      rw [Array.getElem?_eq_none (by rw [hr.size]; omega)]; rfl
    rw [this]; exact .lit _

theorem absentF_bare (hf : Holds fs) {p : PObj} (h : absentF fs p = true) : bare p.obj := by
  unfold absentF at h
  split at h
  · exact sameL_ok hf h
  · exact sameL_ok hf h
  · cases h

structure HeapOK (fs : Facts) (ρ : List Nat) (c : LCon) (h : H) (n : Nat) : Prop where
  len : ρ.length = c.next'
  mn : c.objs.length ≤ c.next'
  lim : c.next' ≤ 1000000000
  nd : ρ.Nodup
  nd' : (c.objs'.map (·.1)).Nodup
  lt : ∀ q ∈ c.objs', q.1 < c.next'
  ob : ∀ q ∈ c.objs', ∃ j, ρ[q.1]? = some j ∧ ((∃ o, h.get j = some o ∧ fitsO fs ρ varB q.2 o = true) ∨ (h.get j = none ∧ n ≤ j ∧ absentF fs q.2 = true))
  own : ∀ i, i < c.objs.length → i ∉ c.mv → ρ[i]? = some i
theorem heapOK_ok (hc : heapOK fs ρ c h n = true) : HeapOK fs ρ c h n := by
  simp only [heapOK, Bool.and_eq_true] at hc
  obtain ⟨⟨⟨⟨⟨⟨h1, h2⟩, h3⟩, h4⟩, h5⟩, h6⟩, h7⟩ := hc
  refine ⟨nbeq h1, Nat.le_of_ble_eq_true h2, Nat.le_of_ble_eq_true h3, nodupN_nodup h4, nodupN_nodup h5, fun q hq => ?_, fun q hq => ?_, fun i hi hm => ?_⟩
  · have := List.all_eq_true.1 h6 q hq
    simp only [Bool.and_eq_true, Nat.blt_eq] at this; exact this.1
  · have := List.all_eq_true.1 h6 q hq
    simp only [Bool.and_eq_true] at this
    have h8 := this.2
    unfold objOK at h8
    split at h8
    case h_2 => cases h8
    rename_i j hj
    refine ⟨j, hj, ?_⟩
    split at h8
    · rename_i o ho; exact .inl ⟨o, ho, h8⟩
    · rename_i ho
      simp only [Bool.and_eq_true] at h8
      exact .inr ⟨ho, Nat.le_of_ble_eq_true h8.1, h8.2⟩
  · have := List.all_eq_true.1 h7 i (List.mem_range.2 hi)
    rw [Bool.or_eq_true, memN_iff] at this
    rcases this with h8 | h8
    · exact absurd h8 hm
    · exact atR_eq (ρ := ρ) h8

theorem tail_Rel (hf : Holds fs) (hr : Rel κ { heap := h, next := n } w) (H : HeapOK fs ρ c h n) : Rel (κ.via ρ) { heap := resH c.objs', next := c.next' } w ∧
    (∀ i b, ({ heap := resH c.objs', next := c.next' } : St).live i → κ.via ρ i = some b → ∃ j, κ j = some b ∧ ({ heap := h, next := n } : St).live j) ∧
    (∀ i b, ({ heap := resH c.objs', next := c.next' } : St).may i → κ.via ρ i = some b → ∃ j, κ j = some b ∧ ({ heap := h, next := n } : St).may j) := by
  have hget := resH_get (l := c.objs') (fun q hq => by have := H.lt q hq; have := H.lim; omega) H.nd'
  have hobj : ∀ i o, (resH c.objs').get i = some o → ∃ q ∈ c.objs', q.1 = i ∧ o = q.2.obj := fun i o ho => by
    rw [hget] at ho
    cases hf : c.objs'.find? (fun q => q.1 == i) with
    | none => rw [hf] at ho; cases ho
    | some q =>
      rw [hf] at ho
      cases ho
      exact ⟨q, List.mem_of_find?_eq_some hf, by simpa using List.find?_some hf, rfl⟩
  have hvia : ∀ i b, κ.via ρ i = some b → ∃ j, ρ[i]? = some j ∧ κ j = some b := fun i b hb => by
    change (ρ[i]?).bind κ.on = some b at hb
    cases hj : ρ[i]? with
    | none => rw [hj] at hb; cases hb
    | some j => rw [hj] at hb; exact ⟨j, rfl, hb⟩
  have hlive : ∀ i, ({ heap := resH c.objs', next := c.next' } : St).live i → ∃ q ∈ c.objs', q.1 = i := fun i hl => by
    unfold St.live at hl
    cases hg : (resH c.objs').get i with
    | none => exact absurd hg hl
    | some o => obtain ⟨q, h1, h2, _⟩ := hobj i o hg; exact ⟨q, h1, h2⟩
  have hlv : ∀ i b, ({ heap := resH c.objs', next := c.next' } : St).live i → κ.via ρ i = some b → ∃ j, ρ[i]? = some j ∧ κ j = some b ∧ ({ heap := h, next := n } : St).live j := fun i b hl hb => by
    obtain ⟨q, hq, e⟩ := hlive i hl
    obtain ⟨j, hj, hx⟩ := H.ob q hq
    obtain ⟨j', hj', hb'⟩ := hvia i b hb
    rw [e, hj'] at hj; cases hj
    rcases hx with ⟨o, ho, _⟩ | ⟨_, hx, _⟩
    · exact ⟨j, hj', hb', live_of ho⟩
    · rw [hr.fresh j hx] at hb'; cases hb'
  refine ⟨⟨H.lim, fun i hi => ?_, fun i b hb => ?_, fun i j b hi hj h1 h2 => ?_, hr.room, fun i o hg => ?_, fun i hi hl => ?_⟩, fun i b hl hb => ?_, fun i b hl hb => ?_⟩
  · change (ρ[i]?).bind κ.on = none
    rw [List.getElem?_eq_none (by rw [H.len]; exact hi)]; rfl
  · obtain ⟨j, _, h2⟩ := hvia i b hb
    exact hr.size _ _ h2
  · obtain ⟨i', a1, a2, a3⟩ := hlv i b hi h1
    obtain ⟨j', b1, b2, b3⟩ := hlv j b hj h2
    have e := hr.inj _ _ b a3 b3 a2 b2
    subst e
    exact (List.getElem?_inj (List.getElem?_eq_some_iff.1 a1).1 H.nd).1 (a1.trans b1.symm)
  · obtain ⟨q, hq, e, eo⟩ := hobj i o hg
    subst eo
    obtain ⟨j, hj, hx⟩ := H.ob q hq
    rw [e] at hj
    have ev : κ.via ρ i = κ j := by
      change (ρ[i]?).bind κ.on = _
      rw [hj]; rfl
    rcases hx with ⟨o, ho, hft⟩ | ⟨_, hx, hab⟩
    · rcases hr.obj j o ho with ⟨b, ob, k1, k2, k3⟩ | ⟨k1, k2⟩
      · exact .inl ⟨b, ob, ev.trans k1, k2, fitsO_ORel hf (of_self _) hft k3⟩
      · exact .inr ⟨ev.trans k1, fitsO_bare hf (of_self _) hft k2⟩
    · exact .inr ⟨ev.trans (hr.fresh j hx), absentF_bare hf hab⟩
  · obtain ⟨q, hq, e⟩ := hlive i hl
    have := H.lt q hq
    simp only at hi; omega
  · obtain ⟨j, _, h2, h3⟩ := hlv i b hl hb; exact ⟨j, h2, h3⟩
  · obtain ⟨o, h1, h2⟩ := hl
    obtain ⟨q, hq, e, eo⟩ := hobj i o h1
    obtain ⟨j, hj, hb', hl'⟩ := hlv i b (live_of h1) hb
    obtain ⟨j', hj', hx⟩ := H.ob q hq
    rw [e, hj] at hj'; cases hj'
    rcases hx with ⟨o', ho, hft⟩ | ⟨hx, _, _⟩
    · exact ⟨j, hb', o', ho, by rw [fitsO_win hft, ← eo]; exact h2⟩
    · exact absurd hx hl'

/-- less is said -/
theorem wk_leads (hf : Holds fs) {B : Base} {c0 : Cfg} {ds : List ADef} {kk : List AItem} {sl : T AVal} {md md' : AMode} (hnt : B.nt = c.nt) (hb : B.below = []) (hds : SymOnly ds) (hkk : md = .run → kk.all pureI = true) (hmd : md' = .run → md = .run)
    (hmode : ∀ (κ : Pl) fm, MR κ md fm → MR (κ.via ρ) md' fm) (hst : c0.st.next = c.objs.length)
    (hL : Leads (fun _ => none) P c0 (B.cfg (.top ds) kk sl h n md)) (h1 : tailOK fs ρ c sl = true) (h2 : HeapOK fs ρ c h n) :
    LeadsM c.mv P c0 (B.cfg (.top ds) kk (slotsV c.nt (tailV c)) (resH c.objs') c.next' md') := by
  intro κ fr cs w hs cs0
  obtain ⟨κ1, fr1, cs1, w1, hst1, hs1, hgo⟩ := hL κ fr cs w hs (fun _ _ h => by cases h) cs0
  obtain ⟨⟨a1, a2, a3, a4, a5, a6, a7⟩, abelow, hrel⟩ := hs1
  obtain ⟨fn, nt, kind, below⟩ := B
  simp only at hnt hb
  subst hnt; subst hb
  simp only [Base.cfg, Base.fr, X.ds, X.ro] at a1 a2 a3 a4 a5 a6 a7 abelow hrel
  have hcs : cs1 = [] := by generalize cs1 = q at abelow; cases abelow; rfl
  subst hcs
  obtain ⟨r1, r2, r3⟩ := tail_Rel hf hrel h2
  refine ⟨κ1.via ρ, fr1, [], w1, hst1, ⟨⟨a1, tail_SR hf a2 h1, fun hm => pure_IR (hkk (hmd hm)) (a3 (hmd hm)), SymOnly.dr (κ := κ1) (κ' := κ1.via ρ) (fun _ _ h => h) hds a4, hmode _ _ a5, a6, ?_⟩, .nil, r1⟩, ?_⟩
  · simp only [Base.cfg, Base.fr, X.ro]
    generalize fr1.roundOf = q at a7
    cases a7; exact .none
  · refine ⟨fun i b hi hk => ?_, hgo.le.room, hgo.le.env, ?_, hgo.size, hgo.old, fun i b hl hk => ?_, fun i b hl hk => ?_, fun i hi hm hk => ?_, hgo.os, hgo.output, hgo.tape⟩
    · have hlt : i < c.objs.length := by
        rcases Nat.lt_or_ge i c.objs.length with h3 | h3
        · exact h3
        · rw [hs.rel.fresh i (by rw [hst]; exact h3)] at hk; cases hk
      change (ρ[i]?).bind κ1.on = some b
      rw [h2.own i hlt hi]
      exact hgo.le.on i b hk
    · rw [hst]; exact h2.mn
    · obtain ⟨j, h3, h4⟩ := r2 i b hl hk
      exact hgo.born j b h4 h3
    · obtain ⟨j, h3, h4⟩ := r3 i b hl hk
      exact hgo.bornM j b h4 h3
    · rw [hst] at hi
      change (ρ[i]?).bind κ1.on = none
      rw [h2.own i hi hm]
      exact hgo.unborn i (by rw [hst]; exact hi) hk

theorem chOK_MR (hf : Holds fs) {ch ch' : List (AVal × Bool)} (h : chOK fs ρ ch ch' = true) (κ : Pl) (fm : FrameMode) (hm : MR κ (.pan ch') fm) : MR (κ.via ρ) (.pan ch) fm := by
  cases hm with
  | pan hp =>
    refine .pan ?_
    generalize hl' : (_ : List PanicEntry) = l' at hp
    clear hl'
    induction hp generalizing ch with
    | nil => cases ch with | nil => exact .nil | cons _ _ => cases h
    | cons x y ih =>
      cases ch with
      | nil => cases h
      | cons p ch =>
        simp only [chOK, Bool.and_eq_true] at h
        exact .cons ⟨fits_V hf (of_self _) 30 h.1.1 x.v, by rw [x.recovered, eq_of_beq h.1.2], x.goexit⟩ (ih h.2)

theorem chk_ends (hf : Holds fs) {kind : CallKind} {k : List AItem} (hk : k.all pureI = true) {c0 : Cfg} (hst : c0.st.next = c.objs.length) {r : R1} {ds : List ADef} (hds : SymOnly ds) (hE : Ends (fun _ => none) P ⟨c.f, c.nt, kind, []⟩ k c0 r) (hc : chkL fs c r = some (.top ds)) :
    LEnds c.mv P ⟨c.f, c.nt, kind, []⟩ k c0 (resL c (.top ds)) := by
  have hT : ∀ {sl xd h n more}, chkT fs c sl xd h n more = some (.top ds) → ∃ ρ, xd = .top ds ∧ tailOK fs ρ c sl = true ∧ HeapOK fs ρ c h n ∧ more ρ = true := fun {sl xd h n more} he => by
    unfold chkT at he
    simp only at he
    generalize rhoFill _ n c.next' 0 = ρ at he
    split at he
    · rename_i hq
      cases he
      simp only [Bool.and_eq_true] at hq
      exact ⟨ρ, rfl, hq.1.1, heapOK_ok hq.1.2, hq.2⟩
    · cases he
  have hrun : ∀ {ρ : List Nat} (κ : Pl) fm, MR κ .run fm → MR (κ.via ρ) .run fm := fun _ _ h => by cases h; exact .run
  unfold resL
  unfold chkL at hc
  cases r with
  | bad w => cases hc
  | nrm sl xd h n =>
    simp only at hc
    split at hc
    case h_2 => cases hc
    rename_i hw
    obtain ⟨ρ, rfl, h1, h2, _⟩ := hT hc
    rw [hw]
    exact wk_leads hf rfl rfl hds (fun _ => hk) (fun h => h) hrun hst hE h1 h2
  | ext id' sl xd h n =>
    simp only at hc
    split at hc
    case h_2 => cases hc
    rename_i id hw
    split at hc
    case h_2 => cases hc
    rename_i hid
    have hid := nbeq hid
    subst hid
    obtain ⟨ρ, rfl, h1, h2, _⟩ := hT hc
    rw [hw]
    obtain ⟨k1, e1, p1, hE⟩ := hE
    exact ⟨k1, e1, p1, wk_leads hf rfl rfl hds (fun _ => by simp [pureI, p1.pure hk]) (fun h => h) hrun hst hE h1 h2⟩
  | ret sl xd h n =>
    simp only at hc
    split at hc
    case h_2 => cases hc
    rename_i hw
    obtain ⟨ρ, rfl, h1, h2, _⟩ := hT hc
    rw [hw]
    obtain ⟨k1, p1, hE⟩ := hE
    exact ⟨k1, p1, wk_leads hf rfl rfl hds (fun _ => by simp [pureI, p1.pure hk]) (fun h => h) hrun hst hE h1 h2⟩
  | pan ch' sl xd h n =>
    simp only at hc
    split at hc
    case h_2 => cases hc
    rename_i ch hw
    obtain ⟨ρ, rfl, h1, h2, h3⟩ := hT hc
    rw [hw]
    obtain ⟨k1, hE⟩ := hE
    exact ⟨k1, wk_leads hf rfl rfl hds (fun h => by cases h) (fun h => by cases h) (fun κ fm hm => chOK_MR hf h3 κ fm hm) hst hE h1 h2⟩
end

/-! ### loops with contracts -/
noncomputable def beqP : List Bool → List Bool → Bool
  | [], [] => true
  | a :: l, b :: m => (a == b) && beqP l m
  | _, _ => false
theorem beqP_eq : ∀ {l m : List Bool}, beqP l m = true → l = m
  | [], [], _ => rfl
  | a :: l, b :: m, h => by simp only [beqP, Bool.and_eq_true] at h; rw [eq_of_beq h.1, beqP_eq h.2]
  | [], _ :: _, h => by cases h
  | _ :: _, [], h => by cases h
noncomputable def tryL (fs : Facts) : List LCon → CK → Fn1
  | [], k => k.run
  | c :: l, k => fun e sl xd h n => match useL fs c false sl xd h n with
    | some r => r
    | none => tryL fs l k e sl xd h n
noncomputable def mine (f nt : Nat) (π : List Bool) : List LCon → List LCon
  | [] => []
  | c :: l => match Nat.beq c.f f && Nat.beq c.nt nt && beqP c.pl π with
    | true => c :: mine f nt π l
    | false => mine f nt π l
/-- what is known of a function's loops -/
noncomputable def lpK (tb : Tab) (cs : List LCon) (f : Nat) : List Bool → CK → CK := fun π k =>
  match tb.func f with
  | none => k
  | some F => match mine f F.ntmps π cs with
    | [] => k
    | l => .mk (tryL tb.facts l k)

section
variable {tb : Tab} {P : Program} {E : Nat → Option Value}
theorem tryL_ok {I : Interp} (ok : @Tab.OK I tb P) {b : Code} {f nt : Nat} : ∀ {l : List LCon}, (∀ c ∈ l, c.f = f ∧ c.nt = nt ∧ LGood tb P I c ∧ AtLoop tb c b) → ∀ (k : CK), @CodeOK I E tb P f nt (.loop b) k.run → @CodeOK I E tb P f nt (.loop b) (tryL tb.facts l k)
  | [], _, k, hk => hk
  | c :: l, hl, k, hk => fun e he kind below K hK sl xd h n => by
    have ih := tryL_ok ok (fun c' hc' => hl c' (List.mem_cons_of_mem _ hc')) k hk e he kind below K hK sl xd h n
    obtain ⟨h1, h2, h3, h4⟩ := hl c (List.mem_cons_self ..)
    subst h1; subst h2
    change @Ends I E P _ K _ (match useL tb.facts c false sl xd h n with | some r => r | none => tryL tb.facts l k e sl xd h n)
    cases hu : useL tb.facts c false sl xd h n with
    | none => exact ih
    | some r => exact @Ends.of I E P _ _ _ _ (@Leads.step I E tb P ok _ _ (step_run rfl rfl)) _ (useL_ok ok hu (fun v hv _ => h3 b h4 v hv) kind below K hK)

theorem lpK_ok {I : Interp} (ok : @Tab.OK I tb P) {cs : List LCon} (hcs : ∀ c ∈ cs, LGood tb P I c) {f : Nat} {F : Func} {c0 : Code} (hF : tb.func f = some F) (hb : F.body = some c0) : @LpOK I E tb P f F.ntmps c0 (lpK tb cs f) := by
  intro π k b hπ hk
  unfold lpK
  rw [hF]
  simp only
  have hm : ∀ (cs : List LCon), (∀ c ∈ cs, LGood tb P I c) → ∀ c ∈ mine f F.ntmps π cs, c.f = f ∧ c.nt = F.ntmps ∧ LGood tb P I c ∧ AtLoop tb c b := by
    intro cs
    induction cs with
    | nil => intro _ c hc; cases hc
    | cons d cs ih =>
      intro hcs c hc
      have ih := ih (fun c hc => hcs c (List.mem_cons_of_mem _ hc))
      simp only [mine] at hc
      split at hc
      · rename_i hq
        simp only [Bool.and_eq_true] at hq
        rcases List.mem_cons.1 hc with e | hc
        · subst e
          have e1 := nbeq hq.1.1
          have e2 := nbeq hq.1.2
          have e3 := beqP_eq hq.2
          exact ⟨e1, e2, hcs c (List.mem_cons_self ..), F, c0, by rw [e1]; exact hF, hb, e2.symm, by rw [e3]; exact hπ⟩
        · exact ih c hc
      · exact ih c hc
  have := hm cs hcs
  split
  · exact hk
  · exact tryL_ok ok this k hk

theorem LGood.knows {I : Interp} {c : LCon} (h : LGood tb P I c) (v : Nat → D) (fs : Facts) : LGood (tb.knows fs) P (I.at v) c := fun b hb v' hv => h b hb v' hv

/-- by cases, with what is left -/
noncomputable def appX : Option (List X) → Option (List X) → Option (List X)
  | some a, some b => some (a ++ b)
  | _, _ => none
noncomputable def allX (L : Nat → Facts → Facts) (p : Facts → Option X) : ST → Facts → Option (List X)
  | .leaf, fs => match p fs with | some x => some [x] | none => none
  | .br e t f, fs => appX (allX L p t ((e, true) :: fs)) (allX L p f ((e, false) :: fs))
  | .lem i t, fs => allX L p t (L i fs ++ fs)
  | .no i, fs => match (L i fs).any (against fs) with | true => some [] | false => none
theorem allX_ok [Interp] {L : Nat → Facts → Facts} (hL : ∀ i fs, Holds fs → Holds (L i fs)) {p : Facts → Option X} : ∀ {t : ST} {fs : Facts} {xs : List X}, allX L p t fs = some xs → Holds fs → ∃ fs', Holds fs' ∧ ∃ x ∈ xs, p fs' = some x
  | .leaf, fs, xs, h, hf => by
    simp only [allX] at h
    split at h
    · rename_i x hx; cases h; exact ⟨fs, hf, x, List.mem_cons_self .., hx⟩
    · cases h
  | .br e t f, fs, xs, h, hf => by
    simp only [allX] at h
    cases h1 : allX L p t ((e, true) :: fs) with
    | none => rw [h1] at h; cases h
    | some a =>
      cases h2 : allX L p f ((e, false) :: fs) with
      | none => rw [h1, h2] at h; cases h
      | some b =>
        rw [h1, h2] at h
        cases h
        cases he : e.ev.tr with
        | true =>
          obtain ⟨fs', q1, x, q2, q3⟩ := allX_ok hL h1 (List.forall_mem_cons.2 ⟨he, hf⟩)
          exact ⟨fs', q1, x, List.mem_append_left _ q2, q3⟩
        | false =>
          obtain ⟨fs', q1, x, q2, q3⟩ := allX_ok hL h2 (List.forall_mem_cons.2 ⟨he, hf⟩)
          exact ⟨fs', q1, x, List.mem_append_right _ q2, q3⟩
  | .lem i t, fs, xs, h, hf => allX_ok hL (t := t) h fun q hq => (List.mem_append.1 hq).elim (hL i fs hf q) (hf q)
  | .no i, fs, xs, h, hf => by
    simp only [allX] at h
    cases hb : (L i fs).any (against fs) with
    | false => rw [hb] at h; cases h
    | true =>
    obtain ⟨q, hq, ha⟩ := List.any_eq_true.1 hb
    have h1 := hL i fs hf q hq
    unfold against at ha
    split at ha
    · rename_i b hb
      have h2 := decB_sound hf hb
      rw [h1] at h2
      rw [h2] at ha
      simp at ha
    · cases ha

noncomputable def useM (fs : Facts) (c : LCon) : Fn1 := fun _ sl xd h n => match useL fs c true sl xd h n with | some r => r | none => .bad "the head again"

/-- the loop's body -/
noncomputable def bodyAt (tb : Tab) (c : LCon) : Option Code := match tb.func c.f with
  | some F => match Nat.beq F.ntmps c.nt with
    | true => match F.body with
      | some c0 => match codeAt c0 c.pl with
        | some x => match x with | .loop b => some b | _ => none
        | none => none
      | none => none
    | false => none
  | none => none
theorem bodyAt_ok {c : LCon} {b : Code} (h : bodyAt tb c = some b) : ∃ F c0, tb.func c.f = some F ∧ F.body = some c0 ∧ F.ntmps = c.nt ∧ codeAt c0 c.pl = some (.loop b) := by
  unfold bodyAt at h
  split at h
  case h_2 => cases h
  rename_i F hF
  split at h
  case h_2 => cases h
  rename_i hn
  split at h
  case h_2 => cases h
  rename_i c0 hc
  split at h
  case h_2 => cases h
  rename_i x hx
  split at h
  case h_2 => cases h
  cases h
  exact ⟨F, c0, hF, hc, nbeq hn, hx⟩

/-- one round, and then the loop as its contract says -/
noncomputable def roundL (tb : Tab) (P : Program) (e : Ev) (lps : List LCon) (c : LCon) (ds : List ADef) : R1 :=
  match bodyAt tb c with
  | some b => bindR ((codeKL tb P (lpK tb lps c.f) (cdN tb P 20) c.f c.nt b (false :: c.pl)).run e (slotsV c.nt (headV c)) (.top ds) (layO c.objs) c.objs.length) e (useM tb.facts c)
  | none => .bad "no loop"

/-- **A LOOP'S CONTRACT**, by a run of one round. -/
theorem lcon_good {I : Interp} (hok : ∀ [Interp], tb.OK P) {c : LCon} {l : List Con} {d : Nat} (hl : ∀ c' ∈ l, ConGood (fun _ => none) tb P I c') {lps : List LCon} (hlps : ∀ q ∈ lps, LGood tb P I q)
    {L : Nat → Facts → Facts} (hL : ∀ v : Nat → D, ∀ i fs, @Holds (I.at v) fs → @Holds (I.at v) (L i fs)) {t : ST} {m : Nat}
    (h : ∀ ds, allX L (fun fs => chkL fs c (roundL (tb.knows fs) P (evR (tb.knows fs) P l d) lps c ds)) t c.facts = some (List.replicate m (.top ds))) : LGood tb P I c := by
  intro b hb
  obtain ⟨F, c0, hF, hbd, hnt, hat⟩ := hb
  suffices H : ∀ N v, (@SX.ev (I.at v) c.meas).int.toNat < N → @Holds (I.at v) c.facts → @LGoodV (I.at v) P b c from fun v hv => H _ v (Nat.lt_succ_self _) hv
  intro N
  induction N with
  | zero => intro v h; exact absurd h (Nat.not_lt_zero _)
  | succ N ih =>
    intro v hN hv kind k hk ds hds
    obtain ⟨fs', hf', x, hx, hp⟩ := @allX_ok (I.at v) L (hL v) _ t c.facts _ (h ds) hv
    have hx : x = .top ds := List.eq_of_mem_replicate hx
    subst hx
    have ok' : @Tab.OK (I.at v) (tb.knows fs') P := @Tab.OK.knows (I.at v) tb P fs' (@hok (I.at v)) hf'
    have hev : @EvFOK (I.at v) (fun _ => none) (tb.knows fs') P (evR (tb.knows fs') P l d) := @evR_ok (fun _ => none) (tb.knows fs') P (I.at v) ok' l (fun c' hc' => hl c' hc') d
    refine @chk_ends (I.at v) fs' c P hf' kind k hk _ rfl _ ds hds ?_ hp
    unfold roundL
    cases hbb : bodyAt (tb.knows fs') c with
    | none => trivial
    | some b' =>
      obtain ⟨F', c0', g1, g2, g3, g4⟩ := bodyAt_ok hbb
      have g1 : tb.func c.f = some F' := g1
      rw [hF] at g1; cases g1
      rw [hbd] at g2; cases g2
      rw [hat] at g4; cases g4
      simp only
      have hlp : @LpOK (I.at v) (fun _ => none) (tb.knows fs') P c.f F.ntmps c0 (lpK (tb.knows fs') lps c.f) := lpK_ok ok' (fun q hq => (hlps q hq).knows v fs') hF hbd
      rw [hnt] at hlp
      have pb : codeAt c0 (false :: c.pl) = some b := by simp only [codeAt, hat, childC, cond_false]
      have hcode := @codeKL_ok (I.at v) (fun _ => none) (tb.knows fs') P _ ok' (@drawP_ok (I.at v) (fun _ => none) (tb.knows fs') P ok') (@cdN_ok (I.at v) (fun _ => none) (tb.knows fs') P ok' (@drawP_ok (I.at v) (fun _ => none) (tb.knows fs') P ok') 20) c.f c.nt c0 _ hlp b (false :: c.pl) pb (evR (tb.knows fs') P l d) hev kind [] (.inLoop b :: k) (by simp [pureI, hk]) (slotsV c.nt (headV c)) (.top ds) (layO c.objs) c.objs.length
      refine @bindR_ends (I.at v) (fun _ => none) P _ ⟨c.f, c.nt, kind, []⟩ k (.inLoop b :: k) _ _ _ hcode (fun id => rfl) (.cons rfl) fun sl xd h n => ?_
      unfold useM
      cases hu : useL (tb.knows fs').facts c true sl xd h n with
      | none => trivial
      | some r =>
        simp only
        exact @Ends.of (I.at v) _ P _ _ _ _ (@Leads.step (I.at v) _ (tb.knows fs') P ok' _ _ (step_run rfl rfl)) _ (useL_ok ok' hu (fun v' hv' hm => ih v' (by have h8 := (hm rfl).1; have h9 := (hm rfl).2; omega) hv') kind [] k hk)

/-- a contract of a function with loops -/
theorem con_loops {I : Interp} (hok : ∀ [Interp], tb.OK P) {c : Con} {l : List Con} {d : Nat} (hl : ∀ c' ∈ l, ConGood E tb P I c') {lps : List LCon} (hlps : ∀ q ∈ lps, LGood tb P I q) {L : Nat → Facts → Facts} (hL : ∀ v : Nat → D, ∀ i fs, @Holds (I.at v) fs → @Holds (I.at v) (L i fs)) {t : ST}
    (h : allT L (fun fs => asWritten { c with facts := fs } (callFL (tb.knows fs) P (lpK (tb.knows fs) lps c.f) (evR (tb.knows fs) P l d) c.f c.args (layO c.objs) c.objs.length)) t c.facts = true) : ConGood E tb P I c := by
  intro v hv
  obtain ⟨fs', h1, h2⟩ := @allT_ok (I.at v) L (hL v) _ t c.facts h hv
  have ok' : @Tab.OK (I.at v) (tb.knows fs') P := @Tab.OK.knows (I.at v) tb P fs' (@hok (I.at v)) h1
  have hD := @drawP_ok (I.at v) E (tb.knows fs') P ok'
  have hE := @callFL_ends (I.at v) E (tb.knows fs') P ok' hD _ (@evR_ok E (tb.knows fs') P (I.at v) ok' l (fun c' hc' => hl c' hc') d) (lpK (tb.knows fs') lps c.f) c.f (fun F c0 hF hb => lpK_ok ok' (fun q hq => (hlps q hq).knows v fs') hF hb) c.args (layO c.objs) c.objs.length
  generalize callFL (tb.knows fs') P (lpK (tb.knows fs') lps c.f) (evR (tb.knows fs') P l d) c.f c.args (layO c.objs) c.objs.length = r at h2 hE
  cases r with
  | bad w => cases h2
  | pan ch h' n' => cases h2
  | ret x h' n' =>
    obtain ⟨g, hg, H⟩ := hE
    refine ⟨g, hg, fun κ fr w hfr hrel hEn cs => ?_⟩
    obtain ⟨κ', fr', w', y, hst, hlv, hy, hgo, hfn⟩ := H κ fr w hfr hrel hEn cs
    obtain ⟨k1, k2⟩ := @Goes.written (I.at v) _ _ _ _ _ _ _ _ { c with facts := fs' } _ h1 hgo h2 (fun i hi => hi)
    exact ⟨κ', fr', w', y, hst, hlv, k2 y hy, k1, hfn⟩
end
end Go.Proofs.YtkofoejjbmogaaaGreat.Eng

namespace Go.Proofs.YtkofoejjbmogaaaGreat.Eng
open Go
section
variable [Interp] {tb : Tab} {P : Program}

/-- a frame that stands to the evaluator's, just entered, is one that the machine enters -/
theorem FR.read (ok : tb.OK P) {κ : Pl} {f : FuncId} {args : List AVal} {g : AFr} {fr : Frame} (hg : enterA tb f args .normal = some g) (h : FR κ g fr) : ∃ vs : List Value, VL κ args vs ∧ fr = Frame.enter P f vs.toArray .normal := by
  obtain ⟨F, c, h1, h2, h3, h4, e⟩ := enterA_some hg
  have hg0 := hg
  subst e
  obtain ⟨fn, tmps, todo, defers, mode, kind, ro⟩ := fr
  obtain ⟨a1, a2, a3, a4, a5, a6, a7⟩ := h
  simp only at a1 a2 a3 a4 a5 a6 a7
  have hval := a2.val
  have hsz : tmps.size = F.ntmps := a2.size
  obtain ⟨vs, hvs⟩ : ∃ vs : List Value, vs = (List.range args.length).map fun t => tmps.getD t undef := ⟨_, rfl⟩
  have hlen : vs.length = args.length := by rw [hvs]; simp
  have hget : ∀ t, t < args.length → vs[t]? = some (tmps.getD t undef) := fun t ht => by rw [hvs]; simp [ht]
  have hv : VL κ args vs := by
    refine VL.of_get hlen.symm fun i a v hi hv => ?_
    have hlt := (List.getElem?_eq_some_iff.1 hi).1
    rw [hget i hlt] at hv
    cases hv
    have := hval i
    rw [slotsOf_get _ _ _ _ (by omega), if_pos (by omega), Nat.sub_zero, hi] at this
    exact this
  refine ⟨vs, hv, ?_⟩
  have he : Frame.enter P f vs.toArray .normal = { fn := f, tmps := vs.toArray ++ Array.replicate (F.ntmps - vs.toArray.size) undef, todo := [.code c], defers := [], mode := .run, kind := .normal } := by
    simp [Frame.enter, ok.func _ _ h1, h2]
  rw [he]
  have e1 : tmps = vs.toArray ++ Array.replicate (F.ntmps - vs.toArray.size) undef := by
    apply Array.ext (by simp; omega)
    intro i hi hi'
    by_cases ht : i < args.length
    · have h5 := hget i ht
      rw [Array.getElem_append_left (by simp; omega)]
      have h6 : vs[i] = tmps.getD i undef := by
        rw [List.getElem?_eq_getElem (by omega)] at h5
        exact Option.some.inj h5
      simp only [List.getElem_toArray, h6]
      simp [Array.getD, hi]
    · have h5 := hval i
      rw [slotsOf_get _ _ _ _ (by omega), if_neg (by omega)] at h5
      have e0 : slot (.leaf : T AVal) i = .lit undef := by unfold slot; rw [T.get_leaf]
      rw [e0] at h5
      have h6 := V.of_lit h5 rfl
      rw [Array.getElem_append_right (by simp; omega)]
      simp only [Array.getElem_replicate]
      simpa [Array.getD, hi] using h6
  have htd : todo = [.code c] := by
    have x := a3 trivial
    cases x with
    | cons x1 x2 => cases x2; cases x1; rfl
  have hdf : defers = [] := by cases a4; rfl
  have hmd : mode = .run := by cases a5; rfl
  have hro : ro = none := by cases a7; rfl
  subst htd hdf hmd hro
  rw [← e1, a1, a6]
end

/-- a contract out of a call's contract -/
theorem con_calls {E : Nat → Option Value} {tb : Tab} {P : Program} {I : Interp} (hok : ∀ [Interp], tb.OK P) {c : Con} (hent : (enterA tb c.f c.args .normal).isSome = true)
    (h : ∀ v, @Holds (I.at v) c.facts → ∀ κ vs w, @VL (I.at v) κ c.args vs → @Rel (I.at v) κ { heap := layO c.objs, next := c.objs.length } w →
      Calls P c.f vs.toArray w fun e w' => ∃ κ' x, e = .returned x ∧ @V (I.at v) κ' c.ret x ∧ @Goes (I.at v) (· < c.objs.length) κ { heap := layO c.objs, next := c.objs.length } w κ' { heap := resH c.objs', next := c.next' } w') : ConGood E tb P I c := by
  intro v hv
  obtain ⟨g, hg⟩ := Option.isSome_iff_exists.1 hent
  refine ⟨g, hg, fun κ fr w hfr hrel hE cs => ?_⟩
  obtain ⟨vs, hvs, e⟩ := @FR.read (I.at v) tb P (@hok (I.at v)) κ c.f c.args g fr hg hfr
  subst e
  obtain ⟨en, w', fr', ⟨κ', x, hen, hx, hgo⟩, hst, hfn, hlv⟩ := h v hv κ vs w hvs hrel cs
  subst hen
  exact ⟨κ', fr', w', x, hst, hlv, hx, hgo, hfn⟩
end Go.Proofs.YtkofoejjbmogaaaGreat.Eng

