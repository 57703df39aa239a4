/- Part P of an evaluator for this program: contracts with rows of memory, proved by a run of their own, stand for the calls that fit them. No condition. -/
import Derived.Test.YtapnpdingakdcaaGreatEngE
set_option linter.unusedVariables false
set_option linter.unusedSectionVars false
namespace Go.Proofs.YtapnpdingakdcaaGreat.Eng
open Go

/-! ### terms in other terms' places -/
noncomputable def SX.sub (β : Nat → SX) : SX → SX
  | .lit n => .lit n
  | .str l => .str l
  | .var i => β i
  | .a1 f x => .a1 f (x.sub β)
  | .a2 f x y => .a2 f (x.sub β) (y.sub β)
  | .a3 f x y z => .a3 f (x.sub β) (y.sub β) (z.sub β)

/-- the symbols' meaning, with other variables -/
@[reducible] def Interp.at (I : Interp) (v : Nat → D) : Interp := ⟨v, I.f1, I.f2, I.f3⟩
/-- .. with terms for variables -/
@[reducible] def Interp.of (I : Interp) (β : Nat → SX) : Interp := I.at fun i => @SX.ev I (β i)

theorem F1.ev_at (I : Interp) (v : Nat → D) (f : F1) (x : D) : @F1.ev (I.at v) f x = @F1.ev I f x := by cases f <;> rfl
theorem F2.ev_at (I : Interp) (v : Nat → D) (f : F2) (x y : D) : @F2.ev (I.at v) f x y = @F2.ev I f x y := by cases f <;> rfl
theorem F3.ev_at (I : Interp) (v : Nat → D) (f : F3) (x y z : D) : @F3.ev (I.at v) f x y z = @F3.ev I f x y z := by cases f <;> rfl

theorem SX.ev_sub (I : Interp) (β : Nat → SX) : ∀ e : SX, @SX.ev (I.of β) e = @SX.ev I (e.sub β)
  | .lit _ => rfl
  | .str _ => rfl
  | .var _ => rfl
  | .a1 f x => by simp only [SX.ev, SX.sub]; rw [F1.ev_at, SX.ev_sub I β x]
  | .a2 f x y => by simp only [SX.ev, SX.sub]; rw [F2.ev_at, SX.ev_sub I β x, SX.ev_sub I β y]
  | .a3 f x y z => by simp only [SX.ev, SX.sub]; rw [F3.ev_at, SX.ev_sub I β x, SX.ev_sub I β y, SX.ev_sub I β z]

/-- an object, as it is written down -/
inductive PObj where
  | row (cs : List AVal) (ty : Nat) (unk : Bool)
  | seq (k : IntKind) (a : SX) (ty : Nat)
  | map (es : List (AVal × AVal))
noncomputable def PObj.obj : PObj → AObj
  | .row cs ty u => .row cs.length (T.lay cs 0 .leaf) ty u
  | .seq k a ty => .seq k a ty
  | .map es => .map es

noncomputable def litEq : Value → Value → Bool
  | .int k n, .int k' n' => Nat.beq (kindNo k) (kindNo k') && ieq n n'
  | .bool a, .bool b => a == b
  | .string a, .string b => leq (intsB a) (intsB b)
  | .pointer none, .pointer none => true
  | .pointer (some ⟨b, o, none⟩), .pointer (some ⟨b', o', none⟩) => Nat.beq b b' && Nat.beq o o'
  | .slice none a b, .slice none c d => Nat.beq a c && Nat.beq b d
  | .map none, .map none => true
  | .nilFunc, .nilFunc => true
  | .nilIface, .nilIface => true
  | _, _ => false
theorem intsB_inj {a b : ByteArray} (h : intsB a = intsB b) : a = b := by rw [← @bytesOf_ints .void a, ← @bytesOf_ints .void b, h]
theorem litEq_eq {a b : Value} (h : litEq a b = true) : a = b := by
  unfold litEq at h
  split at h
  · simp only [Bool.and_eq_true] at h; rw [kindNo_inj (nbeq h.1), ieq_eq h.2]
  · rw [eq_of_beq h]
  · rw [intsB_inj (leq_eq h)]
  · rfl
  · simp only [Bool.and_eq_true] at h; rw [nbeq h.1, nbeq h.2]
  · simp only [Bool.and_eq_true] at h; rw [nbeq h.1, nbeq h.2]
  · rfl
  · rfl
  · rfl
  · cases h

noncomputable def all2 (f : AVal → AVal → Bool) : List AVal → List AVal → Bool
  | [], [] => true
  | a :: l, b :: m => f a b && all2 f l m
  | _, _ => false

/-- where the written number lies -/
noncomputable def atR (ρ : List Nat) (i j : Nat) : Bool := match ρ[i]? with | some k => Nat.beq k j | none => false
theorem atR_eq {ρ : List Nat} {i j : Nat} (h : atR ρ i j = true) : ρ[i]? = some j := by
  unfold atR at h
  split at h
  · rename_i k hk; rw [hk, nbeq h]
  · cases h

/-- two terms that are the same, by their form or as it is known -/
noncomputable def sameX (fs : Facts) (x y : SX) : Bool := bif SX.eqv x y then true else match decB fs (.a2 .eq x y) with | some true => true | _ => false

/-- the value a is one of those that are written p -/
noncomputable def fits (ρ : List Nat) (β : Nat → SX) : Nat → AVal → AVal → Bool
  | 0, _, _ => false
  | n + 1, p, a => match p with
    | .any => true
    | .lit x => match a with | .lit y => litEq x y | _ => false
    | .ptr i o => match a with | .ptr j q => Nat.beq o q && atR ρ i j | _ => false
    | .slc i o l c => match a with | .slc j o' l' c' => Nat.beq o o' && Nat.beq l l' && Nat.beq c c' && atR ρ i j | _ => false
    | .slu i o l z => match a with | .slu j o' l' z' => Nat.beq o o' && Nat.beq l l' && Nat.beq z z' && atR ρ i j | _ => false
    | .fn f l m => match a with | .fn f' l' m' => Nat.beq f f' && all2 (fits ρ β n) l l' && all2 (fits ρ β n) m m' | _ => false
    | .yld i => match a with | .yld j => atR ρ i j | _ => false
    | .ifc t x => match a with | .ifc t' y => Nat.beq t t' && fits ρ β n x y | _ => false
    | .mp i => match a with | .mp j => atR ρ i j | _ => false
    | .agg l => match a with | .agg l' => all2 (fits ρ β n) l l' | .lit (.agg cs) => all2 (fits ρ β n) l (cs.toList.map .lit) | _ => false
    | .tup l => match a with | .tup l' => all2 (fits ρ β n) l l' | _ => false
    | .sym _ => false
    | .si k e => match sxI a with | some (k', e') => Nat.beq (kindNo k) (kindNo k') && SX.eqv (e.sub β) e' | none => false
    | .sb e => match sxB a with | some e' => SX.eqv (e.sub β) e' | none => false
    | .ss e => match sxS a with | some e' => SX.eqv (e.sub β) e' | none => false
    | .slv i o l c z => match a with
      | .slv j o' l' c' z' => Nat.beq z z' && SX.eqv (o.sub β) o' && SX.eqv (l.sub β) l' && atR ρ i j && (match c with | none => true | some c => match c' with | some c' => SX.eqv (c.sub β) c' | none => false)
      | _ => false
    | .ptv i o => match sxP a with | some (j, o') => SX.eqv (o.sub β) o' && atR ρ i j | none => false

/-- the world's blocks under the written numbers -/
@[reducible] def Pl.via (κ : Pl) (ρ : List Nat) : Pl := ⟨fun i => (ρ[i]?).bind κ.on, κ.room, κ.env⟩

section
variable {I : Interp} {ρ : List Nat} {β : Nat → SX} {κ : Pl} {J : Interp}

/-- J: I with terms for variables -/
def Of (J I : Interp) (β : Nat → SX) : Prop := ∀ e, @SX.ev J e = @SX.ev I (e.sub β)

theorem via_at {i j b : Nat} (h : atR ρ i j = true) (hb : κ j = some b) : κ.via ρ i = some b := by
  change (ρ[i]?).bind κ.on = some b
  rw [atR_eq h]; exact hb

theorem all2_VL {f : AVal → AVal → Bool} (hf : ∀ p a, f p a = true → ∀ v, @V I κ a v → @V J (κ.via ρ) p v) : ∀ {l m : List AVal} {vs : List Value}, all2 f l m = true → @VL I κ m vs → @VL J (κ.via ρ) l vs
  | [], [], _, _, h => by cases h; exact .nil
  | a :: l, b :: m, _, h, hv => by
    simp only [all2, Bool.and_eq_true] at h
    cases hv with
    | cons x y => exact .cons (hf _ _ h.1 _ x) (all2_VL hf h.2 y)
  | [], _ :: _, _, h, _ => by cases h
  | _ :: _, [], _, h, _ => by cases h

theorem ev_eqv (hJ : Of J I β) {e e' : SX} (h : SX.eqv (e.sub β) e' = true) : @SX.ev J e = @SX.ev I e' := by rw [hJ, SX.eqv_eq h]

theorem fits_V (hJ : Of J I β) : ∀ (n : Nat) {p a : AVal}, fits ρ β n p a = true → ∀ {v : Value}, @V I κ a v → @V J (κ.via ρ) p v
  | 0, _, _, h, _, _ => by cases h
  | n + 1, p, a, h, v, hv => by
    have ih := fun p a (h : fits ρ β n p a = true) v (hv : @V I κ a v) => fits_V hJ n h hv
    have il := fun l m vs => @all2_VL I ρ κ J (fits ρ β n) ih l m vs
    cases p with
    | any => exact .any
    | lit x =>
      simp only [fits] at h
      split at h
      · rw [litEq_eq h]; rw [@V.of_lit I _ _ _ _ hv rfl]; exact .lit _
      · cases h
    | ptr i o =>
      simp only [fits] at h
      split at h
      · simp only [Bool.and_eq_true] at h
        cases hv with | ptr hb => rw [nbeq h.1]; exact .ptr (via_at h.2 hb)
      · cases h
    | slc i o l c =>
      simp only [fits] at h
      split at h
      · simp only [Bool.and_eq_true] at h
        obtain ⟨⟨⟨h1, h2⟩, h3⟩, h4⟩ := h
        cases hv with | slc hb => rw [nbeq h1, nbeq h2, nbeq h3]; exact .slc (via_at h4 hb)
      · cases h
    | slu i o l z =>
      simp only [fits] at h
      split at h
      · simp only [Bool.and_eq_true] at h
        obtain ⟨⟨⟨h1, h2⟩, h3⟩, h4⟩ := h
        cases hv with | slu hb x y => rw [nbeq h1, nbeq h2, nbeq h3]; exact .slu (via_at h4 hb) x y
      · cases h
    | fn f l m =>
      simp only [fits] at h
      split at h
      · simp only [Bool.and_eq_true] at h
        obtain ⟨⟨h1, h2⟩, h3⟩ := h
        cases hv with | fn x y => rw [nbeq h1]; exact .fn (il _ _ _ h2 x) (il _ _ _ h3 y)
      · cases h
    | yld i =>
      simp only [fits] at h
      split at h
      · cases hv with | yld hb => exact .yld (via_at h hb)
      · cases h
    | ifc t x =>
      simp only [fits] at h
      split at h
      · simp only [Bool.and_eq_true] at h
        cases hv with | ifc y => rw [nbeq h.1]; exact .ifc (ih _ _ h.2 _ y)
      · cases h
    | mp i =>
      simp only [fits] at h
      split at h
      · cases hv with | mp hb => exact .mp (via_at h hb)
      · cases h
    | agg l =>
      simp only [fits] at h
      split at h
      · cases hv with | agg x => exact .agg (il _ _ _ h x)
      · rename_i cs
        rw [@V.of_lit I _ _ _ _ hv rfl]
        have := il _ _ _ h (@VL.lits I κ cs.toList)
        have h2 := @V.agg J (κ.via ρ) _ _ this
        simpa using h2
      · cases h
    | tup l =>
      simp only [fits] at h
      split at h
      · cases hv with | tup x => exact .tup (il _ _ _ h x)
      · cases h
    | sym i => cases h
    | si k e =>
      simp only [fits] at h
      split at h
      · rename_i k' e' hs
        simp only [Bool.and_eq_true] at h
        rw [@sxI_V I _ _ _ _ _ hs hv, kindNo_inj (nbeq h.1), ← ev_eqv hJ h.2]
        exact .si
      · cases h
    | sb e =>
      simp only [fits] at h
      split at h
      · rename_i e' hs
        rw [@sxB_V I _ _ _ _ hs hv, ← ev_eqv hJ h]
        exact .sb
      · cases h
    | ss e =>
      simp only [fits] at h
      split at h
      · rename_i e' hs
        rw [@sxS_V I _ _ _ _ hs hv, ← ev_eqv hJ h]
        exact .ss
      · cases h
    | slv i o l c z =>
      simp only [fits] at h
      split at h
      · simp only [Bool.and_eq_true] at h
        obtain ⟨⟨⟨⟨h1, h2⟩, h3⟩, h4⟩, h5⟩ := h
        rename_i j o' l' c' z'
        have hc : ∀ x, c = some x → ∃ y, c' = some y ∧ @SX.ev J x = @SX.ev I y := fun x hx => by
          subst hx
          cases c' with
          | none => cases h5
          | some y => exact ⟨y, rfl, ev_eqv hJ h5⟩
        cases hv with
        | slv x1 x2 x3 x4 x5 x6 =>
          rw [nbeq h1]
          exact .slv (via_at h4 x1) (by rw [x2, ev_eqv hJ h2]) (by rw [x3, ev_eqv hJ h3]) x4 (fun x hx => by obtain ⟨y, hy, he⟩ := hc x hx; rw [he]; exact x5 y hy) x6
        | slv0 y1 y2 => exact .slv0 (by rw [ev_eqv hJ h3]; exact y1) (fun x hx => by obtain ⟨y, hy, he⟩ := hc x hx; rw [he]; exact y2 y hy)
      · cases h
    | ptv i o =>
      simp only [fits] at h
      split at h
      · rename_i j o' hs
        simp only [Bool.and_eq_true] at h
        obtain ⟨b, q, hb, hq, hv'⟩ := @sxP_V I _ _ _ _ _ hs hv
        rw [hv']
        exact .ptv (via_at h.2 hb) (by rw [hq, ev_eqv hJ h.1])
      · cases h

/-- the object o is one of those that are written p -/
noncomputable def fitRow (f : AVal → AVal → Bool) (c : T AVal) : List AVal → Nat → Bool
  | [], _ => true
  | .any :: l, j => fitRow f c l (j + 1)
  | p :: l, j => (match c.get j with | some a => f p a | none => false) && fitRow f c l (j + 1)
noncomputable def fitsO (ρ : List Nat) (β : Nat → SX) (p : PObj) (o : AObj) : Bool :=
  match p with
  | .row cs ty u => match o with
    | .row n c ty' u' => Nat.beq cs.length n && Nat.beq ty ty' && (u == u') && fitRow (fits ρ β 30) c cs 0
    | _ => false
  | .seq k a ty => match o with
    | .seq k' a' ty' => Nat.beq (kindNo k) (kindNo k') && Nat.beq ty ty' && SX.eqv (a.sub β) a'
    | _ => false
  | .map es => match o with
    | .map es' => all2 (fits ρ β 30) (es.map (·.1)) (es'.map (·.1)) && all2 (fits ρ β 30) (es.map (·.2)) (es'.map (·.2))
    | _ => false

theorem fitRow_at {f : AVal → AVal → Bool} {c : T AVal} : ∀ {l : List AVal} {j : Nat}, fitRow f c l j = true → ∀ i p, l[i]? = some p → p = .any ∨ ∃ a, c.get (j + i) = some a ∧ f p a = true
  | [], j, h, i, p, hp => by simp at hp
  | q :: l, j, h, i, p, hp => by
    have hr : fitRow f c l (j + 1) = true := by
      cases q <;> simp only [fitRow, Bool.and_eq_true] at h <;> first | exact h.2 | exact h
    cases i with
    | zero =>
      simp only [List.getElem?_cons_zero, Option.some.injEq] at hp
      subst hp
      cases q <;> first | exact .inl rfl | skip
      all_goals
        simp only [fitRow, Bool.and_eq_true] at h
        obtain ⟨h1, _⟩ := h
        split at h1
        · rename_i a ha; exact .inr ⟨a, by rw [Nat.add_zero]; exact ha, h1⟩
        · cases h1
    | succ i =>
      rcases fitRow_at hr i p (by simpa using hp) with h1 | ⟨a, h1, h2⟩
      · exact .inl h1
      · exact .inr ⟨a, by rw [show j + (i + 1) = j + 1 + i by omega]; exact h1, h2⟩

theorem fitsO_ORel (hJ : Of J I β) {p : PObj} {o : AObj} {ob : Obj} (h : fitsO ρ β p o = true) (hr : @ORel I κ o ob) : @ORel J (κ.via ρ) p.obj ob := by
  unfold fitsO at h
  split at h
  · rename_i cs ty u
    split at h
    case h_2 => cases h
    rename_i n c ty' u'
    simp only [Bool.and_eq_true] at h
    obtain ⟨⟨⟨h1, h2⟩, h3⟩, h4⟩ := h
    have h1 := nbeq h1
    have h2 := nbeq h2
    have h3 := eq_of_beq h3
    subst h1; subst h2; subst h3
    cases hr with
    | row r0 r1 r2 r3 nf =>
      refine .row r0 r1 r2 (fun j a hj hg => ?_) nf
      rw [T.get_lay _ _ _ _ (by omega), if_pos (by omega), Nat.sub_zero] at hg
      rcases fitRow_at h4 j a hg with e | ⟨a', h5, h6⟩
      · subst e
        exact ⟨_, Array.getElem?_eq_getElem (by omega), .any⟩
      · rw [Nat.zero_add] at h5
        obtain ⟨v, h7, h8⟩ := r3 j a' hj h5
        exact ⟨v, h7, fits_V hJ 30 h6 h8⟩
  · split at h
    case h_2 => cases h
    simp only [Bool.and_eq_true] at h
    obtain ⟨⟨h1, h2⟩, h3⟩ := h
    rw [kindNo_inj (nbeq h1), nbeq h2]
    cases hr with
    | seq q1 q2 q3 => exact .seq (by rw [ev_eqv hJ h3]; exact q1) (by rw [ev_eqv hJ h3]; exact q2) q3
  · split at h
    case h_2 => cases h
    simp only [Bool.and_eq_true] at h
    cases hr with
    | map m1 m2 => exact .map (all2_VL (fun p a h v hv => fits_V hJ 30 h hv) h.1 m1) (all2_VL (fun p a h v hv => fits_V hJ 30 h hv) h.2 m2)

theorem fitsO_bare (hJ : Of J I β) {p : PObj} {o : AObj} (h : fitsO ρ β p o = true) (hb : @bare I o) : @bare J p.obj := by
  unfold fitsO at h
  split at h
  · split at h
    · exact hb
    · cases h
  · split at h
    case h_2 => cases h
    simp only [Bool.and_eq_true] at h
    change (@SX.ev J _).list = []
    rw [ev_eqv hJ h.2]; exact hb
  · split at h
    · exact hb
    · cases h
end
end Go.Proofs.YtapnpdingakdcaaGreat.Eng

namespace Go.Proofs.YtapnpdingakdcaaGreat.Eng
open Go

/-- the value p, with other numbers and terms for variables -/
noncomputable def inst (fs : Facts) (σ : Nat → Nat) (β : Nat → SX) : Nat → AVal → AVal
  | 0, _ => .any
  | n + 1, p => match p with
    | .any => .any
    | .lit x => .lit x
    | .ptr i o => .ptr (σ i) o
    | .slc i o l c => .slc (σ i) o l c
    | .slu i o l z => .slu (σ i) o l z
    | .fn f l m => .fn f (l.map (inst fs σ β n)) (m.map (inst fs σ β n))
    | .yld i => .yld (σ i)
    | .ifc t x => .ifc t (inst fs σ β n x)
    | .mp i => .mp (σ i)
    | .agg l => .agg (l.map (inst fs σ β n))
    | .tup l => .tup (l.map (inst fs σ β n))
    | .sym _ => .any
    | .si k e => mkI k (e.sub β)
    | .sb e => mkB fs (e.sub β)
    | .ss e => .ss (e.sub β)
    | .slv i o l c z => .slv (σ i) (o.sub β) (l.sub β) (match c with | some c => some (c.sub β) | none => none) z
    | .ptv i o => .ptv (σ i) (o.sub β)
noncomputable def instO (fs : Facts) (σ : Nat → Nat) (β : Nat → SX) : PObj → AObj
  | .row cs ty u => .row cs.length (T.lay (cs.map (inst fs σ β 30)) 0 .leaf) ty u
  | .seq k a ty => .seq k (a.sub β) ty
  | .map es => .map (es.map fun q => (inst fs σ β 30 q.1, inst fs σ β 30 q.2))

section
variable {J : Interp} {κp : Pl} {fs : Facts} {σ : Nat → Nat} {β : Nat → SX} {κ : Pl} {I : Interp}

/-- the placement κp, under other numbers -/
structure Under (κp κ : Pl) (σ : Nat → Nat) : Prop where
  on : ∀ i b, κp i = some b → κ (σ i) = some b
  room : ∀ b r, κp.room b = some r → κ.room b = some r

theorem mapInst_VL {f : AVal → AVal} (hf : ∀ p v, @V J κp p v → @V I κ (f p) v) : ∀ {l : List AVal} {vs : List Value}, @VL J κp l vs → @VL I κ (l.map f) vs
  | [], _, h => by cases h; exact .nil
  | a :: l, _, h => by
    cases h with
    | cons x y => exact .cons (hf _ _ x) (mapInst_VL hf y)

theorem inst_V (hJ : Of J I β) (hf : @Holds I fs) (hu : Under κp κ σ) : ∀ (n : Nat) {p : AVal} {v : Value}, @V J κp p v → @V I κ (inst fs σ β n p) v
  | 0, _, _, _ => .any
  | n + 1, p, v, hv => by
    have ih := fun p v (hv : @V J κp p v) => inst_V hJ hf hu n hv
    cases hv with
    | any => exact .any
    | lit v => exact .lit _
    | ptr hb => exact .ptr (hu.on _ _ hb)
    | slc hb => exact .slc (hu.on _ _ hb)
    | slu hb x y => exact .slu (hu.on _ _ hb) x (y.imp (fun ⟨z1, n, z2, z3⟩ => ⟨z1, n, hu.room _ _ z2, z3⟩) id)
    | fn x y => exact .fn (mapInst_VL ih x) (mapInst_VL ih y)
    | yld hb => exact .yld (hu.on _ _ hb)
    | ifc x => exact .ifc (ih _ _ x)
    | mp hb => exact .mp (hu.on _ _ hb)
    | agg x => exact .agg (mapInst_VL ih x)
    | tup x => exact .tup (mapInst_VL ih x)
    | sym _ => exact .any
    | @si k e =>
      have := mkI_V (κ := κ) k (e.sub β)
      rw [← hJ] at this; exact this
    | @sb e =>
      change V κ (mkB fs (e.sub β)) _
      unfold mkB
      split
      · rename_i b hb
        rw [hJ, decB_sound hf hb]; exact .lit _
      · rw [hJ]; exact .sb
    | @ss e => rw [hJ]; exact .ss
    | @slv i off len cap b eo el ec z x1 x2 x3 x4 x5 x6 =>
      obtain ⟨r, r1, r2⟩ := x6
      refine .slv (hu.on _ _ x1) (by rw [x2, hJ]) (by rw [x3, hJ]) x4 (fun c hc => ?_) ⟨r, hu.room _ _ r1, r2⟩
      cases ec with
      | none => cases hc
      | some c' => cases hc; rw [x5 _ rfl, hJ]
    | @slv0 i z eo el ec a y1 y2 =>
      refine .slv0 (by rw [← hJ]; exact y1) (fun c hc => ?_)
      cases ec with
      | none => cases hc
      | some c' => cases hc; rw [← hJ]; exact y2 _ rfl
    | ptv x y => exact .ptv (hu.on _ _ x) (by rw [y, hJ])

theorem instO_ORel (hJ : Of J I β) (hf : @Holds I fs) (hu : Under κp κ σ) {p : PObj} {ob : Obj} (h : @ORel J κp p.obj ob) : @ORel I κ (instO fs σ β p) ob := by
  cases p with
  | row cs ty u =>
    cases h with
    | row r0 r1 r2 r3 nf =>
      refine .row r0 r1 r2 (fun j a hj hg => ?_) nf
      rw [T.get_lay _ _ _ _ (by rw [List.length_map]; omega), List.length_map, if_pos (by omega), Nat.sub_zero, List.getElem?_map] at hg
      cases hc : cs[j]? with
      | none => rw [hc] at hg; cases hg
      | some a' =>
        rw [hc] at hg
        cases hg
        obtain ⟨v, h1, h2⟩ := r3 j a' hj (by rw [T.get_lay _ _ _ _ (by omega), if_pos (by omega), Nat.sub_zero]; exact hc)
        exact ⟨v, h1, inst_V hJ hf hu 30 h2⟩
  | seq k a ty =>
    cases h with
    | seq q1 q2 q3 => exact .seq (by rw [← hJ]; exact q1) (by rw [← hJ]; exact q2) q3
  | map es =>
    cases h with
    | map m1 m2 =>
      refine .map ?_ ?_
      · have := mapInst_VL (fun p v h => inst_V hJ hf hu 30 h) m1
        rw [List.map_map] at this ⊢; exact this
      · have := mapInst_VL (fun p v h => inst_V hJ hf hu 30 h) m2
        rw [List.map_map] at this ⊢; exact this

theorem instO_bare (hJ : Of J I β) {p : PObj} (h : @bare J p.obj) : @bare I (instO fs σ β p) := by
  cases p with
  | seq k a ty =>
    change (@SX.ev I _).list = []
    rw [← hJ]; exact h
  | _ => exact h
end

/-! ### what a call does, written down -/
structure Con where
  f : FuncId
  args : List AVal
  objs : List PObj
  facts : Facts
  ret : AVal
  objs' : List (Nat × PObj)
  next' : Nat

/-- the heap of the written objects -/
noncomputable def layO (l : List PObj) : T AObj := T.lay (l.map PObj.obj) 0 .leaf
noncomputable def putAll : List (Nat × AObj) → T AObj → T AObj
  | [], h => h
  | q :: l, h => putAll l (h.put q.1 q.2)
noncomputable def resH (l : List (Nat × PObj)) : T AObj := putAll (l.map fun q => (q.1, q.2.obj)) .leaf

theorem putAll_get : ∀ (l : List (Nat × AObj)) (h : T AObj) (i : Nat), (∀ q ∈ l, q.1 < 1000000000) → (l.map (·.1)).Nodup → (putAll l h).get i = match l.find? (fun q => q.1 == i) with | some q => some q.2 | none => h.get i
  | [], h, i, _, _ => rfl
  | q :: l, h, i, hl, hn => by
    simp only [List.map_cons, List.nodup_cons] at hn
    simp only [putAll]
    rw [putAll_get l _ i (fun q hq => hl q (List.mem_cons_of_mem _ hq)) hn.2]
    by_cases e : q.1 = i
    · have hnone : l.find? (fun q => q.1 == i) = none := by
        rw [List.find?_eq_none]
        intro x hx hxi
        simp only [beq_iff_eq] at hxi
        exact hn.1 (List.mem_map.2 ⟨x, hx, by rw [hxi, e]⟩)
      rw [hnone, List.find?_cons_of_pos (by simpa using e)]
      simp only
      rw [T.get_put _ _ _ _ (hl q (List.mem_cons_self ..)), if_pos e.symm]
    · rw [List.find?_cons_of_neg (by simpa using e), T.get_put _ _ _ _ (hl q (List.mem_cons_self ..)), if_neg (fun h => e h.symm)]

/-- the contract holds, whatever the variables stand for -/
def ConGood (E : Nat → Option Value) (tb : Tab) (P : Program) (I : Interp) (c : Con) : Prop := ∀ v : Nat → D, @Holds (I.at v) c.facts →
  ∃ g, enterA tb c.f c.args .normal = some g ∧ ∀ (κ : Pl) (fr : Frame) (w : World), @FR (I.at v) κ g fr → @Rel (I.at v) κ { heap := layO c.objs, next := c.objs.length } w → EnvIn E κ → ∀ cs, ∃ κ' fr' w' x,
    Steps P (lone fr cs w) (lone fr' cs w') ∧ fr'.leaving P w' (.returned x) ∧ @V (I.at v) κ' c.ret x ∧ @Goes (I.at v) (· < c.objs.length) κ { heap := layO c.objs, next := c.objs.length } w κ' { heap := resH c.objs', next := c.next' } w' ∧ fr'.fn = c.f
end Go.Proofs.YtapnpdingakdcaaGreat.Eng

namespace Go.Proofs.YtapnpdingakdcaaGreat.Eng
open Go

/-! ### finding numbers and terms (no word of it is trusted) -/
structure Bind where
  ρ : T Nat
  β : T SX
noncomputable def bindI (i j : Nat) (s : Bind) : Bind := { s with ρ := s.ρ.put i j }
noncomputable def bindX (p e : SX) (s : Bind) : Bind := match p with | .var i => { s with β := s.β.put i e } | _ => s
noncomputable def bindL (f : AVal → AVal → Bind → Bind) : List AVal → List AVal → Bind → Bind
  | p :: l, a :: m, s => bindL f l m (f p a s)
  | _, _, s => s
noncomputable def bindA : Nat → AVal → AVal → Bind → Bind
  | 0, _, _, s => s
  | n + 1, p, a, s => match p with
    | .ptr i _ => match a with | .ptr j _ => bindI i j s | _ => s
    | .slc i _ _ _ => match a with | .slc j _ _ _ => bindI i j s | _ => s
    | .slu i _ _ _ => match a with | .slu j _ _ _ => bindI i j s | _ => s
    | .fn _ l m => match a with | .fn _ l' m' => bindL (bindA n) m m' (bindL (bindA n) l l' s) | _ => s
    | .yld i => match a with | .yld j => bindI i j s | _ => s
    | .ifc _ x => match a with | .ifc _ y => bindA n x y s | _ => s
    | .mp i => match a with | .mp j => bindI i j s | _ => s
    | .agg l => match a with | .agg l' => bindL (bindA n) l l' s | .lit (.agg cs) => bindL (bindA n) l (cs.toList.map .lit) s | _ => s
    | .tup l => match a with | .tup l' => bindL (bindA n) l l' s | _ => s
    | .si _ e => match sxI a with | some (_, e') => bindX e e' s | none => s
    | .sb e => match sxB a with | some e' => bindX e e' s | none => s
    | .ss e => match sxS a with | some e' => bindX e e' s | none => s
    | .slv i o l c _ => match a with
      | .slv j o' l' c' _ => match c, c' with
        | some c, some c' => bindX c c' (bindX l l' (bindX o o' (bindI i j s)))
        | _, _ => bindX l l' (bindX o o' (bindI i j s))
      | _ => s
    | .ptv i o => match sxP a with | some (j, o') => bindX o o' (bindI i j s) | none => s
    | _ => s
noncomputable def bindRow (c : T AVal) : List AVal → Nat → Bind → Bind
  | [], _, s => s
  | p :: l, j, s => bindRow c l (j + 1) (match c.get j with | some a => bindA 30 p a s | none => s)
noncomputable def bindO (p : PObj) (o : AObj) (s : Bind) : Bind :=
  match p, o with
  | .row cs _ _, .row _ c _ _ => bindRow c cs 0 s
  | .seq _ a _, .seq _ a' _ => bindX a a' s
  | .map es, .map es' => bindL (bindA 30) (es.map (·.2)) (es'.map (·.2)) (bindL (bindA 30) (es.map (·.1)) (es'.map (·.1)) s)
  | _, _ => s
noncomputable def bindOs (h : H) : List PObj → Nat → Bind → Bind
  | [], _, s => s
  | p :: l, i, s => bindOs h l (i + 1) (match s.ρ.get i with | some j => (match h.get j with | some o => bindO p o s | none => s) | none => s)
noncomputable def rhoOf (t : T Nat) : Nat → Nat → Option (List Nat)
  | 0, _ => some []
  | k + 1, i => match t.get i with
    | some j => match rhoOf t k (i + 1) with | some l => some (j :: l) | none => none
    | none => none
noncomputable def betaOf (t : T SX) (i : Nat) : SX := match t.get i with | some e => e | none => .lit 0

noncomputable def memN (i : Nat) : List Nat → Bool
  | [] => false
  | j :: l => Nat.beq j i || memN i l
noncomputable def nodupN : List Nat → Bool
  | [] => true
  | i :: l => !(memN i l) && nodupN l
theorem memN_iff (i : Nat) : ∀ l : List Nat, memN i l = true ↔ i ∈ l
  | [] => by simp [memN]
  | j :: l => by
    simp only [memN, Bool.or_eq_true, Nat.beq_eq, List.mem_cons, memN_iff i l]
    exact ⟨fun h => h.imp_left Eq.symm, fun h => h.imp_left Eq.symm⟩
theorem nodupN_nodup : ∀ {l : List Nat}, nodupN l = true → l.Nodup
  | [], _ => List.nodup_nil
  | i :: l, h => by
    simp only [nodupN, Bool.and_eq_true, Bool.not_eq_true'] at h
    refine List.nodup_cons.2 ⟨fun hm => ?_, nodupN_nodup h.2⟩
    rw [(memN_iff i l).2 hm] at h; cases h.1

noncomputable def fitsAll (ρ : List Nat) (β : Nat → SX) (h : H) : List PObj → List Nat → Bool
  | [], [] => true
  | p :: l, j :: m => (match h.get j with | some o => fitsO ρ β p o | none => false) && fitsAll ρ β h l m
  | _, _ => false
noncomputable def factsOK (fs : Facts) (β : Nat → SX) : Facts → Bool
  | [] => true
  | q :: l => (match decB fs (q.1.sub β) with | some b => b == q.2 | none => false) && factsOK fs β l

noncomputable def delAll : List Nat → H → H
  | [], h => h
  | j :: l, h => delAll l (h.del j)
noncomputable def sigmaOf (ρ : List Nat) (m n i : Nat) : Nat := match ρ[i]? with | some j => j | none => n + (i - m)

/-- a call whose contract is known, in whatever place -/
noncomputable def useCon (fs : Facts) (c : Con) (args : List AVal) (h : H) (n : Nat) : Option R2 :=
  let s := bindOs h c.objs 0 (bindL (bindA 30) c.args args ⟨.leaf, .leaf⟩)
  match rhoOf s.ρ c.objs.length 0 with
  | none => none
  | some ρ =>
    let β := betaOf s.β
    match nodupN ρ && all2 (fits ρ β 30) c.args args && fitsAll ρ β h c.objs ρ && factsOK fs β c.facts && (Nat.ble c.objs.length c.next' && Nat.blt c.objs.length 1000000) && Nat.ble (n + (c.next' - c.objs.length)) 1000000000 && nodupN (c.objs'.map (·.1)) && (c.objs'.all fun q => Nat.blt q.1 c.next') with
    | true => some (.ret (inst fs (sigmaOf ρ c.objs.length n) β 30 c.ret) (putAll (c.objs'.map fun q => (sigmaOf ρ c.objs.length n q.1, instO fs (sigmaOf ρ c.objs.length n) β q.2)) (delAll ρ h)) (n + (c.next' - c.objs.length)))
    | false => none

section
variable {E : Nat → Option Value} {tb : Tab} {P : Program} {ρ : List Nat} {β : Nat → SX} {κ : Pl} {I : Interp}

theorem slotsOf_get : ∀ (l : List AVal) (n : Nat) (t : T AVal) (m : Nat), n + l.length < 1000000000 → slot (slotsOf n l t) m = if n ≤ m ∧ m < n + l.length then (l[m - n]?).getD (.lit undef) else slot t m
  | [], n, t, m, _ => by rw [if_neg (by simp only [List.length_nil]; omega)]; rfl
  | a :: l, n, t, m, h => by
    haveI : Interp := .void
    simp only [List.length_cons] at h ⊢
    simp only [slotsOf]
    rw [slotsOf_get l (n + 1) (t.put n a) m (by omega), slot_put (by omega)]
    by_cases e : m = n
    · subst e; rw [if_neg (by omega), if_pos rfl, if_pos (by omega)]; simp
    · rw [if_neg e]
      by_cases h1 : n + 1 ≤ m ∧ m < n + 1 + l.length
      · rw [if_pos h1, if_pos (by omega)]
        have : m - n = (m - (n + 1)) + 1 := by omega
        rw [this, List.getElem?_cons_succ]
      · rw [if_neg h1, if_neg (by omega)]

theorem all2_length {f : AVal → AVal → Bool} : ∀ {l m : List AVal}, all2 f l m = true → l.length = m.length
  | [], [], _ => rfl
  | a :: l, b :: m, h => by simp only [all2, Bool.and_eq_true] at h; simp [all2_length h.2]
  | [], _ :: _, h => by cases h
  | _ :: _, [], h => by cases h
theorem all2_at {f : AVal → AVal → Bool} : ∀ {l m : List AVal}, all2 f l m = true → ∀ (i : Nat) p, l[i]? = some p → ∃ a, m[i]? = some a ∧ f p a = true
  | [], [], _, i, p, hp => by simp at hp
  | a :: l, b :: m, h, 0, p, hp => by
    simp only [all2, Bool.and_eq_true] at h
    simp only [List.getElem?_cons_zero, Option.some.injEq] at hp
    subst hp; exact ⟨b, rfl, h.1⟩
  | a :: l, b :: m, h, i + 1, p, hp => by
    simp only [all2, Bool.and_eq_true] at h
    simpa using all2_at h.2 i p (by simpa using hp)
  | [], _ :: _, h, _, _, _ => by cases h
  | _ :: _, [], h, _, _, _ => by cases h

theorem enterA_some {f : FuncId} {args : List AVal} {g : AFr} (h : enterA tb f args .normal = some g) : ∃ F c, tb.func f = some F ∧ F.body = some c ∧ args.length ≤ F.ntmps ∧ F.ntmps < 1000000000 ∧
    g = { fn := f, nt := F.ntmps, slots := slotsOf 0 args .leaf, todo := [.code c], defers := [], mode := .run, kind := .normal, ro := none } := by
  unfold enterA at h
  split at h
  case h_2 => cases h
  rename_i F hF
  split at h
  case h_2 => cases h
  rename_i c hc
  cases hb : (Nat.ble args.length F.ntmps && Nat.blt F.ntmps 1000000000) with
  | false => rw [hb] at h; cases h
  | true =>
    rw [hb] at h; cases h
    simp only [Bool.and_eq_true, Nat.blt_eq] at hb
    exact ⟨F, c, hF, hc, Nat.le_of_ble_eq_true hb.1, hb.2, rfl⟩
theorem enterA_len {f : FuncId} {args pargs : List AVal} {g : AFr} (h : enterA tb f pargs .normal = some g) (hl : pargs.length = args.length) : ∃ g', enterA tb f args .normal = some g' := by
  obtain ⟨F, c, h1, h2, h3, h4, _⟩ := enterA_some h
  refine ⟨{ fn := f, nt := F.ntmps, slots := slotsOf 0 args .leaf, todo := [.code c], defers := [], mode := .run, kind := .normal, ro := none }, ?_⟩
  unfold enterA
  rw [h1]; simp only [h2]
  have e1 : Nat.ble args.length F.ntmps = true := Nat.ble_eq_true_of_le (by omega)
  have e2 : Nat.blt F.ntmps 1000000000 = true := by simpa [Nat.blt_eq] using h4
  rw [e1, e2]; rfl

theorem FR_fit {J : Interp} (hJ : Of J I β) {f : FuncId} {args pargs : List AVal} {g gp : AFr} {fr : Frame} (hg : enterA tb f args .normal = some g) (hgp : enterA tb f pargs .normal = some gp) (hall : all2 (fits ρ β 30) pargs args = true)
    (h : @FR I κ g fr) : @FR J (κ.via ρ) gp fr := by
  obtain ⟨F, c, h1, h2, h3, h4, e⟩ := enterA_some hg
  obtain ⟨F', c', h1', h2', h3', h4', e'⟩ := enterA_some hgp
  rw [h1] at h1'; cases h1'
  rw [h2] at h2'; cases h2'
  subst e; subst e'
  obtain ⟨a1, a2, a3, a4, a5, a6, a7⟩ := h
  refine ⟨a1, ⟨@SR.lim I _ _ _ _ a2, @SR.size I _ _ _ _ a2, fun t => ?_⟩, fun hm => ?_, ?_, ?_, a6, ?_⟩
  · have hv := @SR.val I _ _ _ _ a2 t
    simp only at hv ⊢
    have hl := all2_length hall
    rw [slotsOf_get _ _ _ _ (by omega)] at hv ⊢
    by_cases ht : 0 ≤ t ∧ t < 0 + pargs.length
    · rw [if_pos ht]
      rw [if_pos (by omega)] at hv
      have hlt : t - 0 < pargs.length := by omega
      obtain ⟨a, b1, b2⟩ := all2_at hall (t - 0) _ (List.getElem?_eq_getElem hlt)
      rw [List.getElem?_eq_getElem hlt]
      rw [b1] at hv
      exact fits_V hJ 30 b2 hv
    · rw [if_neg ht]
      rw [if_neg (by omega)] at hv
      have e0 : slot (.leaf : T AVal) t = .lit undef := by unfold slot; rw [T.get_leaf]
      rw [e0] at hv ⊢
      rw [@V.of_lit I _ _ _ _ hv rfl]; exact .lit _
  · have := a3 rfl
    simp only at this ⊢
    generalize fr.todo = td at this
    cases this with
    | cons x y => cases y; cases x; exact .cons (.code _) .nil
  · simp only at a4 ⊢
    generalize fr.defers = td at a4
    cases a4; exact .nil
  · simp only at a5 ⊢
    generalize fr.mode = td at a5
    cases a5; exact .run
  · simp only at a7 ⊢
    generalize fr.roundOf = td at a7
    cases a7; exact .none

theorem fitsAll_at {h : H} : ∀ {l : List PObj} {m : List Nat}, fitsAll ρ β h l m = true → l.length = m.length ∧ ∀ (i : Nat) p, l[i]? = some p → ∃ j o, m[i]? = some j ∧ h.get j = some o ∧ fitsO ρ β p o = true
  | [], [], _ => ⟨rfl, fun i p hp => by simp at hp⟩
  | p :: l, j :: m, hh => by
    simp only [fitsAll, Bool.and_eq_true] at hh
    obtain ⟨h1, h2⟩ := hh
    obtain ⟨r1, r2⟩ := fitsAll_at h2
    refine ⟨by simp [r1], fun i q hq => ?_⟩
    cases i with
    | zero =>
      simp only [List.getElem?_cons_zero, Option.some.injEq] at hq
      subst hq
      split at h1
      · rename_i o ho; exact ⟨j, o, rfl, ho, h1⟩
      · cases h1
    | succ i => simpa using r2 i q (by simpa using hq)
  | [], _ :: _, h => by cases h
  | _ :: _, [], h => by cases h

theorem layO_get {l : List PObj} (hl : l.length ≤ 1000000000 - 1) (i : Nat) : (layO l).get i = (l[i]?).map PObj.obj := by
  unfold layO
  rw [T.get_lay _ _ _ _ (by rw [List.length_map]; omega), List.length_map]
  by_cases h : i < l.length
  · rw [if_pos (by omega), Nat.sub_zero, List.getElem?_map]
  · rw [if_neg (by omega), T.get_leaf, List.getElem?_eq_none (by omega)]; rfl

theorem factsOK_holds {fs : Facts} (hf : @Holds I fs) : ∀ {l : Facts}, factsOK fs β l = true → @Holds (I.of β) l
  | [], _ => fun q hq => by cases hq
  | q :: l, h => by
    simp only [factsOK, Bool.and_eq_true] at h
    obtain ⟨h1, h2⟩ := h
    intro q' hq'
    rcases List.mem_cons.1 hq' with e | e
    · subst e
      split at h1
      · rename_i b hb
        rw [SX.ev_sub, decB_sound hf hb]; exact eq_of_beq h1
      · cases h1
    · exact factsOK_holds hf h2 q' e

theorem delAll_get : ∀ (l : List Nat) (h : H) (i : Nat), (∀ j ∈ l, j < 1000000000) → (delAll l h).get i = if i ∈ l then none else h.get i
  | [], _, _, _ => by simp [delAll]
  | j :: l, h, i, hl => by
    simp only [delAll]
    rw [delAll_get l _ i (fun q hq => hl q (List.mem_cons_of_mem _ hq)), T.get_del _ _ _ (hl j (List.mem_cons_self ..))]
    by_cases e : i ∈ l
    · rw [if_pos e, if_pos (List.mem_cons_of_mem _ e)]
    · rw [if_neg e]
      by_cases e2 : i = j
      · subst e2; rw [if_pos rfl, if_pos (List.mem_cons_self ..)]
      · rw [if_neg e2, if_neg (by simp [e, e2])]

/-- the relation, in the written numbers -/
theorem Rel_fit {J : Interp} (hJ : Of J I β) {h : H} {n : Nat} {w : World} {objs : List PObj} (hn : ρ.Nodup) (hfit : fitsAll ρ β h objs ρ = true) (hr : @Rel I κ { heap := h, next := n } w) (hm : objs.length < 1000000000) :
    @Rel J (κ.via ρ) { heap := layO objs, next := objs.length } w := by
  obtain ⟨hl, hat⟩ := fitsAll_at hfit
  have hrsize : ∀ i b, κ i = some b → b < w.heap.size := @Rel.size I _ _ _ hr
  have hrinj : ∀ i j b, ({ heap := h, next := n } : St).live i → ({ heap := h, next := n } : St).live j → κ i = some b → κ j = some b → i = j := @Rel.inj I _ _ _ hr
  have hrroom := @Rel.room I _ _ _ hr
  have hrobj : ∀ i o, h.get i = some o → (∃ b ob, κ i = some b ∧ w.heap[b]? = some ob ∧ @ORel I κ o ob) ∨ (κ i = none ∧ @bare I o) := @Rel.obj I _ _ _ hr
  have hvia : ∀ i b, κ.via ρ i = some b → ∃ j, ρ[i]? = some j ∧ κ j = some b := fun i b hb => by
    change (ρ[i]?).bind κ.on = some b at hb
    cases hj : ρ[i]? with
    | none => rw [hj] at hb; cases hb
    | some j => rw [hj] at hb; exact ⟨j, rfl, hb⟩
  have hlv : ∀ i j, ρ[i]? = some j → ({ heap := h, next := n } : St).live j := fun i j hj => by
    have hi : i < objs.length := by rw [hl]; exact (List.getElem?_eq_some_iff.1 hj).1
    obtain ⟨j', o, h1, h2, _⟩ := hat i _ (List.getElem?_eq_getElem hi)
    rw [hj] at h1; cases h1
    exact live_of h2
  refine ⟨Nat.le_of_lt hm, fun i hi => ?_, fun i b hb => ?_, fun i j b _ _ h1 h2 => ?_, hrroom, fun i o hg => ?_, fun i hi hlv => ?_⟩
  · change (ρ[i]?).bind κ.on = none
    rw [List.getElem?_eq_none (by rw [← hl]; exact hi)]; rfl
  · obtain ⟨j, _, h2⟩ := hvia i b hb
    exact hrsize _ _ h2
  · obtain ⟨i', e1, f1⟩ := hvia i b h1
    obtain ⟨j', e2, f2⟩ := hvia j b h2
    have e := hrinj _ _ b (hlv _ _ e1) (hlv _ _ e2) f1 f2
    subst e
    exact (List.getElem?_inj (List.getElem?_eq_some_iff.1 e1).1 hn).1 (e1.trans e2.symm)
  · simp only at hg
    rw [layO_get (by omega)] at hg
    cases hp : objs[i]? with
    | none => rw [hp] at hg; cases hg
    | some p =>
      rw [hp] at hg
      cases hg
      obtain ⟨j, o, h1, h2, h3⟩ := hat i p hp
      have ev : κ.via ρ i = κ j := by
        change (ρ[i]?).bind κ.on = _
        rw [h1]; rfl
      rcases hrobj j o h2 with ⟨b, ob, k1, k2, k3⟩ | ⟨k1, k2⟩
      · exact .inl ⟨b, ob, ev.trans k1, k2, fitsO_ORel hJ h3 k3⟩
      · exact .inr ⟨ev.trans k1, fitsO_bare hJ h3 k2⟩
  · unfold St.live at hlv
    simp only at hlv hi
    rw [layO_get (by omega), List.getElem?_eq_none hi] at hlv
    exact hlv rfl
end
end Go.Proofs.YtapnpdingakdcaaGreat.Eng

namespace Go.Proofs.YtapnpdingakdcaaGreat.Eng
open Go

section
variable {E : Nat → Option Value} {tb : Tab} {P : Program}

/-- what the rule for contracts says of a call -/
def RetOK (E : Nat → Option Value) (tb : Tab) (P : Program) (I : Interp) (f : FuncId) (args : List AVal) (h : H) (n : Nat) (v : AVal) (h' : H) (n' : Nat) : Prop :=
  ∃ g, enterA tb f args .normal = some g ∧ ∀ κ fr w, @FR I κ g fr → @Rel I κ { heap := h, next := n } w → EnvIn E κ → ∀ cs, ∃ κ' fr' w' x, Steps P (lone fr cs w) (lone fr' cs w') ∧
      fr'.leaving P w' (.returned x) ∧ @V I κ' v x ∧ @Goes I (· < n) κ { heap := h, next := n } w κ' { heap := h', next := n' } w' ∧ fr'.fn = f

theorem nodup_map_inj {α β : Type} (f : α → β) : ∀ {l : List α}, (∀ x ∈ l, ∀ y ∈ l, f x = f y → x = y) → l.Nodup → (l.map f).Nodup
  | [], _, _ => List.nodup_nil
  | a :: l, h, hn => by
    rw [List.nodup_cons] at hn
    rw [List.map_cons, List.nodup_cons]
    refine ⟨fun hm => ?_, nodup_map_inj f (fun x hx y hy => h x (List.mem_cons_of_mem _ hx) y (List.mem_cons_of_mem _ hy)) hn.2⟩
    obtain ⟨x, hx, e⟩ := List.mem_map.1 hm
    have := h x (List.mem_cons_of_mem _ hx) a (List.mem_cons_self ..) e
    subst this
    exact hn.1 hx

theorem find_map {α : Type} (f : Nat → Nat) (g : α → AObj) (l : List (Nat × α)) (i : Nat) : (l.map fun q => (f q.1, g q.2)).find? (fun q => q.1 == i) = (l.find? (fun q => f q.1 == i)).map fun q => (f q.1, g q.2) := by
  rw [List.find?_map]
  rfl

theorem resH_get {l : List (Nat × PObj)} (hl : ∀ q ∈ l, q.1 < 1000000000) (hn : (l.map (·.1)).Nodup) (i : Nat) : (resH l).get i = (l.find? (fun q => q.1 == i)).map fun q => q.2.obj := by
  unfold resH
  rw [putAll_get _ _ _ (fun q hq => by obtain ⟨x, hx, rfl⟩ := List.mem_map.1 hq; exact hl x hx) (by rw [List.map_map]; exact hn)]
  have := find_map (fun i => i) PObj.obj l i
  rw [this]
  cases l.find? (fun q => q.1 == i) with
  | none => exact T.get_leaf i
  | some q => rfl

theorem useCon_ok {I : Interp} (ok : tb.OK P) {c : Con} (hc : ConGood E tb P I c) {args : List AVal} {h : H} {n : Nat} {r : R2} (hr : useCon tb.facts c args h n = some r) :
    ∃ v h' n', r = .ret v h' n' ∧ RetOK E tb P I c.f args h n v h' n' := by
  unfold useCon at hr
  simp only at hr
  split at hr
  case h_1 => cases hr
  rename_i ρ hρ
  generalize betaOf (bindOs h c.objs 0 (bindL (bindA 30) c.args args ⟨.leaf, .leaf⟩)).β = β at hr
  split at hr
  case h_2 => cases hr
  rename_i hcond
  cases hr
  simp only [Bool.and_eq_true] at hcond
  obtain ⟨⟨⟨⟨⟨⟨⟨k1, k2⟩, k3⟩, k4⟩, k5⟩, k6⟩, k7⟩, k8⟩ := hcond
  have hnd := nodupN_nodup k1
  have k5b : c.objs.length < 1000000 := by simpa [Nat.blt_eq] using k5.2
  have k5 := Nat.le_of_ble_eq_true k5.1
  have k6 := Nat.le_of_ble_eq_true k6
  have hnd' := nodupN_nodup k7
  have hk8 : ∀ q ∈ c.objs', q.1 < c.next' := fun q hq => by
    have := List.all_eq_true.1 k8 q hq
    simpa [Nat.blt_eq] using this
  obtain ⟨hl, hat⟩ := fitsAll_at k3
  have hvars := factsOK_holds (I := I) ok.holds k4
  obtain ⟨gp, hgp, H⟩ := hc (fun i => @SX.ev I (β i)) hvars
  obtain ⟨g, hg⟩ := enterA_len (args := args) hgp (all2_length k2)
  refine ⟨_, _, _, rfl, g, hg, fun κ fr w hfr hrel hE cs => ?_⟩
  have hJ : Of (I.of β) I β := SX.ev_sub I β
  have hrsize : ∀ i b, κ i = some b → b < w.heap.size := hrel.size
  have hrinj := hrel.inj
  have hrfresh : ∀ i, n ≤ i → κ i = none := hrel.fresh
  have hrdead : ∀ i, n ≤ i → ¬ ({ heap := h, next := n } : St).live i := hrel.dead
  have hrobj : ∀ i o, h.get i = some o → (∃ b ob, κ i = some b ∧ w.heap[b]? = some ob ∧ @ORel I κ o ob) ∨ (κ i = none ∧ @bare I o) := hrel.obj
  have hn9 : n ≤ 1000000000 := hrel.lim
  -- the written numbers
  have hlive : ∀ i j, ρ[i]? = some j → ({ heap := h, next := n } : St).live j ∧ j < n := fun i j hj => by
    have hi : i < c.objs.length := by rw [hl]; exact (List.getElem?_eq_some_iff.1 hj).1
    obtain ⟨j', o, h1, h2, _⟩ := hat i _ (List.getElem?_eq_getElem hi)
    rw [hj] at h1; cases h1
    refine ⟨live_of h2, ?_⟩
    rcases Nat.lt_or_ge j n with h3 | h3
    · exact h3
    · exact absurd (live_of h2) (hrdead j h3)
  have hmlt : c.objs.length < 1000000000 := by omega
  -- the call, in the written numbers
  have hRp := Rel_fit hJ hnd k3 hrel hmlt
  obtain ⟨κp, fr', w', x, hst, hlv, hx, hgo, hfn⟩ := H (κ.via ρ) fr w (FR_fit hJ hg hgp k2 hfr) hRp (fun i v hv => hE i v hv) cs
  have hgle := @Goes.le (I.of β) _ _ _ _ _ _ _ hgo
  have hgrel := @Goes.rel (I.of β) _ _ _ _ _ _ _ hgo
  have hgunb := @Goes.unborn (I.of β) _ _ _ _ _ _ _ hgo
  have hgold := @Goes.old (I.of β) _ _ _ _ _ _ _ hgo
  have hgborn := @Goes.born (I.of β) _ _ _ _ _ _ _ hgo
  have hgsize := @Goes.size (I.of β) _ _ _ _ _ _ _ hgo
  have hpfresh : ∀ i, c.next' ≤ i → κp i = none := @Rel.fresh (I.of β) _ _ _ hgrel
  have hpsize : ∀ i b, κp i = some b → b < w'.heap.size := @Rel.size (I.of β) _ _ _ hgrel
  have hpinj := @Rel.inj (I.of β) _ _ _ hgrel
  have hproom := @Rel.room (I.of β) _ _ _ hgrel
  have hpobj := @Rel.obj (I.of β) _ _ _ hgrel
  have hplim : c.next' ≤ 1000000000 := @Rel.lim (I.of β) _ _ _ hgrel
  generalize hm : c.objs.length = m at *
  have hlow : ∀ i, i < m → κp i = (ρ[i]?).bind κ.on := fun i hi => by
    cases hb : (ρ[i]?).bind κ.on with
    | none => exact hgunb i hi hb
    | some b => exact hgle.on i b hb
  let κ' : Pl := ⟨fun j => if j < n then κ j else if j < n + (c.next' - m) then κp (m + (j - n)) else none, κp.room, κp.env⟩
  have hκlo : ∀ j, j < n → κ' j = κ j := fun j hj => if_pos hj
  have hκhi : ∀ j, n ≤ j → j < n + (c.next' - m) → κ' j = κp (m + (j - n)) := fun j h1 h2 => by
    change (if j < n then κ j else _) = _
    rw [if_neg (by omega), if_pos h2]
  have hκno : ∀ j, n + (c.next' - m) ≤ j → κ' j = none := fun j h1 => by
    change (if j < n then κ j else _) = _
    rw [if_neg (by omega), if_neg (by omega)]
  have hsig : ∀ i, (∃ j, i < m ∧ ρ[i]? = some j ∧ sigmaOf ρ m n i = j ∧ j < n) ∨ (m ≤ i ∧ sigmaOf ρ m n i = n + (i - m)) := fun i => by
    unfold sigmaOf
    cases hj : ρ[i]? with
    | none => right; exact ⟨by have := List.getElem?_eq_none_iff.1 hj; omega, rfl⟩
    | some j => left; exact ⟨j, by have := (List.getElem?_eq_some_iff.1 hj).1; omega, rfl, rfl, (hlive i j hj).2⟩
  have hκσ : ∀ i, i < c.next' → κ' (sigmaOf ρ m n i) = κp i := fun i hi => by
    rcases hsig i with ⟨j, h1, h2, h3, h4⟩ | ⟨h1, h2⟩
    · rw [h3, hκlo j h4, hlow i h1, h2]; rfl
    · rw [h2, hκhi _ (by omega) (by omega)]; congr 1; omega
  have hu : Under κp κ' (sigmaOf ρ m n) := ⟨fun i b hb => by
    have hi : i < c.next' := by
      rcases Nat.lt_or_ge i c.next' with h1 | h1
      · exact h1
      · rw [hpfresh i h1] at hb; cases hb
    rw [hκσ i hi]; exact hb, fun _ _ h => h⟩
  have hσinj : ∀ i i', i < c.next' → i' < c.next' → sigmaOf ρ m n i = sigmaOf ρ m n i' → i = i' := fun i i' hi hi' e => by
    rcases hsig i with ⟨j, h1, h2, h3, h4⟩ | ⟨h1, h2⟩ <;> rcases hsig i' with ⟨j', h1', h2', h3', h4'⟩ | ⟨h1', h2'⟩
    · rw [h3, h3'] at e; subst e
      exact (List.getElem?_inj (List.getElem?_eq_some_iff.1 h2).1 hnd).1 (h2.trans h2'.symm)
    · omega
    · omega
    · omega
  have hσlt : ∀ i, i < c.next' → sigmaOf ρ m n i < n + (c.next' - m) := fun i hi => by
    rcases hsig i with ⟨j, h1, h2, h3, h4⟩ | ⟨h1, h2⟩ <;> omega
  -- the heap behind the call
  generalize hh' : putAll (c.objs'.map fun q => (sigmaOf ρ m n q.1, instO tb.facts (sigmaOf ρ m n) β q.2)) (delAll ρ h) = h'
  have hget : ∀ i, h'.get i = match c.objs'.find? (fun q => sigmaOf ρ m n q.1 == i) with | some q => some (instO tb.facts (sigmaOf ρ m n) β q.2) | none => if i ∈ ρ then none else h.get i := fun i => by
    rw [← hh', putAll_get _ _ _ (fun q hq => by obtain ⟨y, hy, rfl⟩ := List.mem_map.1 hq; have := hσlt y.1 (hk8 y hy); simp only; omega)
      (by
        rw [List.map_map]
        have := nodup_map_inj (fun i => sigmaOf ρ m n i) (l := c.objs'.map (·.1)) (fun a ha b hb e => by
          obtain ⟨x, hx, rfl⟩ := List.mem_map.1 ha
          obtain ⟨y, hy, rfl⟩ := List.mem_map.1 hb
          exact hσinj _ _ (hk8 x hx) (hk8 y hy) e) hnd'
        rw [List.map_map] at this; exact this),
      find_map (sigmaOf ρ m n) (instO tb.facts (sigmaOf ρ m n) β)]
    rw [delAll_get _ _ _ (fun j hj => by
      obtain ⟨i, hi⟩ := List.getElem?_of_mem hj
      have := (hlive i j hi).2; omega)]
    cases c.objs'.find? (fun q => sigmaOf ρ m n q.1 == i) <;> rfl
  have hpget : ∀ i, (resH c.objs').get i = (c.objs'.find? (fun q => q.1 == i)).map fun q => q.2.obj := resH_get (fun q hq => by have := hk8 q hq; omega) hnd'
  have hplive : ∀ q ∈ c.objs', ({ heap := resH c.objs', next := c.next' } : St).live q.1 ∧ (resH c.objs').get q.1 = some q.2.obj := fun q hq => by
    have hf : c.objs'.find? (fun y => y.1 == q.1) = some q := by
      cases hfd : c.objs'.find? (fun y => y.1 == q.1) with
      | none =>
        have := List.find?_eq_none.1 hfd q hq
        simp at this
      | some y =>
        have h1 := List.mem_of_find?_eq_some hfd
        have h2 : y.1 = q.1 := by simpa using List.find?_some hfd
        congr 1
        have hinj : ∀ (l : List (Nat × PObj)), (l.map (·.1)).Nodup → y ∈ l → q ∈ l → y = q := by
          intro l
          induction l with
          | nil => intro _ h; cases h
          | cons z l ih =>
            intro hn hy hq
            rw [List.map_cons, List.nodup_cons] at hn
            rcases List.mem_cons.1 hy with e1 | e1 <;> rcases List.mem_cons.1 hq with e2 | e2
            · rw [e1, e2]
            · subst e1; exact absurd (List.mem_map.2 ⟨q, e2, h2.symm⟩) hn.1
            · subst e2; exact absurd (List.mem_map.2 ⟨y, e1, h2⟩) hn.1
            · exact ih hn.2 e1 e2
        exact hinj _ hnd' h1 hq
    have := hpget q.1
    rw [hf] at this
    exact ⟨live_of this, this⟩
  -- what lives behind the call
  have hl' : ∀ i, ({ heap := h', next := n + (c.next' - m) } : St).live i → (∃ q ∈ c.objs', sigmaOf ρ m n q.1 = i ∧ h'.get i = some (instO tb.facts (sigmaOf ρ m n) β q.2)) ∨ (i ∉ ρ ∧ ({ heap := h, next := n } : St).live i ∧ h'.get i = h.get i) := fun i hi => by
    unfold St.live at hi
    simp only at hi
    have hgi := hget i
    cases hfd : c.objs'.find? (fun q => sigmaOf ρ m n q.1 == i) with
    | some q =>
      rw [hfd] at hgi
      exact .inl ⟨q, List.mem_of_find?_eq_some hfd, by simpa using List.find?_some hfd, hgi⟩
    | none =>
      rw [hfd] at hgi
      simp only at hgi
      by_cases hm : i ∈ ρ
      · rw [if_pos hm] at hgi; exact absurd hgi hi
      · rw [if_neg hm] at hgi
        exact .inr ⟨hm, by unfold St.live; rw [← hgi]; exact hi, hgi⟩
  have hold : ∀ i, i ∉ ρ → ({ heap := h, next := n } : St).live i → ∀ i0 b, ({ heap := layO c.objs, next := m } : St).live i0 → (κ.via ρ) i0 = some b → κ i ≠ some b := fun i hi hlv i0 b hl0 hb e => by
    change (ρ[i0]?).bind κ.on = some b at hb
    cases hj : ρ[i0]? with
    | none => rw [hj] at hb; cases hb
    | some j =>
      rw [hj] at hb
      have := hrinj i j b hlv (hlive i0 j hj).1 e hb
      subst this
      exact hi (List.mem_of_getElem? hj)
  have hil : ∀ i, ({ heap := h, next := n } : St).live i → i < n := fun i hlv => by
    rcases Nat.lt_or_ge i n with h1 | h1
    · exact h1
    · exact absurd hlv (hrdead i h1)
  have hκle : κ.le κ' := ⟨fun i b hb => by
    have : i < n := by
      rcases Nat.lt_or_ge i n with h1 | h1
      · exact h1
      · rw [hrfresh i h1] at hb; cases hb
    rw [hκlo i this]; exact hb, fun b r hb => hgle.room b r hb, fun i v hv => hgle.env i v hv⟩
  refine ⟨κ', fr', w', x, hst, hlv, inst_V hJ ok.holds hu 30 hx, ⟨hκle, ⟨k6, fun i hi => hκno i hi, fun i b hb => ?_, fun i j b hi hj h1 h2 => ?_, hproom, fun i o hg => ?_, fun i hi hlv => ?_⟩, Nat.le_add_right _ _, hgsize, fun b hb hno => ?_, fun i b hi hkb => ?_, fun i hi hk => ?_, fun i hi hnl hlv => ?_, ?_, ?_, ?_⟩, hfn⟩
  · -- size
    rcases Nat.lt_or_ge i n with h1 | h1
    · rw [hκlo i h1] at hb
      exact Nat.lt_of_lt_of_le (hrsize i b hb) hgsize
    · rcases Nat.lt_or_ge i (n + (c.next' - m)) with h2 | h2
      · rw [hκhi i h1 h2] at hb; exact hpsize _ _ hb
      · rw [hκno i h2] at hb; cases hb
  · -- two numbers for one block
    have mixed : ∀ i j b, (∃ q ∈ c.objs', sigmaOf ρ m n q.1 = i) → j ∉ ρ → ({ heap := h, next := n } : St).live j → κ' i = some b → κ' j = some b → False := fun i j b ⟨q, hq, e⟩ hjρ hjl h1 h2 => by
      subst e
      rw [hκσ _ (hk8 q hq)] at h1
      rw [hκlo j (hil j hjl)] at h2
      rcases hgborn q.1 b (hplive q hq).1 h1 with h3 | ⟨i0, h3, h4⟩
      · have := hrsize j b h2; omega
      · exact hold j hjρ hjl i0 b h3 h4 h2
    rcases hl' i hi with ⟨q, hq, e, _⟩ | ⟨hiρ, hil', _⟩ <;> rcases hl' j hj with ⟨q', hq', e', _⟩ | ⟨hjρ, hjl', _⟩
    · subst e; subst e'
      rw [hκσ _ (hk8 q hq)] at h1
      rw [hκσ _ (hk8 q' hq')] at h2
      rw [hpinj q.1 q'.1 b (hplive q hq).1 (hplive q' hq').1 h1 h2]
    · exact (mixed i j b ⟨q, hq, e⟩ hjρ hjl' h1 h2).elim
    · exact (mixed j i b ⟨q', hq', e'⟩ hiρ hil' h2 h1).elim
    · rw [hκlo i (hil i hil')] at h1
      rw [hκlo j (hil j hjl')] at h2
      exact hrinj i j b hil' hjl' h1 h2
  · -- the objects
    simp only at hg
    rcases hl' i (live_of (s := { heap := h', next := n + (c.next' - m) }) hg) with ⟨q, hq, e, hgq⟩ | ⟨hiρ, hil', hgi⟩
    · rw [hgq] at hg; cases hg
      subst e
      rw [hκσ _ (hk8 q hq)]
      rcases hpobj q.1 _ (hplive q hq).2 with ⟨b, ob, h1, h2, h3⟩ | ⟨h1, h2⟩
      · exact .inl ⟨b, ob, h1, h2, instO_ORel hJ ok.holds hu h3⟩
      · exact .inr ⟨h1, instO_bare hJ h2⟩
    · rw [hgi] at hg
      rw [hκlo i (hil i hil')]
      rcases hrobj i o hg with ⟨b, ob, h1, h2, h3⟩ | hb
      · refine .inl ⟨b, ob, h1, ?_, h3.mono hκle⟩
        rw [hgold b (hrsize i b h1) fun i0 hl0 hb => hold i hiρ hil' i0 b hl0 hb h1]; exact h2
      · exact .inr hb
  · -- nothing lives beyond
    rcases hl' i hlv with ⟨q, hq, e, _⟩ | ⟨_, hil', _⟩
    · have := hσlt q.1 (hk8 q hq); simp only at hi; omega
    · have := hil i hil'; simp only at hi; omega
  · -- old blocks
    refine hgold b hb fun i0 hl0 hb0 => ?_
    change (ρ[i0]?).bind κ.on = some b at hb0
    cases hj : ρ[i0]? with
    | none => rw [hj] at hb0; cases hb0
    | some j =>
      rw [hj] at hb0
      exact hno j (hlive i0 j hj).1 hb0
  · -- born
    rcases hl' i hi with ⟨q, hq, e, _⟩ | ⟨hiρ, hil', _⟩
    · subst e
      rw [hκσ _ (hk8 q hq)] at hkb
      rcases hgborn q.1 b (hplive q hq).1 hkb with h3 | ⟨i0, h3, h4⟩
      · exact .inl h3
      · change (ρ[i0]?).bind κ.on = some b at h4
        cases hj : ρ[i0]? with
        | none => rw [hj] at h4; cases h4
        | some j =>
          rw [hj] at h4
          exact .inr ⟨j, (hlive i0 j hj).1, h4⟩
    · rw [hκlo i (hil i hil')] at hkb
      exact .inr ⟨i, hil', hkb⟩
  · rw [hκlo i hi]; exact hk
  · rcases hl' i hlv with ⟨q, hq, e, _⟩ | ⟨_, hil', _⟩
    · rcases hsig q.1 with ⟨j, h1, h2, h3, h4⟩ | ⟨h1, h2⟩
      · rw [← e, h3] at hnl; exact hnl (hlive _ _ h2).1
      · have hi : i < n := hi
        omega
    · exact hnl hil'
  · exact @Goes.os (I.of β) _ _ _ _ _ _ _ hgo
  · exact @Goes.output (I.of β) _ _ _ _ _ _ _ hgo
  · exact @Goes.tape (I.of β) _ _ _ _ _ _ _ hgo

/-- contracts, tried one after the other -/
noncomputable def evM (fs : Facts) (e : Ev) : List Con → Ev
  | [], f, args, h, n => e f args h n
  | c :: l, f, args, h, n => match Nat.beq c.f f with
    | true => match useCon fs c args h n with
      | some r => r
      | none => evM fs e l f args h n
    | false => evM fs e l f args h n

theorem evM_ok {I : Interp} (ok : tb.OK P) {e : Ev} (he : EvFOK E tb P e) : ∀ {l : List Con}, (∀ c ∈ l, ConGood E tb P I c) → EvFOK E tb P (evM tb.facts e l)
  | [], _ => fun f args h n => he f args h n
  | c :: l, hc => fun f args h n => by
    have ih := evM_ok ok he (fun c' hc' => hc c' (List.mem_cons_of_mem _ hc')) f args h n
    have key : evM tb.facts e (c :: l) f args h n = evM tb.facts e l f args h n ∨ ∃ r, useCon tb.facts c args h n = some r ∧ c.f = f ∧ evM tb.facts e (c :: l) f args h n = r := by
      conv => lhs; lhs; unfold evM
      conv => rhs; rhs; intro r; rhs; rhs; lhs; unfold evM
      cases hb : Nat.beq c.f f with
      | false => exact .inl rfl
      | true =>
        cases hu : useCon tb.facts c args h n with
        | none => exact .inl rfl
        | some r => exact .inr ⟨r, rfl, nbeq hb, rfl⟩
    rcases key with h1 | ⟨r, h1, h2, h3⟩
    · rw [h1]; exact ih
    · subst h2
      obtain ⟨v, h', n', e1, hret⟩ := useCon_ok ok (hc c (List.mem_cons_self ..)) h1
      rw [h3, e1]
      exact hret
end
end Go.Proofs.YtapnpdingakdcaaGreat.Eng

namespace Go.Proofs.YtapnpdingakdcaaGreat.Eng
open Go

section
variable {E : Nat → Option Value} {tb : Tab} {P : Program}

/-- calls, d deep, with contracts at every depth -/
noncomputable def evR (tb : Tab) (P : Program) (l : List Con) (d : Nat) : Ev := Nat.rec (motive := fun _ => Ev) (fun _ _ _ _ => .bad (.s "25")) (fun _ ih => evM tb.facts (callF tb P ih) l) d

theorem evR_ok {I : Interp} (ok : tb.OK P) {l : List Con} (hl : ∀ c ∈ l, ConGood E tb P I c) : ∀ d, EvFOK E tb P (evR tb P l d)
  | 0 => fun _ _ _ _ => trivial
  | d + 1 => evM_ok ok (callF_ends ok (drawP_ok ok) (evR_ok ok hl d)) hl

noncomputable def varB : Nat → SX := fun i => .var i
theorem sub_var : ∀ e : SX, e.sub varB = e
  | .lit _ => rfl
  | .str _ => rfl
  | .var _ => rfl
  | .a1 f x => by simp only [SX.sub, sub_var x]
  | .a2 f x y => by simp only [SX.sub, sub_var x, sub_var y]
  | .a3 f x y z => by simp only [SX.sub, sub_var x, sub_var y, sub_var z]
theorem of_self (J : Interp) : Of J J varB := fun e => by rw [sub_var]

/-- the result is as it is written -/
noncomputable def asWritten (c : Con) (r : R2) : Bool :=
  match r with
  | .ret v h n => (Nat.ble n c.next' && Nat.ble c.next' 1000000000) && nodupN (c.objs'.map (·.1)) && (c.objs'.all fun q => Nat.blt q.1 c.next') && fits (List.range n) varB 30 c.ret v &&
      c.objs'.all fun q => match h.get q.1 with | some o => fitsO (List.range n) varB q.2 o | none => false
  | _ => false

theorem via_range {J : Interp} {κ : Pl} {s : St} {w : World} (hr : @Rel J κ s w) : κ.via (List.range s.next) = κ := by
  have : (fun i => ((List.range s.next)[i]?).bind κ.on) = κ.on := by
    funext i
    by_cases h : i < s.next
    · rw [List.getElem?_range h]; rfl
    · rw [List.getElem?_eq_none (by simpa using h)]
      exact (hr.fresh i (by omega)).symm
  cases κ
  simp only [Pl.via] at this ⊢
  rw [this]

/-- less is said of the heap -/
theorem Goes.written {J : Interp} {U : Nat → Prop} {κ κ' : Pl} {s : St} {w w' : World} {h : H} {n : Nat} {c : Con} {v : AVal} (hgo : Goes U κ s w κ' { heap := h, next := n } w') (hw : asWritten c (.ret v h n) = true) (hU : ∀ i, U i → i < s.next) :
    Goes U κ s w κ' { heap := resH c.objs', next := c.next' } w' ∧ ∀ x, V κ' v x → V κ' c.ret x := by
  simp only [asWritten, Bool.and_eq_true] at hw
  obtain ⟨⟨⟨⟨k1, k2⟩, k3⟩, k4⟩, k5⟩ := hw
  obtain ⟨k1, k6⟩ := k1
  have k1 : n ≤ c.next' := by simpa [Nat.ble_eq] using k1
  have hnd := nodupN_nodup k2
  have hlt : ∀ q ∈ c.objs', q.1 < c.next' := fun q hq => by
    have := List.all_eq_true.1 k3 q hq
    simpa [Nat.blt_eq] using this
  have hlim : c.next' ≤ 1000000000 := by simpa [Nat.ble_eq] using k6
  have hget := resH_get (fun q hq => by have := hlt q hq; omega) hnd
  have hvia := via_range hgo.rel
  have hobj : ∀ i o, (resH c.objs').get i = some o → ∃ q ∈ c.objs', q.1 = i ∧ o = q.2.obj ∧ ∃ o', h.get i = some o' ∧ fitsO (List.range n) varB q.2 o' = true := fun i o ho => by
    rw [hget] at ho
    cases hf : c.objs'.find? (fun q => q.1 == i) with
    | none => rw [hf] at ho; cases ho
    | some q =>
      rw [hf] at ho
      cases ho
      have h1 := List.mem_of_find?_eq_some hf
      have h2 : q.1 = i := by simpa using List.find?_some hf
      have h3 := List.all_eq_true.1 k5 q h1
      rw [h2] at h3
      cases hh : h.get i with
      | none => rw [hh] at h3; cases h3
      | some o' => rw [hh] at h3; exact ⟨q, h1, h2, rfl, o', rfl, h3⟩
  have hlive : ∀ i, ({ heap := resH c.objs', next := c.next' } : St).live i → ({ heap := h, next := n } : St).live i := fun i hl => by
    unfold St.live at hl ⊢
    cases hg : (resH c.objs').get i with
    | none => exact absurd hg hl
    | some o =>
      obtain ⟨_, _, _, _, o', ho', _⟩ := hobj i o hg
      simp only [ho']; simp
  refine ⟨⟨hgo.le, ⟨hlim, fun i hi => hgo.rel.fresh i (Nat.le_trans k1 hi), hgo.rel.size, fun i j b hi hj => hgo.rel.inj i j b (hlive i hi) (hlive j hj), hgo.rel.room, fun i o hg => ?_, fun i hi hl => hgo.rel.dead i (Nat.le_trans k1 hi) (hlive i hl)⟩, Nat.le_trans hgo.next k1, hgo.size, hgo.old, fun i b hi hk => hgo.born i b (hlive i hi) hk, hgo.unborn, fun i hi hn hl => hgo.still i hi hn (hlive i hl), hgo.os, hgo.output, hgo.tape⟩, fun x hx => ?_⟩
  · obtain ⟨q, h1, h2, h3, o', h4, h5⟩ := hobj i o hg
    subst h3
    rcases hgo.rel.obj i o' h4 with ⟨b, ob, m1, m2, m3⟩ | ⟨m1, m2⟩
    · have := fitsO_ORel (of_self J) h5 m3
      rw [hvia] at this
      exact .inl ⟨b, ob, m1, m2, this⟩
    · exact .inr ⟨m1, fitsO_bare (of_self J) h5 m2⟩
  · have := fits_V (of_self J) 30 k4 hx
    rw [hvia] at this
    exact this

/-- a contract, by a run -/
theorem con_good {I : Interp} (hok : ∀ [Interp], tb.OK P) {c : Con} {e : Ev} (he : ∀ v : Nat → D, @Holds (I.at v) c.facts → @EvFOK (I.at v) E (tb.knows c.facts) P e)
    (h : asWritten c (callF (tb.knows c.facts) P e c.f c.args (layO c.objs) c.objs.length) = true) : ConGood E tb P I c := by
  intro v hv
  have ok' : @Tab.OK (I.at v) (tb.knows c.facts) P := @Tab.OK.knows (I.at v) tb P c.facts (@hok (I.at v)) hv
  have hE := @callF_ends (I.at v) E (tb.knows c.facts) P ok' (@drawP_ok (I.at v) E (tb.knows c.facts) P ok') e (he v hv) c.f c.args (layO c.objs) c.objs.length
  generalize callF (tb.knows c.facts) P e c.f c.args (layO c.objs) c.objs.length = r at h hE
  cases r with
  | bad w => cases h
  | pan ch h' n' => cases h
  | ret x h' n' =>
    obtain ⟨g, hg, H⟩ := hE
    refine ⟨g, hg, fun κ fr w hfr hrel hEn cs => ?_⟩
    obtain ⟨κ', fr', w', y, hst, hlv, hy, hgo, hfn⟩ := H κ fr w hfr hrel hEn cs
    obtain ⟨h1, h2⟩ := @Goes.written (I.at v) _ _ _ _ _ _ _ _ _ _ hgo h (fun i hi => hi)
    exact ⟨κ', fr', w', y, hst, hlv, h2 y hy, h1, hfn⟩

/-- .. with contracts below -/
theorem con_goodR {I : Interp} (hok : ∀ [Interp], tb.OK P) {c : Con} {l : List Con} {d : Nat} (hl : ∀ c' ∈ l, ConGood E tb P I c')
    (h : asWritten c (callF (tb.knows c.facts) P (evR (tb.knows c.facts) P l d) c.f c.args (layO c.objs) c.objs.length) = true) : ConGood E tb P I c :=
  con_good hok (fun v hv => @evR_ok E (tb.knows c.facts) P (I.at v) (@Tab.OK.knows (I.at v) tb P c.facts (@hok (I.at v)) hv) l (fun c' hc' => hl c' hc') d) h

/-- another contract's result, in other words -/
theorem ConGood.of {I : Interp} {c : Con} (h : ∀ v : Nat → D, @Holds (I.at v) c.facts → ∃ c' : Con, ConGood E tb P I c' ∧ c'.f = c.f ∧ c'.args = c.args ∧ c'.objs = c.objs ∧ c'.objs' = c.objs' ∧ c'.next' = c.next' ∧ @Holds (I.at v) c'.facts ∧ ∀ κ x, @V (I.at v) κ c'.ret x → @V (I.at v) κ c.ret x) : ConGood E tb P I c := by
  intro v hv
  obtain ⟨⟨f, args, objs, facts, ret, objs', next'⟩, hc, h1, h2, h3, h4, h5, h6, h7⟩ := h v hv
  obtain ⟨g, hg, H⟩ := hc v h6
  simp only at h1 h2 h3 h4 h5 hg H h7
  subst h1 h2 h3 h4 h5
  refine ⟨g, hg, fun κ fr w hfr hrel hEn cs => ?_⟩
  obtain ⟨κ', fr', w', x, a1, a2, a3, a4, a5⟩ := H κ fr w hfr hrel hEn cs
  exact ⟨κ', fr', w', x, a1, a2, h7 _ _ a3, a4, a5⟩
end
end Go.Proofs.YtapnpdingakdcaaGreat.Eng

