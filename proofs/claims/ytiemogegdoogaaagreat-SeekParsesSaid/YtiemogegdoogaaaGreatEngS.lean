/- Part S of an evaluator for this program: the operations on symbols. No condition. -/
import Derived.Test.YtiemogegdoogaaaGreatEngA
import Derived.Lib.Strings
import Derived.IntWalk
import Derived.Lib.Bytealg
set_option linter.unusedVariables false
set_option linter.unusedSectionVars false
namespace Go.Proofs.YtiemogegdoogaaaGreat.Eng
open Go
variable [Interp]

noncomputable def mkI (k : IntKind) : SX → AVal
  | .lit n => .lit (.int k n)
  | e => .si k e

noncomputable def simpS (fs : Facts) (e : SX) : SX :=
  match e with
  | .a2 (.ar op k) x y => simpB fs op k x y
  | .a1 (.cv k) x => simpC fs k x
  | e => e
theorem simpS_ev [Interp] {fs : Facts} (hf : Holds fs) (e : SX) : (simpS fs e).ev.int = e.ev.int := by
  unfold simpS
  split
  · exact simpB_ev hf
  · exact simpC_ev hf
  · rfl
noncomputable def simpV (fs : Facts) (a : AVal) : AVal := match a with | .si k e => mkI k (simpS fs e) | a => a
noncomputable def simpO (fs : Facts) (a : Option AVal) : Option AVal := match a with | some a => some (simpV fs a) | none => none

noncomputable def sxI : AVal → Option (IntKind × SX)
  | .lit (.int k n) => some (k, .lit n)
  | .si k e => some (k, e)
  | _ => none
noncomputable def sxB : AVal → Option SX
  | .lit (.bool b) => some (.lit (bif b then 1 else 0))
  | .sb e => some e
  | _ => none
noncomputable def intsB (b : ByteArray) : List Int := b.data.toList.map fun x => Int.ofNat x.toNat
noncomputable def sxS : AVal → Option SX
  | .lit (.string b) => some (.str (intsB b))
  | .ss e => some e
  | _ => none
noncomputable def mkB (fs : Facts) (e : SX) : AVal := match decB fs e with | some b => .lit (.bool b) | none => .sb e

section
variable {tb : Tab} {P : Program} {κ : Pl} {s s' : St} {w : World} {ρ : Operand → AVal} {ρ' : Operand → Value} {id : Nat} {a : AVal}

theorem mkI_V (k : IntKind) (e : SX) : V κ (mkI k e) (.int k e.ev.int) := by
  unfold mkI
  split
  · exact .lit _
  · exact .si
theorem simpV_V (hf : Holds tb.facts) {a : AVal} {v : Value} (h : V κ a v) : V κ (simpV tb.facts a) v := by
  unfold simpV
  split
  · cases h; rw [← simpS_ev hf]; exact mkI_V _ _
  · exact h
theorem simpO_some {fs : Facts} {a : Option AVal} {x : AVal} (h : simpO fs a = some x) : ∃ y, a = some y ∧ x = simpV fs y := by
  cases a with
  | none => cases h
  | some y => cases h; exact ⟨y, rfl, rfl⟩
theorem sxI_V {a : AVal} {v : Value} {k : IntKind} {e : SX} (h : sxI a = some (k, e)) (hv : V κ a v) : v = .int k e.ev.int := by
  unfold sxI at h
  split at h
  · cases h; exact hv.of_lit rfl
  · cases h; cases hv; rfl
  · cases h
theorem sxB_V {a : AVal} {v : Value} {e : SX} (h : sxB a = some e) (hv : V κ a v) : v = .bool e.ev.tr := by
  unfold sxB at h
  split at h
  · rename_i b; cases h; rw [hv.of_lit rfl]; cases b <;> rfl
  · cases h; cases hv; rfl
  · cases h
theorem bytesOf_ints (b : ByteArray) : bytesOf (intsB b) = b := by
  unfold bytesOf intsB
  have : ((b.data.toList.map fun x => Int.ofNat x.toNat).map fun n => UInt8.ofNat n.toNat) = b.data.toList := by
    rw [List.map_map]
    conv => rhs; rw [← List.map_id b.data.toList]
    apply List.map_congr_left
    intro x _
    simp
  rw [this]
theorem sxS_V {a : AVal} {v : Value} {e : SX} (h : sxS a = some e) (hv : V κ a v) : v = .string (bytesOf e.ev.list) := by
  unfold sxS at h
  split at h
  · rename_i b; cases h; rw [hv.of_lit rfl]; exact congrArg Value.string (bytesOf_ints b).symm
  · cases h; cases hv; rfl
  · cases h
theorem mkB_V (ok : tb.OK P) (e : SX) : V κ (mkB tb.facts e) (.bool e.ev.tr) := by
  unfold mkB
  split
  · rename_i b hb; rw [decB_sound ok.holds hb]; exact .lit _
  · exact .sb

theorem ltE (x y : SX) : (SX.a2 .lt x y).ev.tr = decide (x.ev.int < y.ev.int) := D.tr_ofB _
theorem eqE (x y : SX) : (SX.a2 .eq x y).ev.tr = decide (x.ev.int = y.ev.int) := D.tr_ofB _
theorem eqLE (x y : SX) : (SX.a2 .eqL x y).ev.tr = decide (bytesOf x.ev.list = bytesOf y.ev.list) := D.tr_ofB _
theorem notE (x : SX) : (SX.a1 .not x).ev.tr = !x.ev.tr := D.tr_ofB _
theorem dec_lt (ok : tb.OK P) {x y : SX} {b : Bool} (h : decB tb.facts (.a2 .lt x y) = some b) : decide (x.ev.int < y.ev.int) = b := (ltE x y).symm.trans (decB_sound ok.holds h)
theorem dec_eq (ok : tb.OK P) {x y : SX} {b : Bool} (h : decB tb.facts (.a2 .eq x y) = some b) : decide (x.ev.int = y.ev.int) = b := (eqE x y).symm.trans (decB_sound ok.holds h)

noncomputable def symCmp (fs : Facts) (op : BinOp) (a b : SX) : Option AVal :=
  match op with
  | .lss => some (mkB fs (.a2 .lt a b))
  | .gtr => some (mkB fs (.a2 .lt b a))
  | .leq => some (mkB fs (.a1 .not (.a2 .lt b a)))
  | .geq => some (mkB fs (.a1 .not (.a2 .lt a b)))
  | .eql => some (mkB fs (.a2 .eq a b))
  | .neq => some (mkB fs (.a1 .not (.a2 .eq a b)))
  | _ => none

noncomputable def symInt (fs : Facts) (op : BinOp) (k : IntKind) (a : SX) (k' : IntKind) (b : SX) : Option AVal :=
  match op with
  | .shl => match decB fs (.a2 .lt b (.lit 0)) with | some false => some (.si k (.a2 (.ar .shl k) a b)) | _ => none
  | .shr => match decB fs (.a2 .lt b (.lit 0)) with | some false => some (.si k (.a2 (.ar .shr k) a b)) | _ => none
  | _ => match Nat.beq (kindNo k) (kindNo k') with
    | false => none
    | true => match op with
      | .add => some (.si k (.a2 (.ar .add k) a b))
      | .sub => some (.si k (.a2 (.ar .sub k) a b))
      | .mul => some (.si k (.a2 (.ar .mul k) a b))
      | .and => some (.si k (.a2 (.ar .and k) a b))
      | .or => some (.si k (.a2 (.ar .or k) a b))
      | .xor => some (.si k (.a2 (.ar .xor k) a b))
      | .andNot => some (.si k (.a2 (.ar .andNot k) a b))
      | .quo => match decB fs (.a2 .eq b (.lit 0)) with | some false => some (.si k (.a2 (.ar .quo k) a b)) | _ => none
      | .rem => match decB fs (.a2 .eq b (.lit 0)) with | some false => some (.si k (.a2 (.ar .rem k) a b)) | _ => none
      | op => symCmp fs op a b

noncomputable def symStr (fs : Facts) (op : BinOp) (a b : SX) : Option AVal :=
  match op with
  | .eql => some (mkB fs (.a2 .eqL a b))
  | .neq => some (mkB fs (.a1 .not (.a2 .eqL a b)))
  | _ => none

noncomputable def symBin0 (fs : Facts) (op : BinOp) (x y : AVal) : Option AVal :=
  match sxI x with
  | some (k, a) => match sxI y with
    | some (k', b) => symInt fs op k a k' b
    | none => none
  | none => match sxS x with
    | some a => match sxS y with
      | some b => symStr fs op a b
      | none => none
    | none => none

theorem symInt_sound (ok : tb.OK P) {op : BinOp} {k k' : IntKind} {x y : SX} (h : symInt tb.facts op k x k' y = some a) (t : TypeId) (p q : Operand) :
    ∃ v, (do eqGuard op t p q (.int k x.ev.int) (.int k' y.ev.int); binOp op t (.int k x.ev.int) (.int k' y.ev.int) : Sem Value).run P w = .ok v w ∧ V κ a v := by
  rw [guard_int]
  unfold symInt at h
  split at h
  · split at h
    case h_2 => cases h
    rename_i hd
    cases h
    have h1 : ¬ y.ev.int < 0 := of_decide_eq_false (dec_lt ok hd)
    refine ⟨_, ?_, .si⟩
    simp only [binOp, Op.shift]
    rw [if_neg h1]
    rfl
  · split at h
    case h_2 => cases h
    rename_i hd
    cases h
    have h1 : ¬ y.ev.int < 0 := of_decide_eq_false (dec_lt ok hd)
    refine ⟨_, ?_, .si⟩
    simp only [binOp, Op.shift]
    rw [if_neg h1]
    rfl
  · rename_i n1 n2
    split at h
    · cases h
    · rename_i hkk
      have hk := kindNo_inj (nbeq hkk)
      subst hk
      have hcmp : ∀ op, (∀ t : TypeId, binOp op t (.int k x.ev.int) (.int k y.ev.int) = Op.intCmp op x.ev.int y.ev.int) → symCmp tb.facts op x y = some a →
          ∃ v, (binOp op t (.int k x.ev.int) (.int k y.ev.int)).run P w = .ok v w ∧ V κ a v := by
        intro op h0 h
        rw [h0]
        unfold symCmp at h
        have hm := fun e => mkB_V (κ := κ) (P := P) (tb := tb) ok e
        split at h <;> first | (cases h; done) | skip
        · cases h; exact ⟨_, rfl, by have := hm (.a2 .lt x y); simpa only [SX.ev, F2.ev, D.tr_ofB] using this⟩
        · cases h; exact ⟨_, rfl, by have := hm (.a2 .lt y x); simpa only [SX.ev, F2.ev, D.tr_ofB] using this⟩
        · cases h
          refine ⟨.bool (decide (x.ev.int ≤ y.ev.int)), rfl, ?_⟩
          have := hm (.a1 .not (.a2 .lt y x))
          simp only [SX.ev, F2.ev, F1.ev, D.tr_ofB] at this
          have e : (!decide (y.ev.int < x.ev.int)) = decide (x.ev.int ≤ y.ev.int) := by
            rw [Bool.eq_iff_iff]; simp
          rwa [e] at this
        · cases h
          refine ⟨.bool (decide (x.ev.int ≥ y.ev.int)), rfl, ?_⟩
          have := hm (.a1 .not (.a2 .lt x y))
          simp only [SX.ev, F2.ev, F1.ev, D.tr_ofB] at this
          have e : (!decide (x.ev.int < y.ev.int)) = decide (x.ev.int ≥ y.ev.int) := by
            rw [Bool.eq_iff_iff]; simp
          rwa [e] at this
        · cases h
          refine ⟨.bool (x.ev.int == y.ev.int), rfl, ?_⟩
          have := hm (.a2 .eq x y)
          simp only [SX.ev, F2.ev, D.tr_ofB] at this
          have e : decide (x.ev.int = y.ev.int) = (x.ev.int == y.ev.int) := by
            rw [Bool.eq_iff_iff]; simp
          rwa [e] at this
        · cases h
          refine ⟨.bool (x.ev.int != y.ev.int), rfl, ?_⟩
          have := hm (.a1 .not (.a2 .eq x y))
          simp only [SX.ev, F2.ev, F1.ev, D.tr_ofB] at this
          have e : (!decide (x.ev.int = y.ev.int)) = (x.ev.int != y.ev.int) := by
            rw [Bool.eq_iff_iff]; simp
          rwa [e] at this
      split at h
      · cases h; exact ⟨_, by simp only [binOp, ne_eq, not_true_eq_false, if_false]; rfl, .si⟩
      · cases h; exact ⟨_, by simp only [binOp, ne_eq, not_true_eq_false, if_false]; rfl, .si⟩
      · cases h; exact ⟨_, by simp only [binOp, ne_eq, not_true_eq_false, if_false]; rfl, .si⟩
      · cases h; exact ⟨_, by simp only [binOp, ne_eq, not_true_eq_false, if_false]; rfl, .si⟩
      · cases h; exact ⟨_, by simp only [binOp, ne_eq, not_true_eq_false, if_false]; rfl, .si⟩
      · cases h; exact ⟨_, by simp only [binOp, ne_eq, not_true_eq_false, if_false]; rfl, .si⟩
      · cases h; exact ⟨_, by simp only [binOp, ne_eq, not_true_eq_false, if_false]; rfl, .si⟩
      · split at h
        case h_2 => cases h
        rename_i hd
        cases h
        have h1 : ¬ y.ev.int = 0 := of_decide_eq_false (dec_eq ok hd)
        refine ⟨_, ?_, .si⟩
        simp only [binOp, ne_eq, not_true_eq_false, if_false, Op.intDiv]
        rw [if_neg h1]
        rfl
      · split at h
        case h_2 => cases h
        rename_i hd
        cases h
        have h1 : ¬ y.ev.int = 0 := of_decide_eq_false (dec_eq ok hd)
        refine ⟨_, ?_, .si⟩
        simp only [binOp, ne_eq, not_true_eq_false, if_false, Op.intDiv]
        rw [if_neg h1]
        rfl
      · refine hcmp _ (fun t => ?_) h
        have := h
        unfold symCmp at this
        split at this <;> first | (cases this; done) | simp only [binOp, ne_eq, not_true_eq_false, if_false]

theorem guard_str (op : BinOp) (t : TypeId) (p q : Operand) (x y : ByteArray) :
    (do eqGuard op t p q (.string x) (.string y); binOp op t (.string x) (.string y) : Sem Value) = binOp op t (.string x) (.string y) := by
  cases op <;> rfl

theorem toList_beq (x y : ByteArray) : (x.toList == y.toList) = decide (x = y) := by
  rw [Bool.eq_iff_iff]
  simp only [beq_iff_eq, decide_eq_true_iff]
  constructor
  · intro h
    rw [ByteArray.toList_eq, ByteArray.toList_eq] at h
    cases x; cases y
    simp only [ByteArray.mk.injEq]
    exact Array.toList_inj.1 h
  · intro h; rw [h]

theorem symStr_sound (ok : tb.OK P) {op : BinOp} {x y : SX} (h : symStr tb.facts op x y = some a) (t : TypeId) (p q : Operand) :
    ∃ v, (do eqGuard op t p q (.string (bytesOf x.ev.list)) (.string (bytesOf y.ev.list)); binOp op t (.string (bytesOf x.ev.list)) (.string (bytesOf y.ev.list)) : Sem Value).run P w = .ok v w ∧ V κ a v := by
  rw [guard_str]
  unfold symStr at h
  have hm := fun e => mkB_V (κ := κ) (P := P) (tb := tb) ok e
  split at h
  · cases h
    refine ⟨_, rfl, ?_⟩
    have := hm (.a2 .eqL x y)
    simp only [SX.ev, F2.ev, D.tr_ofB] at this
    rw [toList_beq]; exact this
  · cases h
    refine ⟨_, rfl, ?_⟩
    have := hm (.a1 .not (.a2 .eqL x y))
    simp only [SX.ev, F2.ev, F1.ev, D.tr_ofB] at this
    rw [toList_beq]; exact this
  · cases h

theorem symBin0_sound (ok : tb.OK P) (hr : Rel κ s w) {o : Oper} {op : BinOp} {t u : TypeId} {x y : Operand} (ho : o.op = .binOp op t x y u) (hρ : ∀ x, V κ (ρ x) (ρ' x))
    (h : symBin0 tb.facts op (ρ x) (ρ y) = some a) : Sure P (execOp ρ' o) w (Yield κ s w id a s) := by
  unfold symBin0 at h
  have fin : ∀ e1 e2 : Value, ρ' x = e1 → ρ' y = e2 → (∃ v, (do eqGuard op t x y e1 e2; binOp op t e1 e2 : Sem Value).run P w = .ok v w ∧ V κ a v) → Sure P (execOp ρ' o) w (Yield κ s w id a s) := by
    intro e1 e2 h1 h2 ⟨v, hv, hva⟩
    refine .eq (a := .value v) (w' := w) ?_ (.same hr hva)
    unfold execOp
    rw [ho]
    simp only [h1, h2]
    change (Sem.bind (do eqGuard op t x y e1 e2; binOp op t e1 e2 : Sem Value) fun v => .pure (Next.value v)).run P w = _
    rw [run_bind', hv]
    rfl
  split at h
  · rename_i k e1 hx
    split at h
    · rename_i k' e2 hy
      exact fin _ _ (sxI_V hx (hρ x)) (sxI_V hy (hρ y)) (symInt_sound ok h t x y)
    · cases h
  · split at h
    · rename_i e1 hx
      split at h
      · rename_i e2 hy
        exact fin _ _ (sxS_V hx (hρ x)) (sxS_V hy (hρ y)) (symStr_sound ok h t x y)
      · cases h
    · cases h

noncomputable def symBin (fs : Facts) (op : BinOp) (x y : AVal) : Option AVal := simpO fs (symBin0 fs op x y)
theorem symBin_sound (ok : tb.OK P) (hr : Rel κ s w) {o : Oper} {op : BinOp} {t u : TypeId} {x y : Operand} (ho : o.op = .binOp op t x y u) (hρ : ∀ x, V κ (ρ x) (ρ' x))
    (h : symBin tb.facts op (ρ x) (ρ y) = some a) : Sure P (execOp ρ' o) w (Yield κ s w id a s) := by
  obtain ⟨b, h1, h2⟩ := simpO_some h
  subst h2
  refine Sure.mono (symBin0_sound (id := id) ok hr ho hρ h1) fun n w' hy => ?_
  obtain ⟨κ', h3, h4⟩ := hy
  refine ⟨κ', h3, ?_⟩
  rcases h4 with ⟨x, h5, h6⟩ | ⟨h5, h6⟩
  · exact .inl ⟨x, h5, simpV_V ok.holds h6⟩
  · exact .inr ⟨h5, by rw [h6]; rfl⟩

noncomputable def symUn (fs : Facts) (op : UnOp) (x : AVal) : Option AVal :=
  match op with
  | .not => match sxB x with | some e => some (mkB fs (.a1 .not e)) | none => none
  | .neg => match sxI x with | some (k, e) => some (.si k (.a1 (.neg k) e)) | none => none
  | .xor => match sxI x with | some (k, e) => some (.si k (.a1 (.com k) e)) | none => none
  | _ => none

theorem symUn_sound (ok : tb.OK P) {op : UnOp} {x : AVal} {v : Value} (hx : V κ x v) (h : symUn tb.facts op x = some a) : Sure P (Op.unary op v) w fun y w' => w' = w ∧ V κ a y := by
  unfold symUn at h
  split at h
  · split at h
    · rename_i e he; cases h
      rw [sxB_V he hx]
      refine .pure ⟨rfl, ?_⟩
      have := mkB_V (κ := κ) (P := P) (tb := tb) ok (.a1 .not e)
      simpa only [SX.ev, F1.ev, D.tr_ofB] using this
    · cases h
  · split at h
    · rename_i k e he; cases h
      rw [sxI_V he hx]
      exact .pure ⟨rfl, .si⟩
    · cases h
  · split at h
    · rename_i k e he; cases h
      rw [sxI_V he hx]
      exact .pure ⟨rfl, .si⟩
    · cases h
  · cases h

noncomputable def symConv (tb : Tab) (src dst : Nat) (x : AVal) : Option AVal :=
  match sxI x with
  | some (_, e) => match tb.und dst, tb.und src with
    | some (.int k), some _ => some (mkI k (simpS tb.facts (.a1 (.cv k) e)))
    | _, _ => none
  | none => match sxS x with
    | some e => match tb.und dst, tb.und src with
      | some .string, some _ => some (.ss e)
      | _, _ => none
    | none => none

theorem symConv_sound (ok : tb.OK P) {src dst : Nat} {x : AVal} {v : Value} (hx : V κ x v) (h : symConv tb src dst x = some a) :
    Sure P (convert src dst v) w fun y w' => w' = w ∧ V κ a y := by
  unfold symConv at h
  split at h
  · rename_i k0 e he
    split at h
    case h_2 => cases h
    rename_i k d hk hd
    cases h
    rw [sxI_V he hx]
    unfold convert
    refine (sure_und (ok.und _ _ hd)).bind fun y w' ⟨h1, h2⟩ => ?_
    rw [h1, h2]
    refine (sure_und (ok.und _ _ hk)).bind fun y w' ⟨h1, h2⟩ => ?_
    rw [h1, h2]
    refine .pure ⟨rfl, ?_⟩
    have := mkI_V (κ := κ) k (simpS tb.facts (.a1 (.cv k) e))
    rw [simpS_ev ok.holds] at this; exact this
  · split at h
    case h_2 => cases h
    rename_i e he
    split at h
    case h_2 => cases h
    rename_i d hk hd
    cases h
    rw [sxS_V he hx]
    unfold convert
    refine (sure_und (ok.und _ _ hd)).bind fun y w' ⟨h1, h2⟩ => ?_
    rw [h1, h2]
    refine (sure_und (ok.und _ _ hk)).bind fun y w' ⟨h1, h2⟩ => ?_
    rw [h1, h2]
    exact .pure ⟨rfl, .ss⟩
end
end Go.Proofs.YtiemogegdoogaaaGreat.Eng

namespace Go.Proofs.YtiemogegdoogaaaGreat.Eng
open Go
variable [Interp]

noncomputable def intsX (k : IntKind) : SX → List AVal → Option SX
  | acc, [] => some acc
  | acc, v :: l => match sxI v with
    | some (k', e) => match Nat.beq (kindNo k') (kindNo k) with
      | true => match acc, e with
        | .str xs, .lit n => intsX k (.str (xs ++ [n])) l
        | acc, e => intsX k (.a2 .push acc e) l
      | false => none
    | none => none

noncomputable def cutN (fs : Facts) (a x y : SX) : SX :=
  match decB fs (.a2 .lt x y) with
  | some false => .str []
  | _ => match SX.eqv x (.lit (.ofNat 0)), decB fs (.a2 .lt y (.a1 .len a)) with
    | true, some false => a
    | _, _ => match a with
      | .a3 .cut b l h => match decB fs (.a2 .lt l (.lit (.ofNat 0))), decB fs (.a2 .lt x (.lit (.ofNat 0))), decB fs (.a2 .lt (.a2 .sub h l) y) with
        | some false, some false, some false => .a3 .cut b (mkAdd l x) (mkAdd l y)
        | _, _, _ => .a3 .cut (.a3 .cut b l h) x y
      | a => .a3 .cut a x y
theorem cutL_nil {l : List Int} {x y : Int} (h : ¬ x < y) : cutL l x y = [] := by
  unfold cutL
  exact List.drop_eq_nil_of_le (by rw [List.length_take]; omega)
theorem cutL_all {l : List Int} {y : Int} (h : ¬ y < l.length) : cutL l 0 y = l := by
  unfold cutL
  rw [List.take_of_length_le (by omega)]; rfl
theorem cutL_cut {l : List Int} {a b x y : Int} (h1 : ¬ a < 0) (h2 : ¬ x < 0) (h3 : ¬ b - a < y) : cutL (cutL l a b) x y = cutL l (a + x) (a + y) := by
  unfold cutL
  rw [List.take_drop, List.take_take, List.drop_drop]
  by_cases hy : 0 ≤ y
  · rw [show min (a.toNat + y.toNat) b.toNat = (a + y).toNat by omega, show a.toNat + x.toNat = (a + x).toNat by omega]
  · rw [List.drop_eq_nil_of_le (by rw [List.length_take]; omega), List.drop_eq_nil_of_le (by rw [List.length_take]; omega)]
theorem cutN_ev {fs : Facts} (hf : Holds fs) (a x y : SX) : (cutN fs a x y).ev.list = cutL a.ev.list x.ev.int y.ev.int := by
  unfold cutN
  split
  · rename_i h
    exact (cutL_nil (of_decide_eq_false ((ltE _ _).symm.trans (decB_sound hf h)))).symm
  · split
    · rename_i h1 h2
      rw [SX.eqv_eq h1]
      have h2 := of_decide_eq_false ((ltE _ _).symm.trans (decB_sound hf h2))
      exact (cutL_all h2).symm
    · split
      · rename_i b l h hne
        split
        · rename_i h1 h2 h3
          have h1 := of_decide_eq_false ((ltE _ _).symm.trans (decB_sound hf h1))
          have h2 := of_decide_eq_false ((ltE _ _).symm.trans (decB_sound hf h2))
          have h3 := of_decide_eq_false ((ltE _ _).symm.trans (decB_sound hf h3))
          change cutL b.ev.list (mkAdd l x).ev.int (mkAdd l y).ev.int = cutL (cutL b.ev.list l.ev.int h.ev.int) x.ev.int y.ev.int
          rw [mkAdd_ev, mkAdd_ev]
          exact (cutL_cut h1 h2 h3).symm
        · rfl
      · rfl
noncomputable def mkCut (fs : Facts) (a lo hi : SX) : Option SX :=
  match SX.eqv hi (.a1 .len a), lo with
  | true, .lit (.ofNat 0) => some a
  | true, lo => some (cutN fs a lo hi)
  | false, lo => match decB fs (.a2 .lt (.a1 .len a) hi) with
    | some false => some (cutN fs a lo hi)
    | _ => none

noncomputable def subLo (lo : SX) : SX → SX
  | .a2 f x y => match f with
    | .add => match SX.eqv x lo with
      | true => y
      | false => mkAdd (subLo lo x) y
    | f => mkSub (.a2 f x y) lo
  | e => mkSub e lo
theorem subLo_ev (lo : SX) : ∀ e : SX, (subLo lo e).ev.int = e.ev.int - lo.ev.int
  | .a2 f x y => by
    unfold subLo
    split
    · split
      · rename_i h
        rw [← SX.eqv_eq h]
        change y.ev.int = (x.ev.int + y.ev.int) - x.ev.int
        omega
      · rw [mkAdd_ev, subLo_ev lo x]
        change _ = (x.ev.int + y.ev.int) - lo.ev.int
        omega
    · exact mkSub_ev _ _
  | .lit _ => mkSub_ev _ _
  | .str _ => mkSub_ev _ _
  | .var _ => mkSub_ev _ _
  | .a1 .. => mkSub_ev _ _
  | .a3 .. => mkSub_ev _ _
noncomputable def rowI (fs : Facts) (o : AObj) (off : SX) : Option (IntKind × SX × SX) :=
  match o with
  | .seq k a _ => some (k, a, off)
  | .win k lo a => match decB fs (.a2 .lt (subLo lo off) (.lit (.ofNat 0))) with
    | some false => some (k, a, subLo lo off)
    | _ => none
  | _ => none

noncomputable def contX (fs : Facts) (k : IntKind) (x : AVal) (s : St) : Option (SX × SX) :=
  match x with
  | .slv id off len _ z => match z, s.heap.get id with
    | 1, some o => match rowI fs o off with
      | some (k', a, idx) => match Nat.beq (kindNo k') (kindNo k) with
        | true => match mkCut fs a idx (mkAdd idx len) with
          | some c => some (c, len)
          | none => none
        | false => none
      | none => none
    | _, _ => none
  | .slc id off len cap => match cellsA 1 len (.slc id off len cap) s with
    | some l => match intsX k (.str []) l with
      | some c => some (c, .lit (.ofNat len))
      | none => none
    | none => none
  | .slu id off len z => match cellsA 1 len (.slu id off len z) s with
    | some l => match intsX k (.str []) l with
      | some c => some (c, .lit (.ofNat len))
      | none => none
    | none => none
  | .lit (.slice none 0 0) => some (.str [], .lit (.ofNat 0))
  | .lit (.string b) => match Nat.beq (kindNo k) 1 with
    | true => some (.str (intsB b), .lit (.ofNat b.size))
    | false => none
  | _ => none

section
variable {tb : Tab} {P : Program} {κ : Pl} {s s' : St} {w : World} {ρ : Operand → AVal} {ρ' : Operand → Value} {id : Nat} {a : AVal}

theorem intsX_sound {k : IntKind} : ∀ {l : List AVal} {acc c : SX} {vs : List Value}, intsX k acc l = some c → VL κ l vs → ∃ ns : List Int, vs = ns.map (Value.int k) ∧ c.ev.list = acc.ev.list ++ ns
  | [], acc, c, vs, h, hv => by
    cases hv
    simp only [intsX] at h; cases h
    exact ⟨[], rfl, by simp⟩
  | v :: l, acc, c, vs, h, hv => by
    cases hv with
    | cons hv hl =>
    simp only [intsX] at h
    split at h
    case h_2 => cases h
    rename_i k' e hs
    split at h
    case h_2 => cases h
    rename_i hkk
    have hk := kindNo_inj (nbeq hkk)
    subst hk
    have hv' := sxI_V hs hv
    subst hv'
    split at h
    · rename_i xs n
      obtain ⟨ns, h1, h2⟩ := intsX_sound h hl
      exact ⟨n :: ns, by rw [h1]; rfl, by rw [h2]; simp [SX.ev, D.list]⟩
    · obtain ⟨ns, h1, h2⟩ := intsX_sound h hl
      exact ⟨_ :: ns, by rw [h1]; rfl, by rw [h2]; simp [SX.ev, F2.ev, D.list]⟩

theorem mkCut_sound (ok : tb.OK P) {a lo hi c : SX} (h : mkCut tb.facts a lo hi = some c) : c.ev.list = cutL a.ev.list lo.ev.int hi.ev.int ∧ hi.ev.int ≤ a.ev.list.length := by
  unfold mkCut at h
  split at h
  · rename_i he
    cases h
    have := SX.eqv_eq he
    subst this
    have e1 : (SX.a1 .len a).ev.int = (a.ev.list.length : Int) := rfl
    have e2 : (SX.lit (.ofNat 0)).ev.int = 0 := rfl
    refine ⟨?_, by rw [e1]; omega⟩
    rw [e1, e2]; simp [cutL]
  · rename_i he _
    cases h
    have := SX.eqv_eq he
    subst this
    exact ⟨cutN_ev ok.holds _ _ _, Int.le_refl _⟩
  · split at h
    case h_2 => cases h
    rename_i hd
    cases h
    have h1 : ¬ ((a.ev.list.length : Int) < hi.ev.int) := of_decide_eq_false (dec_lt ok hd)
    exact ⟨cutN_ev ok.holds _ _ _, by omega⟩

theorem seq_at (hr : Rel κ s w) {i b : Nat} {k : IntKind} {a : SX} {t : Nat} (hg : s.heap.get i = some (.seq k a t)) (hk : κ i = some b) :
    ∃ cs fz, w.heap[b]? = some (.cells cs t fz) ∧ NF fz cs.size ∧ a.ev.list.length ≤ cs.size ∧ ∀ j, j < a.ev.list.length → cs[j]? = some (.int k (a.ev.list[j]?.getD 0)) := by
  obtain ⟨ob, h1, h2⟩ := hr.on hg hk
  cases h2 with
  | seq q1 q2 q3 => exact ⟨_, _, h1, q3, q1, q2⟩

theorem VL.of_lits : ∀ {l m : List Value}, VL κ (l.map .lit) m → m = l
  | [], _, h => by cases h; rfl
  | v :: l, _, h => by
    cases h with
    | cons x y => rw [x.of_lit rfl, VL.of_lits y]

theorem cutL_get (l : List Int) (lo n j : Nat) (hj : j < n) (hn : lo + n ≤ l.length) : (cutL l lo (lo + n : Nat))[j]? = some (l[lo + j]?.getD 0) := by
  unfold cutL
  simp only [Int.toNat_natCast]
  rw [List.getElem?_drop, List.getElem?_take_of_lt (by omega), List.getElem?_eq_getElem (by omega)]
  rfl
theorem cutL_length (l : List Int) (lo n : Nat) (hn : lo + n ≤ l.length) : (cutL l lo (lo + n : Nat)).length = n := by
  unfold cutL
  simp only [Int.toNat_natCast, List.length_drop, List.length_take]
  omega

theorem seq_load (hr : Rel κ s w) {i b off n : Nat} {k : IntKind} {a : SX} {t : Nat} (hg : s.heap.get i = some (.seq k a t)) (hk : κ i = some b) (hle : off + n ≤ a.ev.list.length) :
    Sure P (loadCells ⟨b, off, none⟩ n) w fun y w' => w' = w ∧ y.toList = (cutL a.ev.list off (off + n : Nat)).map (Value.int k) := by
  obtain ⟨cs, fz, h1, h2, h3, h4⟩ := seq_at hr hg hk
  have hlen := cutL_length a.ev.list off n hle
  refine (sure_loadCellsFrom (κ := κ) h1 n 0 #[] (((cutL a.ev.list off (off + n : Nat)).map (Value.int k)).map .lit) (by rw [List.length_map, List.length_map]; exact hlen) fun j c hj => ?_).mono fun y w' ⟨k1, m, k2, k3⟩ => ⟨k1, by rw [k2, VL.of_lits k3]; simp⟩
  have hjn : j < n := by
    rcases Nat.lt_or_ge j n with hx | hx
    · exact hx
    · rw [List.getElem?_eq_none (by rw [List.length_map, List.length_map, hlen]; exact hx)] at hj; cases hj
  rw [List.getElem?_map, List.getElem?_map, cutL_get _ _ _ _ hjn hle] at hj
  simp only [Option.map_some, Option.some.injEq] at hj
  subst hj
  exact ⟨_, by rw [Nat.add_zero]; exact h4 (off + j) (by omega), .lit _⟩

theorem rowI_at (ok : tb.OK P) (hr : Rel κ s w) {i b q : Nat} {o : AObj} {off : SX} {k : IntKind} {a idx : SX} (hg : s.heap.get i = some o) (hk : κ i = some b) (h : rowI tb.facts o off = some (k, a, idx)) (hq : (q : Int) = off.ev.int) :
    ∃ cs t fz, ∃ j : Nat, w.heap[b]? = some (.cells cs t fz) ∧ (j : Int) = idx.ev.int ∧ ∀ m, j + m < a.ev.list.length → cs[q + m]? = some (.int k (a.ev.list[j + m]?.getD 0)) := by
  obtain ⟨ob, h1, h2⟩ := hr.on hg hk
  unfold rowI at h
  split at h
  · cases h
    cases h2 with
    | seq q1 q2 q3 => exact ⟨_, _, _, q, h1, hq, fun m hm => q2 (q + m) hm⟩
  · rename_i k' lo a'
    split at h
    case h_2 => cases h
    rename_i hd
    cases h
    have h3 : ¬ ((subLo lo off).ev.int < 0) := of_decide_eq_false (dec_lt ok hd)
    have e := subLo_ev lo off
    cases h2 with
    | win q1 q2 =>
      refine ⟨_, _, _, (subLo lo off).ev.int.toNat, h1, by omega, fun m hm => ?_⟩
      have := q2 _ hm
      have e2 : lo.ev.int.toNat + ((subLo lo off).ev.int.toNat + m) = q + m := by omega
      rw [e2] at this; exact this
  · cases h

theorem row_load {b q j n : Nat} {k : IntKind} {a : SX} {cs : Array Value} {t : Nat} {fz : Nat × Nat} (h1 : w.heap[b]? = some (.cells cs t fz)) (h4 : ∀ m, j + m < a.ev.list.length → cs[q + m]? = some (.int k (a.ev.list[j + m]?.getD 0))) (hle : j + n ≤ a.ev.list.length) :
    Sure P (loadCells ⟨b, q, none⟩ n) w fun y w' => w' = w ∧ y.toList = (cutL a.ev.list j (j + n : Nat)).map (Value.int k) := by
  have hlen := cutL_length a.ev.list j n hle
  refine (sure_loadCellsFrom (κ := ⟨fun _ => none, fun _ => none, fun _ => none⟩) h1 n 0 #[] (((cutL a.ev.list j (j + n : Nat)).map (Value.int k)).map .lit) (by rw [List.length_map, List.length_map]; exact hlen) fun m c hj => ?_).mono fun y w' ⟨k1, m, k2, k3⟩ => ⟨k1, by rw [k2, VL.of_lits k3]; simp⟩
  have hjn : m < n := by
    rcases Nat.lt_or_ge m n with hx | hx
    · exact hx
    · rw [List.getElem?_eq_none (by rw [List.length_map, List.length_map, hlen]; exact hx)] at hj; cases hj
  rw [List.getElem?_map, List.getElem?_map, cutL_get _ _ _ _ hjn hle] at hj
  simp only [Option.map_some, Option.some.injEq] at hj
  subst hj
  exact ⟨_, by rw [Nat.add_zero]; exact h4 m (by omega), .lit _⟩

theorem contX_sound (ok : tb.OK P) (hr : Rel κ s w) {k : IntKind} {x : AVal} {v : Value} {c n : SX} (hx : V κ x v) (h : contX tb.facts k x s = some (c, n)) :
    ∃ m : Nat, (m : Int) = n.ev.int ∧ c.ev.list.length = m ∧ Sure P (Builtin.lenOf v) w (fun y w' => y = m ∧ w' = w) ∧
      Sure P (Builtin.firstCells 1 m v) w fun y w' => w' = w ∧ y.toList = c.ev.list.map (Value.int k) := by
  unfold contX at h
  split at h
  · rename_i i off len cap z
    split at h
    case h_2 => cases h
    rename_i ob hg
    split at h
    case h_2 => cases h
    rename_i k' a idx hrow
    split at h
    case h_2 => cases h
    rename_i hkk
    have hk := kindNo_inj (nbeq hkk)
    subst hk
    split at h
    case h_2 => cases h
    rename_i c' hc
    cases h
    obtain ⟨hc1, hc2⟩ := mkCut_sound ok hc
    rw [mkAdd_ev] at hc1 hc2
    cases hx with
    | @slv _ o l cp b _ _ _ _ x1 x2 x3 x4 x5 x6 =>
      obtain ⟨cs, t, fz, j, g1, g2, g3⟩ := rowI_at ok hr hg x1 hrow x2
      rw [← g2, ← x3] at hc1 hc2
      have hle : j + l ≤ a.ev.list.length := by omega
      have e : (j : Int) + l = ((j + l : Nat) : Int) := by push_cast; rfl
      rw [e] at hc1
      refine ⟨l, x3, by rw [hc1]; exact cutL_length _ _ _ hle, .pure ⟨rfl, rfl⟩, ?_⟩
      rw [hc1]
      simp only [Builtin.firstCells, Nat.mul_one]
      exact row_load g1 g3 hle
    | @slv0 _ _ _ _ _ ad y1 y2 =>
      rw [y1] at hc1
      have e0 : c.ev.list = [] := by
        rw [hc1]; unfold cutL
        apply List.drop_eq_nil_of_le
        rw [List.length_take]; omega
      refine ⟨0, by simpa using y1.symm, by rw [e0]; rfl, .pure ⟨rfl, rfl⟩, ?_⟩
      rw [e0]
      cases ad with
      | none => exact .pure ⟨rfl, rfl⟩
      | some ad =>
        simp only [Builtin.firstCells, Nat.zero_mul]
        exact .pure ⟨rfl, rfl⟩
  · rename_i i off len cap
    split at h
    case h_2 => cases h
    rename_i l hl
    split at h
    case h_2 => cases h
    rename_i c' hc
    cases h
    obtain ⟨y, w', h1, h2, h3⟩ := cellsA_sound hr hx hl (P := P)
    obtain ⟨ns, h4, h5⟩ := intsX_sound hc h3
    have hlen : lenA (.slc i off len cap) = some len := rfl
    have h6 : c.ev.list = ns := by rw [h5]; simp [SX.ev, D.list]
    refine ⟨len, rfl, ?_, (lenA_sound hx hlen).mono fun y w' hh => hh, .eq h1 ⟨h2, by rw [h4, h6]⟩⟩
    rw [h6]
    have h7 : y.toList.length = ns.length := by rw [h4]; simp
    rw [← h7, ← h3.length]
    simp only [cellsA, Nat.ble_eq_true_of_le (Nat.le_refl len), cond_true] at hl
    split at hl
    case h_2 => cases hl
    cases hk2 : Nat.ble (off + len * 1) _ with
    | false => rw [hk2] at hl; cases hl
    | true => rw [hk2] at hl; simp only [cond_true] at hl; rw [(T.pick_spec _ _ _ _ hl).1, Nat.mul_one]
  · rename_i i off len z
    split at h
    case h_2 => cases h
    rename_i l hl
    split at h
    case h_2 => cases h
    rename_i c' hc
    cases h
    obtain ⟨y, w', h1, h2, h3⟩ := cellsA_sound hr hx hl (P := P)
    obtain ⟨ns, h4, h5⟩ := intsX_sound hc h3
    have hlen : lenA (.slu i off len z) = some len := rfl
    have h6 : c.ev.list = ns := by rw [h5]; simp [SX.ev, D.list]
    refine ⟨len, rfl, ?_, (lenA_sound hx hlen).mono fun y w' hh => hh, .eq h1 ⟨h2, by rw [h4, h6]⟩⟩
    rw [h6]
    have h7 : y.toList.length = ns.length := by rw [h4]; simp
    rw [← h7, ← h3.length]
    simp only [cellsA, Nat.ble_eq_true_of_le (Nat.le_refl len), cond_true] at hl
    split at hl
    case h_2 => cases hl
    cases hk2 : Nat.ble (off + len * 1) _ with
    | false => rw [hk2] at hl; cases hl
    | true => rw [hk2] at hl; simp only [cond_true] at hl; rw [(T.pick_spec _ _ _ _ hl).1, Nat.mul_one]
  · cases h
    cases hx.of_lit rfl
    exact ⟨0, rfl, rfl, .pure ⟨rfl, rfl⟩, .pure ⟨rfl, rfl⟩⟩
  · rename_i b
    split at h
    case h_2 => cases h
    rename_i hkk
    have hk : k = .u8 := kindNo_inj (nbeq hkk)
    subst hk
    cases h
    cases hx.of_lit rfl
    have hl : (intsB b).length = b.size := by unfold intsB; simp
    refine ⟨b.size, rfl, hl, .pure ⟨rfl, rfl⟩, .pure ⟨rfl, ?_⟩⟩
    have e : b.extract 0 b.size = b := by
      apply ByteArray.ext
      simp [ByteArray.extract, ByteArray.copySlice]
    rw [e]
    simp only [SX.ev, D.list, intsB, Array.toList_map, List.map_map]
    rfl
  · cases h
end
end Go.Proofs.YtiemogegdoogaaaGreat.Eng

namespace Go.Proofs.YtiemogegdoogaaaGreat.Eng
open Go
variable [Interp]

noncomputable def newS (k : IntKind) (c n : SX) (e id : Nat) (s : St) : AVal × St := (.slv id (.lit (.ofNat 0)) n none 1, { s with heap := s.heap.put id (.seq k c e) })

noncomputable def mkApp (a b : SX) : SX :=
  match a, b with
  | .str [], b => b
  | a, .str [] => a
  | .str l, .str m => .str (l ++ m)
  | a, .a2 .push (.str []) x => .a2 .push a x
  | a, .str [n] => .a2 .push a (.lit n)
  | a, b => .a2 .app a b

noncomputable def small (fs : Facts) (n : SX) : Bool := match decB fs (.a2 .lt n (.lit 1000000000)) with | some true => true | _ => false

noncomputable def appendS (tb : Tab) (t u : Nat) (a x : AVal) (id : Nat) (s : St) : Option (AVal × St) :=
  match tb.und t, tb.und u with
  | some (.slice e), some d => match plainD d, tb.info e, tb.und e with
    | true, some inf, some (.int k) => match Nat.beq inf.size 1 && Nat.ble inf.bytes 8, inf.zero with
      | true, some z => match Nat.beq z.cells.size 1, contX tb.facts k x s with
        | true, some (c1, n1) => match a with
          | .lit (.slice none 0 0) => match small tb.facts n1 with
            | true => some (newS k c1 n1 e id s)
            | false => none
          | .slv i off len (some (.lit (.ofNat 0))) 1 => match small tb.facts n1 with
            | true => some (newS k c1 n1 e id s)
            | false => none
          | .slc _ _ 0 0 => match small tb.facts n1 with
            | true => some (newS k c1 n1 e id s)
            | false => none
          | .slv i (.lit (.ofNat 0)) len none 1 => match s.heap.get i with
            | some (.seq k' a0 ty) => match Nat.beq ty e && Nat.beq (kindNo k') (kindNo k), mkCut tb.facts a0 (.lit (.ofNat 0)) len, small tb.facts (mkAdd len n1) with
              | true, some c0, true => some (newS k (mkApp c0 c1) (mkAdd len n1) e id { s with heap := s.heap.del i })
              | _, _, _ => none
            | _ => none
          | .slu i 0 len 1 => match s.heap.get i, contX tb.facts k (.slu i 0 len 1) s with
            | some (.row _ _ ty _), some (c0, n0) => match Nat.beq ty e, small tb.facts (mkAdd n0 n1) with
              | true, true => some (newS k (mkApp c0 c1) (mkAdd n0 n1) e id { s with heap := s.heap.del i })
              | _, _ => none
            | _, _ => none
          | _ => none
        | _, _ => none
      | _, _ => none
    | _, _, _ => none
  | _, _ => none

section
variable {tb : Tab} {P : Program} {κ : Pl} {s s' : St} {w : World} {ρ : Operand → AVal} {ρ' : Operand → Value} {id : Nat} {a : AVal}

theorem mkApp_ev (a b : SX) : (mkApp a b).ev.list = a.ev.list ++ b.ev.list := by
  unfold mkApp
  split
  · simp [SX.ev, D.list]
  · simp [SX.ev, D.list]
  · simp [SX.ev, D.list]
  · simp [SX.ev, F2.ev, D.list]
  · simp [SX.ev, F2.ev, D.list, D.int]
  · rfl

theorem small_sound (ok : tb.OK P) {n : SX} (h : small tb.facts n = true) : n.ev.int < 1000000000 := by
  unfold small at h
  split at h
  · rename_i hd; exact of_decide_eq_true (dec_lt ok hd)
  · cases h

theorem newS_grow (hr : Rel κ s w) (hid : id < s.next) (hk : Free κ s id) {e : Nat} {inf : TypeInfo} {z : Value} {k : IntKind} {l0 l1 : List Int} {c n : SX} {sLen sCap nx : Nat} {base : Option Addr} {ap : Sem (Array Value)} {newCap : Nat}
    (hzero : P.info? e = some inf) (hz : inf.zero = some z) (hzs : z.cells.size = 1) (hsz : inf.size = 1) (hle : sLen + nx ≤ newCap) (h0 : l0.length = sLen) (h1 : l1.length = nx) (hc : c.ev.list = l0 ++ l1) (hn : ((sLen + nx : Nat) : Int) = n.ev.int)
    (hold : Sure P (Builtin.firstCells 1 sLen (.slice base sLen sCap)) w fun y w' => w' = w ∧ y.toList = l0.map (Value.int k))
    (hnew : Sure P ap w fun y w' => w' = w ∧ y.toList = l1.map (Value.int k)) :
    Sure P (do
      let old ← Builtin.firstCells 1 sLen (.slice base sLen sCap)
      let new ← ap
      let rest := Builtin.zeroCells (← zeroValue e).cells (newCap - (sLen + nx))
      pure (.slice (some (← newRow e (old ++ new ++ rest))) (sLen + nx) newCap) : Sem Value) w
      fun y w' => ∃ κ' : Pl, Goes (· ≠ id) κ s w κ' (newS k c n e id s).2 w' ∧ V κ' (newS k c n e id s).1 y := by
  refine hold.bind fun ov w' ⟨h2, h3⟩ => ?_
  rw [h2]
  refine hnew.bind fun nv w' ⟨h4, h5⟩ => ?_
  rw [h4]
  refine (sure_zero hzero hz).bind fun zv w' ⟨h6, h7⟩ => ?_
  rw [h6, h7]
  have o1 : ov.size = sLen := by rw [← Array.length_toList, h3, List.length_map, h0]
  have o2 : nv.size = nx := by rw [← Array.length_toList, h5, List.length_map, h1]
  have hs2 : (ov ++ nv ++ Builtin.zeroCells z.cells (newCap - (sLen + nx))).size = newCap := by
    simp only [Array.size_append, zeroCells_size, hzs, o1, o2]; omega
  obtain ⟨κ', k1, k2, k3⟩ := hr.bear (i := id) (o := .seq k c e) (ob := .cells (ov ++ nv ++ Builtin.zeroCells z.cells (newCap - (sLen + nx))) e (0, 0)) hid hk (some newCap) (fun m hm => by cases hm; exact ⟨_, _, _, rfl, hs2⟩) fun κ' hle' _ => by
    refine .seq (by rw [hs2, hc, List.length_append, h0, h1]; exact hle) (fun j hj => ?_) (NF.zero _)
    rw [hc] at hj ⊢
    rw [List.length_append, h0, h1] at hj
    rw [Array.getElem?_append_left (by simp [o1, o2]; exact hj), ← Array.getElem?_toList, Array.toList_append, h3, h5, ← List.map_append, List.getElem?_map]
    have : j < (l0 ++ l1).length := by rw [List.length_append, h0, h1]; exact hj
    rw [List.getElem?_eq_getElem this]; rfl
  exact ⟨_, _, rfl, κ', k3, .slv k1 rfl hn hle (fun _ h => by cases h) ⟨newCap, k2, by omega⟩⟩

theorem newS_bare (hr : Rel κ s w) (hid : id < s.next) (hk : Free κ s id) {k : IntKind} {c n : SX} {e : Nat} (hc : c.ev.list = []) (hn : n.ev.int = 0) (ad : Option Addr) :
    ∃ κ' : Pl, Goes (· ≠ id) κ s w κ' (newS k c n e id s).2 w ∧ V κ' (newS k c n e id s).1 (.slice ad 0 0) :=
  ⟨κ, hr.bareNew hid hk hc, .slv0 hn (fun _ h => by cases h) (fun _ h => by cases h)⟩

theorem VL.intsLits {k : IntKind} (l : List Int) : VL κ ((l.map (Value.int k)).map .lit) (l.map (Value.int k)) := VL.lits _

theorem old_load (hr : Rel κ s w) {i b len cap : Nat} {k : IntKind} {a0 c0 : SX} {ty : Nat} (hg : s.heap.get i = some (.seq k a0 ty)) (hb : κ i = some b) (hl : len ≤ a0.ev.list.length) (hc0 : c0.ev.list = cutL a0.ev.list 0 (len : Int)) :
    c0.ev.list.length = len ∧ Sure P (Builtin.firstCells 1 len (.slice (some ⟨b, 0, none⟩) len cap)) w fun y w' => w' = w ∧ y.toList = c0.ev.list.map (Value.int k) := by
  have e : cutL a0.ev.list 0 (len : Int) = cutL a0.ev.list ((0 : Nat) : Int) ((0 + len : Nat) : Int) := by simp
  refine ⟨by rw [hc0, e]; exact cutL_length _ _ _ (by omega), ?_⟩
  rw [hc0, e]
  simp only [Builtin.firstCells, Nat.mul_one]
  exact seq_load hr hg hb (by omega)

theorem newS_room (hr : Rel κ s w) (hid : id < s.next) (hk : Free κ s id) {i b len cap nx : Nat} {k : IntKind} {ty N : Nat} {c n : SX} {l0 l1 : List Int} {cs : Array Value} {fz : Nat × Nat} {nv : Array Value} (hl : s.may i) (hb : κ i = some b)
    (hh : w.heap[b]? = some (.cells cs ty fz)) (nf : NF fz cs.size) (hN : κ.room b = some N) (hcap : 0 + cap * 1 ≤ N) (hroom : len + nx ≤ cap)
    (hold : ∀ j, j < len → cs[j]? = some (.int k (l0[j]?.getD 0))) (h0 : l0.length = len) (hnv : nv.toList = l1.map (Value.int k)) (h1 : l1.length = nx) (hc : c.ev.list = l0 ++ l1) (hn : ((len + nx : Nat) : Int) = n.ev.int) :
    Sure P (do storeCells ((⟨b, 0, none⟩ : Addr).add (len * 1)) nv.toList; pure (.slice (some ⟨b, 0, none⟩) (len + nx) cap) : Sem Value) w
      fun y w' => ∃ κ' : Pl, Goes (· ≠ id) κ s w κ' (newS k c n ty id { s with heap := s.heap.del i }).2 w' ∧ V κ' (newS k c n ty id { s with heap := s.heap.del i }).1 y := by
  obtain ⟨cs2, t2, fz2, hh2, hcs⟩ := hr.room _ _ hN
  rw [hh] at hh2; cases hh2
  have hl1 : nv.toList.length = nx := by rw [hnv, List.length_map, h1]
  have hput : 0 + len * 1 + 0 + nv.toList.length ≤ cs.size := by rw [hl1]; omega
  obtain ⟨κ', k1, k2, k3⟩ := hr.alias (id := id) (o := .seq k c ty) (ob := .cells (putAt cs (0 + len * 1 + 0) nv.toList) ty fz) hid hk hl hb
    (fun cs' t' fz' h5 => by rw [hh] at h5; cases h5; exact ⟨_, _, _, rfl, putAt_size _ _ _⟩) fun κ' hle' => by
      refine .seq (by rw [putAt_size, hc, List.length_append, h0, h1]; omega) (fun j hj => ?_) (by rw [putAt_size]; exact nf)
      rw [hc] at hj ⊢
      rw [List.length_append, h0, h1] at hj
      rw [putAt_get _ _ _ _ hput]
      by_cases hjo : j < len
      · rw [if_neg (by omega), List.getElem?_append_left (by omega)]
        exact hold j hjo
      · rw [if_pos (by omega), List.getElem?_append_right (by omega), hnv, List.getElem?_map]
        have e : j - (0 + len * 1 + 0) = j - l0.length := by omega
        have : j - l0.length < l1.length := by omega
        rw [e, List.getElem?_eq_getElem this]; rfl
  simp only [add_at]
  refine Sure.bind (R := fun _ w' => Goes (· ≠ id) κ s w κ' { s with heap := (s.heap.del i).put id (.seq k c ty) } w')
        (.eq (run_storeCells (t := ty) nv.toList 0 cs w hh nf hput (fun v hv => ?_)) k3) fun _ w' h3 => .pure ⟨κ', h3, .slv k1 rfl hn hroom (fun _ h => by cases h) ⟨N, by rw [k2]; exact hN, hcap⟩⟩
  rw [hnv] at hv
  obtain ⟨_, _, rfl⟩ := List.mem_map.1 hv
  rfl

theorem appendS_sound (ok : tb.OK P) (hr : Rel κ s w) (hid : id < s.next) (hk : Free κ s id) {t u ty : Nat} {x : AVal} {av xv : Value} {r : AVal × St}
    (ha : V κ a av) (hx : V κ x xv) (h : appendS tb t u a x id s = some r) :
    Sure P (Builtin.append_ #[t, u] ty #[av, xv]) w fun y w' => ∃ κ' : Pl, Goes (· ≠ id) κ s w κ' r.2 w' ∧ V κ' r.1 y := by
  unfold appendS at h
  split at h
  case h_2 => cases h
  rename_i e d ht hu
  split at h
  case h_2 => cases h
  rename_i inf k hd hinf hkind
  split at h
  case h_2 => cases h
  rename_i z hcz hz
  simp only [Bool.and_eq_true] at hcz
  have hs1 : inf.size = 1 := nbeq hcz.1
  have hby := Nat.le_of_ble_eq_true hcz.2
  split at h
  case h_2 => cases h
  rename_i c1 n1 hzc hcx
  have hzs : z.cells.size = 1 := nbeq hzc
  have hi := ok.info _ _ hinf
  obtain ⟨nx, m1, m2, m3, _⟩ := contX_sound ok hr hx hcx
  have m4 : ∀ W, Rel κ s W → Sure P (Builtin.firstCells 1 nx xv) W fun y w' => w' = W ∧ y.toList = c1.ev.list.map (Value.int k) := fun W hW => by
    obtain ⟨m, k1, _, _, k2⟩ := contX_sound ok hW hx hcx
    have : m = nx := by omega
    rw [this] at k2; exact k2
  have hmax : ∀ m : Nat, m < 1000000000 → ((m : Nat) : Int) ≤ IntKind.i64.max := fun m hm => by
    have : IntKind.i64.max = 9223372036854775807 := by decide
    rw [this]; omega
  have hgr : ∀ n c : Nat, c < n → n < 1000000000 → Builtin.nextslicecap n c * inf.bytes ≤ 2 ^ 48 := fun n c h1 h2 => by
    have h3 := nextslicecap_le h1
    have h4 : Builtin.nextslicecap n c * inf.bytes ≤ (2 * 1000000000 + 200) * 8 := Nat.mul_le_mul (by omega) hby
    omega
  have hr' := hr.drawn (w.drawn + 1)
  -- nothing before
  have empty : ∀ (base : Option Addr) (s1 : St) (c n : SX), (∀ W, Rel κ s W → Goes (· ≠ id) κ s W κ s1 W) → id < s1.next → Free κ s1 id → c.ev.list = c1.ev.list → n.ev.int = n1.ev.int → n1.ev.int < 1000000000 → av = .slice base 0 0 → r = newS k c n e id s1 →
      Sure P (Builtin.append_ #[t, u] ty #[av, xv]) w fun y w' => ∃ κ' : Pl, Goes (· ≠ id) κ s w κ' r.2 w' ∧ V κ' r.1 y := by
    intro base s1 c n hgo hid1 hk1 hcc hnn hsm hav hre
    subst hav; subst hre
    have hnx : nx < 1000000000 := by omega
    refine append_start (ok.und _ _ ht) hi (ok.und _ _ hu) hd m3 (fun hroom => ?_) (fun hgrow => ⟨hgr _ _ hgrow (by omega), hmax _ (by omega), fun newCap hnc => ?_⟩)
    · have hnx0 : nx = 0 := by omega
      rw [hs1]
      refine (m4 w hr).bind fun nv w' ⟨h1, h2⟩ => ?_
      rw [h1]
      have hnil : c1.ev.list = [] := List.eq_nil_of_length_eq_zero (by rw [m2, hnx0])
      rw [hnil] at h2
      have hnv : nv.toList = [] := h2
      subst hnx0
      obtain ⟨κ', g1, g2⟩ := newS_bare (hgo w hr).rel hid1 hk1 (k := k) (e := e) (hcc.trans hnil) (hnn.trans m1.symm) base
      cases base with
      | none => exact .pure ⟨κ', (hgo w hr).trans g1, g2⟩
      | some ad =>
        simp only [hnv, storeCells]
        exact .pure ⟨κ', (hgo w hr).trans g1, g2⟩
    · rw [hs1]
      exact (newS_grow (l0 := []) (sCap := 0) (base := base) (hgo _ hr').rel hid1 hk1 hi hz hzs hs1 hnc rfl m2 hcc (by rw [Nat.zero_add, hnn]; exact m1)
        (by cases base with
          | none => exact .pure ⟨rfl, rfl⟩
          | some ad => simp only [Builtin.firstCells, Nat.zero_mul]; exact .pure ⟨rfl, rfl⟩) (m4 _ hr')).mono fun y w' ⟨κ', h1, h2⟩ => ⟨κ', ((hgo _ hr').trans h1).of_drawn, h2⟩
  have own : ∀ (i b len cap tyo : Nat) (c0 : SX) (cs : Array Value) (fz : Nat × Nat) (c n : SX), κ i = some b → s.may i → av = .slice (some ⟨b, 0, none⟩) len cap → (∃ N, κ.room b = some N ∧ 0 + cap * 1 ≤ N) → w.heap[b]? = some (.cells cs e fz) → NF fz cs.size →
      (∀ j, j < len → cs[j]? = some (.int k (c0.ev.list[j]?.getD 0))) → c0.ev.list.length = len → len ≤ cs.size →
      c.ev.list = c0.ev.list ++ c1.ev.list → n.ev.int = len + n1.ev.int → (len : Int) + n1.ev.int < 1000000000 → r = newS k c n e id { s with heap := s.heap.del i } →
      Sure P (Builtin.append_ #[t, u] ty #[av, xv]) w fun y w' => ∃ κ' : Pl, Goes (· ≠ id) κ s w κ' r.2 w' ∧ V κ' r.1 y := by
    intro i b len cap tyo c0 cs fz c n hb hl hav ⟨N, hN, hcap⟩ hh nf hold o1 hlc hcc hnn hsm hre
    subst hav; subst hre
    have hil : i < 1000000000 := hr.lt hb
    have o2 : ∀ W : World, W.heap[b]? = some (.cells cs e fz) → Sure P (Builtin.firstCells 1 len (.slice (some ⟨b, 0, none⟩) len cap)) W fun y w' => w' = W ∧ y.toList = c0.ev.list.map (Value.int k) := fun W hW => by
      simp only [Builtin.firstCells, Nat.mul_one]
      refine (sure_loadCellsFrom (κ := κ) hW len 0 #[] ((c0.ev.list.map (Value.int k)).map .lit) (by rw [List.length_map, List.length_map]; exact o1) fun j c hj => ?_).mono fun y w' ⟨k1, m, k2, k3⟩ => ⟨k1, by rw [k2, VL.of_lits k3]; simp⟩
      have hjn : j < len := by
        rcases Nat.lt_or_ge j len with hx | hx
        · exact hx
        · rw [List.getElem?_eq_none (by rw [List.length_map, List.length_map, o1]; exact hx)] at hj; cases hj
      rw [List.getElem?_map, List.getElem?_map, List.getElem?_eq_getElem (by omega)] at hj
      simp only [Option.map_some, Option.some.injEq] at hj
      subst hj
      refine ⟨_, ?_, .lit _⟩
      simp only [Nat.zero_add]
      rw [hold j hjn, List.getElem?_eq_getElem (by omega)]; rfl
    refine append_start (ok.und _ _ ht) hi (ok.und _ _ hu) hd m3 (fun hroom => ?_) (fun hgrow => ⟨hgr _ _ hgrow (by omega), hmax _ (by omega), fun newCap hnc => ?_⟩)
    · rw [hs1]
      refine (m4 w hr).bind fun nv w' ⟨h1, h2⟩ => ?_
      rw [h1]
      exact newS_room (l0 := c0.ev.list) (l1 := c1.ev.list) hr hid hk hl hb hh nf hN hcap hroom hold o1 h2 m2 hcc (by rw [hnn]; omega)
    · have hr2 := (hr.kill (U := fun _ => True) hil).rel.drawn (w.drawn + 1)
      rw [hs1]
      refine (newS_grow (l0 := c0.ev.list) hr2 hid (hk.kill hil) hi hz hzs hs1 hnc o1 m2 hcc (by rw [hnn]; omega) (o2 _ hh) (m4 _ hr')).mono fun y w' ⟨κ', h1, h2⟩ => ⟨κ', ?_, h2⟩
      exact (hr.kill hil).trans h1.of_drawn
  have gone : ∀ i, i < 1000000000 → (∀ W, Rel κ s W → Goes (· ≠ id) κ s W κ { s with heap := s.heap.del i } W) := fun i hi W hW => hW.kill hi
  have e0 : (SX.lit (.ofNat 0)).ev.int = 0 := rfl
  split at h
  · split at h
    case h_2 => cases h
    rename_i hsm
    exact empty none s c1 n1 (fun W hW => .refl hW) hid hk rfl rfl (small_sound ok hsm) (ha.of_lit rfl) (by cases h; rfl)
  · split at h
    case h_2 => cases h
    rename_i i off len hsm
    cases ha with
    | slv x1 x2 x3 x4 x5 x6 =>
      have hc0 := x5 _ rfl rfl
      rw [e0] at hc0
      exact empty _ s c1 n1 (fun W hW => .refl hW) hid hk rfl rfl (small_sound ok hsm) (by congr 1 <;> omega) (by cases h; rfl)
    | slv0 y1 y2 => exact empty _ s c1 n1 (fun W hW => .refl hW) hid hk rfl rfl (small_sound ok hsm) rfl (by cases h; rfl)
  · split at h
    case h_2 => cases h
    rename_i hsm
    cases ha with
    | slc hb => exact empty _ s c1 n1 (fun W hW => .refl hW) hid hk rfl rfl (small_sound ok hsm) rfl (by cases h; rfl)
  · rename_i i len
    split at h
    case h_2 => cases h
    rename_i k' a0 ty' hg
    split at h
    case h_2 => cases h
    rename_i c0 hcond hc0 hsm
    simp only [Bool.and_eq_true] at hcond
    have hty : ty' = e := nbeq hcond.1
    have hkk : k' = k := kindNo_inj (nbeq hcond.2)
    subst hty; subst hkk
    cases h
    obtain ⟨q1, q2⟩ := mkCut_sound ok hc0
    rw [e0] at q1
    have hsm := small_sound ok hsm
    have hmk := mkAdd_ev len n1
    rw [hmk] at hsm
    have hap := mkApp_ev c0 c1
    cases ha with
    | @slv _ o l cp b _ _ _ _ x1 x2 x3 x4 x5 x6 =>
      have ho : o = 0 := by rw [e0] at x2; omega
      subst ho
      rw [← x3] at q1 q2 hsm hmk
      obtain ⟨cs, fz, g1, g2, g3, g4⟩ := seq_at hr hg x1
      have e2 : cutL a0.ev.list 0 (l : Int) = cutL a0.ev.list ((0 : Nat) : Int) ((0 + l : Nat) : Int) := by simp
      rw [e2] at q1
      refine own i b l cp ty' c0 cs fz _ _ x1 (may_of hg) rfl x6 g1 g2 (fun j hj => ?_) (by rw [q1]; exact cutL_length _ _ _ (by omega)) (by omega) hap hmk hsm rfl
      rw [g4 j (by omega), q1, cutL_get _ _ _ _ hj (by omega)]
      simp
    | @slv0 _ _ _ _ _ ad y1 y2 =>
      have hil : i < 1000000000 := by
        rcases hr.obj i _ hg with ⟨b, _, h1, _⟩ | _
        · exact hr.lt h1
        · rcases Nat.lt_or_ge i s.next with h2 | h2
          · have := hr.lim; omega
          · exact absurd (live_of hg) (hr.dead i h2)
      rw [y1] at q1 hsm hmk
      have hnil : c0.ev.list = [] := by rw [q1]; simp [cutL]
      exact empty ad _ _ _ (gone i hil) hid (hk.kill hil) (by rw [hap, hnil]; rfl) (by rw [hmk]; omega) (by omega) rfl rfl
  · rename_i i len
    split at h
    case h_2 => cases h
    rename_i k0 cc ty' un c0 n0 hg hc0
    split at h
    case h_2 => cases h
    rename_i hty hsm
    have hty : ty' = e := nbeq hty
    subst hty
    cases h
    have hsm := small_sound ok hsm
    have hmk := mkAdd_ev n0 n1
    rw [hmk] at hsm
    have hap := mkApp_ev c0 c1
    obtain ⟨m, p1, p2, p3, _⟩ := contX_sound ok hr ha hc0
    simp only [contX] at hc0
    split at hc0
    case h_2 => cases hc0
    rename_i l hl
    split at hc0
    case h_2 => cases hc0
    rename_i c' hc'
    cases hc0
    have e1 : (SX.lit (.ofNat len)).ev.int = (len : Int) := rfl
    rw [e1] at hsm hmk p1
    cases ha with
    | @slu _ _ off' _ cap _ b hb hlc ho =>
    have hil : i < 1000000000 := hr.lt hb
    have hml : m = len := by omega
    rcases ho with ⟨ho, N, hN, hcap⟩ | ⟨ho1, ho2⟩
    · subst ho
      obtain ⟨b', cs, fz, hb', hh, nf, r0, r1, r2, r3⟩ := hr.row hg
      cases hb'.symm.trans hb
      simp only [cellsA, hg, Nat.ble_eq_true_of_le (Nat.le_refl len), cond_true] at hl
      cases hk2 : Nat.ble (0 + len * 1) k0 with
      | false => rw [hk2] at hl; cases hl
      | true =>
      rw [hk2] at hl
      simp only [cond_true] at hl
      have hk2 := Nat.le_of_ble_eq_true hk2
      obtain ⟨hlen, hget⟩ := T.pick_spec _ _ _ _ hl
      have hvl : VL κ l (cs.toList.take len) := by
        refine VL.of_get (by rw [hlen]; simp; omega) fun j a v h1 h2 => ?_
        have hj : j < len := by
          rcases Nat.lt_or_ge j len with hx | hx
          · exact hx
          · rw [List.getElem?_eq_none (by omega)] at h1; cases h1
        have h3 := hget j (by omega)
        rw [h1] at h3
        obtain ⟨v', v1, v2⟩ := r3 (0 + j) a (by omega) h3
        rw [List.getElem?_take_of_lt hj, Array.getElem?_toList] at h2
        rw [Nat.zero_add, h2] at v1
        cases v1; exact v2
      obtain ⟨ns, n1', n2'⟩ := intsX_sound hc' hvl
      have hns : c0.ev.list = ns := by rw [n2']; simp [SX.ev, D.list]
      refine own i b len cap ty' c0 cs fz _ _ hb (may_of hg) rfl ⟨N, hN, hcap⟩ hh nf (fun j hj => ?_) (by omega) (by omega) hap hmk hsm rfl
      have h5 : (cs.toList.take len)[j]? = (ns.map (Value.int k))[j]? := by rw [n1']
      rw [List.getElem?_take_of_lt hj, Array.getElem?_toList, List.getElem?_map] at h5
      rw [h5, hns]
      have : j < ns.length := by rw [← hns]; omega
      rw [List.getElem?_eq_getElem this]; rfl
    · subst ho1; subst ho2
      have hnil : c0.ev.list = [] := List.eq_nil_of_length_eq_zero (by omega)
      exact empty (some ⟨b, off', none⟩) _ _ _ (gone i hil) hid (hk.kill hil) (by rw [hap, hnil]; rfl) (by rw [hmk]; omega) (by omega) rfl rfl
  · cases h
end
end Go.Proofs.YtiemogegdoogaaaGreat.Eng

namespace Go.Proofs.YtiemogegdoogaaaGreat.Eng
open Go
variable [Interp]

noncomputable def symIdx (tb : Tab) (t : Nat) (x y : AVal) : Option AVal :=
  match tb.und t, sxI y with
  | some (.slice e), some (_, i) => match tb.info e, x with
    | some inf, .slv id off len _ z => match Nat.beq z inf.size, decB tb.facts (.a2 .lt i (.lit (.ofNat 0))), decB tb.facts (.a2 .lt i len) with
      | true, some false, some true => some (.ptv id (mkAdd off (mkMul i inf.size)))
      | _, _, _ => none
    | some inf, .slc id off len _ => match decB tb.facts (.a2 .lt i (.lit (.ofNat 0))), decB tb.facts (.a2 .lt i (.lit (.ofNat len))) with
      | some false, some true => some (.ptv id (mkAdd (.lit (.ofNat off)) (mkMul i inf.size)))
      | _, _ => none
    | some inf, .slu id off len _ => match decB tb.facts (.a2 .lt i (.lit (.ofNat 0))), decB tb.facts (.a2 .lt i (.lit (.ofNat len))) with
      | some false, some true => some (.ptv id (mkAdd (.lit (.ofNat off)) (mkMul i inf.size)))
      | _, _ => none
    | _, _ => none
  | some (.array n e), some (_, i) => match tb.info e, x with
    | some inf, .ptr id off => match decB tb.facts (.a2 .lt i (.lit (.ofNat 0))), decB tb.facts (.a2 .lt i (.lit (.ofNat n))) with
      | some false, some true => some (.ptv id (mkAdd (.lit (.ofNat off)) (mkMul i inf.size)))
      | _, _ => none
    | some inf, .ptv id off => match decB tb.facts (.a2 .lt i (.lit (.ofNat 0))), decB tb.facts (.a2 .lt i (.lit (.ofNat n))) with
      | some false, some true => some (.ptv id (mkAdd off (mkMul i inf.size)))
      | _, _ => none
    | _, _ => none
  | _, _ => none

noncomputable def sxP : AVal → Option (Nat × SX)
  | .ptr id off => some (id, .lit (.ofNat off))
  | .ptv id off => some (id, off)
  | _ => none

noncomputable def mkRd (a : SX) (i : SX) : SX :=
  match a, i with
  | .str l, .lit (.ofNat j) => .lit (l[j]?.getD 0)
  | .a3 f b j x, i => match f, j, i with
    | .set, .lit (.ofNat p), .lit (.ofNat q) => match Nat.beq p q with
      | true => .a2 .rd (.a3 .set b (.lit (.ofNat p)) x) (.lit (.ofNat q))
      | false => mkRd b (.lit (.ofNat q))
    | f, j, i => .a2 .rd (.a3 f b j x) i
  | a, i => .a2 .rd a i

noncomputable def inIn (fs : Facts) (a off : SX) : Bool :=
  match a with
  | .a3 .cut b lo hi => (match decB fs (.a2 .lt lo (.lit (.ofNat 0))), decB fs (.a2 .lt (mkAdd lo off) hi), decB fs (.a2 .lt (.a1 .len b) hi) with | some false, some true, some false => true | _, _, _ => false)
  | a => match decB fs (.a2 .lt off (.a1 .len a)) with | some b => b | none => false
noncomputable def rdIn (fs : Facts) : SX → SX → SX
  | .a3 f b lo hi, off => match f with
    | .cut => match decB fs (.a2 .lt lo (.lit (.ofNat 0))) with
      | some false => rdIn fs b (mkAdd lo off)
      | _ => mkRd (.a3 .cut b lo hi) off
    | f => mkRd (.a3 f b lo hi) off
  | a, off => mkRd a off

noncomputable def symLoad (tb : Tab) (t : Nat) (x : AVal) (s : St) : Option AVal :=
  match sxP x, tb.und t with
  | some (id, off0), some d => match s.heap.get id with
    | some o => match rowI tb.facts o off0 with
      | some (k, a, off) => match aggD d with
        | false => match inIn tb.facts a off with
          | true => some (mkI k (rdIn tb.facts a off))
          | false => none
        | true => match tb.info t with
          | some i => match decB tb.facts (.a2 .lt (.a1 .len a) (mkAdd off (.lit (.ofNat i.size)))) with
            | some false => some (.agg ((List.range i.size).map fun j => mkI k (mkRd a (mkAdd off (.lit (.ofNat j))))))
            | _ => none
          | none => none
      | none => none
    | none => none
  | _, _ => none

noncomputable def symStore (tb : Tab) (t : Nat) (x v : AVal) (s : St) : Option St :=
  match sxP x, sxI v with
  | some (id, off), some (k', e) => match s.heap.get id, tb.info t with
    | some (.seq k a ty), some i => match Nat.beq (kindNo k') (kindNo k) && Nat.beq i.size 1, decB tb.facts (.a2 .lt off (.a1 .len a)) with
      | true, some true => some { s with heap := s.heap.put id (.seq k (.a3 .set a off e) ty) }
      | _, _ => none
    | _, _ => none
  | _, _ => none

noncomputable def symLen (tb : Tab) (t : Nat) (x : AVal) : Option AVal :=
  match tb.und t, x with
  | some (.slice _), .slv _ _ len _ _ => some (mkI .i64 len)
  | some .string, .ss e => some (.si .i64 (.a1 .len e))
  | _, _ => none

noncomputable def symCap (tb : Tab) (t : Nat) (x : AVal) : Option AVal :=
  match tb.und t, x with
  | some (.slice _), .slv _ _ _ (some c) _ => match numS c with | true => some (mkI .i64 c) | false => none
  | some (.slice _), .slc _ _ _ c => some (.lit (.int .i64 c))
  | some (.slice _), .lit (.slice _ _ c) => some (.lit (.int .i64 c))
  | _, _ => none

section
variable {tb : Tab} {P : Program} {κ : Pl} {s s' : St} {w : World} {ρ : Operand → AVal} {ρ' : Operand → Value} {id : Nat} {a : AVal}

theorem symIdx_sound (ok : tb.OK P) {t : Nat} {x y : AVal} {v u : Value} (hx : V κ x v) (hy : V κ y u) (h : symIdx tb t x y = some a) :
    Sure P (Instr.indexAt t v u) w fun y w' => w' = w ∧ V κ a y := by
  unfold symIdx at h
  have inR : ∀ {i n : SX}, decB tb.facts (.a2 .lt i (.lit (.ofNat 0))) = some false → decB tb.facts (.a2 .lt i n) = some true → 0 ≤ i.ev.int ∧ i.ev.int < n.ev.int := fun h1 h2 => by
    have a1 := of_decide_eq_false (dec_lt ok h1)
    have a2 := of_decide_eq_true (dec_lt ok h2)
    have e0 : (SX.lit (.ofNat 0)).ev.int = 0 := rfl
    rw [e0] at a1
    exact ⟨by omega, a2⟩
  have place : ∀ {i off : SX} {o z : Nat}, 0 ≤ i.ev.int → (o : Int) = off.ev.int → ((o + i.ev.int.toNat * z : Nat) : Int) = (mkAdd off (mkMul i z)).ev.int := fun h1 h2 => by
    rw [mkAdd_ev, mkMul_ev, ← h2]; push_cast; rw [Int.toNat_of_nonneg h1]
  split at h
  · rename_i e k i hund hi
    have hu := ok.und _ _ hund
    rw [sxI_V hi hy]
    unfold Instr.indexAt
    refine sure_intOf.bind fun ki w' ⟨h1, h2⟩ => ?_
    rw [h1, h2]
    simp only
    refine (sure_und hu).bind fun d w' ⟨h5, h6⟩ => ?_
    rw [h5, h6]
    split at h
    · rename_i inf id off len cap z hinf
      split at h
      case h_2 => cases h
      rename_i hz d1 d2
      have hz := nbeq hz
      subst hz
      cases h
      obtain ⟨r1, r2⟩ := inR d1 d2
      cases hx with
      | @slv _ o l cp b _ _ _ _ x1 x2 x3 x4 x5 x6 =>
        refine (sure_und hu).bind fun d w' ⟨h3, h4⟩ => ?_
        rw [h3, h4]; simp only; rw [if_pos ⟨r1, by omega⟩]
        refine (sure_size (ok.info _ _ hinf)).bind fun z w' ⟨h7, h8⟩ => ?_
        rw [h7, h8, add_at]
        exact .pure ⟨rfl, .ptv x1 (place r1 x2)⟩
      | slv0 y1 y2 => omega
    · rename_i inf id off len cap hinf
      split at h
      case h_2 => cases h
      rename_i d1 d2
      cases h
      obtain ⟨r1, r2⟩ := inR d1 d2
      have e1 : (SX.lit (.ofNat len)).ev.int = (len : Int) := rfl
      rw [e1] at r2
      cases hx with
      | @slc _ _ _ _ b hb =>
        refine (sure_und hu).bind fun d w' ⟨h3, h4⟩ => ?_
        rw [h3, h4]; simp only; rw [if_pos ⟨r1, by omega⟩]
        refine (sure_size (ok.info _ _ hinf)).bind fun z w' ⟨h7, h8⟩ => ?_
        rw [h7, h8, add_at]
        exact .pure ⟨rfl, .ptv hb (place r1 rfl)⟩
    · rename_i inf id off len z hinf
      split at h
      case h_2 => cases h
      rename_i d1 d2
      cases h
      obtain ⟨r1, r2⟩ := inR d1 d2
      have e1 : (SX.lit (.ofNat len)).ev.int = (len : Int) := rfl
      rw [e1] at r2
      cases hx with
      | @slu _ _ off' _ cap _ b hb hle ho =>
        have ho : off' = off := by rcases ho with ho | ho; exact ho.1; omega
        subst ho
        refine (sure_und hu).bind fun d w' ⟨h3, h4⟩ => ?_
        rw [h3, h4]; simp only; rw [if_pos ⟨r1, by omega⟩]
        refine (sure_size (ok.info _ _ hinf)).bind fun z w' ⟨h7, h8⟩ => ?_
        rw [h7, h8, add_at]
        exact .pure ⟨rfl, .ptv hb (place r1 rfl)⟩
    · cases h
  · rename_i n e k i hund hi
    have hu := ok.und _ _ hund
    rw [sxI_V hi hy]
    unfold Instr.indexAt
    refine sure_intOf.bind fun ki w' ⟨h1, h2⟩ => ?_
    rw [h1, h2]
    simp only
    have e1 : (SX.lit (.ofNat n)).ev.int = (n : Int) := rfl
    split at h
    · rename_i inf id off hinf
      split at h
      case h_2 => cases h
      rename_i d1 d2
      cases h
      obtain ⟨r1, r2⟩ := inR d1 d2
      rw [e1] at r2
      cases hx with
      | @ptr _ _ b hb =>
        refine (sure_und hu).bind fun d w' ⟨h5, h6⟩ => ?_
        rw [h5, h6]
        simp only [Instr.sureAddr]
        refine (sure_und hu).bind fun d w' ⟨h3, h4⟩ => ?_
        rw [h3, h4]; simp only; rw [if_pos ⟨r1, r2⟩]
        refine (sure_size (ok.info _ _ hinf)).bind fun z w' ⟨h7, h8⟩ => ?_
        rw [h7, h8, add_at]
        exact .pure ⟨rfl, .ptv hb (place r1 rfl)⟩
    · rename_i inf id off hinf
      split at h
      case h_2 => cases h
      rename_i d1 d2
      cases h
      obtain ⟨r1, r2⟩ := inR d1 d2
      rw [e1] at r2
      cases hx with
      | @ptv _ o b _ hb ho =>
        refine (sure_und hu).bind fun d w' ⟨h5, h6⟩ => ?_
        rw [h5, h6]
        simp only [Instr.sureAddr]
        refine (sure_und hu).bind fun d w' ⟨h3, h4⟩ => ?_
        rw [h3, h4]; simp only; rw [if_pos ⟨r1, r2⟩]
        refine (sure_size (ok.info _ _ hinf)).bind fun z w' ⟨h7, h8⟩ => ?_
        rw [h7, h8, add_at]
        exact .pure ⟨rfl, .ptv hb (place r1 ho)⟩
    · cases h
  · cases h

theorem sxP_V {x : AVal} {v : Value} {i : Nat} {off : SX} (h : sxP x = some (i, off)) (hx : V κ x v) : ∃ b o : Nat, κ i = some b ∧ (o : Int) = off.ev.int ∧ v = .pointer (some ⟨b, o, none⟩) := by
  unfold sxP at h
  split at h
  · cases h; cases hx with | ptr hb => exact ⟨_, _, hb, rfl, rfl⟩
  · cases h; cases hx with | ptv hb ho => exact ⟨_, _, hb, ho, rfl⟩
  · cases h

theorem mkRd_ev : ∀ (a i : SX), (mkRd a i).ev.int = a.ev.list[i.ev.int.toNat]?.getD 0
  | .a3 f b j x, i => by
    unfold mkRd
    split
    · rename_i p q
      split
      · rfl
      · rename_i h
        have hne : p ≠ q := fun e => by rw [e] at h; simp at h
        rw [mkRd_ev b]
        change b.ev.list[q]?.getD 0 = (b.ev.list.set p x.ev.int)[q]?.getD 0
        rw [List.getElem?_set_ne hne]
    · rfl
  | .str l, i => by
    unfold mkRd
    split
    · rename_i h; cases h; rfl
    · rename_i h; cases h
    · rfl
  | .lit _, i => rfl
  | .var _, i => rfl
  | .a1 .., i => rfl
  | .a2 .., i => rfl

theorem inIn_ok (ok : tb.OK P) {a off : SX} {o : Nat} (ho : (o : Int) = off.ev.int) (h : inIn tb.facts a off = true) : o < a.ev.list.length := by
  unfold inIn at h
  split at h
  · rename_i b lo hi
    split at h
    · rename_i h1 h2 h3
      have h1 : ¬ (lo.ev.int < 0) := of_decide_eq_false (dec_lt ok h1)
      have h2 := of_decide_eq_true (dec_lt ok h2)
      rw [mkAdd_ev] at h2
      have h3 : ¬ ((b.ev.list.length : Int) < hi.ev.int) := of_decide_eq_false (dec_lt ok h3)
      change o < (cutL b.ev.list lo.ev.int hi.ev.int).length
      unfold cutL
      rw [List.length_drop, List.length_take]
      omega
    · cases h
  · split at h
    · rename_i hb
      subst h
      have h1 : off.ev.int < (_ : Int) := of_decide_eq_true (dec_lt ok hb)
      rw [← ho] at h1
      exact Int.ofNat_lt.1 h1
    · cases h
theorem rdIn_ev (ok : tb.OK P) : ∀ (a off : SX) (o : Nat), (o : Int) = off.ev.int → o < a.ev.list.length → (rdIn tb.facts a off).ev.int = a.ev.list[o]?.getD 0
  | .a3 f b lo hi, off, o, ho, hl => by
    have key : (mkRd (.a3 f b lo hi) off).ev.int = (SX.a3 f b lo hi).ev.list[o]?.getD 0 := by rw [mkRd_ev, ← ho]; rfl
    unfold rdIn
    split
    · split
      · rename_i h1
        have h1 : ¬ (lo.ev.int < 0) := of_decide_eq_false (dec_lt ok h1)
        have hl' : o < (cutL b.ev.list lo.ev.int hi.ev.int).length := hl
        have hl2 := hl'
        unfold cutL at hl2
        rw [List.length_drop, List.length_take] at hl2
        rw [rdIn_ev ok b (mkAdd lo off) (lo.ev.int.toNat + o) (by rw [mkAdd_ev]; omega) (by omega)]
        change _ = (cutL b.ev.list lo.ev.int hi.ev.int)[o]?.getD 0
        unfold cutL
        rw [List.getElem?_drop, List.getElem?_take_of_lt (by omega)]
      · exact key
    · exact key
  | .lit _, off, o, ho, _ => by unfold rdIn; rw [mkRd_ev, ← ho]; rfl
  | .str _, off, o, ho, _ => by unfold rdIn; rw [mkRd_ev, ← ho]; rfl
  | .var _, off, o, ho, _ => by unfold rdIn; rw [mkRd_ev, ← ho]; rfl
  | .a1 .., off, o, ho, _ => by unfold rdIn; rw [mkRd_ev, ← ho]; rfl
  | .a2 .., off, o, ho, _ => by unfold rdIn; rw [mkRd_ev, ← ho]; rfl

theorem symLoad_sound (ok : tb.OK P) (hr : Rel κ s w) {t : Nat} {x : AVal} {v : Value} (hx : V κ x v) (h : symLoad tb t x s = some a) :
    Sure P (Instr.loadAt t v) w fun y w' => w' = w ∧ V κ a y := by
  unfold symLoad at h
  split at h
  case h_2 => cases h
  rename_i i off0 d hp hund
  obtain ⟨b, q, hb, hq, hv⟩ := sxP_V hp hx
  subst hv
  split at h
  case h_2 => cases h
  rename_i ob hg
  split at h
  case h_2 => cases h
  rename_i k l off hrow
  obtain ⟨cs, ty, fz, o, g1, ho, g4⟩ := rowI_at ok hr hg hb hrow hq
  have hu := ok.und _ _ hund
  change Sure P (loadVar t ⟨b, q, none⟩) w _
  unfold loadVar
  refine (sure_isAgg hu).bind fun g w' ⟨hg', hw⟩ => ?_
  rw [hg', hw]
  split at h
  · rename_i hd
    rw [hd]
    split at h
    case h_2 => cases h
    rename_i hlt
    cases h
    have h2 := inIn_ok ok ho hlt
    refine (sure_load (v := .int k (l.ev.list[o]?.getD 0)) (by rw [cell_at g1]; exact g4 0 h2)).mono fun y w' ⟨h4, h5⟩ => ⟨h5, ?_⟩
    rw [h4]
    have := mkI_V (κ := κ) k (rdIn tb.facts l off)
    rw [rdIn_ev ok l off o ho h2] at this
    exact this
  · rename_i hd
    rw [hd]
    split at h
    case h_2 => cases h
    rename_i inf hinf
    split at h
    case h_2 => cases h
    rename_i hlt
    cases h
    have h1 := of_decide_eq_false (dec_lt ok hlt)
    rw [mkAdd_ev, ← ho] at h1
    have e1 : (SX.lit (.ofNat inf.size)).ev.int = (inf.size : Int) := rfl
    have e2 : (SX.a1 .len l).ev.int = (l.ev.list.length : Int) := rfl
    rw [e1, e2] at h1
    refine (sure_size (ok.info _ _ hinf)).bind fun z w' ⟨hz, hw⟩ => ?_
    rw [hz, hw]
    refine Sure.bind (R := fun y w' => w' = w ∧ ∃ m, y = #[] ++ m.toArray ∧ VL κ ((List.range inf.size).map fun j => mkI k (mkRd l (mkAdd off (.lit (.ofNat j))))) m) (sure_loadCellsFrom g1 _ 0 #[] _ (by simp) fun j c hj => ?_) fun y w' hy => ?_
    · have hjn : j < inf.size := by
        rcases Nat.lt_or_ge j inf.size with hx | hx
        · exact hx
        · rw [List.getElem?_eq_none (by simpa using hx)] at hj; cases hj
      rw [List.getElem?_map, List.getElem?_range hjn] at hj
      simp only [Option.map_some, Option.some.injEq] at hj
      subst hj
      refine ⟨_, (show cs[q + 0 + j]? = _ from by rw [Nat.add_zero]; exact g4 j (by omega)), ?_⟩
      have := mkI_V (κ := κ) k (mkRd l (mkAdd off (.lit (.ofNat j))))
      have e3 : (SX.lit (.ofNat j)).ev.int = (j : Int) := rfl
      rw [mkRd_ev, mkAdd_ev, ← ho, e3] at this
      have e4 : ((o : Int) + j).toNat = o + j := by omega
      rw [e4] at this
      exact this
    · obtain ⟨h4, m, h5, h6⟩ := hy
      refine .pure ⟨h4, ?_⟩
      rw [h5]; simpa using V.agg h6

theorem setL_get (l : List Int) (o j : Nat) (x : Int) (hj : j < l.length) : (setL l (o : Int) x)[j]?.getD 0 = if j = o then x else l[j]?.getD 0 := by
  unfold setL
  simp only [Int.toNat_natCast]
  by_cases e : j = o
  · subst e; simp [hj]
  · rw [List.getElem?_set_ne (Ne.symm e), if_neg e]

theorem symStore_sound {U : Nat → Prop} (ok : tb.OK P) (hr : Rel κ s w) {t : Nat} {x y : AVal} {v u : Value} (hx : V κ x v) (hy : V κ y u) (h : symStore tb t x y s = some s') :
    Sure P (Instr.storeAt t v u) w fun _ w' => Goes U κ s w κ s' w' := by
  unfold symStore at h
  split at h
  case h_2 => cases h
  rename_i i off k' e hp hi
  obtain ⟨b, o, hb, ho, hv⟩ := sxP_V hp hx
  subst hv
  rw [sxI_V hi hy]
  split at h
  case h_2 => cases h
  rename_i k l ty inf hg hinf
  split at h
  case h_2 => cases h
  rename_i hc hlt
  simp only [Bool.and_eq_true] at hc
  have hk := kindNo_inj (nbeq hc.1)
  have hs1 := nbeq hc.2
  subst hk
  cases h
  have h1 := of_decide_eq_true (dec_lt ok hlt)
  rw [← ho] at h1
  have h2 : o < l.ev.list.length := Int.ofNat_lt.1 h1
  obtain ⟨cs, fz, g1, g2, g3, g4⟩ := seq_at hr hg hb
  change Sure P (storeVar t ⟨b, o, none⟩ (.int k' e.ev.int)) w _
  unfold storeVar
  refine (sure_size (ok.info _ _ hinf)).bind fun z w' ⟨hz, hw⟩ => ?_
  rw [hz, hw, hs1]
  have e1 : (Value.int k' e.ev.int).cells = #[.int k' e.ev.int] := rfl
  simp only [e1, ne_eq, List.size_toArray, List.length_cons, List.length_nil, Nat.zero_add, not_true_eq_false, if_false]
  refine .eq (run_storeCells (t := ty) [.int k' e.ev.int] 0 cs w g1 g2 (by simp; omega) (fun v hv => by simp at hv; subst hv; rfl)) ?_
  refine hr.turn (may_of hg) hb (fun cs' t' fz' h5 => ?_) ?_
  · rw [g1] at h5; cases h5; exact ⟨_, _, _, rfl, putAt_size _ _ _⟩
  have hev : (SX.a3 .set l off e).ev.list = setL l.ev.list off.ev.int e.ev.int := rfl
  have hlen : (setL l.ev.list off.ev.int e.ev.int).length = l.ev.list.length := by unfold setL; simp
  refine .seq (by rw [hev, hlen, putAt_size]; exact g3) (fun j hj => ?_) (by rw [putAt_size]; exact g2)
  rw [hev, hlen] at hj
  rw [hev, ← ho, setL_get _ _ _ _ hj, putAt_get _ _ _ _ (by simp; omega)]
  by_cases e : j = o
  · subst e
    rw [if_pos (by simp), if_pos rfl]; simp
  · rw [if_neg (by simp; omega), if_neg e]
    exact g4 j hj

theorem symLen_sound (ok : tb.OK P) {t u : Nat} {x : AVal} {v : Value} (hx : V κ x v) (h : symLen tb t x = some a) :
    Sure P (Builtin.len_ #[t] u #[v]) w fun y w' => w' = w ∧ V κ a y := by
  unfold symLen at h
  split at h
  · rename_i e id off len cap z hund
    cases h
    unfold Builtin.len_
    simp only [List.getElem?_toArray, List.getElem?_cons_zero]
    refine (sure_und (ok.und _ _ hund)).bind fun d w' ⟨h1, h2⟩ => ?_
    rw [h1, h2]
    have := mkI_V (κ := κ) .i64 len
    cases hx with
    | slv x1 x2 x3 x4 x5 x6 => rw [← x3] at this; exact .pure ⟨rfl, this⟩
    | slv0 y1 y2 => rw [y1] at this; exact .pure ⟨rfl, this⟩
  · rename_i e hund
    cases h
    cases hx
    unfold Builtin.len_
    simp only [List.getElem?_toArray, List.getElem?_cons_zero]
    refine (sure_und (ok.und _ _ hund)).bind fun d w' ⟨h1, h2⟩ => ?_
    rw [h1, h2]
    refine .pure ⟨rfl, ?_⟩
    have : (bytesOf e.ev.list).size = e.ev.list.length := by unfold bytesOf; simp [ByteArray.size]
    have h3 := V.si (κ := κ) (k := .i64) (e := .a1 .len e)
    have e1 : (SX.a1 .len e).ev.int = (e.ev.list.length : Int) := rfl
    rw [e1, ← this] at h3
    exact h3
  · cases h

theorem symCap_sound (ok : tb.OK P) {t u : Nat} {x : AVal} {v : Value} (hx : V κ x v) (h : symCap tb t x = some a) :
    Sure P (Builtin.cap_ #[t] u #[v]) w fun y w' => w' = w ∧ V κ a y := by
  unfold symCap at h
  have go : ∀ e (base : Option Addr) (L C : Nat), tb.und t = some (.slice e) → v = .slice base L C → V κ a (.int .i64 C) → Sure P (Builtin.cap_ #[t] u #[v]) w fun y w' => w' = w ∧ V κ a y := fun e base L C hund hv ha => by
    subst hv
    unfold Builtin.cap_
    simp only [List.getElem?_toArray, List.getElem?_cons_zero]
    refine (sure_und (ok.und _ _ hund)).bind fun d w' ⟨h1, h2⟩ => ?_
    rw [h1, h2]
    exact .pure ⟨rfl, ha⟩
  split at h
  · rename_i e id off len c z hund
    split at h
    case h_2 => cases h
    rename_i hn
    cases h
    have := mkI_V (κ := κ) .i64 c
    cases hx with
    | slv x1 x2 x3 x4 x5 x6 => rw [← x5 _ rfl (D.isL_of (numS_ok hn))] at this; exact go _ _ _ _ hund rfl this
    | slv0 y1 y2 => rw [y2 _ rfl] at this; exact go _ _ _ _ hund rfl this
  · rename_i e id off len c hund
    cases h
    cases hx with
    | slc hb => exact go _ _ _ _ hund rfl (.lit _)
  · rename_i e b len c hund
    cases h
    exact go _ _ _ _ hund (hx.of_lit rfl) (.lit _)
  · cases h
end
end Go.Proofs.YtiemogegdoogaaaGreat.Eng

namespace Go.Proofs.YtiemogegdoogaaaGreat.Eng
open Go
variable [Interp]

noncomputable def bndX (d : SX) : Option AVal → Option SX
  | none => some d
  | some a => match sxI a with | some (_, e) => some e | none => none

noncomputable def subCap (cap : Option SX) (l : SX) : Option SX := match cap with | some c => (match c with | .str [] => some (.str []) | c => match numS c with | true => some (numX (mkSub c l)) | false => none) | none => none
theorem subCap_some {cap : Option SX} {l c : SX} (h : subCap cap l = some c) : ∃ c', cap = some c' ∧ (c = numX (mkSub c' l) ∧ numS c' = true ∨ c = .str [] ∧ c' = .str []) := by
  unfold subCap at h
  split at h
  · split at h
    · cases h; exact ⟨_, rfl, .inr ⟨rfl, rfl⟩⟩
    · split at h
      · rename_i hn; cases h; exact ⟨_, rfl, .inl ⟨rfl, hn⟩⟩
      · cases h
  · cases h

noncomputable def symSlice (tb : Tab) (t : Nat) (x : AVal) (lo hi mx : Option AVal) : Option AVal :=
  match tb.und t, x with
  | some (.slice e), .slv id off len cap z => match tb.info e, bndX (.lit (.ofNat 0)) lo, bndX len hi with
    | some inf, some l, some h => match Nat.beq z inf.size, decB tb.facts (.a2 .lt l (.lit (.ofNat 0))), decB tb.facts (.a2 .lt h l) with
      | true, some false, some false => match mx with
        | none => match hi, decB tb.facts (.a2 .lt len h) with
          | none, _ => some (.slv id (mkAdd off (mkMul l z)) (mkSub h l) (subCap cap l) z)
          | some _, some false => some (.slv id (mkAdd off (mkMul l z)) (mkSub h l) (subCap cap l) z)
          | _, _ => none
        | some m => match hi, sxI m with
          | some _, some (_, m) => match decB tb.facts (.a2 .lt m h), decB tb.facts (.a2 .lt len m) with
            | some false, some false => some (.slv id (mkAdd off (mkMul l z)) (mkSub h l) (some (numX (mkSub m l))) z)
            | _, _ => none
          | _, _ => none
      | _, _, _ => none
    | _, _, _ => none
  | _, _ => none

section
variable {tb : Tab} {P : Program} {κ : Pl} {s s' : St} {w : World} {ρ : Operand → AVal} {ρ' : Operand → Value} {id : Nat} {a : AVal}

theorem sliceBound_ok {k : IntKind} {i : Int} {y : Nat} {c : BoundsCode} (h1 : 0 ≤ i) (h2 : i ≤ y) : Instr.sliceBound (.int k i) y c = .pure i.toNat := by
  unfold Instr.sliceBound
  simp only [asIntOf]
  change (if 0 ≤ i ∧ i ≤ (y : Int) then (Sem.pure i.toNat : Sem Nat) else boundsPanic k i y c) = _
  rw [if_pos ⟨h1, h2⟩]

theorem sliceBounds_ok {L C : Nat} {lo' hi' : Option Value} {l h : Int} (hl : (lo' = none ∧ l = 0) ∨ ∃ k, lo' = some (.int k l)) (hh : (hi' = none ∧ h = L) ∨ ∃ k, hi' = some (.int k h)) (h0 : 0 ≤ l) (h1 : l ≤ h) (h2 : h ≤ C) :
    Instr.sliceBounds true L C lo' hi' none = .pure (l.toNat, h.toNat, C) := by
  have hN : ((h.toNat : Nat) : Int) = h := Int.toNat_of_nonneg (by omega)
  rcases hl with ⟨rfl, rfl⟩ | ⟨k, rfl⟩ <;> rcases hh with ⟨rfl, rfl⟩ | ⟨k', rfl⟩
  · rfl
  · change Sem.bind (Instr.sliceBound (.int k' h) C .sliceAcap) (fun h => Sem.pure (0, h, C)) = _
    rw [sliceBound_ok (by omega) h2]; rfl
  · change Sem.bind (Instr.sliceBound (.int k l) L .sliceB) (fun l => Sem.pure (l, L, C)) = _
    rw [sliceBound_ok h0 h1]; rfl
  · change Sem.bind (Instr.sliceBound (.int k' h) C .sliceAcap) (fun h => Sem.bind (Instr.sliceBound (.int k l) h .sliceB) (fun l => Sem.pure (l, h, C))) = _
    rw [sliceBound_ok (by omega) h2]
    change Sem.bind (Instr.sliceBound (.int k l) h.toNat .sliceB) (fun l => Sem.pure (l, h.toNat, C)) = _
    rw [sliceBound_ok h0 (by omega)]; rfl
theorem sliceBounds_max {L C : Nat} {lo' : Option Value} {l h m : Int} {k' k2 : IntKind} (hl : (lo' = none ∧ l = 0) ∨ ∃ k, lo' = some (.int k l)) (h0 : 0 ≤ l) (h1 : l ≤ h) (h2 : h ≤ m) (h3 : m ≤ C) :
    Instr.sliceBounds true L C lo' (some (.int k' h)) (some (.int k2 m)) = .pure (l.toNat, h.toNat, m.toNat) := by
  have hN : ((h.toNat : Nat) : Int) = h := Int.toNat_of_nonneg (by omega)
  have hM : ((m.toNat : Nat) : Int) = m := Int.toNat_of_nonneg (by omega)
  rcases hl with ⟨rfl, rfl⟩ | ⟨k, rfl⟩
  · change Sem.bind (Instr.sliceBound (.int k2 m) C .slice3Acap) (fun m => Sem.bind (Instr.sliceBound (.int k' h) m .slice3B) (fun h => Sem.pure (0, h, m))) = _
    rw [sliceBound_ok (by omega) h3]
    change Sem.bind (Instr.sliceBound (.int k' h) m.toNat .slice3B) (fun h => Sem.pure (0, h, m.toNat)) = _
    rw [sliceBound_ok (by omega) (by omega)]; rfl
  · change Sem.bind (Instr.sliceBound (.int k2 m) C .slice3Acap) (fun m => Sem.bind (Instr.sliceBound (.int k' h) m .slice3B) (fun h => Sem.bind (Instr.sliceBound (.int k l) h .slice3C) (fun l => Sem.pure (l, h, m)))) = _
    rw [sliceBound_ok (by omega) h3]
    change Sem.bind (Instr.sliceBound (.int k' h) m.toNat .slice3B) (fun h => Sem.bind (Instr.sliceBound (.int k l) h .slice3C) (fun l => Sem.pure (l, h, m.toNat))) = _
    rw [sliceBound_ok (by omega) (by omega)]
    change Sem.bind (Instr.sliceBound (.int k l) h.toNat .slice3C) (fun l => Sem.pure (l, h.toNat, m.toNat)) = _
    rw [sliceBound_ok h0 (by omega)]; rfl

theorem symSlice_sound (ok : tb.OK P) {t : Nat} {x : AVal} {v : Value} {lo hi mx : Option AVal} {lo' hi' mx' : Option Value} (hx : V κ x v)
    (hlo : lo.isSome = lo'.isSome ∧ ∀ a v, lo = some a → lo' = some v → V κ a v) (hhi : hi.isSome = hi'.isSome ∧ ∀ a v, hi = some a → hi' = some v → V κ a v) (hmx : mx.isSome = mx'.isSome ∧ ∀ a v, mx = some a → mx' = some v → V κ a v)
    (h : symSlice tb t x lo hi mx = some a) : Sure P (Instr.sliceAt t v lo' hi' mx') w fun y w' => w' = w ∧ V κ a y := by
  unfold symSlice at h
  split at h
  case h_2 => cases h
  rename_i e id off len cap z hund
  split at h
  case h_2 => cases h
  rename_i inf l hh hinf hl hhb
  split at h
  case h_2 => cases h
  rename_i hz d1 d2
  have hz := nbeq hz
  subst hz
  have hu := ok.und _ _ hund
  have e0 : (SX.lit (.ofNat 0)).ev.int = 0 := rfl
  have a1 := of_decide_eq_false (dec_lt ok d1)
  have a2 := of_decide_eq_false (dec_lt ok d2)
  rw [e0] at a1
  unfold Instr.sliceAt
  refine (sure_und hu).bind fun d w' ⟨h1, h2⟩ => ?_
  rw [h1, h2]
  change Sure P (Instr.slice t v lo' hi' mx') w _
  unfold Instr.slice
  refine (sure_und hu).bind fun d w' ⟨h1, h2⟩ => ?_
  rw [h1, h2]
  -- the bounds as numbers
  have lowIs : (lo' = none ∧ l.ev.int = 0) ∨ ∃ k, lo' = some (.int k l.ev.int) := by
    cases lo with
    | none =>
      have : lo' = none := by cases lo' <;> simp_all
      cases hl; exact .inl ⟨this, rfl⟩
    | some b =>
      cases lo' with
      | none => simp at hlo
      | some u =>
        simp only [bndX] at hl
        split at hl
        · rename_i k e' hs; cases hl; exact .inr ⟨k, by rw [sxI_V hs (hlo.2 _ _ rfl rfl)]⟩
        · cases hl
  have highIs : (hi = none ∧ hi' = none ∧ hh = len) ∨ (hi ≠ none ∧ ∃ k, hi' = some (.int k hh.ev.int)) := by
    cases hi with
    | none =>
      have : hi' = none := by cases hi' <;> simp_all
      cases hhb; exact .inl ⟨rfl, this, rfl⟩
    | some b =>
      cases hi' with
      | none => simp at hhi
      | some u =>
        simp only [bndX] at hhb
        split at hhb
        · rename_i k e' hs; cases hhb; exact .inr ⟨by simp, k, by rw [sxI_V hs (hhi.2 _ _ rfl rfl)]⟩
        · cases hhb
  -- what the machine makes of them
  have fin : ∀ (base : Option Addr) (L C : Nat) (m : Nat) (ec : Option SX), v = .slice base L C → l.ev.int ≤ hh.ev.int → hh.ev.int ≤ m → m ≤ C → (∀ c, ec = some c → c.ev.isL = false → ((m : Nat) : Int) - l.ev.int = c.ev.int) →
      Instr.sliceBounds true L C lo' hi' mx' = .pure (l.ev.int.toNat, hh.ev.int.toNat, m) →
      ((∃ b o, base = some ⟨b, o, none⟩ ∧ κ id = some b ∧ (o : Int) = off.ev.int ∧ ∃ n, κ.room b = some n ∧ o + C * inf.size ≤ n) ∨ C = 0) → (∀ c, ec = some c → c.ev.isP = true → base ≠ none) →
      Sure P (do
        let (l, h, m) ← Instr.sliceBounds true L C lo' hi' mx'
        let size ← sizeOf e
        pure (.slice (if m = l then base else base.map (·.add (l * size))) (h - l) (m - l)) : Sem Value) w fun y w' => w' = w ∧ V κ (.slv id (mkAdd off (mkMul l inf.size)) (mkSub hh l) ec inf.size) y := by
    intro base L C m ec hv b1 b2 b3 hec hbd hplace hP
    rw [hbd]
    change Sure P (Sem.bind (sizeOf e) fun size => Sem.pure _) w _
    refine Sure.bind (sure_size (ok.info _ _ hinf)) fun z w' ⟨h3, h4⟩ => ?_
    rw [h3, h4]
    refine .pure ⟨rfl, ?_⟩
    have hl0 : 0 ≤ l.ev.int := by omega
    have hlN : ((l.ev.int.toNat : Nat) : Int) = l.ev.int := Int.toNat_of_nonneg hl0
    have hhN : ((hh.ev.int.toNat : Nat) : Int) = hh.ev.int := Int.toNat_of_nonneg (by omega)
    have hsub : ((hh.ev.int.toNat - l.ev.int.toNat : Nat) : Int) = (mkSub hh l).ev.int := by rw [mkSub_ev]; omega
    by_cases hml : m = l.ev.int.toNat
    · rw [if_pos hml]
      have z1 : hh.ev.int.toNat - l.ev.int.toNat = 0 := by omega
      have z2 : m - l.ev.int.toNat = 0 := by omega
      change V κ _ (.slice base (hh.ev.int.toNat - l.ev.int.toNat) (m - l.ev.int.toNat))
      rw [z1, z2]
      exact .slv0 (by rw [← hsub, z1]; rfl) (fun c hc => by
        cases hL : c.ev.isL with
        | true => exact D.int_L hL
        | false => rw [← hec c hc hL]; omega) hP
    · rw [if_neg hml]
      rcases hplace with ⟨b, o, p1, p2, p3, n, p4, p5⟩ | hC
      · subst p1
        simp only [Option.map_some, add_at]
        refine .slv p2 ?_ hsub (Nat.sub_le_sub_right (by omega) _) (fun c hc hL => by rw [← hec c hc hL]; omega) ⟨n, p4, ?_⟩
        · rw [mkAdd_ev, mkMul_ev, ← p3]; push_cast; rw [hlN]
        · have q : l.ev.int.toNat ≤ m := by omega
          have q2 : l.ev.int.toNat * inf.size + (m - l.ev.int.toNat) * inf.size = m * inf.size := by rw [← Nat.add_mul, Nat.add_sub_of_le q]
          have q3 : m * inf.size ≤ C * inf.size := Nat.mul_le_mul_right _ b3
          change o + l.ev.int.toNat * inf.size + (m - l.ev.int.toNat) * inf.size ≤ n
          omega
      · omega
  -- the slice as it is
  have shape : ∃ base L C, v = .slice base L C ∧ (L : Int) = len.ev.int ∧ L ≤ C ∧ (∀ c, cap = some c → c.ev.isL = false → (C : Int) = c.ev.int) ∧ ((∃ b o, base = some ⟨b, o, none⟩ ∧ κ id = some b ∧ (o : Int) = off.ev.int ∧ ∃ n, κ.room b = some n ∧ o + C * inf.size ≤ n) ∨ C = 0) ∧ (∀ c, cap = some c → c.ev.isP = true → base ≠ none) := by
    cases hx with
    | @slv _ o L C b _ _ _ _ x1 x2 x3 x4 x5 x6 => exact ⟨_, _, _, rfl, x3, x4, x5, .inl ⟨b, o, rfl, x1, x2, x6⟩, fun _ _ _ h => by cases h⟩
    | slv0 y1 y2 y3 => exact ⟨_, _, _, rfl, by rw [y1]; rfl, Nat.le_refl _, fun c hc _ => by rw [y2 c hc]; rfl, .inr rfl, y3⟩
  obtain ⟨base, L, C, hv, s1, s2, s3, s4, s5⟩ := shape
  subst hv
  simp only
  have hiIs : (hi' = none ∧ hh.ev.int = L) ∨ ∃ k, hi' = some (.int k hh.ev.int) := by
    rcases highIs with ⟨_, q1, q2⟩ | ⟨_, k, q1⟩
    · exact .inl ⟨q1, by rw [q2]; exact s1.symm⟩
    · exact .inr ⟨k, q1⟩
  split at h
  · have hm' : mx' = none := by cases mx' <;> simp_all
    subst hm'
    have hle : hh.ev.int ≤ len.ev.int ∧ a = .slv id (mkAdd off (mkMul l inf.size)) (mkSub hh l) (subCap cap l) inf.size := by
      cases hi with
      | none =>
        simp only at h; cases h
        rcases highIs with ⟨_, _, q⟩ | ⟨q, _⟩
        · rw [q]; exact ⟨Int.le_refl _, rfl⟩
        · exact absurd rfl q
      | some b =>
        split at h
        · rename_i hc; cases hc
        · rename_i hd
          cases h
          have := of_decide_eq_false (dec_lt ok hd)
          exact ⟨by omega, rfl⟩
        · cases h
    rw [hle.2]
    refine fin base L C C _ rfl (by omega) (by omega) (Nat.le_refl _) (fun c hc hL => ?_) (sliceBounds_ok lowIs hiIs (by omega) (by omega) (by omega)) s4 (fun c hc hp => ?_)
    · obtain ⟨c', hc1, hc2⟩ := subCap_some hc
      rcases hc2 with ⟨hc2, hn⟩ | ⟨hc2, _⟩
      · rw [hc2, numX_int, mkSub_ev, s3 _ hc1 (D.isL_of (numS_ok hn))]
      · subst hc2; cases hL
    · obtain ⟨c', hc1, hc2⟩ := subCap_some hc
      rcases hc2 with ⟨hc2, hn⟩ | ⟨hc2, hc3⟩
      case inr => subst hc3; exact s5 _ hc1 rfl
      subst hc2
      rw [numX_p] at hp; cases hp
  · rename_i m
    split at h
    case h_2 => cases h
    rename_i hi0 k0 m' hm'
    split at h
    case h_2 => cases h
    rename_i d3 d4
    cases h
    have a3 := of_decide_eq_false (dec_lt ok d3)
    have a4 := of_decide_eq_false (dec_lt ok d4)
    cases mx' with
    | none => simp at hmx
    | some u =>
    have hu' := sxI_V hm' (hmx.2 _ _ rfl rfl)
    subst hu'
    rcases highIs with ⟨q, _⟩ | ⟨_, k, q1⟩
    · cases q
    have hmN : ((m'.ev.int.toNat : Nat) : Int) = m'.ev.int := Int.toNat_of_nonneg (by omega)
    refine fin base L C m'.ev.int.toNat _ rfl (by omega) (by omega) (by omega) (fun c hc _ => ?_) ?_ s4 (fun c hc hp => ?_)
    · cases hc
      rw [numX_int, mkSub_ev, hmN]
    · rw [q1]; exact sliceBounds_max lowIs (by omega) (by omega) (by omega) (by omega)
    · cases hc
      rw [numX_p] at hp; cases hp
end
end Go.Proofs.YtiemogegdoogaaaGreat.Eng

namespace Go.Proofs.YtiemogegdoogaaaGreat.Eng
open Go
variable [Interp]

noncomputable def symStr8 (tb : Tab) (src dst : Nat) (x : AVal) (s : St) : Option AVal :=
  match tb.und src, tb.und dst with
  | some (.slice e), some .string => match tb.und e with
    | some (.int .u8) => match litOf x, contX tb.facts .u8 x s with
      | none, some (c, _) => some (.ss c)
      | _, _ => none
    | _ => none
  | _, _ => none

noncomputable def symMake (tb : Tab) (t : Nat) (x y : AVal) (id : Nat) (s : St) : Option (AVal × St) :=
  match tb.und t with
  | some (.slice e) => match tb.info e, zeroA tb e, sxI x, sxI y with
    | some inf, some (.int k (.ofNat 0)), some (_, n), some (_, m) => match Nat.beq inf.size 1 && Nat.ble inf.bytes 8, decB tb.facts (.a2 .lt n (.lit (.ofNat 0))), decB tb.facts (.a2 .lt m n), decB tb.facts (.a2 .lt m (.lit 1000000000)) with
      | true, some false, some false, some true => some (.slv id (.lit (.ofNat 0)) n (some m) 1, { s with heap := s.heap.put id (.seq k (.a2 .rep m (.lit (.ofNat 0))) e) })
      | _, _, _, _ => none
    | _, _, _, _ => none
  | _ => none

noncomputable def symCopy (tb : Tab) (t : Nat) (a x : AVal) (s : St) : Option (AVal × St) :=
  match tb.und t, a with
  | some (.slice e), .slv i off len _ 1 => match tb.info e, tb.und e, s.heap.get i with
    | some inf, some (.int k), some (.seq k' a0 ty) => match Nat.beq inf.size 1 && Nat.beq (kindNo k') (kindNo k), contX tb.facts k x s, decB tb.facts (.a2 .lt (.a1 .len a0) (mkAdd off len)) with
      | true, some (c, n), some false => match decB tb.facts (.a2 .lt len n) with
        | some false => some (mkI .i64 n, { s with heap := s.heap.put i (.seq k' (.a3 .lay a0 off c) ty) })
        | some true => match mkCut tb.facts c (.lit (.ofNat 0)) len with
          | some c => some (mkI .i64 len, { s with heap := s.heap.put i (.seq k' (.a3 .lay a0 off c) ty) })
          | none => none
        | none => none
      | _, _, _ => none
    | _, _, _ => none
  | _, _ => none

section
variable {tb : Tab} {P : Program} {κ : Pl} {s s' : St} {w : World} {ρ : Operand → AVal} {ρ' : Operand → Value} {id : Nat} {a : AVal}

theorem strOf_eq (l : List Int) : strOf l = bytesOf l := by
  unfold strOf bytesOf
  have : ∀ (l : List Int) (b : ByteArray), l.foldl (fun r n => r.push (UInt8.ofNat n.toNat)) b = ⟨b.data ++ (l.map fun n => UInt8.ofNat n.toNat).toArray⟩ := by
    intro l
    induction l with
    | nil => intro b; simp
    | cons n l ih => intro b; rw [List.foldl_cons, ih]; simp [ByteArray.push]
  rw [this]
  simp [ByteArray.empty, ByteArray.emptyWithCapacity]
  rfl

theorem symStr8_sound (ok : tb.OK P) (hr : Rel κ s w) {src dst : Nat} {x : AVal} {v : Value} (hx : V κ x v) (h : symStr8 tb src dst x s = some a) :
    Sure P (convert src dst v) w fun y w' => w' = w ∧ V κ a y := by
  unfold symStr8 at h
  split at h
  case h_2 => cases h
  rename_i e hsrc hdst
  split at h
  case h_2 => cases h
  rename_i hel
  split at h
  case h_2 => cases h
  rename_i c n hnl hc
  cases h
  obtain ⟨m, m1, m2, m3, m4⟩ := contX_sound ok hr hx hc
  have hfin : ∀ base len cap, v = .slice base len cap → Sure P (convert src dst v) w fun y w' => w' = w ∧ V κ (.ss c) y := by
    intro base len cap hv
    subst hv
    have hm : len = m := by
      obtain ⟨y, w', q1, q2, _⟩ := m3
      cases q1; exact q2
    subst hm
    refine .eq (a := .string (bytesOf c.ev.list)) (w' := w) ?_ ⟨rfl, .ss⟩
    rw [run_convert_bytes_string w src dst e base len cap (ok.und _ _ hsrc) (ok.und _ _ hel) (ok.und _ _ hdst)]
    cases base with
    | none =>
      obtain ⟨y, w', q1, q2, q3⟩ := m4
      cases q1
      have : c.ev.list = [] := by
        have := congrArg List.length q3
        simp at this
        exact List.eq_nil_of_length_eq_zero this.symm
      rw [this]; rfl
    | some ad =>
      obtain ⟨y, w', q1, q2, q3⟩ := m4
      have hload : (loadCells ad len).run P w = .ok (c.ev.list.map (Value.int .u8)).toArray w := by
        simp only [Builtin.firstCells, Nat.mul_one] at q1
        rw [q1, q2, ← q3]
      rw [run_bytesToString w ad len cap c.ev.list hload]
      exact congrArg (fun b => Result.ok (Value.string b) w) (strOf_eq c.ev.list)
  cases hx with
  | slv x1 x2 x3 x4 x5 x6 => exact hfin _ _ _ rfl
  | slv0 y1 y2 => exact hfin _ _ _ rfl
  | slc x => exact hfin _ _ _ rfl
  | slu x y z => exact hfin _ _ _ rfl
  | lit v => cases hnl
  | _ => simp only [contX] at hc; cases hc

theorem symMake_sound (ok : tb.OK P) (hr : Rel κ s w) (hid : id < s.next) (hk : Free κ s id) {t : Nat} {x y : AVal} {v u : Value} {r : AVal × St} (hx : V κ x v) (hy : V κ y u)
    (h : symMake tb t x y id s = some r) : Sure P (Instr.makeSlice t v u) w fun y w' => ∃ κ' : Pl, Goes (· ≠ id) κ s w κ' r.2 w' ∧ V κ' r.1 y := by
  unfold symMake at h
  split at h
  case h_2 => cases h
  rename_i e hund
  split at h
  case h_2 => cases h
  rename_i inf k kn n km m hinf hz hn hm
  split at h
  case h_2 => cases h
  rename_i hc d1 d2 d3
  simp only [Bool.and_eq_true] at hc
  have hs1 : inf.size = 1 := nbeq hc.1
  have hby := Nat.le_of_ble_eq_true hc.2
  cases h
  have e0 : (SX.lit (.ofNat 0)).ev.int = 0 := rfl
  have eB : (SX.lit 1000000000).ev.int = 1000000000 := rfl
  have a1 := of_decide_eq_false (dec_lt ok d1)
  have a2 := of_decide_eq_false (dec_lt ok d2)
  have a3 := of_decide_eq_true (dec_lt ok d3)
  rw [e0] at a1
  rw [eB] at a3
  rw [sxI_V hn hx, sxI_V hm hy]
  generalize hnv : n.ev.int = nv at *
  generalize hmv : m.ev.int = mv at *
  have hmN : ((mv.toNat : Nat) : Int) = mv := Int.toNat_of_nonneg (by omega)
  have hnN : ((nv.toNat : Nat) : Int) = nv := Int.toNat_of_nonneg (by omega)
  have w1 : IntKind.i64.wrap nv = nv := IntWalk.i64_in _ (by omega)
  have w2 : IntKind.i64.wrap mv = mv := IntWalk.i64_in _ (by omega)
  have hroom : mv.toNat * inf.bytes ≤ 1000000000 * 8 := Nat.mul_le_mul (by omega) hby
  have hbm : ¬ ((inf.bytes : Int) * mv > 2 ^ 48) := by
    rw [← hmN]
    have : ((inf.bytes * mv.toNat : Nat) : Int) ≤ ((8000000000 : Nat) : Int) := Int.ofNat_le.2 (by rw [Nat.mul_comm]; omega)
    rw [Int.natCast_mul] at this
    omega
  unfold Instr.makeSlice
  refine (sure_und (ok.und _ _ hund)).bind fun d w' ⟨k3, k4⟩ => ?_
  rw [k3, k4]
  simp only
  refine Sure.bind (R := fun x w' => x = nv ∧ w' = w) (.pure ⟨rfl, rfl⟩) fun x w' ⟨k5, k6⟩ => ?_
  rw [k5, k6]
  refine Sure.bind (R := fun x w' => x = mv ∧ w' = w) (.pure ⟨rfl, rfl⟩) fun x w' ⟨k5, k6⟩ => ?_
  rw [k5, k6]
  refine (sure_info (ok.info _ _ hinf)).bind fun y w' ⟨k7, k8⟩ => ?_
  rw [k7, k8]
  simp only [w1, w2]
  rw [if_neg (by simp only [Bool.or_eq_true, decide_eq_true_eq]; omega)]
  refine Sure.bind (R := fun _ w' => w' = w) ?_ fun _ w' k9 => ?_
  · unfold askRoom
    have c6 : mv.toNat * inf.bytes ≤ 2 ^ 47 := by omega
    rw [if_neg (by simpa [roomBytes] using c6)]
    exact .pure rfl
  rw [k9]
  refine (sure_size (ok.info _ _ hinf)).bind fun y w' ⟨k7, k8⟩ => ?_
  rw [k7, k8, hs1, Nat.mul_one]
  have fin : ∀ zc : Array Value, (mv.toNat ≠ 0 → zc = #[.int k 0]) → Sure P (do
      let a ← newRow e ((Array.range mv.toNat).map (zc[· % zc.size]!))
      pure (.slice (some a) nv.toNat mv.toNat) : Sem Value) w fun y w' => ∃ κ' : Pl, Goes (· ≠ id) κ s w κ' { s with heap := s.heap.put id (.seq k (.a2 .rep m (.lit (.ofNat 0))) e) } w' ∧ V κ' (.slv id (.lit (.ofNat 0)) n (some m) 1) y := by
    intro zc hzc
    obtain ⟨κ', k1, k2, k3⟩ := hr.bear (i := id) (o := .seq k (.a2 .rep m (.lit (.ofNat 0))) e) (ob := .cells ((Array.range mv.toNat).map (zc[· % zc.size]!)) e (0, 0)) hid hk (some mv.toNat) (fun q hq => by cases hq; exact ⟨_, _, _, rfl, by simp⟩) fun κ' hle' _ => by
      have hev : (SX.a2 .rep m (.lit (.ofNat 0))).ev.list = List.replicate mv.toNat 0 := by
        change List.replicate m.ev.int.toNat _ = _
        rw [hmv]; rfl
      refine .seq (by rw [hev]; simp) (fun j hj => ?_) (NF.zero _)
      rw [hev] at hj ⊢
      rw [List.length_replicate] at hj
      have hz' := hzc (by omega)
      subst hz'
      have q1 : j % (#[Value.int k 0] : Array Value).size = 0 := Nat.mod_one j
      rw [List.getElem?_replicate, if_pos hj, Array.getElem?_map, Array.getElem?_range, if_pos hj]
      simp only [Option.map_some, q1]
      rfl
    exact ⟨_, _, rfl, κ', k3, .slv k1 rfl (by rw [hnN, hnv]) (by omega) (fun c hc _ => by cases hc; rw [hmN, hmv]) ⟨mv.toNat, k2, by omega⟩⟩
  by_cases h0 : mv.toNat = 0
  · rw [if_pos h0]
    refine Sure.bind (R := fun zc w' => zc = #[] ∧ w' = w) (.pure ⟨rfl, rfl⟩) fun zc w' ⟨m1, m2⟩ => ?_
    rw [m1, m2]
    exact fin #[] fun h => absurd h0 h
  · rw [if_neg h0]
    refine (zeroA_sound ok hz).bind fun y w' ⟨k7, k8⟩ => ?_
    rw [k7, k8]
    refine Sure.bind (R := fun zc w' => zc = #[.int k 0] ∧ w' = w) (.pure ⟨rfl, rfl⟩) fun zc w' ⟨m1, m2⟩ => ?_
    rw [m1, m2]
    exact fin _ fun _ => rfl

theorem layL_get (l : List Int) (o j : Nat) (m : List Int) (h : o + m.length ≤ l.length) (hj : j < l.length) : (layL l (o : Int) m)[j]?.getD 0 = if o ≤ j ∧ j < o + m.length then m[j - o]?.getD 0 else l[j]?.getD 0 := by
  unfold layL
  simp only [Int.toNat_natCast]
  rw [List.take_of_length_le (l := m) (by omega)]
  by_cases h1 : j < o
  · rw [if_neg (by omega), List.append_assoc, List.getElem?_append_left (by simp; omega), List.getElem?_take_of_lt h1]
  · by_cases h2 : j < o + m.length
    · rw [if_pos (by omega), List.append_assoc, List.getElem?_append_right (by simp; omega), List.getElem?_append_left (by simp; omega)]
      congr 2; simp; omega
    · rw [if_neg (by omega), List.getElem?_append_right (by simp; omega), List.getElem?_drop]
      congr 2; simp; omega
theorem layL_length (l : List Int) (o : Nat) (m : List Int) (h : o + m.length ≤ l.length) : (layL l (o : Int) m).length = l.length := by
  unfold layL
  simp only [Int.toNat_natCast, List.length_append, List.length_take, List.length_drop]
  omega

theorem Rel.reseq {U : Nat → Prop} (hr : Rel κ s w) {i : Nat} {k : IntKind} {a0 c : SX} {t : Nat} (hg : s.heap.get i = some (.seq k a0 t)) (he : c.ev.list = a0.ev.list) : Goes U κ s w κ { s with heap := s.heap.put i (.seq k c t) } w := by
  have hi : i < 1000000000 := by
    rcases Nat.lt_or_ge i s.next with h2 | h2
    · have := hr.lim; omega
    · exact absurd (live_of hg) (hr.dead i h2)
  have hlive : ∀ j, ({ s with heap := s.heap.put i (.seq k c t) } : St).live j → s.live j := fun j hj => by
    by_cases hji : j = i
    · subst hji; exact live_of hg
    · unfold St.live at *; rwa [T.get_put _ _ _ _ hi, if_neg hji] at hj
  refine ⟨Pl.le_refl κ, ⟨hr.lim, hr.fresh, hr.size, fun j k c hj hk' => hr.inj j k c (hlive j hj) (hlive k hk'), hr.room, fun j o' hj => ?_, fun j hj hl' => hr.dead j hj (hlive j hl')⟩,
    Nat.le_refl _, Nat.le_refl _, fun _ _ _ => rfl, fun j c hj hkj => .inr ⟨j, hlive j hj, hkj⟩, fun j c hj hkj => .inr ⟨j, (if e : j = i then e ▸ may_of hg else hj.put hi e), hkj⟩, fun _ _ h => h, fun j _ hn hl' => hn (hlive j hl'), rfl, rfl, rfl⟩
  rw [T.get_put _ _ _ _ hi] at hj
  by_cases hji : j = i
  · subst hji
    rw [if_pos rfl] at hj; cases hj
    rcases hr.obj j _ hg with ⟨b, ob, h1, h2, h3⟩ | ⟨h1, h2⟩
    · cases h3 with
      | seq q1 q2 q3 => exact .inl ⟨b, _, h1, h2, .seq (by rw [he]; exact q1) (by rw [he]; exact q2) q3⟩
    · exact .inr ⟨h1, (he.trans h2 : c.ev.list = [])⟩
  · rw [if_neg hji] at hj; exact hr.obj j o' hj

theorem run_bind_ok {α β : Type} {e : Sem α} {f : α → Sem β} {b : β} {w w' : World} (h : (e >>= f).run P w = .ok b w') : ∃ a w1, e.run P w = .ok a w1 ∧ (f a).run P w1 = .ok b w' := by
  change (e.bind f).run P w = _ at h
  rw [run_bind'] at h
  split at h
  · rename_i a w1 he; exact ⟨a, w1, he, h⟩
  · cases h

theorem load_world {ad : Addr} {v : Value} {w w' : World} (h : (load ad).run P w = .ok v w') : w' = w := by
  change (Sem.load _ ad Sem.pure).run P w = _ at h
  simp only [Sem.run] at h
  split at h
  · cases h; rfl
  · split at h
    · cases h; rfl
    · cases h

theorem loadFrom_take {ad : Addr} {r : Nat} {w w' : World} : ∀ (q i : Nat) (acc y : Array Value), (loadCellsFrom ad i (q + r) acc).run P w = .ok y w' →
    ∃ y', (loadCellsFrom ad i q acc).run P w = .ok y' w ∧ y'.toList = y.toList.take (acc.size + q) ∧ acc.toList = y.toList.take acc.size := by
  have base : ∀ (r i : Nat) (acc y : Array Value) (w w' : World), (loadCellsFrom ad i r acc).run P w = .ok y w' → acc.toList = y.toList.take acc.size := by
    intro r
    induction r with
    | zero =>
      intro i acc y w w' h
      change Result.ok acc w = _ at h
      cases h
      rw [List.take_of_length_le (by rw [Array.length_toList]; exact Nat.le_refl _)]
    | succ r ih =>
      intro i acc y w w' h
      simp only [loadCellsFrom] at h
      obtain ⟨v, w1, h1, h2⟩ := run_bind_ok h
      have := congrArg (List.take acc.size) (ih _ _ _ _ _ h2)
      rw [List.take_take, Array.size_push, Nat.min_eq_left (Nat.le_succ _), Array.toList_push] at this
      rw [← this]; simp
  intro q
  induction q with
  | zero =>
    intro i acc y h
    rw [Nat.zero_add] at h
    exact ⟨acc, rfl, by rw [Nat.add_zero]; exact base r i acc y _ _ h, base r i acc y _ _ h⟩
  | succ q ih =>
    intro i acc y h
    have hb := base (q + 1 + r) i acc y _ _ h
    rw [Nat.add_right_comm] at h
    simp only [loadCellsFrom] at h
    obtain ⟨v, w1, h1, h2⟩ := run_bind_ok h
    have := load_world h1
    subst this
    obtain ⟨y', k1, k2, _⟩ := ih _ _ _ h2
    refine ⟨y', ?_, ?_, hb⟩
    · simp only [loadCellsFrom]
      change (Sem.bind (load (ad.add i)) fun v => loadCellsFrom ad (i + 1) q (acc.push v)).run P _ = _
      rw [run_bind', h1]; exact k1
    · rw [k2, Array.size_push]; congr 1; omega

theorem loadCells_take {ad : Addr} {m q : Nat} {L : List Value} (h : Sure P (loadCells ad m) w fun y w' => w' = w ∧ y.toList = L) (hq : q ≤ m) : Sure P (loadCells ad q) w fun y w' => w' = w ∧ y.toList = L.take q := by
  obtain ⟨y, w', h1, h2, h3⟩ := h
  subst h2
  obtain ⟨r, rfl⟩ : ∃ r, m = q + r := ⟨m - q, by omega⟩
  obtain ⟨y', k1, k2, _⟩ := loadFrom_take q 0 #[] y h1
  exact .eq k1 ⟨rfl, by rw [k2, h3]; simp⟩

theorem contX_take (ok : tb.OK P) (hr : Rel κ s w) {k : IntKind} {x : AVal} {v : Value} {c n : SX} {m q : Nat} (hx : V κ x v) (h : contX tb.facts k x s = some (c, n)) (hm : (m : Int) = n.ev.int) (hq : q ≤ m) :
    Sure P (Builtin.firstCells 1 q v) w fun y w' => w' = w ∧ y.toList = (c.ev.list.take q).map (Value.int k) := by
  obtain ⟨m', k1, k2, k3, k4⟩ := contX_sound ok hr hx h
  have hmm : m' = m := by omega
  subst hmm
  have main : ∀ (base : Option Addr) (L C : Nat), v = .slice base L C → Sure P (Builtin.firstCells 1 q v) w fun y w' => w' = w ∧ y.toList = (c.ev.list.take q).map (Value.int k) := by
    intro base L C hv
    subst hv
    cases base with
    | none =>
      obtain ⟨y, w', q1, q2, q3⟩ := k4
      cases q1
      have : c.ev.list = [] := by
        have := congrArg List.length q3
        simp at this
        exact List.eq_nil_of_length_eq_zero this.symm
      rw [this]
      exact .pure ⟨rfl, by simp⟩
    | some ad =>
      simp only [Builtin.firstCells, Nat.mul_one] at k4 ⊢
      rw [List.map_take]
      exact loadCells_take k4 hq
  cases hx with
  | slv x1 x2 x3 x4 x5 x6 => exact main _ _ _ rfl
  | slv0 y1 y2 => exact main _ _ _ rfl
  | slc x => exact main _ _ _ rfl
  | slu x y z => exact main _ _ _ rfl
  | lit _ =>
    simp only [contX] at h
    cases v with
    | slice o l c' => exact main _ _ _ rfl
    | string b =>
      simp only at h
      split at h
      case h_2 => cases h
      rename_i hkk
      have hk : k = .u8 := kindNo_inj (nbeq hkk)
      subst hk
      cases h
      refine .pure ⟨rfl, ?_⟩
      simp only [SX.ev, D.list, intsB, Array.toList_map, ← List.map_take, List.map_map]
      have e : (b.extract 0 q).data.toList = b.data.toList.take q := by
        simp [ByteArray.extract, ByteArray.copySlice]
      rw [e]
      rfl
    | _ => simp at h
  | _ => simp only [contX] at h; cases h

theorem symCopy_sound {U : Nat → Prop} (ok : tb.OK P) (hr : Rel κ s w) {t : Nat} {ts : List Nat} {ty : TypeId} {x y : AVal} {v u : Value} {r : AVal × St} (hx : V κ x v) (hy : V κ y u)
    (h : symCopy tb t x y s = some r) : Sure P (Builtin.copy_ (t :: ts).toArray ty #[v, u]) w fun y w' => Goes U κ s w κ r.2 w' ∧ V κ r.1 y := by
  unfold symCopy at h
  split at h
  case h_2 => cases h
  rename_i e i off len cap hund
  split at h
  case h_2 => cases h
  rename_i inf k k' a0 tyo hinf hkind hg
  split at h
  case h_2 => cases h
  rename_i c n hcond hcx d1
  simp only [Bool.and_eq_true] at hcond
  have hs1 : inf.size = 1 := nbeq hcond.1
  have hkk : k' = k := kindNo_inj (nbeq hcond.2)
  subst hkk
  obtain ⟨nx, m1, m2, m3, m4⟩ := contX_sound ok hr hy hcx
  have a1 := of_decide_eq_false (dec_lt ok d1)
  rw [mkAdd_ev] at a1
  have e2 : (SX.a1 .len a0).ev.int = (a0.ev.list.length : Int) := rfl
  rw [e2] at a1
  unfold Builtin.copy_
  simp only [List.getElem?_toArray, List.getElem?_cons_zero, List.getElem?_cons_succ]
  refine (sure_und (ok.und _ _ hund)).bind fun d w' ⟨k3, k4⟩ => ?_
  rw [k3, k4]
  -- what is written
  have go : ∀ (base : Option Addr) (L C q : Nat) (c' : SX) (kk : AVal), v = .slice base L C → Nat.min nx L = q → c'.ev.list = layL a0.ev.list off.ev.int (c.ev.list.take q) →
      ((∃ b o, base = some ⟨b, o, none⟩ ∧ κ i = some b ∧ ((o : Nat) : Int) = off.ev.int ∧ (L : Int) = len.ev.int) ∨ (L = 0 ∧ len.ev.int = 0)) → V κ kk (.int .i64 q) →
      Sure P (do
        let .slice base dLen _ := v | stuck "copy: slice expected"
        let n := Nat.min (← Builtin.lenOf u) dLen
        let cells ← Builtin.firstCells (← sizeOf e) n u
        if let some a := base then storeCells a cells.toList
        pure (goInt n) : Sem Value) w fun y w' => Goes U κ s w κ { s with heap := s.heap.put i (.seq k' c' tyo) } w' ∧ V κ kk y := by
    intro base L C q c' kk hv hq hc' hpl hkk
    subst hv
    simp only
    refine m3.bind fun y w' ⟨h1, h2⟩ => ?_
    rw [h1, h2]
    refine (sure_size (ok.info _ _ hinf)).bind fun z w' ⟨h1, h2⟩ => ?_
    rw [h1, h2, hs1]
    rw [hq]
    have hqx : q ≤ nx := by rw [← hq]; exact Nat.min_le_left _ _
    have hqL : q ≤ L := by rw [← hq]; exact Nat.min_le_right _ _
    refine (contX_take ok hr hy hcx m1 hqx).bind fun y w' ⟨h1, h2⟩ => ?_
    rw [h1, h2]
    have htl : (c.ev.list.take q).length = q := by rw [List.length_take, m2]; omega
    rcases hpl with ⟨b, o, p1, p2, p3, p4⟩ | ⟨p1, p2⟩
    · subst p1
      obtain ⟨cs, fz, g1, g2, g3, g4⟩ := seq_at hr hg p2
      have hfit : o + q ≤ a0.ev.list.length := by omega
      refine Sure.bind (R := fun _ w' => Goes U κ s w κ { s with heap := s.heap.put i (.seq k' c' tyo) } w') (.eq (run_storeCells (t := tyo) ((c.ev.list.take q).map (Value.int k')) 0 cs w g1 g2 (by rw [List.length_map, htl]; omega) (fun v hv => ?_)) ?_) fun _ w' h3 => .pure ⟨h3, hkk⟩
      · obtain ⟨_, _, rfl⟩ := List.mem_map.1 hv; rfl
      refine hr.turn (may_of hg) p2 (fun cs' t' fz' h5 => by rw [g1] at h5; cases h5; exact ⟨_, _, _, rfl, putAt_size _ _ _⟩) ?_
      rw [← p3] at hc'
      have hlen := layL_length a0.ev.list o (c.ev.list.take q) (by rw [htl]; exact hfit)
      refine .seq (by rw [hc', hlen, putAt_size]; exact g3) (fun j hj => ?_) (by rw [putAt_size]; exact g2)
      rw [hc', hlen] at hj
      rw [hc', layL_get _ _ _ _ (by rw [htl]; exact hfit) hj, putAt_get _ _ _ _ (by rw [List.length_map, htl]; omega), List.length_map, htl]
      by_cases e : o ≤ j ∧ j < o + q
      · rw [if_pos e, if_pos (by omega), List.getElem?_map, Nat.add_zero]
        have : j - o < (c.ev.list.take q).length := by rw [htl]; omega
        rw [List.getElem?_eq_getElem this]; rfl
      · rw [if_neg e, if_neg (by omega)]
        exact g4 j hj
    · have hq0 : q = 0 := by omega
      subst hq0
      have hsame : c'.ev.list = a0.ev.list := by
        rw [hc']; unfold layL; simp
      have hre := hr.reseq (U := U) hg hsame
      cases base with
      | none => exact .pure ⟨hre, hkk⟩
      | some ad => simp only [List.take_zero, List.map_nil, storeCells]; exact .pure ⟨hre, hkk⟩
  have shape : ∃ base L C, v = .slice base L C ∧ (L : Int) = len.ev.int ∧ ((∃ b o, base = some ⟨b, o, none⟩ ∧ κ i = some b ∧ ((o : Nat) : Int) = off.ev.int ∧ (L : Int) = len.ev.int) ∨ (L = 0 ∧ len.ev.int = 0)) := by
    cases hx with
    | @slv _ o L C b _ _ _ _ x1 x2 x3 x4 x5 x6 => exact ⟨_, _, _, rfl, x3, .inl ⟨b, o, rfl, x1, x2, x3⟩⟩
    | slv0 y1 y2 => exact ⟨_, _, _, rfl, by rw [y1]; rfl, .inr ⟨rfl, y1⟩⟩
  obtain ⟨base, L, C, hv, hL, hpl⟩ := shape
  split at h
  · rename_i d2
    cases h
    have a2 := of_decide_eq_false (dec_lt ok d2)
    have := mkI_V (κ := κ) .i64 n
    rw [← m1] at this
    have hq : Nat.min nx L = nx := Nat.min_eq_left (by omega)
    exact go base L C nx _ _ hv hq (by rw [List.take_of_length_le (by omega)]; rfl) hpl this
  · rename_i d2
    have a2 := of_decide_eq_true (dec_lt ok d2)
    split at h
    case h_2 => cases h
    rename_i c2 hc2
    cases h
    obtain ⟨r1, r2⟩ := mkCut_sound ok hc2
    have e0 : (SX.lit (.ofNat 0)).ev.int = 0 := rfl
    rw [e0, ← hL] at r1
    have := mkI_V (κ := κ) .i64 len
    rw [← hL] at this
    have hq : Nat.min nx L = L := Nat.min_eq_right (by omega)
    refine go base L C L _ _ hv hq ?_ hpl this
    change layL a0.ev.list off.ev.int c2.ev.list = _
    rw [r1]; simp [cutL]
  · cases h
end
end Go.Proofs.YtiemogegdoogaaaGreat.Eng

namespace Go.Proofs.YtiemogegdoogaaaGreat.Eng
open Go
variable [Interp]

noncomputable def appendZ (tb : Tab) (t u : Nat) (a x : AVal) (id : Nat) (s : St) : Option (AVal × St) :=
  match tb.und t, tb.und u with
  | some (.slice e), some (.int _) => match tb.info e, a with
    | some inf, .lit (.slice none 0 0) => match inf.zero, x with
      | some z, .lit (.int _ (.ofNat n)) => match Nat.beq z.cells.size inf.size && Nat.blt 0 n && Nat.ble n 1000000000 && Nat.blt 0 inf.size && Nat.ble ((2 * n + 200) * inf.bytes) (2 ^ 47) with
        | true => growA e inf.size (0 + n) ([] ++ (zerosA z.cells (n * z.cells.size)).map .lit) id s
        | false => none
      | some (.int k (.ofNat 0)), .si _ n => match Nat.beq inf.size 1 && Nat.ble inf.bytes 8, decB tb.facts (.a2 .lt (.lit (.ofNat 0)) n), small tb.facts n with
        | true, some true, true => some (newS k (.a2 .rep n (.lit (.ofNat 0))) n e id s)
        | _, _, _ => none
      | _, _ => none
    | _, _ => none
  | _, _ => none

section
variable {tb : Tab} {P : Program} {κ : Pl} {s s' : St} {w : World} {id : Nat} {a : AVal}

theorem appendZ_start {t u e ty n : Nat} {inf : TypeInfo} {z : Value} {k k' : IntKind} {Q : Value → World → Prop} (ht : P.underlying t = some (.slice e)) (hi : P.info? e = some inf) (hu : P.underlying u = some (.int k)) (hz : inf.zero = some z)
    (h0 : 0 < n) (hs : 0 < inf.size) (h1 : n ≤ 1000000000) (hb : (2 * n + 200) * inf.bytes ≤ 2 ^ 47)
    (hgrow : ∀ newCap, 0 + n ≤ newCap → Sure P (do
      let old ← Builtin.firstCells inf.size 0 (.slice none 0 0)
      let new ← (pure (Builtin.zeroCells z.cells n) : Sem (Array Value))
      let rest := Builtin.zeroCells (← zeroValue e).cells (newCap - (0 + n))
      pure (.slice (some (← newRow e (old ++ new ++ rest))) (0 + n) newCap) : Sem Value) { w with drawn := w.drawn + 1 } Q) :
    Sure P (Builtin.append_ #[t, u] ty #[.slice none 0 0, .int k' n]) w Q := by
  have hbn : n * inf.bytes ≤ 2 ^ 47 := Nat.le_trans (Nat.mul_le_mul_right _ (by omega)) hb
  unfold Builtin.append_
  simp only [List.getElem?_toArray, List.getElem?_cons_zero, List.getElem?_cons_succ]
  refine (sure_und ht).bind fun d' w' ⟨h1, h2⟩ => ?_
  rw [h1, h2]
  simp only
  refine (sure_size hi).bind fun zs w' ⟨h1, h2⟩ => ?_
  rw [h1, h2]
  refine (sure_und hu).bind fun d' w' ⟨h1, h2⟩ => ?_
  rw [h1, h2]
  refine Sure.bind (R := fun b w' => b = true ∧ w' = w) (.pure ⟨rfl, rfl⟩) fun zz w' ⟨h1, h2⟩ => ?_
  rw [h1, h2]
  simp only [Bool.false_eq_true, if_false, Bool.not_true, if_true, true_or]
  refine Sure.bind (R := fun x w' => x = (n : Int) ∧ w' = w) (.pure ⟨rfl, rfl⟩) fun x w' ⟨h1, h2⟩ => ?_
  rw [h1, h2]
  have hw : IntKind.i64.wrap (n : Int) = n := IntWalk.i64_in _ (by omega)
  rw [hw]
  rw [if_neg (by omega)]
  refine (sure_info hi).bind fun d' w' ⟨h1, h2⟩ => ?_
  rw [h1, h2]
  have hbi : ¬ ((n : Int) * inf.bytes > 2 ^ 48) := by
    have : ((n * inf.bytes : Nat) : Int) ≤ ((2 ^ 47 : Nat) : Int) := Int.ofNat_le.2 hbn
    rw [Int.natCast_mul] at this
    have e : ((2 ^ 47 : Nat) : Int) = 140737488355328 := by decide
    rw [e] at this
    have e2 : (2 ^ 48 : Int) = 281474976710656 := by decide
    rw [e2]; omega
  rw [if_neg hbi]
  refine Sure.bind (R := fun x w' => x = n ∧ w' = w) (.pure ⟨by simp, rfl⟩) fun x w' ⟨h1, h2⟩ => ?_
  rw [h1, h2]
  rw [if_neg (by omega)]
  refine (sure_info hi).bind fun d' w' ⟨h1, h2⟩ => ?_
  rw [h2]
  have hmx : ¬ ((((0 + n : Nat) : Int) > IntKind.i64.max) ∧ True) := by
    have : IntKind.i64.max = 9223372036854775807 := by decide
    rw [this]; omega
  rw [if_neg (by simpa using hmx)]
  refine (sure_info hi).bind fun d' w' ⟨h1, h2⟩ => ?_
  rw [h1, h2]
  have hnc := nextslicecap_le (n := 0 + n) (c := 0) (by omega)
  have hnb : Builtin.nextslicecap (0 + n) 0 * inf.bytes ≤ 2 ^ 47 := Nat.le_trans (Nat.mul_le_mul_right _ (by omega)) hb
  rw [if_neg (by omega)]
  refine Sure.bind (R := fun c w' => 0 + n ≤ c ∧ w' = { w with drawn := w.drawn + 1 }) ⟨_, _, rfl, Nat.le_add_right _ _, rfl⟩ fun c w' ⟨h1, h2⟩ => ?_
  rw [h2]
  refine (sure_info hi).bind fun d' w' ⟨h3, h4⟩ => ?_
  rw [h3, h4]
  refine Sure.bind (R := fun _ w' => w' = { w with drawn := w.drawn + 1 }) ?_ fun _ w' h5 => ?_
  · unfold askRoom
    split
    · exact ⟨(), _, rfl, rfl⟩
    · exact .pure rfl
  rw [h5]
  have := hgrow c h1
  refine Sure.bind (R := fun x w' => x = #[] ∧ w' = { w with drawn := w.drawn + 1 }) (.pure ⟨rfl, rfl⟩) fun x w' ⟨h6, h7⟩ => ?_
  rw [h6, h7]
  refine Sure.bind (R := fun x w' => x = Builtin.zeroCells z.cells n ∧ w' = { w with drawn := w.drawn + 1 }) ?_ fun x w' ⟨h6, h7⟩ => ?_
  · rw [if_neg (Nat.mul_ne_zero (by omega) (by omega))]
    exact (sure_zero hi hz).bind fun x w' ⟨h1, h2⟩ => .pure ⟨by rw [h1], h2⟩
  rw [h6, h7]
  exact this

theorem zeroCells_list (z : Array Value) (n : Nat) : (Builtin.zeroCells z n).toList = zerosA z (n * z.size) := by
  unfold Builtin.zeroCells; exact zerosA_eq z _

theorem appendZ_sound (ok : tb.OK P) (hr : Rel κ s w) (hid : id < s.next) (hk : Free κ s id) {t u ty : Nat} {x : AVal} {av xv : Value} {r : AVal × St}
    (ha : V κ a av) (hx : V κ x xv) (h : appendZ tb t u a x id s = some r) :
    Sure P (Builtin.append_ #[t, u] ty #[av, xv]) w fun y w' => ∃ κ' : Pl, Goes (· ≠ id) κ s w κ' r.2 w' ∧ V κ' r.1 y := by
  unfold appendZ at h
  split at h
  case h_2 => cases h
  rename_i e k hund hu
  split at h
  case h_2 => cases h
  rename_i inf hinf
  have hi := ok.info _ _ hinf
  cases ha.of_lit rfl
  have hr' := hr.drawn (w.drawn + 1)
  split at h
  · rename_i z k' n hz
    split at h
    case h_2 => cases h
    rename_i hc
    simp only [Bool.and_eq_true, Nat.blt_eq] at hc
    obtain ⟨⟨⟨⟨c1, c2⟩, c3⟩, c4⟩, c5⟩ := hc
    have c1 := nbeq c1
    cases hx.of_lit rfl
    refine appendZ_start (ok.und _ _ hund) hi (ok.und _ _ hu) hz c2 c4 (Nat.le_of_ble_eq_true c3) (Nat.le_of_ble_eq_true c5) fun newCap hnc => ?_
    exact (growA_sound (base := none) (sCap := 0) hr' hid hk hi hz c1 hnc (.pure ⟨rfl, .nil⟩) (.pure ⟨rfl, by rw [zeroCells_list]; exact VL.lits _⟩) h).mono fun y w' ⟨κ', h1, h2⟩ => ⟨κ', h1.of_drawn, h2⟩
  · rename_i k0 k' n hz
    split at h
    case h_2 => cases h
    rename_i hc d1 hsm
    simp only [Bool.and_eq_true] at hc
    have hs1 : inf.size = 1 := nbeq hc.1
    have hby := Nat.le_of_ble_eq_true hc.2
    cases h
    have a1 := of_decide_eq_true (dec_lt ok d1)
    have e0 : (SX.lit (.ofNat 0)).ev.int = 0 := rfl
    rw [e0] at a1
    have a2 := small_sound ok hsm
    cases hx
    generalize hnv : n.ev.int = nv at *
    have hnN : ((nv.toNat : Nat) : Int) = nv := Int.toNat_of_nonneg (by omega)
    rw [← hnN]
    have hb2 : (2 * nv.toNat + 200) * inf.bytes ≤ (2 * 1000000000 + 200) * 8 := Nat.mul_le_mul (by omega) hby
    refine appendZ_start (ok.und _ _ hund) hi (ok.und _ _ hu) hz (by omega) (by omega) (by omega) (by omega) fun newCap hnc => ?_
    rw [hs1]
    refine (newS_grow (l0 := []) (l1 := List.replicate nv.toNat 0) (k := k0) (base := none) (sCap := 0) hr' hid hk hi hz rfl hs1 hnc rfl (by simp) ?_ (by rw [hnv]; omega) (.pure ⟨rfl, rfl⟩) (.pure ⟨rfl, ?_⟩)).mono fun y w' ⟨κ', h1, h2⟩ => ⟨κ', h1.of_drawn, h2⟩
    · change List.replicate n.ev.int.toNat _ = _
      rw [hnv]; rfl
    · rw [zeroCells_list]
      have e1 : (Value.int k0 (.ofNat 0)).cells = #[.int k0 0] := rfl
      rw [e1]
      unfold zerosA
      apply List.ext_getElem?
      intro j
      by_cases hj : j < nv.toNat
      · have q1 : j % (#[Value.int k0 0] : Array Value).size = 0 := Nat.mod_one j
        rw [List.getElem?_map, List.getElem?_range (by simpa using hj), List.getElem?_map, List.getElem?_replicate, if_pos hj]
        simp only [Option.map_some, q1]
        rfl
      · rw [List.getElem?_eq_none (by simpa using hj), List.getElem?_eq_none (by simpa using hj)]
  · cases h
end
end Go.Proofs.YtiemogegdoogaaaGreat.Eng

namespace Go.Proofs.YtiemogegdoogaaaGreat.Eng
open Go
variable [Interp]

noncomputable def newP (k : IntKind) (c n : SX) (e z id : Nat) (s : St) : AVal × St := (.slv id (.lit (.ofNat 0)) n none z, { s with heap := s.heap.put id (.seq k c e) })

noncomputable def contP (z : Nat) (x : AVal) (s : St) : Option (IntKind × SX × Nat) :=
  match x with
  | .slc i off m cp => match cellsA z m (.slc i off m cp) s with
    | some l => match l with
      | [] => none
      | v :: r => match sxI v with
        | some (k, _) => match intsX k (.str []) (v :: r), Nat.blt m 1000000 with
          | some c, true => some (k, c, m)
          | _, _ => none
        | none => none
    | none => none
  | _ => none

noncomputable def appendP (tb : Tab) (t u : Nat) (a x : AVal) (id : Nat) (s : St) : Option (AVal × St) :=
  match tb.und t, tb.und u with
  | some (.slice e), some d => match plainD d, tb.info e with
    | true, some inf => match inf.zero, contP inf.size x s with
      | some z, some (k, c1, m) => match Nat.beq z.cells.size inf.size && Nat.ble inf.bytes 64, a with
        | true, .lit (.slice none 0 0) => some (newP k c1 (.lit (.ofNat m)) e inf.size id s)
        | true, .slv i (.lit (.ofNat 0)) len none z' => match s.heap.get i with
          | some (.seq k' a0 ty) => match Nat.beq ty e && Nat.beq (kindNo k') (kindNo k) && Nat.beq z' inf.size, decB tb.facts (.a2 .eq (.a1 .len a0) (.a2 .mul len (.lit (.ofNat inf.size)))), small tb.facts (mkAdd len (.lit (.ofNat m))) with
            | true, some true, true => some (newP k (mkApp a0 c1) (mkAdd len (.lit (.ofNat m))) e inf.size id { s with heap := s.heap.del i })
            | _, _, _ => none
          | _ => none
        | _, _ => none
      | _, _ => none
    | _, _ => none
  | _, _ => none

section
variable {tb : Tab} {P : Program} {κ : Pl} {s s' : St} {w : World} {id : Nat} {a : AVal}

theorem contP_sound (ok : tb.OK P) (hr : Rel κ s w) {z : Nat} {k : IntKind} {x : AVal} {v : Value} {c : SX} {m : Nat} (hx : V κ x v) (h : contP z x s = some (k, c, m)) :
    m < 1000000 ∧ c.ev.list.length = m * z ∧ Sure P (Builtin.lenOf v) w (fun y w' => y = m ∧ w' = w) ∧ Sure P (Builtin.firstCells z m v) w fun y w' => w' = w ∧ y.toList = c.ev.list.map (Value.int k) := by
  unfold contP at h
  split at h
  case h_2 => cases h
  rename_i i off len cp
  split at h
  case h_2 => cases h
  rename_i l hl
  split at h
  case h_1 => cases h
  rename_i v0 r
  split at h
  case h_2 => cases h
  rename_i k' e' hs
  split at h
  case h_2 => cases h
  rename_i c' hc hm
  cases h
  obtain ⟨y, w', h1, h2, h3⟩ := cellsA_sound hr hx hl (P := P)
  obtain ⟨ns, h4, h5⟩ := intsX_sound hc h3
  have hlen : lenA (.slc i off m cp) = some m := rfl
  have h6 : c.ev.list = ns := by rw [h5]; simp [SX.ev, D.list]
  refine ⟨by simpa [Nat.blt_eq] using hm, ?_, (lenA_sound hx hlen).mono fun y w' hh => hh, .eq h1 ⟨h2, by rw [h4, h6]⟩⟩
  rw [h6]
  have h7 : y.toList.length = ns.length := by rw [h4]; simp
  rw [← h7, ← h3.length]
  simp only [cellsA, Nat.ble_eq_true_of_le (Nat.le_refl m), cond_true] at hl
  split at hl
  case h_2 => cases hl
  cases hk2 : Nat.ble (off + m * z) _ with
  | false => rw [hk2] at hl; cases hl
  | true => rw [hk2] at hl; simp only [cond_true] at hl; rw [(T.pick_spec _ _ _ _ hl).1]

theorem newP_grow (hr : Rel κ s w) (hid : id < s.next) (hk : Free κ s id) {e : Nat} {inf : TypeInfo} {z : Value} {k : IntKind} {l0 l1 : List Int} {c n : SX} {sLen sCap nx : Nat} {base : Option Addr} {ap : Sem (Array Value)} {newCap : Nat}
    (hzero : P.info? e = some inf) (hz : inf.zero = some z) (hzs : z.cells.size = inf.size) (hle : sLen + nx ≤ newCap) (h0 : l0.length = sLen * inf.size) (h1 : l1.length = nx * inf.size) (hc : c.ev.list = l0 ++ l1) (hn : ((sLen + nx : Nat) : Int) = n.ev.int)
    (hold : Sure P (Builtin.firstCells inf.size sLen (.slice base sLen sCap)) w fun y w' => w' = w ∧ y.toList = l0.map (Value.int k))
    (hnew : Sure P ap w fun y w' => w' = w ∧ y.toList = l1.map (Value.int k)) :
    Sure P (do
      let old ← Builtin.firstCells inf.size sLen (.slice base sLen sCap)
      let new ← ap
      let rest := Builtin.zeroCells (← zeroValue e).cells (newCap - (sLen + nx))
      pure (.slice (some (← newRow e (old ++ new ++ rest))) (sLen + nx) newCap) : Sem Value) w
      fun y w' => ∃ κ' : Pl, Goes (· ≠ id) κ s w κ' (newP k c n e inf.size id s).2 w' ∧ V κ' (newP k c n e inf.size id s).1 y := by
  refine hold.bind fun ov w' ⟨h2, h3⟩ => ?_
  rw [h2]
  refine hnew.bind fun nv w' ⟨h4, h5⟩ => ?_
  rw [h4]
  refine (sure_zero hzero hz).bind fun zv w' ⟨h6, h7⟩ => ?_
  rw [h6, h7]
  have o1 : ov.size = sLen * inf.size := by rw [← Array.length_toList, h3, List.length_map, h0]
  have o2 : nv.size = nx * inf.size := by rw [← Array.length_toList, h5, List.length_map, h1]
  have hs2 : (ov ++ nv ++ Builtin.zeroCells z.cells (newCap - (sLen + nx))).size = newCap * inf.size := by
    simp only [Array.size_append, zeroCells_size, hzs, o1, o2]
    rw [← Nat.add_mul, ← Nat.add_mul]; congr 1; omega
  obtain ⟨κ', k1, k2, k3⟩ := hr.bear (i := id) (o := .seq k c e) (ob := .cells (ov ++ nv ++ Builtin.zeroCells z.cells (newCap - (sLen + nx))) e (0, 0)) hid hk (some (newCap * inf.size)) (fun m hm => by cases hm; exact ⟨_, _, _, rfl, hs2⟩) fun κ' hle' _ => by
    refine .seq (by rw [hs2, hc, List.length_append, h0, h1, ← Nat.add_mul]; exact Nat.mul_le_mul_right _ hle) (fun j hj => ?_) (NF.zero _)
    rw [hc] at hj ⊢
    rw [List.length_append, h0, h1] at hj
    rw [Array.getElem?_append_left (by rw [Array.size_append, o1, o2]; exact hj), ← Array.getElem?_toList, Array.toList_append, h3, h5, ← List.map_append, List.getElem?_map]
    have : j < (l0 ++ l1).length := by rw [List.length_append, h0, h1]; exact hj
    rw [List.getElem?_eq_getElem this]; rfl
  exact ⟨_, _, rfl, κ', k3, .slv k1 rfl hn hle (fun _ h => by cases h) ⟨newCap * inf.size, k2, by omega⟩⟩

theorem newP_room (hr : Rel κ s w) (hid : id < s.next) (hk : Free κ s id) {i b len cap nx z : Nat} {k : IntKind} {ty N : Nat} {c n : SX} {l0 l1 : List Int} {cs : Array Value} {fz : Nat × Nat} {nv : Array Value} (hl : s.may i) (hb : κ i = some b)
    (hh : w.heap[b]? = some (.cells cs ty fz)) (nf : NF fz cs.size) (hN : κ.room b = some N) (hcap : 0 + cap * z ≤ N) (hroom : len + nx ≤ cap)
    (hold : ∀ j, j < len * z → cs[j]? = some (.int k (l0[j]?.getD 0))) (h0 : l0.length = len * z) (hnv : nv.toList = l1.map (Value.int k)) (h1 : l1.length = nx * z) (hc : c.ev.list = l0 ++ l1) (hn : ((len + nx : Nat) : Int) = n.ev.int) :
    Sure P (do storeCells ((⟨b, 0, none⟩ : Addr).add (len * z)) nv.toList; pure (.slice (some ⟨b, 0, none⟩) (len + nx) cap) : Sem Value) w
      fun y w' => ∃ κ' : Pl, Goes (· ≠ id) κ s w κ' (newP k c n ty z id { s with heap := s.heap.del i }).2 w' ∧ V κ' (newP k c n ty z id { s with heap := s.heap.del i }).1 y := by
  obtain ⟨cs2, t2, fz2, hh2, hcs⟩ := hr.room _ _ hN
  rw [hh] at hh2; cases hh2
  have hl1 : nv.toList.length = nx * z := by rw [hnv, List.length_map, h1]
  have hmul : len * z + nx * z ≤ cap * z := by rw [← Nat.add_mul]; exact Nat.mul_le_mul_right _ hroom
  have hput : 0 + len * z + 0 + nv.toList.length ≤ cs.size := by rw [hl1]; omega
  obtain ⟨κ', k1, k2, k3⟩ := hr.alias (id := id) (o := .seq k c ty) (ob := .cells (putAt cs (0 + len * z + 0) nv.toList) ty fz) hid hk hl hb
    (fun cs' t' fz' h5 => by rw [hh] at h5; cases h5; exact ⟨_, _, _, rfl, putAt_size _ _ _⟩) fun κ' hle' => by
      refine .seq (by rw [putAt_size, hc, List.length_append, h0, h1]; omega) (fun j hj => ?_) (by rw [putAt_size]; exact nf)
      rw [hc] at hj ⊢
      rw [List.length_append, h0, h1] at hj
      rw [putAt_get _ _ _ _ hput]
      by_cases hjo : j < len * z
      · rw [if_neg (by omega), List.getElem?_append_left (by omega)]
        exact hold j hjo
      · rw [if_pos (by omega), List.getElem?_append_right (by omega), hnv, List.getElem?_map]
        have e : j - (0 + len * z + 0) = j - l0.length := by omega
        have : j - l0.length < l1.length := by omega
        rw [e, List.getElem?_eq_getElem this]; rfl
  simp only [add_at]
  refine Sure.bind (R := fun _ w' => Goes (· ≠ id) κ s w κ' { s with heap := (s.heap.del i).put id (.seq k c ty) } w')
        (.eq (run_storeCells (t := ty) nv.toList 0 cs w hh nf hput (fun v hv => ?_)) k3) fun _ w' h3 => .pure ⟨κ', h3, .slv k1 rfl hn hroom (fun _ h => by cases h) ⟨N, by rw [k2]; exact hN, hcap⟩⟩
  rw [hnv] at hv
  obtain ⟨_, _, rfl⟩ := List.mem_map.1 hv
  rfl

theorem appendP_sound (ok : tb.OK P) (hr : Rel κ s w) (hid : id < s.next) (hk : Free κ s id) {t u ty : Nat} {x : AVal} {av xv : Value} {r : AVal × St}
    (ha : V κ a av) (hx : V κ x xv) (h : appendP tb t u a x id s = some r) :
    Sure P (Builtin.append_ #[t, u] ty #[av, xv]) w fun y w' => ∃ κ' : Pl, Goes (· ≠ id) κ s w κ' r.2 w' ∧ V κ' r.1 y := by
  unfold appendP at h
  split at h
  case h_2 => cases h
  rename_i e d ht hu
  split at h
  case h_2 => cases h
  rename_i inf hd hinf
  split at h
  case h_2 => cases h
  rename_i z k c1 m hz hcx
  have hi := ok.info _ _ hinf
  obtain ⟨m1, m2, m3, _⟩ := contP_sound ok hr hx hcx
  have m4 : ∀ W, Rel κ s W → Sure P (Builtin.firstCells inf.size m xv) W fun y w' => w' = W ∧ y.toList = c1.ev.list.map (Value.int k) := fun W hW => (contP_sound ok hW hx hcx).2.2.2
  have hmax : ∀ m : Nat, m < 1001000000 → ((m : Nat) : Int) ≤ IntKind.i64.max := fun m hm => by
    have : IntKind.i64.max = 9223372036854775807 := by decide
    rw [this]; omega
  have hr' := hr.drawn (w.drawn + 1)
  have eM : (SX.lit (.ofNat m)).ev.int = (m : Int) := rfl
  have e0 : (SX.lit (.ofNat 0)).ev.int = 0 := rfl
  -- nothing before
  have empty : ∀ (base : Option Addr) (s1 : St) (c n : SX), (∀ W, Rel κ s W → Goes (· ≠ id) κ s W κ s1 W) → id < s1.next → Free κ s1 id → z.cells.size = inf.size → inf.bytes ≤ 64 → c.ev.list = c1.ev.list → n.ev.int = (m : Int) → av = .slice base 0 0 → r = newP k c n e inf.size id s1 →
      (m = 0 → c1.ev.list = []) → Sure P (Builtin.append_ #[t, u] ty #[av, xv]) w fun y w' => ∃ κ' : Pl, Goes (· ≠ id) κ s w κ' r.2 w' ∧ V κ' r.1 y := by
    intro base s1 c n hgo hid1 hk1 hzs hby hcc hnn hav hre hem
    subst hav; subst hre
    have hgr : ∀ n c : Nat, c < n → n < 1001000000 → Builtin.nextslicecap n c * inf.bytes ≤ 2 ^ 48 := fun n c h1 h2 => by
      have h3 := nextslicecap_le h1
      have h4 : Builtin.nextslicecap n c * inf.bytes ≤ (2 * 1001000000 + 200) * 64 := Nat.mul_le_mul (by omega) hby
      omega
    refine append_start (ok.und _ _ ht) hi (ok.und _ _ hu) hd m3 (fun hroom => ?_) (fun hgrow => ⟨hgr _ _ hgrow (by omega), hmax _ (by omega), fun newCap hnc => ?_⟩)
    · have hnx0 : m = 0 := by omega
      refine (m4 w hr).bind fun nv w' ⟨h1, h2⟩ => ?_
      rw [h1]
      have hnil : c1.ev.list = [] := hem hnx0
      rw [hnil] at h2
      have hnv : nv.toList = [] := h2
      subst hnx0
      have g1 : Goes (· ≠ id) κ s1 w κ (newP k c n e inf.size id s1).2 w := (hgo w hr).rel.bareNew hid1 hk1 (o := .seq k c e) (hcc.trans hnil)
      have g2 : V κ (newP k c n e inf.size id s1).1 (.slice base 0 0) := .slv0 hnn (fun _ h => by cases h) (fun _ h => by cases h)
      cases base with
      | none => exact .pure ⟨κ, (hgo w hr).trans g1, g2⟩
      | some ad =>
        simp only [hnv, storeCells]
        exact .pure ⟨κ, (hgo w hr).trans g1, g2⟩
    · exact (newP_grow (l0 := []) (sCap := 0) (base := base) (hgo _ hr').rel hid1 hk1 hi hz hzs hnc (by simp) m2 hcc (by rw [Nat.zero_add, hnn])
        (by cases base with
          | none => exact .pure ⟨rfl, rfl⟩
          | some ad => simp only [Builtin.firstCells, Nat.zero_mul]; exact .pure ⟨rfl, rfl⟩) (m4 _ hr')).mono fun y w' ⟨κ', h1, h2⟩ => ⟨κ', ((hgo _ hr').trans h1).of_drawn, h2⟩
  have hem : m = 0 → c1.ev.list = [] := fun h0 => List.eq_nil_of_length_eq_zero (by rw [m2, h0, Nat.zero_mul])
  split at h
  · rename_i hcz
    simp only [Bool.and_eq_true] at hcz
    exact empty none s c1 _ (fun W hW => .refl hW) hid hk (nbeq hcz.1) (Nat.le_of_ble_eq_true hcz.2) rfl eM (ha.of_lit rfl) (by cases h; rfl) hem
  · rename_i i len z' hcz
    simp only [Bool.and_eq_true] at hcz
    have hzs : z.cells.size = inf.size := nbeq hcz.1
    have hby := Nat.le_of_ble_eq_true hcz.2
    have hgr : ∀ n c : Nat, c < n → n < 1001000000 → Builtin.nextslicecap n c * inf.bytes ≤ 2 ^ 48 := fun n c h1 h2 => by
      have h3 := nextslicecap_le h1
      have h4 : Builtin.nextslicecap n c * inf.bytes ≤ (2 * 1001000000 + 200) * 64 := Nat.mul_le_mul (by omega) hby
      omega
    split at h
    case h_2 => cases h
    rename_i k' a0 ty' hg
    split at h
    case h_2 => cases h
    rename_i hcond hlen hsm
    simp only [Bool.and_eq_true] at hcond
    have hty : ty' = e := nbeq hcond.1.1
    have hkk : k' = k := kindNo_inj (nbeq hcond.1.2)
    have hz' : z' = inf.size := nbeq hcond.2
    subst hty; subst hkk; subst hz'
    cases h
    have hlen := of_decide_eq_true (dec_eq ok hlen)
    have hlen : (a0.ev.list.length : Int) = len.ev.int * (inf.size : Int) := hlen
    have hsm := small_sound ok hsm
    have hmk := mkAdd_ev len (.lit (.ofNat m))
    rw [hmk, eM] at hsm
    rw [eM] at hmk
    have hap := mkApp_ev a0 c1
    cases ha with
    | @slv _ o l cp b _ _ _ _ x1 x2 x3 x4 x5 x6 =>
      have ho : o = 0 := by rw [e0] at x2; omega
      subst ho
      rw [← x3] at hsm hmk hlen
      have hlen : a0.ev.list.length = l * inf.size := by rw [← Int.natCast_mul] at hlen; omega
      obtain ⟨cs, fz, g1, g2, g3, g4⟩ := seq_at hr hg x1
      obtain ⟨N, hN, hcap⟩ := x6
      have hil : i < 1000000000 := hr.lt x1
      have o2 : ∀ W : World, W.heap[b]? = some (.cells cs ty' fz) → Sure P (Builtin.firstCells inf.size l (.slice (some ⟨b, 0, none⟩) l cp)) W fun y w' => w' = W ∧ y.toList = a0.ev.list.map (Value.int k') := fun W hW => by
        simp only [Builtin.firstCells]
        refine (sure_loadCellsFrom (κ := κ) hW (l * inf.size) 0 #[] ((a0.ev.list.map (Value.int k')).map .lit) (by rw [List.length_map, List.length_map]; exact hlen) fun j c hj => ?_).mono fun y w' ⟨k1, m, k2, k3⟩ => ⟨k1, by rw [k2, VL.of_lits k3]; simp⟩
        have hjn : j < l * inf.size := by
          rcases Nat.lt_or_ge j (l * inf.size) with hx | hx
          · exact hx
          · rw [List.getElem?_eq_none (by rw [List.length_map, List.length_map, hlen]; exact hx)] at hj; cases hj
        rw [List.getElem?_map, List.getElem?_map, List.getElem?_eq_getElem (by omega)] at hj
        simp only [Option.map_some, Option.some.injEq] at hj
        subst hj
        refine ⟨_, ?_, .lit _⟩
        simp only [Nat.zero_add]
        rw [g4 j (by omega), List.getElem?_eq_getElem (by omega)]; rfl
      refine append_start (ok.und _ _ ht) hi (ok.und _ _ hu) hd m3 (fun hroom => ?_) (fun hgrow => ⟨hgr _ _ hgrow (by omega), hmax _ (by omega), fun newCap hnc => ?_⟩)
      · refine (m4 w hr).bind fun nv w' ⟨h1, h2⟩ => ?_
        rw [h1]
        exact newP_room (l0 := a0.ev.list) (l1 := c1.ev.list) hr hid hk (may_of hg) x1 g1 g2 hN hcap hroom (fun j hj => g4 j (by omega)) hlen h2 m2 hap (by rw [hmk]; omega)
      · have hr2 := (hr.kill (U := fun _ => True) hil).rel.drawn (w.drawn + 1)
        refine (newP_grow (l0 := a0.ev.list) hr2 hid (hk.kill hil) hi hz hzs hnc hlen m2 hap (by rw [hmk]; omega) (o2 _ g1) (m4 _ hr')).mono fun y w' ⟨κ', h1, h2⟩ => ⟨κ', ?_, h2⟩
        exact (hr.kill hil).trans h1.of_drawn
    | @slv0 _ _ _ _ _ ad y1 y2 =>
      have hil : i < 1000000000 := by
        rcases hr.obj i _ hg with ⟨b, _, h1, _⟩ | _
        · exact hr.lt h1
        · rcases Nat.lt_or_ge i s.next with h2 | h2
          · have := hr.lim; omega
          · exact absurd (live_of hg) (hr.dead i h2)
      rw [y1] at hmk hlen
      rw [Int.zero_mul] at hlen
      have hnil : a0.ev.list = [] := List.eq_nil_of_length_eq_zero (by omega)
      exact empty ad _ _ _ (fun W hW => hW.kill hil) hid (hk.kill hil) hzs hby (by rw [hap, hnil]; rfl) (by rw [hmk]; omega) rfl rfl hem
  · cases h
end
end Go.Proofs.YtiemogegdoogaaaGreat.Eng

namespace Go.Proofs.YtiemogegdoogaaaGreat.Eng
open Go
variable [Interp]
section
variable {tb : Tab} {P : Program} {κ : Pl} {s s' : St} {w : World} {ρ : Operand → AVal} {ρ' : Operand → Value} {id : Nat} {a : AVal}
theorem sure_equalInt {d e : Nat} {k : IntKind} {x y : Int} (he : P.underlying e = some (.int k)) : Sure P (Op.equalIn (d + 1) e (.int k x) (.int k y)) w fun r w' => r = (x == y) ∧ w' = w := by
  unfold Op.equalIn
  refine (sure_und he).bind fun z w' ⟨h1, h2⟩ => ?_
  rw [h1, h2]
  simp only [if_true]
  exact .pure ⟨rfl, rfl⟩
theorem sure_guardInt {d e : Nat} {k : IntKind} {x y : Int} (he : P.underlying e = some (.int k)) : Sure P (Op.eqGuardIn (d + 1) e (.int k x) (.int k y)) w fun r w' => r = false ∧ w' = w := by
  unfold Op.eqGuardIn
  refine (sure_und he).bind fun z w' ⟨h1, h2⟩ => ?_
  rw [h1, h2]
  exact .pure ⟨rfl, rfl⟩
theorem sure_isAggInt {e : Nat} {k : IntKind} (he : P.underlying e = some (.int k)) : Sure P (isAgg e) w fun r w' => r = false ∧ w' = w := by
  unfold isAgg
  refine (sure_und he).bind fun z w' ⟨h1, h2⟩ => ?_
  rw [h1, h2]
  exact .pure ⟨rfl, rfl⟩
theorem sure_partInt {e j : Nat} {k : IntKind} {xs : Array Value} {v : Value} (he : P.underlying e = some (.int k)) (hv : xs[j]? = some v) : Sure P (part e xs j) w fun r w' => r = v ∧ w' = w := by
  unfold part
  refine (sure_isAggInt he).bind fun z w' ⟨h1, h2⟩ => ?_
  rw [h1, h2, hv]
  exact .pure ⟨rfl, rfl⟩
theorem sure_eqLoop {d e : Nat} {k : IntKind} {ns ms : List Int} (he : P.underlying e = some (.int k)) (hlen : ns.length = ms.length) : ∀ (l : List Nat), (∀ i ∈ l, i < ns.length) →
    Sure P (forIn l (none, PUnit.unit) fun i _ => (do
        let a ← part e (ns.map (Value.int k)).toArray i
        let b ← part e (ms.map (Value.int k)).toArray i
        let c ← Op.equalIn (d + 1) e a b
        if (!c) = true then pure (ForInStep.done (some false, PUnit.unit)) else do
          pure PUnit.unit
          pure (ForInStep.yield (none, PUnit.unit)) : Sem (ForInStep (Option Bool × PUnit)))) w fun r w' => r = (if (l.all fun i => ns[i]? == ms[i]?) = true then (none, ()) else (some false, ())) ∧ w' = w
  | [], _ => by rw [List.forIn_nil]; exact .pure ⟨rfl, rfl⟩
  | i :: l, hl => by
    have ih := sure_eqLoop (d := d) he hlen l fun j hj => hl j (List.mem_cons_of_mem _ hj)
    have hi := hl i (List.mem_cons_self ..)
    rw [List.forIn_cons]
    have h1 : (ns.map (Value.int k)).toArray[i]? = some (.int k ns[i]) := by simp [hi]
    have h2 : (ms.map (Value.int k)).toArray[i]? = some (.int k (ms[i]'(by omega))) := by simp [show i < ms.length by omega]
    have e3 : (ns[i]? == ms[i]?) = (ns[i] == ms[i]'(by omega)) := by
      rw [List.getElem?_eq_getElem hi, List.getElem?_eq_getElem (show i < ms.length by omega)]; rfl
    refine Sure.bind (R := fun r w' => r = (if (ns[i] == ms[i]'(by omega)) = true then ForInStep.yield (none, ()) else ForInStep.done (some false, ())) ∧ w' = w) ?_ fun r w' ⟨h3, h4⟩ => ?_
    · refine (sure_partInt he h1).bind fun z w' ⟨q1, q2⟩ => ?_
      rw [q1, q2]
      refine (sure_partInt he h2).bind fun z w' ⟨q1, q2⟩ => ?_
      rw [q1, q2]
      refine (sure_equalInt he).bind fun z w' ⟨q1, q2⟩ => ?_
      rw [q1, q2]
      cases h : (ns[i] == ms[i]'(by omega)) with
      | true => exact .pure ⟨rfl, rfl⟩
      | false => exact .pure ⟨rfl, rfl⟩
    · rw [h3, h4]
      simp only [List.all_cons, e3]
      cases h : (ns[i] == ms[i]'(by omega)) with
      | true => simpa using ih
      | false => exact .pure ⟨rfl, rfl⟩
theorem all_range {ns ms : List Int} (hlen : ns.length = ms.length) : ((List.range' 0 ns.length).all fun i => ns[i]? == ms[i]?) = decide (ns = ms) := by
  rw [Bool.eq_iff_iff, decide_eq_true_iff, List.all_eq_true]
  constructor
  · intro h
    apply List.ext_getElem?
    intro i
    by_cases hi : i < ns.length
    · exact eq_of_beq (h i (List.mem_range'.2 ⟨i, hi, by omega⟩))
    · rw [List.getElem?_eq_none (by omega), List.getElem?_eq_none (by omega)]
  · rintro rfl i _; simp
theorem sure_equalArr {d t e : Nat} {k : IntKind} {i : TypeInfo} {ns ms : List Int} (ht : P.underlying t = some (.array ns.length e)) (he : P.underlying e = some (.int k)) (hi : P.info? e = some i) (hs : i.size = 1) (hlen : ns.length = ms.length) :
    Sure P (Op.equalIn (d + 2) t (.agg (ns.map (Value.int k)).toArray) (.agg (ms.map (Value.int k)).toArray)) w fun r w' => r = decide (ns = ms) ∧ w' = w := by
  unfold Op.equalIn
  refine (sure_und ht).bind fun z w' ⟨h1, h2⟩ => ?_
  rw [h1, h2]
  simp only
  refine (sure_size hi).bind fun z w' ⟨h1, h2⟩ => ?_
  rw [h1, h2, hs]
  simp only [Nat.mul_one, Std.Legacy.Range.forIn_eq_forIn_range', Std.Legacy.Range.size, Nat.sub_zero, Nat.add_one_sub_one, Nat.div_one]
  refine (sure_eqLoop he hlen _ fun j hj => ?_).bind fun r w' ⟨h1, h2⟩ => ?_
  · obtain ⟨q, q1, q2⟩ := List.mem_range'.1 hj; omega
  · rw [h1, h2, all_range hlen]
    cases decide (ns = ms) with
    | true => exact .pure ⟨rfl, rfl⟩
    | false => exact .pure ⟨rfl, rfl⟩
theorem sure_guardLoop {d e : Nat} {k : IntKind} {ns ms : List Int} (he : P.underlying e = some (.int k)) (hlen : ns.length = ms.length) : ∀ (l : List Nat), (∀ i ∈ l, i < ns.length) →
    Sure P (forIn l (none, PUnit.unit) fun i _ => (do
        let a ← part e (ns.map (Value.int k)).toArray i
        let b ← part e (ms.map (Value.int k)).toArray i
        let c ← Op.eqGuardIn (d + 1) e a b
        if c = true then pure (ForInStep.done (some true, PUnit.unit)) else do
          pure PUnit.unit
          pure (ForInStep.yield (none, PUnit.unit)) : Sem (ForInStep (Option Bool × PUnit)))) w fun r w' => r = (none, ()) ∧ w' = w
  | [], _ => by rw [List.forIn_nil]; exact .pure ⟨rfl, rfl⟩
  | i :: l, hl => by
    have ih := sure_guardLoop (d := d) he hlen l fun j hj => hl j (List.mem_cons_of_mem _ hj)
    have hi := hl i (List.mem_cons_self ..)
    rw [List.forIn_cons]
    have h1 : (ns.map (Value.int k)).toArray[i]? = some (.int k ns[i]) := by simp [hi]
    have h2 : (ms.map (Value.int k)).toArray[i]? = some (.int k (ms[i]'(by omega))) := by simp [show i < ms.length by omega]
    refine Sure.bind (R := fun r w' => r = ForInStep.yield (none, ()) ∧ w' = w) ?_ fun r w' ⟨h3, h4⟩ => ?_
    · refine (sure_partInt he h1).bind fun z w' ⟨q1, q2⟩ => ?_
      rw [q1, q2]
      refine (sure_partInt he h2).bind fun z w' ⟨q1, q2⟩ => ?_
      rw [q1, q2]
      refine (sure_guardInt he).bind fun z w' ⟨q1, q2⟩ => ?_
      rw [q1, q2]
      exact .pure ⟨rfl, rfl⟩
    · rw [h3, h4]; exact ih
theorem sure_guardArr {d t e : Nat} {k : IntKind} {i : TypeInfo} {ns ms : List Int} (ht : P.underlying t = some (.array ns.length e)) (he : P.underlying e = some (.int k)) (hi : P.info? e = some i) (hs : i.size = 1) (hlen : ns.length = ms.length) :
    Sure P (Op.eqGuardIn (d + 2) t (.agg (ns.map (Value.int k)).toArray) (.agg (ms.map (Value.int k)).toArray)) w fun r w' => r = false ∧ w' = w := by
  unfold Op.eqGuardIn
  refine (sure_und ht).bind fun z w' ⟨h1, h2⟩ => ?_
  rw [h1, h2]
  simp only
  refine (sure_size hi).bind fun z w' ⟨h1, h2⟩ => ?_
  rw [h1, h2, hs]
  simp only [Nat.mul_one, Std.Legacy.Range.forIn_eq_forIn_range', Std.Legacy.Range.size, Nat.sub_zero, Nat.add_one_sub_one, Nat.div_one]
  refine (sure_guardLoop he hlen _ fun j hj => ?_).bind fun r w' ⟨h1, h2⟩ => ?_
  · obtain ⟨q, q1, q2⟩ := List.mem_range'.1 hj; omega
  · rw [h1, h2]; exact .pure ⟨rfl, rfl⟩
noncomputable def arrDec (fs : Facts) (k : IntKind) : List AVal → List AVal → Option Bool
  | [], [] => some true
  | a :: l, b :: m => match sxI a, sxI b with
    | some (k1, x), some (k2, y) => match Nat.beq (kindNo k1) (kindNo k) && Nat.beq (kindNo k2) (kindNo k), decB fs (.a2 .eq x y), arrDec fs k l m with
      | true, some false, some _ => some false
      | true, some true, some b => some b
      | true, none, some false => some false
      | _, _, _ => none
    | _, _ => none
  | _, _ => none
theorem arrDec_sound (ok : tb.OK P) {k : IntKind} : ∀ {l m : List AVal} {b : Bool} {vs us : List Value}, arrDec tb.facts k l m = some b → VL κ l vs → VL κ m us → ∃ ns ms : List Int, vs = ns.map (Value.int k) ∧ us = ms.map (Value.int k) ∧ ns.length = ms.length ∧ ns.length = l.length ∧ b = decide (ns = ms)
  | [], [], b, vs, us, h, hv, hu => by
    cases hv; cases hu
    simp only [arrDec, Option.some.injEq] at h
    exact ⟨[], [], rfl, rfl, rfl, rfl, by rw [← h]; rfl⟩
  | x :: l, y :: m, b, vs, us, h, hv, hu => by
    cases hv with
    | @cons _ v0 _ vs' x1 x2 =>
    cases hu with
    | @cons _ u0 _ us' y1 y2 =>
    simp only [arrDec] at h
    split at h
    case h_2 => cases h
    rename_i k1 p k2 q hx hy
    have e1 := sxI_V hx x1
    have e2 := sxI_V hy y1
    subst e1; subst e2
    have fin : ∀ b', arrDec tb.facts k l m = some b' → (Nat.beq (kindNo k1) (kindNo k) && Nat.beq (kindNo k2) (kindNo k)) = true → b = (decide (p.ev.int = q.ev.int) && b') → ∃ ns ms : List Int, Value.int k1 p.ev.int :: vs' = ns.map (Value.int k) ∧ Value.int k2 q.ev.int :: us' = ms.map (Value.int k) ∧ ns.length = ms.length ∧ ns.length = (x :: l).length ∧ b = decide (ns = ms) := fun b' hb hk he => by
      obtain ⟨ns, ms, h1, h2, h3, h4, h5⟩ := arrDec_sound ok hb x2 y2
      simp only [Bool.and_eq_true] at hk
      have k1' := kindNo_inj (nbeq hk.1)
      have k2' := kindNo_inj (nbeq hk.2)
      subst k1'; subst k2'
      refine ⟨p.ev.int :: ns, q.ev.int :: ms, by rw [h1]; rfl, by rw [h2]; rfl, by simp [h3], by simp [h4], ?_⟩
      rw [he, h5]
      by_cases hpq : p.ev.int = q.ev.int <;> simp [hpq]
    split at h
    · rename_i b' hk hd hb
      cases h
      exact fin b' hb hk (by rw [dec_eq ok hd]; rfl)
    · rename_i b' hk hd hb
      cases h
      exact fin b hb hk (by rw [dec_eq ok hd]; rfl)
    · rename_i hk hd hb
      cases h
      exact fin false hb hk (by rw [Bool.and_false])
    · cases h
  | [], _ :: _, _, _, _, h, _, _ => by cases h
  | _ :: _, [], _, _, _, h, _, _ => by cases h
noncomputable def pairEq (tb : Tab) (t : Nat) (x y : AVal) : Option Bool :=
  match x, y with
  | .agg l, .agg m => match tb.und t with
    | some (.array n e) => match tb.und e, tb.info e with
      | some (.int k), some i => match Nat.beq i.size 1 && Nat.beq l.length n with
        | true => arrDec tb.facts k l m
        | false => none
      | _, _ => none
    | _ => none
  | _, _ => none
noncomputable def symPair (tb : Tab) (op : BinOp) (t : Nat) (x y : AVal) : Option AVal :=
  match op with
  | .eql => (match pairEq tb t x y with | some b => some (.lit (.bool b)) | none => none)
  | .neq => (match pairEq tb t x y with | some b => some (.lit (.bool (!b))) | none => none)
  | _ => none
theorem pairEq_sound (ok : tb.OK P) {t : Nat} {x y : AVal} {xv yv : Value} {b : Bool} (hx : V κ x xv) (hy : V κ y yv) (h : pairEq tb t x y = some b) :
    ∃ (e : Nat) (k : IntKind) (i : TypeInfo) (ns ms : List Int), P.underlying t = some (.array ns.length e) ∧ P.underlying e = some (.int k) ∧ P.info? e = some i ∧ i.size = 1 ∧ ns.length = ms.length ∧ xv = .agg (ns.map (Value.int k)).toArray ∧ yv = .agg (ms.map (Value.int k)).toArray ∧ b = decide (ns = ms) := by
  unfold pairEq at h
  split at h
  case h_2 => cases h
  rename_i l m
  split at h
  case h_2 => cases h
  rename_i n e ht
  split at h
  case h_2 => cases h
  rename_i k i he hi
  split at h
  case h_2 => cases h
  rename_i hc
  simp only [Bool.and_eq_true] at hc
  cases hx with
  | agg hl =>
  cases hy with
  | agg hm =>
  obtain ⟨ns, ms, h1, h2, h3, h4, h5⟩ := arrDec_sound ok h hl hm
  subst h1; subst h2
  have hn : n = ns.length := by rw [h4, nbeq hc.2]
  subst hn
  exact ⟨e, k, i, ns, ms, ok.und _ _ ht, ok.und _ _ he, ok.info _ _ hi, nbeq hc.1, h3, rfl, rfl, h5⟩
theorem symPair_sound (ok : tb.OK P) (hr : Rel κ s w) {o : Oper} {op : BinOp} {t u : TypeId} {x y : Operand} (ho : o.op = .binOp op t x y u) (hρ : ∀ x, V κ (ρ x) (ρ' x))
    (h : symPair tb op t (ρ x) (ρ y) = some a) : Sure P (execOp ρ' o) w (Yield κ s w id a s) := by
  have key : ∀ b, pairEq tb t (ρ x) (ρ y) = some b → (op = .eql ∨ op = .neq) → Sure P (do eqGuard op t x y (ρ' x) (ρ' y); binOp op t (ρ' x) (ρ' y) : Sem Value) w fun r w' => r = .bool (if op = .eql then b else !b) ∧ w' = w := fun b hb hop => by
    obtain ⟨e, k, i, ns, ms, ht, he, hi, hs, hlen, hx, hy, hbb⟩ := pairEq_sound ok (hρ x) (hρ y) hb
    rw [hx, hy]
    refine Sure.bind (R := fun _ w' => w' = w) ?_ fun _ w' hw => ?_
    · unfold eqGuard
      rcases hop with h | h <;> subst h
      all_goals
        simp only [Bool.not_true, Bool.false_eq_true, if_false]
        refine Sure.bind (R := fun pr w' => pr = P ∧ w' = w) (.eq rfl ⟨rfl, rfl⟩) fun pr w' ⟨h1, h2⟩ => ?_
        rw [h1, h2]
        refine Sure.bind (R := fun pr w' => pr = P ∧ w' = w) (.eq rfl ⟨rfl, rfl⟩) fun pr w' ⟨h1, h2⟩ => ?_
        rw [h1, h2]
        split
        · exact .pure rfl
        · refine (sure_guardArr (d := 9998) ht he hi hs hlen).bind fun r w' ⟨h1, h2⟩ => ?_
          rw [h1, h2]; exact .pure rfl
    · rw [hw]
      rcases hop with h | h <;> subst h
      · unfold binOp
        refine (sure_equalArr (d := 9998) ht he hi hs hlen).bind fun r w' ⟨h1, h2⟩ => ?_
        rw [h1, h2, ← hbb]; exact .pure ⟨rfl, rfl⟩
      · unfold binOp
        refine (sure_equalArr (d := 9998) ht he hi hs hlen).bind fun r w' ⟨h1, h2⟩ => ?_
        rw [h1, h2, ← hbb]; exact .pure ⟨rfl, rfl⟩
  have fin : ∀ b, pairEq tb t (ρ x) (ρ y) = some b → (op = .eql ∨ op = .neq) → a = .lit (.bool (if op = .eql then b else !b)) → Sure P (execOp ρ' o) w (Yield κ s w id a s) := fun b hb hop ha => by
    unfold execOp
    rw [ho]
    obtain ⟨v, w', hv, h1, h2⟩ := key b hb hop
    refine .eq (a := .value v) (w' := w) ?_ (.same hr (by rw [h1, ha]; exact .lit _))
    rw [h2] at hv
    change (Sem.bind (do eqGuard op t x y (ρ' x) (ρ' y); binOp op t (ρ' x) (ρ' y) : Sem Value) fun v => .pure (Next.value v)).run P w = _
    rw [run_bind', hv]
    rfl
  unfold symPair at h
  split at h
  · split at h
    · rename_i b hb; cases h; exact fin b hb (.inl rfl) rfl
    · cases h
  · split at h
    · rename_i b hb; cases h; exact fin b hb (.inr rfl) rfl
    · cases h
  · cases h
end
end Go.Proofs.YtiemogegdoogaaaGreat.Eng

namespace Go.Proofs.YtiemogegdoogaaaGreat.Eng
open Go
variable [Interp]

noncomputable def cntK : List Int → Int → Nat → Nat
  | [], _, n => n
  | y :: l, x, n => cntK l x (bif ieq (lowB y) (lowB x) then Nat.succ n else n)
noncomputable def mkCnt (c x : SX) : SX :=
  match c, x with
  | .str xs, .lit n => .lit (.ofNat (cntK xs n 0))
  | c, x => .a2 .cnt c x

noncomputable def extA (fs : Facts) (x : Ext) (args : List AVal) (s : St) : Option AVal :=
  match x, args with
  | .count, [b, c] => match sxI c, contX fs .u8 b s with
    | some (.u8, e), some (l, _) => some (mkI .i64 (mkCnt l e))
    | _, _ => none
  | _, _ => none

section
variable {tb : Tab} {P : Program} {κ : Pl} {s s' : St} {w : World} {id : Nat} {a : AVal}

theorem cntK_eq (x : Int) : ∀ (l : List Int) (n : Nat), cntK l x n = (l.map fun n => UInt8.ofNat n.toNat).foldl (fun (n : Nat) y => if y == UInt8.ofNat x.toNat then n + 1 else n) n
  | [], n => rfl
  | y :: l, n => by
    simp only [cntK, List.map_cons, List.foldl_cons]
    rw [cntK_eq x l]
    congr 1
    have e : ieq (lowB y) (lowB x) = (UInt8.ofNat y.toNat == UInt8.ofNat x.toNat) := by
      rw [ieq_iff, lowB_eq, lowB_eq, Bool.eq_iff_iff, decide_eq_true_iff, beq_iff_eq]
      exact ⟨fun h => UInt8.toNat_inj.1 (Int.ofNat_inj.1 h), fun h => by rw [h]⟩
    rw [e]
    cases (UInt8.ofNat y.toNat == UInt8.ofNat x.toNat) <;> rfl

theorem mkCnt_ev (c x : SX) : (mkCnt c x).ev.int = cntL c.ev.list x.ev.int := by
  unfold mkCnt
  split
  · simp only [SX.ev, D.int, D.list, cntL, cntK_eq]; rfl
  · rfl

theorem foldl_cast (p : UInt8 → Bool) : ∀ (l : List UInt8) (k : Nat), ((l.foldl (fun (n : Nat) y => if p y then n + 1 else n) k : Nat) : Int) = l.foldl (fun (n : Int) y => if p y then n + 1 else n) (k : Int)
  | [], _ => rfl
  | y :: l, k => by
    simp only [List.foldl_cons]
    rw [foldl_cast p l]
    by_cases h : p y = true
    · rw [if_pos h, if_pos h]; rfl
    · rw [if_neg h, if_neg h]

theorem loadBytes_run {b o : Nat} {w w' : World} : ∀ (n i : Nat) (acc y : Array Value) (ba : ByteArray) (ns : List Int), (loadCellsFrom ⟨b, o, none⟩ i n acc).run P w = .ok y w' → y.toList = acc.toList ++ ns.map (Value.int .u8) →
    (Extern.Bytes.loadBytes ⟨b, o + i, none⟩ n ba).run P w = .ok ⟨ba.data ++ (ns.map fun n => UInt8.ofNat n.toNat).toArray⟩ w
  | 0, i, acc, y, ba, ns, h, hy => by
    change Result.ok acc w = _ at h
    cases h
    have : ns = [] := by
      have := congrArg List.length hy
      simp at this
      exact this
    subst this
    change Result.ok ba w = _
    simp
  | n + 1, i, acc, y, ba, ns, h, hy => by
    simp only [loadCellsFrom, add_at] at h
    obtain ⟨v, w1, h1, h2⟩ := run_bind_ok h
    have := load_world h1
    subst this
    have hpre : ∀ (n i : Nat) (acc y : Array Value) (w w' : World), (loadCellsFrom ⟨b, o, none⟩ i n acc).run P w = .ok y w' → ∃ r : List Value, y.toList = acc.toList ++ r ∧ r.length = n := by
      intro n
      induction n with
      | zero => intro i acc y w w' h; change Result.ok acc w = _ at h; cases h; exact ⟨[], by simp, rfl⟩
      | succ n ih =>
        intro i acc y w w' h
        simp only [loadCellsFrom] at h
        obtain ⟨v, w1, h1, h2⟩ := run_bind_ok h
        obtain ⟨r, r1, r2⟩ := ih _ _ _ _ _ h2
        exact ⟨v :: r, by rw [r1]; simp, by simp [r2]⟩
    obtain ⟨r, r1, r2⟩ := hpre _ _ _ _ _ _ h2
    have hyr : v :: r = ns.map (Value.int .u8) := by
      rw [r1, Array.toList_push, List.append_assoc] at hy
      exact List.append_cancel_left hy
    cases ns with
    | nil => cases hyr
    | cons m ns =>
      simp only [List.map_cons, List.cons.injEq] at hyr
      obtain ⟨e1, e2⟩ := hyr
      subst e1
      have ih := loadBytes_run n (i + 1) _ y (ba.push (UInt8.ofNat m.toNat)) ns h2 (by rw [r1, e2])
      unfold Extern.Bytes.loadBytes
      change (Sem.bind (load ⟨b, o + i, none⟩) fun v => _).run P _ = _
      rw [run_bind', h1]
      simp only [add_at]
      have e3 : o + i + 1 = o + (i + 1) := by omega
      rw [e3]
      refine ih.trans ?_
      congr 2
      simp [ByteArray.push]

theorem sure_bytesOf (ok : tb.OK P) (hr : Rel κ s w) {x : AVal} {v : Value} {c n : SX} (hx : V κ x v) (h : contX tb.facts .u8 x s = some (c, n)) :
    Sure P (Extern.Bytes.bytesOf v) w fun y w' => y = bytesOf c.ev.list ∧ w' = w := by
  obtain ⟨m, m1, m2, m3, m4⟩ := contX_sound ok hr hx h
  have main : ∀ (b o L C : Nat), v = .slice (some ⟨b, o, none⟩) L C → Sure P (Extern.Bytes.bytesOf v) w fun y w' => y = bytesOf c.ev.list ∧ w' = w := by
    intro b o L C hv
    subst hv
    have hL : L = m := by obtain ⟨y, w', q1, q2, _⟩ := m3; cases q1; exact q2
    subst hL
    obtain ⟨y, w', q1, q2, q3⟩ := m4
    simp only [Builtin.firstCells, Nat.mul_one] at q1
    have := loadBytes_run L 0 #[] y .empty c.ev.list q1 (by simpa using q3)
    refine .eq (w' := w) this ⟨?_, rfl⟩
    unfold bytesOf
    congr 1
    simp [ByteArray.empty, ByteArray.emptyWithCapacity]
    rfl
  have empty : ∀ (a : Option Addr), v = .slice a 0 0 → Sure P (Extern.Bytes.bytesOf v) w fun y w' => y = bytesOf c.ev.list ∧ w' = w := by
    intro a hv
    subst hv
    have hm : 0 = m := by obtain ⟨y, w', q1, q2, _⟩ := m3; cases q1; exact q2
    subst hm
    have hnil : c.ev.list = [] := List.eq_nil_of_length_eq_zero m2
    rw [hnil]
    cases a with
    | none => exact .pure ⟨rfl, rfl⟩
    | some a => exact .pure ⟨rfl, rfl⟩
  cases hx with
  | slv x1 x2 x3 x4 x5 x6 => exact main _ _ _ _ rfl
  | slv0 y1 y2 => exact empty _ rfl
  | slc x => exact main _ _ _ _ rfl
  | slu x y z => exact main _ _ _ _ rfl
  | lit _ =>
    unfold contX at h
    split at h <;> first | (cases h; done) | skip
    all_goals first | (rename_i e; cases e; done) | skip
    · rename_i e; cases e; exact empty none rfl
    · rename_i b e
      cases e
      split at h
      case h_2 => cases h
      cases h
      exact .pure ⟨(bytesOf_ints b).symm, rfl⟩
  | _ => simp only [contX] at h; cases h

theorem extA_sound (ok : tb.OK P) (hr : Rel κ s w) {x : Ext} {args : List AVal} {vs : List Value} (hv : VL κ args vs) (h : extA tb.facts x args s = some a) :
    Sure P (x.sem vs.toArray) w fun y w' => w' = w ∧ V κ a y := by
  unfold extA at h
  split at h
  · rename_i b c
    split at h
    case h_2 => cases h
    rename_i e l n hc hb
    cases h
    cases hv with
    | @cons _ bv _ _ hbv hv =>
    cases hv with
    | @cons _ cv _ _ hcv hv =>
    cases hv
    rw [sxI_V hc hcv]
    change Sure P (Extern.BytealgCount.count #[bv, .int .u8 e.ev.int]) w _
    unfold Extern.BytealgCount.count
    refine (sure_bytesOf ok hr hbv hb).bind fun y w' ⟨h1, h2⟩ => ?_
    rw [h1, h2]
    refine Sure.bind (R := fun y w' => y = UInt8.ofNat e.ev.int.toNat ∧ w' = w) (.pure ⟨rfl, rfl⟩) fun y w' ⟨h1, h2⟩ => ?_
    rw [h1, h2]
    refine .pure ⟨rfl, ?_⟩
    have := mkI_V (κ := κ) .i64 (mkCnt l e)
    rw [mkCnt_ev] at this
    have e2 : cntL l.ev.list e.ev.int = (bytesOf l.ev.list).foldl (fun (n : Int) x => if x == UInt8.ofNat e.ev.int.toNat then n + 1 else n) ((0 : Nat) : Int) := by
      rw [Lib.foldl_data]
      unfold cntL bytesOf
      exact foldl_cast _ _ 0
    rw [e2] at this
    exact this
  · cases h

theorem callExt_sound (ok : tb.OK P) (hr : Rel κ s w) {f : Nat} {x : Ext} {args : List AVal} {vs : List Value} (hx : tb.ext f = some x) (hv : VL κ args vs) (h : extA tb.facts x args s = some a) :
    Sure P (callFunc f vs.toArray) w (Yield κ s w id a s) := by
  obtain ⟨F, h1, h2, h3, h4, h5⟩ := ok.ext f x hx
  unfold callFunc
  refine Sure.bind (R := fun p w' => p = P ∧ w' = w) (.eq rfl ⟨rfl, rfl⟩) fun p w' ⟨e1, e2⟩ => ?_
  rw [e1, e2, h1]
  simp only [h2, h3, Bool.false_eq_true, if_false, if_true, h4, h5]
  refine Sure.bind (R := fun _ w' => w' = w) (.eq (a := ()) rfl rfl) fun _ w' e2 => ?_
  rw [e2]
  exact sure_value ((extA_sound ok hr hv h).mono fun v w' ⟨h1, h2⟩ => by rw [h1]; exact .same hr h2)
end
end Go.Proofs.YtiemogegdoogaaaGreat.Eng

namespace Go.Proofs.YtiemogegdoogaaaGreat.Eng
open Go
variable [Interp]

noncomputable def symMin (fs : Facts) (x y : AVal) : Option AVal :=
  match sxI x, sxI y with
  | some (k, a), some (_, b) => match decB fs (.a2 .lt b a) with
    | some true => some (mkI k b)
    | some false => some (mkI k a)
    | none => some (.si k (.a2 .mn a b))
  | _, _ => none
noncomputable def symMax (fs : Facts) (x y : AVal) : Option AVal :=
  match sxI x, sxI y with
  | some (k, a), some (_, b) => match decB fs (.a2 .lt a b) with
    | some true => some (mkI k b)
    | some false => some (mkI k a)
    | none => some (.si k (.a2 .mx a b))
  | _, _ => none

noncomputable def symField (tb : Tab) (t : Nat) (x : AVal) (n : Nat) : Option AVal :=
  match x, tb.und t with
  | .ptv i off, some (.struct fs) => match fs[n]? with
    | some f => match tb.info f.type with
      | some fi => match Nat.beq fi.size 0 with
        | true => none
        | false => some (.ptv i (mkAdd off (.lit (.ofNat f.offset))))
      | none => none
    | none => none
  | _, _ => none

noncomputable def withSt (s : St) : Option AVal → Option (AVal × St)
  | some a => some (a, s)
  | none => none

noncomputable def mapLen (tb : Tab) (t : Nat) (x : AVal) (s : St) : Option AVal :=
  match tb.und t, x with
  | some (.map _ _), .mp i => match s.heap.get i with
    | some (.map es) => some (.lit (.int .i64 (.ofNat es.length)))
    | _ => none
  | _, _ => none
section
variable {tb : Tab} {P : Program} {κ : Pl} {s : St} {w : World} {a : AVal}
theorem mapLen_sound (ok : tb.OK P) (hr : Rel κ s w) {t u : Nat} {x : AVal} {v : Value} (hx : V κ x v) (h : mapLen tb t x s = some a) :
    Sure P (Builtin.len_ #[t] u #[v]) w fun y w' => w' = w ∧ V κ a y := by
  unfold mapLen at h
  split at h
  case h_2 => cases h
  rename_i kt et i hund
  split at h
  case h_2 => cases h
  rename_i es hg
  cases h
  cases hx with
  | @mp _ b hb =>
  obtain ⟨ob, q1, q2⟩ := hr.on hg hb
  cases q2 with
  | @map _ mm clock m1 m2 =>
  have e : es.length = mm.size := by
    have := m1.length
    rw [List.length_map, List.length_map, Array.length_toList] at this; exact this
  unfold Builtin.len_
  simp only [List.getElem?_toArray, List.getElem?_cons_zero]
  refine (sure_und (ok.und _ _ hund)).bind fun d w' ⟨h1, h2⟩ => ?_
  rw [h1, h2]
  refine (sure_getMap q1).bind fun d w' ⟨h1, h2⟩ => ?_
  rw [h1, h2, e]
  exact .pure ⟨rfl, .lit _⟩
end

noncomputable def symCall (tb : Tab) (ρ : Operand → AVal) (c : Call) (id : Nat) (s : St) : Option (AVal × St) :=
  match c.callee with
  | .builtin b => match b, c.argTypes.toList, c.args.toList.map ρ with
    | .len, [t], [x] => match symLen tb t x with
      | some a => some (a, s)
      | none => withSt s (mapLen tb t x s)
    | .cap, [t], [x] => withSt s (symCap tb t x)
    | .append, [t, u], [a, x] => match appendZ tb t u a x id s with
      | some r => some r
      | none => match appendS tb t u a x id s with
        | some r => some r
        | none => appendP tb t u a x id s
    | .copy, t :: _, [a, x] => symCopy tb t a x s
    | .min, _, [x, y] => withSt s (symMin tb.facts x y)
    | .max, _, [x, y] => withSt s (symMax tb.facts x y)
    | _, _, _ => none
  | _ => none

noncomputable def nonNil (fs : Facts) : AVal → Bool
  | .slv _ _ len cap _ => (match decB fs (.a2 .lt (.lit (.ofNat 0)) len) with | some b => b | none => false) ||
      match cap with | some c => (match c with | .a2 .pair _ _ => true | .str [] => true | c => match decB fs (.a2 .lt (.lit (.ofNat 0)) c) with | some b => b | none => false) | none => false
  | _ => false
noncomputable def isNilS : AVal → Bool
  | .lit (.slice none _ _) => true
  | _ => false
noncomputable def nilSA (tb : Tab) (t : Nat) (x y : AVal) : Bool :=
  match tb.und t with
  | some (.slice _) => (nonNil tb.facts x && isNilS y) || (isNilS x && nonNil tb.facts y)
  | _ => false
noncomputable def nilSB (tb : Tab) (op : BinOp) (t : Nat) (x y : AVal) : Option AVal :=
  match op with
  | .eql => bif nilSA tb t x y then some (.lit (.bool false)) else none
  | .neq => bif nilSA tb t x y then some (.lit (.bool true)) else none
  | _ => none
section
variable {tb : Tab} {P : Program} {κ : Pl} {s : St} {w : World} {a : AVal} {id : Nat} {ρ : Operand → AVal} {ρ' : Operand → Value}
theorem nonNil_V (ok : tb.OK P) {x : AVal} {v : Value} (hx : V κ x v) (h : nonNil tb.facts x = true) : ∃ ad n c, v = .slice (some ad) n c := by
  unfold nonNil at h
  split at h
  case h_2 => cases h
  rename_i i off len cap z
  simp only [Bool.or_eq_true] at h
  cases hx with
  | slv => exact ⟨_, _, _, rfl⟩
  | @slv0 _ _ _ _ _ ad y1 y2 y3 =>
    have key : ad ≠ none := by
      rcases h with h | h
      · split at h
        · rename_i b hb
          subst h
          have h1 : (SX.lit (.ofNat 0)).ev.int < len.ev.int := of_decide_eq_true (dec_lt ok hb)
          rw [y1] at h1
          exact absurd h1 (Int.lt_irrefl 0)
        · cases h
      · split at h
        · rename_i c
          split at h
          · exact y3 _ rfl rfl
          · exact y3 _ rfl rfl
          · split at h
            · rename_i b hb
              subst h
              have h1 : (SX.lit (.ofNat 0)).ev.int < c.ev.int := of_decide_eq_true (dec_lt ok hb)
              rw [y2 _ rfl] at h1
              exact absurd h1 (Int.lt_irrefl 0)
            · cases h
        · cases h
    cases ad with
    | none => exact absurd rfl key
    | some ad => exact ⟨_, _, _, rfl⟩
theorem isNilS_V {x : AVal} {v : Value} (hx : V κ x v) (h : isNilS x = true) : ∃ n c, v = .slice none n c := by
  unfold isNilS at h
  split at h
  · exact ⟨_, _, hx.of_lit rfl⟩
  · cases h
theorem nilSA_cases (ok : tb.OK P) {t : Nat} {x y : AVal} {xv yv : Value} (hx : V κ x xv) (hy : V κ y yv) (h : nilSA tb t x y = true) :
    ∃ e, tb.und t = some (.slice e) ∧ ((∃ ad n c m d, xv = .slice (some ad) n c ∧ yv = .slice none m d) ∨ ∃ ad n c m d, yv = .slice (some ad) n c ∧ xv = .slice none m d) := by
  unfold nilSA at h
  split at h
  case h_2 => cases h
  rename_i e hund
  refine ⟨e, hund, ?_⟩
  simp only [Bool.or_eq_true, Bool.and_eq_true] at h
  rcases h with ⟨h1, h2⟩ | ⟨h1, h2⟩
  · obtain ⟨ad, n, c, e1⟩ := nonNil_V ok hx h1
    obtain ⟨m, d, e2⟩ := isNilS_V hy h2
    exact .inl ⟨ad, n, c, m, d, e1, e2⟩
  · obtain ⟨ad, n, c, e1⟩ := nonNil_V ok hy h2
    obtain ⟨m, d, e2⟩ := isNilS_V hx h1
    exact .inr ⟨ad, n, c, m, d, e1, e2⟩
theorem nilSA_sound (ok : tb.OK P) {t : Nat} {x y : AVal} {xv yv : Value} (hx : V κ x xv) (hy : V κ y yv) (h : nilSA tb t x y = true) :
    Sure P (Op.equal t xv yv) w fun b w' => b = false ∧ w' = w := by
  rw [equal_at, Op.equalIn]
  obtain ⟨e, hund, hc⟩ := nilSA_cases ok hx hy h
  refine (sure_und (ok.und _ _ hund)).bind fun d w' ⟨h1, h2⟩ => ?_
  rw [h1, h2]
  rcases hc with ⟨ad, n, c, m, d, e1, e2⟩ | ⟨ad, n, c, m, d, e1, e2⟩ <;> subst e1 <;> subst e2 <;> exact .pure ⟨rfl, rfl⟩
theorem guard_nilS (ok : tb.OK P) {t : Nat} {x y : AVal} {xv yv : Value} {p q : Operand} (hx : V κ x xv) (hy : V κ y yv) (h : nilSA tb t x y = true) (neq : Bool) :
    (do eqGuard (if neq then .neq else .eql) t p q xv yv; binOp (if neq then .neq else .eql) t xv yv : Sem Value) =
      Op.equal t xv yv >>= fun b => (Pure.pure (.bool (bif neq then !b else b)) : Sem Value) := by
  obtain ⟨e, hund, hc⟩ := nilSA_cases ok hx hy h
  rcases hc with ⟨ad, n, c, m, d, e1, e2⟩ | ⟨ad, n, c, m, d, e1, e2⟩ <;> subst e1 <;> subst e2 <;> cases neq <;> rfl
theorem nilSB_sound {o : Oper} {op : BinOp} {t u : Nat} {x y : Operand} (ok : tb.OK P) (hr : Rel κ s w) (ho : o.op = .binOp op t x y u)
    (hx : V κ (ρ x) (ρ' x)) (hy : V κ (ρ y) (ρ' y)) (h : nilSB tb op t (ρ x) (ρ y) = some a) : Sure P (execOp ρ' o) w (Yield κ s w id a s) := by
  have main : ∀ neq : Bool, op = (if neq then .neq else .eql) → nilSA tb t (ρ x) (ρ y) = true → a = .lit (.bool neq) → Sure P (execOp ρ' o) w (Yield κ s w id a s) := fun neq e1 e2 e3 => by
    subst e1; subst e3
    unfold execOp; rw [ho]
    refine sure_value ?_
    rw [guard_nilS ok hx hy e2 neq]
    refine (nilSA_sound ok hx hy e2).bind fun b w' ⟨h1, h2⟩ => ?_
    rw [h1, h2]
    cases neq <;> exact .pure (Yield.same hr (.lit _))
  unfold nilSB at h
  split at h
  · cases hb : nilSA tb t (ρ x) (ρ y) with
    | false => rw [hb] at h; cases h
    | true => rw [hb] at h; cases h; exact main false rfl hb rfl
  · cases hb : nilSA tb t (ρ x) (ρ y) with
    | false => rw [hb] at h; cases h
    | true => rw [hb] at h; cases h; exact main true rfl hb rfl
  · cases h
end

noncomputable def symA (tb : Tab) (ρ : Operand → AVal) (o : Oper) (id : Nat) (s : St) : Option (AVal × St) :=
  match o.op with
  | .binOp op t x y _ => match nilSB tb op t (ρ x) (ρ y) with
    | some a => some (a, s)
    | none => match symBin tb.facts op (ρ x) (ρ y) with
      | some a => some (a, s)
      | none => withSt s (symPair tb op t (ρ x) (ρ y))
  | .unOp op _ x => withSt s (symUn tb.facts op (ρ x))
  | .convert sr d x => match symConv tb sr d (ρ x) with
    | some a => some (a, s)
    | none => withSt s (symStr8 tb sr d (ρ x) s)
  | .pick c x y => match sxB (ρ c) with
    | some e => match decB tb.facts e with
      | some b => some (bif b then ρ x else ρ y, s)
      | none => none
    | none => none
  | .nilCheck x => match ρ x with
    | .ptv i off => some (.ptv i off, s)
    | _ => none
  | .indexAddr t x y => withSt s (symIdx tb t (ρ x) (ρ y))
  | .fieldAddr t x n => withSt s (symField tb t (ρ x) n)
  | .load t x => withSt s (symLoad tb t (ρ x) s)
  | .store t x y => match symStore tb t (ρ x) (ρ y) s with
    | some s' => some (.lit undef, s')
    | none => none
  | .slice t x lo hi mx => withSt s (symSlice tb t (ρ x) (lo.map ρ) (hi.map ρ) (mx.map ρ))
  | .makeSlice t l c => symMake tb t (ρ l) (ρ c) id s
  | .makeMap _ none => some (makeMapA id s)
  | .insert t m k v => match mapUpdateA tb t (ρ m) (ρ k) (ρ v) s with
    | some s' => some (.lit undef, s')
    | none => none
  | .mapUpdate t m k v => match mapUpdateA tb t (ρ m) (ρ k) (ρ v) s with
    | some s' => some (.lit undef, s')
    | none => none
  | .lookup t m k c => withSt s (lookupA tb t (ρ m) (ρ k) c s)
  | .call c => symCall tb ρ c id s
  | _ => none
end Go.Proofs.YtiemogegdoogaaaGreat.Eng

