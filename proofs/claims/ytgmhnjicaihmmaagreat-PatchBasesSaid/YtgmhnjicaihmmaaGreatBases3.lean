/- PatchBases returns true at every input, given that its examples hold. No condition beyond the cells of what came in. -/
import Derived.Test.YtgmhnjicaihmmaaGreatBases2
set_option linter.unusedVariables false
set_option linter.unusedSimpArgs false
set_option maxRecDepth 100000
namespace Go.Proofs.YtgmhnjicaihmmaaGreat.Sy
open Go Go.Proofs.YtgmhnjicaihmmaaGreat.Eng Go.Proofs
theorem bytesOf_eq {l m : List Int} (h : bytesOf l = bytesOf m) : l.map (fun n => UInt8.ofNat n.toNat) = m.map fun n => UInt8.ofNat n.toNat := by
  unfold bytesOf at h
  have := congrArg (fun b => b.data.toList) h
  simpa using this
section
variable {I : Interp}
theorem tr_eqL {J : Interp} {x y : SX} {b : Bool} : (@SX.ev J (.a2 .eqL x y)).tr = b ↔ decide (bytesOf (@SX.ev J x).list = bytesOf (@SX.ev J y).list) = b := by
  rw [show (@SX.ev J (.a2 .eqL x y)).tr = _ from D.tr_ofB _]
theorem bL_ok [WinI I] : ∀ l ∈ bL, l.Valid I := by
  intro l hl
  simp only [bL, List.mem_cons, List.not_mem_nil, or_false] at hl
  rcases hl with rfl | rfl | rfl | rfl | rfl
  · intro v h
    simp only [zeroE, holds_cons, holds_nil, and_true, fact_eq, decide_eq_true_eq] at h
    have h1 : ((v 0).list.length : Int) = 0 := h
    have h2 : (v 0).list = [] := List.eq_nil_of_length_eq_zero (by omega)
    simp only [holds_cons, holds_nil, and_true]
    refine tr_eqL.2 (decide_eq_true ?_)
    change bytesOf [] = bytesOf (v 0).list
    rw [h2]
  · intro v h
    simp only [mark4, bN, holds_cons, holds_nil, and_true, fact_lt, tr_eqL, decide_eq_true_eq, decide_eq_false_iff_not] at h ⊢
    obtain ⟨h1, h2⟩ := h
    have h2 : ¬ ((v 0).list.length : Int) < 4 := h2
    have h1 : bytesOf (cutL (v 0).list 0 4) = bytesOf [80, 77, 84, 68] := h1
    intro h3
    have h3 : bytesOf (cutL (v 0).list 1 5) = bytesOf [80, 77, 84, 68] := h3
    have e1 := bytesOf_eq h1
    have e3 := bytesOf_eq h3
    match hl : (v 0).list with
    | [] => rw [hl] at h2; simp at h2
    | [_] => rw [hl] at h2; simp at h2
    | a :: b :: r =>
      rw [hl] at e1 e3
      simp only [cutL, List.map_cons, List.map_nil] at e1 e3
      have q1 : UInt8.ofNat b.toNat = UInt8.ofNat (77 : Int).toNat := by
        have := congrArg (fun x => x[1]?) e1
        simpa [List.take] using this
      have q3 : UInt8.ofNat b.toNat = UInt8.ofNat (80 : Int).toNat := by
        have := congrArg (fun x => x[0]?) e3
        simpa [List.take] using this
      rw [q1] at q3
      exact absurd q3 (by decide)
  · intro v h
    simp only [mark4, bN, holds_cons, holds_nil, and_true, fact_lt, tr_eqL, decide_eq_true_eq, decide_eq_false_iff_not] at h ⊢
    obtain ⟨h1, h2, h3⟩ := h
    have h2 : ¬ ((v 0).list.length : Int) < 4 := h2
    have h3 : ((v 0).list.length : Int) - 1 < 4 := h3
    have h1 : bytesOf (cutL (v 0).list 0 4) = bytesOf [80, 77, 84, 68] := h1
    change bytesOf (v 0).list = bytesOf [80, 77, 84, 68]
    rw [← h1]
    unfold cutL
    rw [show (0 : Int).toNat = 0 from rfl, show (4 : Int).toNat = 4 from rfl, List.drop_zero, List.take_of_length_le (by omega)]
  · exact bndL_ok
  · intro v h
    simp only [zeroE, bN, holds_cons, holds_nil, and_true, fact_lt, fact_eq, decide_eq_true_eq, decide_eq_false_iff_not] at h ⊢
    have h1 : ¬ ((v 0).list.length : Int) = 0 := h
    change (0 : Int) < ((v 0).list.length : Int)
    omega
theorem kL_ok [WinI I] (hk : ConGood (fun _ => none) tb Tryz.prog I cKw) : ∀ c ∈ kL, ConGood (fun _ => none) tb Tryz.prog I c :=
  List.forall_mem_cons.2 ⟨cCloneZ_ok, List.forall_mem_cons.2 ⟨cPW_ok, List.forall_mem_cons.2 ⟨cRW_ok, List.forall_mem_cons.2 ⟨cPB_ok, List.forall_mem_cons.2 ⟨cRB_ok, List.forall_mem_cons.2 ⟨hk, fun _ h => by cases h⟩⟩⟩⟩⟩⟩
noncomputable def tNum : ST := .br bp1 .leaf (.br bp2 .leaf (.br bp3 .leaf (.br bp4 .leaf (.lem 3 .leaf))))
noncomputable def tBase : ST := .br zeroE (.lem 0 tNum) (.br (.a2 .lt bN (.lit 4)) (.lem 4 tNum) (.br mark4 (.br (.a2 .lt (.a2 .sub bN (.lit 1)) (.lit 4)) (.lem 2 tNum) (.lem 1 tNum)) tNum))
theorem law_bases [WinI I] [UpI I] (hk : ConGood (fun _ => none) tb Tryz.prog I cKw) : ConGood (fun _ => none) tb Tryz.prog I (cB bF) :=
  con_allM (d := 60) (l := kL) (lps := [lUp]) tb_ok (kL_ok hk) (List.forall_mem_cons.2 ⟨lUp_ok, fun _ h => by cases h⟩) (L := lemL bL) (fun v => lemL_ok bL_ok v) (t := tBase) (by kernel_rfl)
theorem law_long [WinI I] [UpI I] (hk : ConGood (fun _ => none) tb Tryz.prog I cKw) : ConGood (fun _ => none) tb Tryz.prog I (cB [(.a2 .lt (.lit 300) bN, true)]) :=
  con_allM (d := 60) (l := kL) (lps := [lUp]) tb_ok (kL_ok hk) (List.forall_mem_cons.2 ⟨lUp_ok, fun _ h => by cases h⟩) (L := lemL bL) (fun v => lemL_ok bL_ok v) (t := .leaf) (by kernel_rfl)
end
@[reducible] noncomputable def meaningB (v : Nat → D) : Interp := ⟨v, fun _ x => .i (winN x.int), fun n x y => if n = 51 then .i (idxW x.int y.int) else upD (x.list.length - y.int.toNat) y.int x, fun _ _ _ _ => .i 0⟩
instance (v : Nat → D) : WinI (meaningB v) := ⟨fun _ => rfl, fun _ _ => rfl⟩
instance (v : Nat → D) : UpI (meaningB v) := ⟨fun _ _ => rfl⟩
noncomputable def baseV (l : List Int) (lo a b : Int) : Nat → D
  | 0 => .l l
  | 1 => .i a
  | 2 => .i b
  | _ => .i lo
theorem bases_any (hk : ∀ I : Interp, ConGood (fun _ => none) tb Tryz.prog I cKw) (a b : Int) (a0 : Option Addr) (len0 cap0 : Nat) (z0 : List Int) (w : World)
    (h : (a0 = none ∧ len0 = 0 ∧ cap0 = 0 ∧ z0 = []) ∨ ∃ x, a0 = some x ∧ len0 ≤ cap0 ∧ cap0 ≤ maxLen ∧ z0.length = cap0 ∧ (∀ i, i < z0.length → w.cell? (x.add i) = some (.int .u8 (z0.getD i 0))) ∧ ∀ n ∈ z0, (Lit.int .u8 n).wf = true) :
    Calls Tryz.prog 4 #[.slice a0 len0 cap0, .int .i64 a, .int .i64 b] w fun e w' => e = .returned (.bool true) ∧ RowKit.Below w.heap.size w w' := by
  obtain ⟨⟨κ, hE, hV, hR⟩, hb, hl⟩ := bytes_arg (J := meaningB (baseV (z0.take len0) (loOf a0) a b)) (iA := 0) (iL := 3) (fun _ => none) rfl rfl h
  have hlo : ¬ loOf a0 < 0 := by cases a0 <;> simp [loOf]
  generalize z0.take len0 = l at hV hR hl hb
  have go : ∀ fs : Facts, ConGood (fun _ => none) tb Tryz.prog (meaningB (baseV l (loOf a0) a b)) (cB fs) → @Holds (meaningB (baseV l (loOf a0) a b)) fs →
      Calls Tryz.prog 4 #[.slice a0 len0 cap0, .int .i64 a, .int .i64 b] w fun e w' => e = .returned (.bool true) ∧ RowKit.Below w.heap.size w w' := fun fs hc hf => by
    refine law_con (vs := [.slice a0 len0 cap0, .int .i64 a, .int .i64 b]) (c := cB fs) tb_ok hc rfl hf
      (@VL.cons (meaningB (baseV l (loOf a0) a b)) κ _ _ _ _ hV (@VL.cons (meaningB (baseV l (loOf a0) a b)) κ _ _ _ _ (@V.si (meaningB (baseV l (loOf a0) a b)) κ .i64 (.var 1))
        (@VL.cons (meaningB (baseV l (loOf a0) a b)) κ _ _ _ _ (@V.si (meaningB (baseV l (loOf a0) a b)) κ .i64 (.var 2)) (@VL.nil (meaningB (baseV l (loOf a0) a b)) κ)))) hR (fun i v hi => ?_) (by simp [cB]) rfl
    cases hi
  by_cases hbig : 300 < len0
  · refine go _ (law_long (hk _)) ?_
    simp only [holds_cons, holds_nil, and_true, fact_lt]
    exact decide_eq_true (show (300 : Int) < (l.length : Int) by omega)
  · refine go bF (law_bases (hk _)) ?_
    simp only [bF, holds_cons, holds_nil, and_true, fact_lt]
    refine ⟨?_, decide_eq_false ?_, decide_eq_false ?_⟩
    · change (D.ofB (bytB l)).tr = true
      rw [D.tr_ofB]; exact hb
    · change ¬ (300 : Int) < (l.length : Int); omega
    · change ¬ loOf a0 < 0; exact hlo
end Go.Proofs.YtgmhnjicaihmmaaGreat.Sy
