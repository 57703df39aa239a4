/- SeekTables returns true at every input, given that its examples hold. No condition beyond the cells of what came in. -/
import Derived.Test.YtempojknmnmffaaGreatLawTab2
set_option linter.unusedVariables false
set_option maxRecDepth 100000
namespace Go.Proofs.YtempojknmnmffaaGreat.Sy
open Go Go.Proofs.YtempojknmnmffaaGreat.Eng Go.Proofs
@[reducible] noncomputable def meaning (v : Nat → D) : Interp := ⟨v, fun n x => if n = 20 then .i (n64 (hsum (toB x.list))) else .l (enc 8 x.int),
  fun n x i => if n = 31 then .i (if mayRows (x.list.drop (2 * i.int.toNat)) then 1 else 0) else if n = 32 then .l (encRows (x.list.drop (2 * i.int.toNat))) else .i (firstBad (x.list.drop (2 * i.int.toNat)) i.int), fun _ _ _ _ => .i 0⟩
instance (v : Nat → D) : SumI (meaning v) := ⟨fun _ => rfl⟩
instance (v : Nat → D) : PutI (meaning v) := ⟨fun _ => rfl⟩
instance (v : Nat → D) : TabI (meaning v) := ⟨fun _ _ => rfl, fun _ _ => rfl⟩
instance (v : Nat → D) : BadI (meaning v) := ⟨fun _ _ => rfl⟩
noncomputable def tabV (l : List Int) (lo n : Int) : Nat → D
  | 0 => .l l
  | 1 => .i lo
  | _ => .i n
theorem loOf_nonneg (a : Option Addr) : ¬ loOf a < 0 := by cases a <;> simp [loOf]
theorem tables_any (hk : ∀ I : Interp, ConGood (fun _ => none) tb Tryz.prog I cKn) (a0 : Option Addr) (len0 cap0 : Nat) (z0 : List Int) (w : World)
    (h : (a0 = none ∧ len0 = 0 ∧ cap0 = 0 ∧ z0 = []) ∨ ∃ x, a0 = some x ∧ len0 ≤ cap0 ∧ cap0 ≤ maxLen ∧ z0.length = cap0 * 2 ∧ ∀ i, i < z0.length → w.cell? (x.add i) = some (.int .i64 (z0.getD i 0))) :
    Calls Tryz.prog 3 #[.slice a0 len0 cap0] w fun e w' => e = .returned (.bool true) ∧ RowKit.Below w.heap.size w w' := by
  obtain ⟨⟨κ, hE, hV, hR⟩, hl⟩ := slc_arg (J := meaning (tabV (z0.take (len0 * 2)) (loOf a0) len0)) (iA := 0) (iL := 1) (iN := 2) (z := 2) (k := .i64) (fun _ => none) rfl rfl rfl (by decide) h
  have hlo := loOf_nonneg a0
  generalize z0.take (len0 * 2) = l at hV hR hl
  have go : ∀ fs : Facts, ConGood (fun _ => none) tb Tryz.prog (meaning (tabV l (loOf a0) len0)) (cLaw fs) → @Holds (meaning (tabV l (loOf a0) len0)) fs →
      Calls Tryz.prog 3 #[.slice a0 len0 cap0] w fun e w' => e = .returned (.bool true) ∧ RowKit.Below w.heap.size w w' := fun fs hc hf => by
    refine law_con (vs := [.slice a0 len0 cap0]) (c := cLaw fs) tb_ok hc rfl hf (@VL.cons (meaning (tabV l (loOf a0) len0)) κ _ _ _ _ hV (@VL.nil (meaning (tabV l (loOf a0) len0)) κ)) hR (fun i v hi => ?_) (by simp [cLaw]) rfl
    cases hi
  have f2 : ¬ (((len0 : Nat) : Int) < 0) := by omega
  have fc : (l.length : Int) = (len0 : Int) * 2 := by omega
  by_cases hb : 200 < len0
  · refine go big0 (lawBig_ok (hk _)) ?_
    simp only [big0, holds_cons, holds_nil, and_true, tr_lt]
    exact decide_eq_true (show (200 : Int) < ((len0 : Nat) : Int) by omega)
  · have f1 : ¬ ((200 : Int) < ((len0 : Nat) : Int)) := by omega
    cases hm : mayRows l with
    | true =>
      refine go all0 (lawAll_ok (hk _)) ?_
      simp only [all0, holds_cons, holds_nil, and_true, tr_lt, tr_eq, c2]
      refine ⟨decide_eq_false f2, decide_eq_false f1, decide_eq_false hlo, decide_eq_true fc, decide_eq_true ?_⟩
      change (if mayRows l then (1 : Int) else 0) = 1
      rw [hm]; rfl
    | false =>
      refine go some0 (lawSome_ok (hk _)) ?_
      simp only [some0, holds_cons, holds_nil, and_true, tr_lt, tr_eq, c2]
      refine ⟨decide_eq_false f2, decide_eq_false f1, decide_eq_false hlo, decide_eq_true fc, decide_eq_true ?_⟩
      change (if mayRows l then (1 : Int) else 0) = 0
      rw [hm]; rfl
end Go.Proofs.YtempojknmnmffaaGreat.Sy
