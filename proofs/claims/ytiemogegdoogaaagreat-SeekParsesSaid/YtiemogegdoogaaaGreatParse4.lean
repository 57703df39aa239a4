/- SeekParses returns true at every input, given that its examples hold. No condition beyond the cells of what came in. -/
import Derived.Test.YtiemogegdoogaaaGreatParse3
set_option linter.unusedVariables false
set_option maxRecDepth 100000
namespace Go.Proofs.YtiemogegdoogaaaGreat.Sy
open Go Go.Proofs.YtiemogegdoogaaaGreat.Eng Go.Proofs
section
variable {I : Interp}
theorem con_weak {E : Nat → Option Value} {c : Con} {fs : Facts} (h : ConGood E tb Tryz.prog I { c with facts := fs }) (hs : ∀ q ∈ fs, q ∈ c.facts) : ConGood E tb Tryz.prog I c := fun v hv => h v fun q hq => hv q (hs q hq)
theorem mem_skip {α : Type} {a b : α} {l : List α} : ∀ q ∈ a :: l, q ∈ a :: b :: l := fun q hq => (List.mem_cons.1 hq).elim (fun h => List.mem_cons.2 (.inl h)) fun h => List.mem_cons_of_mem _ (List.mem_cons_of_mem _ h)
theorem law_ps [VarI I] [WordI I] [RowI I] [SumI I] (hk : ConGood (fun _ => none) tb Tryz.prog I cKp) : ConGood (fun _ => none) tb Tryz.prog I (cPs psF) :=
  con_br (.a2 .lt n0 (.lit 24)) (part1 hk) (con_br (.a2 .lt (ns 24) sizeW) (con_br tailE (part3 hk) (con_weak (part2 hk) mem_skip)) (con_br tailE (con_br m24 (part5 hk) (part4 hk)) (con_weak (part2 hk) mem_skip)))
end
@[reducible] noncomputable def meaningP (v : Nat → D) : Interp := ⟨v, fun n x => if n = 13 then wordT.fn 0 x else if n = 20 then .i (n64 (hsum (toB x.list))) else if n = 40 then .i (if (rowsD x).isSome then 1 else 0) else if n = 41 then .l (match rowsD x with | some t => t.1 | none => [])
    else if n = 42 then (match rowsD x with | some t => t.2.1 | none => .i 0) else if n = 43 then .i (match rowsD x with | some t => t.2.2 | none => 0) else varT.fn (n - 10) x, fun _ _ _ => .i 0, fun _ _ _ _ => .i 0⟩
instance (v : Nat → D) : SumI (meaningP v) := ⟨fun _ => rfl⟩
instance (v : Nat → D) : WordI (meaningP v) := ⟨fun n hn x => by match n, hn with | 0, _ => rfl⟩
instance (v : Nat → D) : VarI (meaningP v) := ⟨fun n hn x => by match n, hn with | 0, _ => rfl | 1, _ => rfl | 2, _ => rfl⟩
instance (v : Nat → D) : RowI (meaningP v) := ⟨fun _ => rfl, fun _ => rfl, fun _ => rfl, fun _ => rfl⟩
noncomputable def parV (l : List Int) (lo : Int) : Nat → D
  | 0 => .l l
  | _ => .i lo
theorem loOf_nonneg' (a : Option Addr) : ¬ loOf a < 0 := by cases a <;> simp [loOf]
theorem parses_any (hk : ∀ I : Interp, ConGood (fun _ => none) tb Tryz.prog I cKp) (a0 : Option Addr) (len0 cap0 : Nat) (z0 : List Int) (w : World)
    (h : (a0 = none ∧ len0 = 0 ∧ cap0 = 0 ∧ z0 = []) ∨ ∃ x, a0 = some x ∧ len0 ≤ cap0 ∧ cap0 ≤ maxLen ∧ z0.length = cap0 ∧ (∀ i, i < z0.length → w.cell? (x.add i) = some (.int .u8 (z0.getD i 0))) ∧ ∀ n ∈ z0, (Lit.int .u8 n).wf = true) :
    Calls Tryz.prog 3 #[.slice a0 len0 cap0] w fun e w' => e = .returned (.bool true) ∧ RowKit.Below w.heap.size w w' := by
  obtain ⟨⟨κ, hE, hV, hR⟩, hb, hl⟩ := bytes_arg (J := meaningP (parV (z0.take len0) (loOf a0))) (iA := 0) (iL := 1) (fun _ => none) rfl rfl h
  have hlo := loOf_nonneg' a0
  generalize z0.take len0 = l at hV hR hl hb
  have go : ∀ fs : Facts, ConGood (fun _ => none) tb Tryz.prog (meaningP (parV l (loOf a0))) (cPs fs) → @Holds (meaningP (parV l (loOf a0))) fs →
      Calls Tryz.prog 3 #[.slice a0 len0 cap0] w fun e w' => e = .returned (.bool true) ∧ RowKit.Below w.heap.size w w' := fun fs hc hf => by
    refine law_con (vs := [.slice a0 len0 cap0]) (c := cPs fs) tb_ok hc rfl hf (@VL.cons (meaningP (parV l (loOf a0))) κ _ _ _ _ hV (@VL.nil (meaningP (parV l (loOf a0))) κ)) hR (fun i v hi => ?_) (by simp [cPs]) rfl
    cases hi
  by_cases hbig : 4000 < len0
  · refine go _ (part0 (hk _)) ?_
    simp only [holds_cons, holds_nil, and_true, tr_lt']
    exact decide_eq_true (show (4000 : Int) < (l.length : Int) by omega)
  · refine go psF (law_ps (hk _)) ?_
    simp only [psF, holds_cons, holds_nil, and_true, tr_lt']
    refine ⟨?_, decide_eq_false ?_, decide_eq_false ?_⟩
    · change (D.ofB (bytB l)).tr = true
      rw [D.tr_ofB]; exact hb
    · change ¬ (4000 : Int) < (l.length : Int); omega
    · change ¬ loOf a0 < 0; exact hlo
end Go.Proofs.YtiemogegdoogaaaGreat.Sy
