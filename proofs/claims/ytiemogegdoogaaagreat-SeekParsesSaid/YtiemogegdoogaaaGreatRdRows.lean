/- The rows of a seek table, read: the program's loop and the reference's, by the same function. -/
import Derived.Test.YtiemogegdoogaaaGreatNumber
import Derived.Test.YtiemogegdoogaaaGreatGet
set_option linter.unusedVariables false
set_option linter.unusedSimpArgs false
set_option maxRecDepth 100000
namespace Go.Proofs.YtiemogegdoogaaaGreat.Sy
open Go Go.Proofs.YtiemogegdoogaaaGreat.Eng Go.Proofs
/-- the number at a place (0), its error (1), the place behind (2) -/
noncomputable def numAt (B : D) (n : Nat) (p : D) : D := varT.fn n (.p B (.p p (.i 0)))
/-- one row at p is as it must be -/
def rowOk (B p : D) (s a : Int) : Prop :=
  (numAt B 1 p).int = 0 ∧ (numAt B 1 (numAt B 2 p)).int = 0 ∧ 0 < (numAt B 0 p).int ∧ (numAt B 0 p).int ≤ s ∧ (numAt B 0 (numAt B 2 p)).int ≤ 4611686018427387903 - a
open Classical in
/-- so many rows from a place on, of which the first numbers sum up to at most s, the second ones with a to at most the greatest number: the rows, the place behind, what is left of s -/
noncomputable def rowsF (B : D) : Nat → D → Int → Int → Option (List Int × D × Int)
  | 0, p, s, _ => some ([], p, s)
  | k + 1, p, s, a =>
    if rowOk B p s a then (rowsF B k (numAt B 2 (numAt B 2 p)) (s - (numAt B 0 p).int) (a + (numAt B 0 (numAt B 2 p)).int)).map fun t => ((numAt B 0 p).int :: (numAt B 0 (numAt B 2 p)).int :: t.1, t.2)
    else none
/-- .. of the packed arguments: the row, i, many, p, bytes, from, all -/
noncomputable def rowsD (x : D) : Option (List Int × D × Int) := rowsF (x.nth 0) ((x.nth 2).int - (x.nth 1).int).toNat (x.nth 3) ((x.nth 5).int - (x.nth 4).int) (x.nth 6).int
class RowI (I : Interp) : Prop where
  h40 : ∀ x, I.f1 40 x = .i (if (rowsD x).isSome then 1 else 0)
  h41 : ∀ x, I.f1 41 x = .l (match rowsD x with | some t => t.1 | none => [])
  h42 : ∀ x, I.f1 42 x = (match rowsD x with | some t => t.2.1 | none => .i 0)
  h43 : ∀ x, I.f1 43 x = .i (match rowsD x with | some t => t.2.2 | none => 0)
theorem tr_lt' {J : Interp} {x y : SX} {b : Bool} : (@SX.ev J (.a2 .lt x y)).tr = b ↔ decide ((@SX.ev J x).int < (@SX.ev J y).int) = b := by rw [show (@SX.ev J (.a2 .lt x y)).tr = _ from D.tr_ofB _]
theorem tr_eq' {J : Interp} {x y : SX} {b : Bool} : (@SX.ev J (.a2 .eq x y)).tr = b ↔ decide ((@SX.ev J x).int = (@SX.ev J y).int) = b := by rw [show (@SX.ev J (.a2 .eq x y)).tr = _ from D.tr_ofB _]
theorem tr_same' {J : Interp} {x y : SX} (h : @SX.ev J x = @SX.ev J y) : (@SX.ev J (.a2 .same x y)).tr = true := by
  change (@F2.ev J .same _ _).tr = true
  rw [h]; simp only [F2.ev, D.tr_ofB, decide_eq_true_eq]
theorem hold_app2 {J : Interp} {a b : Facts} (ha : @Holds J a) (hb : @Holds J b) : @Holds J (a ++ b) := fun q hq => (List.mem_append.1 hq).elim (ha q) (hb q)
section
variable {I : Interp}
noncomputable def prs : List SX → SX
  | [] => .lit 0
  | a :: l => .a2 .pair a (prs l)
noncomputable def stU (n : Nat) (i m p b f a : SX) : SX := .a1 (.u n) (prs [.var 0, i, m, p, b, f, a])
noncomputable def at1 (p : SX) : Nat → SX | 1 => p | i => .var i
/-- the number at p: its value, its error, the place behind -/
noncomputable def nv (p : SX) : SX := .a1 (.u 10) (prs [.var 0, p])
noncomputable def ne (p : SX) : SX := .a1 (.u 11) (prs [.var 0, p])
noncomputable def np (p : SX) : SX := .a1 (.u 12) (prs [.var 0, p])
noncomputable def P1 : SX := np (.var 1)
noncomputable def ok1 (p : SX) : SX := .a2 .eq (ne p) (.lit 0)
/-! the program's loop: 4: i, 5: many, 1: p, 6: bytes, 7: from, 8: all, 2: the rows so far -/
noncomputable def st0 (n : Nat) : SX := stU n (.var 4) (.var 5) (.var 1) (.var 6) (.var 7) (.var 8)
noncomputable def st1 (n : Nat) : SX := stU n (.a2 .add (.var 4) (.lit 1)) (.var 5) (np P1) (.a2 .add (.var 6) (nv (.var 1))) (.var 7) (.a2 .add (.var 8) (nv P1))
noncomputable def moreP : SX := .a2 .lt (.var 4) (.var 5)
noncomputable def parF : Facts := [(.a2 .lt (.var 4) (.lit 0), false), (.a2 .lt (.var 5) (.var 4), false), (.a2 .lt (.lit 4000) (.var 5), false), (.a2 .lt (.var 6) (.lit 0), false), (.a2 .lt (.var 7) (.var 6), false), (.a2 .lt (.lit 4000) (.var 7), false), (.a2 .lt (.var 8) (.lit 0), false), (.a2 .lt mostN (.var 8), false), (.a2 .eq (.a1 .len (.var 2)) (.a2 .mul (.var 4) (.lit 2)), true)] ++ curF
noncomputable def anyWs (l : List Nat) : List (Nat × AVal) := l.map fun t => (t, .any)
noncomputable def parIn : List (Nat × AVal) := [(2, .slv 2 (.lit 0) (.var 4) none 2), (7, .si .i64 (.var 7)), (11, .ptr 0 0), (12, .si .i64 (.var 6)), (13, .si .i64 (.var 8)), (103, .si .u32 (.var 5)), (104, .si .u32 (.var 4))]
noncomputable def parO : List PObj := [cur (.var 1), bts, .seq .i64 (.var 2) 35]
noncomputable def lPar : LCon := ⟨16, [false, true, false, true, true, true, true, true, true, true, true, true, true, true, true, true, true, true], 158, parIn,
  [(2, .slv 2 (.lit 0) (.var 5) none 2), (12, .si .i64 (.a2 .sub (.var 7) (st0 43))), (13, .any), (14, .any)] ++ anyWs (List.range' 104 44),
  parO, [2], (.a2 .eq (st0 40) (.lit 1), true) :: parF, .ext 0, [(0, cur (st0 42)), (1, bts), (2, .seq .i64 (.a2 .app (.var 2) (st0 41)) 35)], 3, .a2 .sub (.var 5) (.var 4)⟩
theorem num_ev [h : VarI I] {v : Nat → D} (n : Nat) (hn : n < 3) (p : SX) : @SX.ev (I.at v) (.a1 (.u (10 + n)) (prs [.var 0, p])) = numAt (v 0) n (@SX.ev (I.at v) p) := h.h n hn _
theorem nv_ev [h : VarI I] {v : Nat → D} (p : SX) : @SX.ev (I.at v) (nv p) = numAt (v 0) 0 (@SX.ev (I.at v) p) := num_ev 0 (by decide) p
theorem ne_ev [h : VarI I] {v : Nat → D} (p : SX) : @SX.ev (I.at v) (ne p) = numAt (v 0) 1 (@SX.ev (I.at v) p) := num_ev 1 (by decide) p
theorem np_ev [h : VarI I] {v : Nat → D} (p : SX) : @SX.ev (I.at v) (np p) = numAt (v 0) 2 (@SX.ev (I.at v) p) := num_ev 2 (by decide) p
/-- a state of the program's loop, of the reference's -/
noncomputable def goodAt (p s a : SX) : Facts := [(ok1 p, true), (ok1 (np p), true), (.a2 .lt (.lit 0) (nv p), true), (.a2 .lt s (nv p), false), (.a2 .lt (.a2 .sub mostN a) (nv (np p)), false)]
theorem good_iff [h : VarI I] {v : Nat → D} {p s a : SX} : @Holds (I.at v) (goodAt p s a) ↔ rowOk (v 0) (@SX.ev (I.at v) p) (@SX.ev (I.at v) s).int (@SX.ev (I.at v) a).int := by
  have e0 : (@SX.ev (I.at v) (.lit 0)).int = 0 := rfl
  have e1 : (@SX.ev (I.at v) (.a2 .sub mostN a)).int = 4611686018427387903 - (@SX.ev (I.at v) a).int := rfl
  simp only [goodAt, ok1, holds_cons, holds_nil, and_true, tr_lt', tr_eq', decide_eq_true_eq, decide_eq_false_iff_not, nv_ev, ne_ev, np_ev, e0, e1, rowOk, Int.not_lt]
/-- what one more row comes to -/
noncomputable def stepT (n : Nat) (p s a : SX) (A B : Nat → SX) : Facts := match n with
  | 0 => goodAt p s a ++ [(.a2 .eq (B 40) (.lit 1), true), (.a2 .same (A 41) (.a2 .app (.a2 .push (.a2 .push (.str []) (nv p)) (nv (np p))) (B 41)), true), (.a2 .eq (A 42) (B 42), true), (.a2 .eq (A 43) (B 43), true)]
  | _ => [(.a2 .eq (B 40) (.lit 0), true)]
/-- the packed arguments of A are those of B, one row before -/
structure Next (I : Interp) (v : Nat → D) (p s a : SX) (A B : Nat → SX) : Prop where
  k : ∃ k x y, (∀ n, @SX.ev (I.at v) (A n) = I.f1 n x) ∧ (∀ n, @SX.ev (I.at v) (B n) = I.f1 n y) ∧ rowsD x = rowsF (v 0) (k + 1) (@SX.ev (I.at v) p) (@SX.ev (I.at v) s).int (@SX.ev (I.at v) a).int ∧
    rowsD y = rowsF (v 0) k (numAt (v 0) 2 (numAt (v 0) 2 (@SX.ev (I.at v) p))) ((@SX.ev (I.at v) s).int - (numAt (v 0) 0 (@SX.ev (I.at v) p)).int) ((@SX.ev (I.at v) a).int + (numAt (v 0) 0 (numAt (v 0) 2 (@SX.ev (I.at v) p))).int)
theorem step_yes [h : VarI I] [hR : RowI I] {v : Nat → D} {p s a : SX} {A B : Nat → SX} (hn : Next I v p s a A B) (h1 : (@SX.ev (I.at v) (A 40)).int = 1) : @Holds (I.at v) (stepT 0 p s a A B) := by
  obtain ⟨k, x, y, hA, hB, hx, hy⟩ := hn.k
  rw [hA, hR.h40] at h1
  cases hr : rowsD x with
  | none => rw [hr] at h1; cases h1
  | some t =>
    have hx' := hx
    rw [hr] at hx'
    simp only [rowsF] at hx'
    by_cases hg : rowOk (v 0) (@SX.ev (I.at v) p) (@SX.ev (I.at v) s).int (@SX.ev (I.at v) a).int
    case neg => rw [if_neg hg] at hx'; cases hx'
    rw [if_pos hg, ← hy] at hx'
    cases hry : rowsD y with
    | none => rw [hry] at hx'; cases hx'
    | some t' =>
      rw [hry] at hx'
      simp only [Option.map_some, Option.some.injEq] at hx'
      refine (hold_app2 (good_iff.2 hg)) ?_
      simp only [holds_cons, holds_nil, and_true, tr_eq', decide_eq_true_eq]
      refine ⟨?_, tr_same' ?_, ?_, ?_⟩
      · rw [hB, hR.h40, hry]; rfl
      · rw [hA, hR.h41, hr]
        change _ = D.l (([] ++ [(@SX.ev (I.at v) (nv p)).int] ++ [(@SX.ev (I.at v) (nv (np p))).int]) ++ (@SX.ev (I.at v) (B 41)).list)
        rw [hB, hR.h41, hry, nv_ev, nv_ev, np_ev, hx']; rfl
      · rw [hA, hB, hR.h42, hR.h42, hr, hry, hx']
      · rw [hA, hB, hR.h43, hR.h43, hr, hry, hx']
theorem step_no [h : VarI I] [hR : RowI I] {v : Nat → D} {p s a : SX} {A B : Nat → SX} (hn : Next I v p s a A B) (h1 : (@SX.ev (I.at v) (A 40)).int = 0) (hg : @Holds (I.at v) (goodAt p s a)) : @Holds (I.at v) (stepT 1 p s a A B) := by
  obtain ⟨k, x, y, hA, hB, hx, hy⟩ := hn.k
  rw [hA, hR.h40] at h1
  have hg := good_iff.1 hg
  simp only [rowsF] at hx
  rw [if_pos hg, ← hy] at hx
  cases hry : rowsD y with
  | some t => rw [hx, hry] at h1; cases h1
  | none =>
    simp only [stepT, holds_cons, holds_nil, and_true, tr_eq', decide_eq_true_eq]
    rw [hB, hR.h40, hry]; rfl
/-! lemmas -/
noncomputable def subF (β : Nat → SX) (fs : Facts) : Facts := fs.map fun q => (q.1.sub β, q.2)
noncomputable def numL (p : SX) : Lem := ⟨subF (at1 p) ([] ++ curF), subF (at1 p) varQ ++ [(.a2 .lt (np p) (.lit 0), false)]⟩
theorem numL_ok [VarI I] (p : SX) : (numL p).Valid I := fun v hv => by
  have h1 := Lem.sub_ok varQ_ok (at1 p) v hv
  refine hold_app2 h1 ?_
  have a := h1 ((.a2 .lt (vtU 10 2 2) (.var 1) : SX).sub (at1 p), false) (List.mem_map.2 ⟨(.a2 .lt (vtU 10 2 2) (.var 1), false), by simp [varQ], rfl⟩)
  have b := hv ((.a2 .lt (.var 1) (.lit 0) : SX).sub (at1 p), false) (List.mem_map.2 ⟨(.a2 .lt (.var 1) (.lit 0), false), by simp [curF], rfl⟩)
  have a : decide ((@SX.ev (I.at v) (np p)).int < (@SX.ev (I.at v) p).int) = false := tr_lt'.1 a
  have b : decide ((@SX.ev (I.at v) p).int < 0) = false := tr_lt'.1 b
  simp only [decide_eq_false_iff_not] at a b
  simp only [holds_cons, holds_nil, and_true, tr_lt', decide_eq_false_iff_not]
  change ¬ (@SX.ev (I.at v) (np p)).int < 0
  omega
noncomputable def sP : SX := .a2 .sub (.var 7) (.var 6)
noncomputable def headP : Facts := [(moreP, true), (.a2 .lt (.var 4) (.lit 0), false)]
noncomputable def parL : List Lem := [numL (.var 1), numL P1,
  ⟨headP ++ [(.a2 .eq (st0 40) (.lit 1), true)], stepT 0 (.var 1) sP (.var 8) st0 st1⟩,
  ⟨[(moreP, false)], [(.a2 .eq (st0 40) (.lit 1), true), (.a2 .same (st0 41) (.str []), true), (.a2 .eq (st0 42) (.var 1), true), (.a2 .eq (st0 43) sP, true)]⟩,
  ⟨headP ++ ((.a2 .eq (st0 40) (.lit 0), true) :: goodAt (.var 1) sP (.var 8)), stepT 1 (.var 1) sP (.var 8) st0 st1⟩]
theorem next_par [VarI I] {v : Nat → D} (h : @Holds (I.at v) headP) : Next I v (.var 1) sP (.var 8) st0 st1 := by
  simp only [headP, moreP, holds_cons, holds_nil, and_true, tr_lt', decide_eq_true_eq, decide_eq_false_iff_not] at h
  obtain ⟨h1, h2⟩ := h
  have h1 : (v 4).int < (v 5).int := h1
  have h2 : ¬ (v 4).int < 0 := h2
  have e1 : ((v 5).int - (v 4).int).toNat = ((v 5).int - ((v 4).int + 1)).toNat + 1 := by omega
  refine ⟨((v 5).int - ((v 4).int + 1)).toNat, _, _, fun n => rfl, fun n => rfl, ?_, ?_⟩
  · change rowsF (v 0) ((v 5).int - (v 4).int).toNat (v 1) ((v 7).int - (v 6).int) (v 8).int = _
    rw [e1]; rfl
  · have a1 : numAt (v 0) 2 (numAt (v 0) 2 (v 1)) = @SX.ev (I.at v) (np P1) := by rw [np_ev]; unfold P1; rw [np_ev]; rfl
    have a2 : (numAt (v 0) 0 (v 1)).int = (@SX.ev (I.at v) (nv (.var 1))).int := by rw [nv_ev]; rfl
    have a3 : (numAt (v 0) 0 (numAt (v 0) 2 (v 1))).int = (@SX.ev (I.at v) (nv P1)).int := by rw [nv_ev]; unfold P1; rw [np_ev]; rfl
    change rowsF (v 0) ((v 5).int - ((v 4).int + 1)).toNat (@SX.ev (I.at v) (np P1)) ((v 7).int - ((v 6).int + (@SX.ev (I.at v) (nv (.var 1))).int)) ((v 8).int + (@SX.ev (I.at v) (nv P1)).int) = rowsF (v 0) _ (numAt (v 0) 2 (numAt (v 0) 2 (v 1))) (((v 7).int - (v 6).int) - (numAt (v 0) 0 (v 1)).int) ((v 8).int + (numAt (v 0) 0 (numAt (v 0) 2 (v 1))).int)
    rw [a1, a2, a3]
    congr 1; omega
theorem hold_app3 {J : Interp} {a b : Facts} (h : @Holds J (a ++ b)) : @Holds J a ∧ @Holds J b := ⟨fun q hq => h q (List.mem_append.2 (.inl hq)), fun q hq => h q (List.mem_append.2 (.inr hq))⟩
theorem parL_ok [VarI I] [hR : RowI I] : ∀ l ∈ parL, l.Valid I := by
  intro l hl
  simp only [parL, List.mem_cons, List.not_mem_nil, or_false] at hl
  rcases hl with rfl | rfl | rfl | rfl | rfl
  · exact numL_ok _
  · exact numL_ok _
  · intro v h
    obtain ⟨h1, h2⟩ := hold_app3 h
    simp only [holds_cons, holds_nil, and_true, tr_eq', decide_eq_true_eq] at h2
    exact step_yes (next_par h1) h2
  · intro v h
    simp only [moreP, holds_cons, holds_nil, and_true, tr_lt', tr_eq', decide_eq_true_eq, decide_eq_false_iff_not] at h ⊢
    have h : ¬ (v 4).int < (v 5).int := h
    have e : ∀ n, @SX.ev (I.at v) (st0 n) = I.f1 n (@SX.ev (I.at v) (prs [.var 0, .var 4, .var 5, .var 1, .var 6, .var 7, .var 8])) := fun n => rfl
    have hx : rowsD (@SX.ev (I.at v) (prs [.var 0, .var 4, .var 5, .var 1, .var 6, .var 7, .var 8])) = some ([], v 1, (v 7).int - (v 6).int) := by
      change rowsF (v 0) ((v 5).int - (v 4).int).toNat (v 1) ((v 7).int - (v 6).int) (v 8).int = _
      rw [show ((v 5).int - (v 4).int).toNat = 0 by omega]; rfl
    refine ⟨?_, tr_same' ?_, ?_, ?_⟩
    · rw [e, hR.h40, hx]; rfl
    · rw [e, hR.h41, hx]; rfl
    · rw [e, hR.h42, hx]; rfl
    · rw [e, hR.h43, hx]; rfl
  · intro v h
    obtain ⟨h1, h2⟩ := hold_app3 h
    have h3 := h2 _ (List.mem_cons_self ..)
    have h3 : (@SX.ev (I.at v) (st0 40)).int = 0 := of_decide_eq_true (tr_eq'.1 h3)
    exact step_no (next_par h1) h3 fun q hq => h2 q (List.mem_cons_of_mem _ hq)
noncomputable def kPar : List Con := [cNumber]
theorem kPar_ok [VarI I] : ∀ c ∈ kPar, ConGood (fun _ => none) tb Tryz.prog I c := List.forall_mem_cons.2 ⟨cNumber_ok, fun _ h => by cases h⟩
theorem lPar_ok [VarI I] [RowI I] : LGood tb Tryz.prog I lPar :=
  lcon_good (d := 60) (l := kPar) (lps := []) tb_ok kPar_ok (fun _ h => by cases h) (L := lemL parL) (fun v => lemL_ok parL_ok v) (t := .br moreP (.lem 0 (.lem 2 (.lem 1 .leaf))) (.lem 3 .leaf)) (m := 2) (fun ds => by kernel_rfl)
noncomputable def lParX : LCon := ⟨16, [false, true, false, true, true, true, true, true, true, true, true, true, true, true, true, true, true, true], 158, parIn,
  anyWs ([2, 12, 13, 14] ++ List.range' 104 44), parO, [2], (.a2 .eq (st0 40) (.lit 0), true) :: parF, .pan [(.ifc 25 (.lit (.int .i64 19)), false)], [], 3, .a2 .sub (.var 5) (.var 4)⟩
noncomputable def treeX : ST := .br moreP (.lem 0 (.br (ok1 (.var 1)) (.lem 1 (.br (ok1 P1) (.br (.a2 .lt (.lit 0) (nv (.var 1))) (.br (.a2 .lt sP (nv (.var 1))) .leaf (.br (.a2 .lt (.a2 .sub mostN (.var 8)) (nv P1)) .leaf (.lem 4 .leaf))) .leaf) .leaf)) .leaf)) (.no 3)
theorem lParX_ok [VarI I] [RowI I] : LGood tb Tryz.prog I lParX :=
  lcon_good (d := 60) (l := kPar) (lps := []) tb_ok kPar_ok (fun _ h => by cases h) (L := lemL parL) (fun v => lemL_ok parL_ok v) (t := treeX) (m := 6) (fun ds => by kernel_rfl)
end
end Go.Proofs.YtiemogegdoogaaaGreat.Sy
