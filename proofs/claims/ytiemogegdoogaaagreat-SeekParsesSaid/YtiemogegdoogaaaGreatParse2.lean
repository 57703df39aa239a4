/- SeekParses on symbols: the law by cases. -/
import Derived.Test.YtiemogegdoogaaaGreatParse
import Derived.Test.YtiemogegdoogaaaGreatWord
set_option linter.unusedVariables false
set_option linter.unusedSimpArgs false
set_option maxRecDepth 100000
namespace Go.Proofs.YtiemogegdoogaaaGreat.Sy
open Go Go.Proofs.YtiemogegdoogaaaGreat.Eng Go.Proofs
section
variable {I : Interp}
theorem num_bounds [VarI I] {B p : D} (hB : bytB B.list = true) (hl : (B.list.length : Int) ≤ 1000000) (h0 : 0 ≤ p.int) (h1 : p.int ≤ B.list.length) :
    0 ≤ (numAt B 0 p).int ∧ p.int ≤ (numAt B 2 p).int ∧ (numAt B 2 p).int ≤ B.list.length := by
  obtain ⟨v, hv0, hv1⟩ : ∃ v : Nat → D, v 0 = B ∧ v 1 = p := ⟨fun n => if n = 0 then B else p, rfl, rfl⟩
  have hc : @Holds (I.at v) curF := by
    simp only [curF, holds_cons, holds_nil, and_true, tr_lt', decide_eq_false_iff_not]
    refine ⟨?_, ?_, ?_, ?_, ?_⟩
    · change (D.ofB (bytB (v 0).list)).tr = true
      rw [D.tr_ofB, hv0]; exact hB
    · change ¬ (1000000 : Int) < (v 1).int
      rw [hv1]; omega
    · change ¬ (1000000 : Int) < ((v 0).list.length : Int)
      rw [hv0]; omega
    · change ¬ (v 1).int < 0
      rw [hv1]; omega
    · change ¬ ((v 0).list.length : Int) < (v 1).int
      rw [hv0, hv1]; omega
  have hq := varQ_ok (I := I) v hc
  have e : ∀ n, n < 3 → (@SX.ev (I.at v) (vtU 10 2 n)).int = (numAt B n p).int := fun n hn => by
    have := num_ev (I := I) (v := v) n hn (.var 1)
    rw [hv0] at this
    rw [show @SX.ev (I.at v) (.var 1) = p from hv1] at this
    rw [← this]; rfl
  simp only [varQ, holds_cons, holds_nil, and_true, tr_lt', decide_eq_false_iff_not, e 0 (by decide), e 1 (by decide), e 2 (by decide)] at hq
  obtain ⟨q0, _, q2, q3, _⟩ := hq
  have q0 : ¬ (numAt B 0 p).int < 0 := q0
  have q2 : ¬ (numAt B 2 p).int < (v 1).int := q2
  have q3 : ¬ ((v 0).list.length : Int) < (numAt B 2 p).int := q3
  rw [hv1] at q2
  rw [hv0] at q3
  omega
theorem rows_bounds [VarI I] {B : D} (hB : bytB B.list = true) (hl : (B.list.length : Int) ≤ 1000000) : ∀ (k : Nat) (p : D) (s a : Int) (l : List Int) (q : D) (t : Int), 0 ≤ p.int → p.int ≤ B.list.length → 0 ≤ s → rowsF B k p s a = some (l, q, t) →
    p.int ≤ q.int ∧ q.int ≤ B.list.length ∧ 0 ≤ t ∧ t ≤ s ∧ l.length = 2 * k
  | 0, p, s, a, l, q, t, h0, h1, h2, h => by
    simp only [rowsF, Option.some.injEq, Prod.mk.injEq] at h
    obtain ⟨rfl, rfl, rfl⟩ := h
    exact ⟨Int.le_refl _, h1, h2, Int.le_refl _, rfl⟩
  | k + 1, p, s, a, l, q, t, h0, h1, h2, h => by
    simp only [rowsF] at h
    by_cases hg : rowOk B p s a
    case neg => rw [if_neg hg] at h; cases h
    rw [if_pos hg] at h
    obtain ⟨b0, b1, b2⟩ := num_bounds (I := I) hB hl h0 h1
    obtain ⟨c0, c1, c2⟩ := num_bounds (I := I) (p := numAt B 2 p) hB hl (by omega) b2
    obtain ⟨g0, g1, g2, g3, g4⟩ := hg
    cases hr : rowsF B k (numAt B 2 (numAt B 2 p)) (s - (numAt B 0 p).int) (a + (numAt B 0 (numAt B 2 p)).int) with
    | none => rw [hr] at h; cases h
    | some r =>
      obtain ⟨l', q', t'⟩ := r
      rw [hr] at h
      simp only [Option.map_some, Option.some.injEq, Prod.mk.injEq] at h
      obtain ⟨rfl, rfl, rfl⟩ := h
      obtain ⟨d1, d2, d3, d4, d5⟩ := rows_bounds hB hl k _ _ _ _ _ _ (by omega) c2 (by omega) hr
      exact ⟨by omega, d2, d3, by omega, by simp only [List.length_cons]; omega⟩
noncomputable def cKp : Con := ⟨4, [], [], [], .lit (.bool true), [], 1⟩
noncomputable def kPs : List Con := [cSumPart, cRefWin, cNew, cWordS, cWordU, cGetW, cRest, cLeft, cNumber, cGet, cClone, cKp]
noncomputable def lPs : List LCon := [lPar, lParX, lRow, lRowX, lSam]
noncomputable def n0 : SX := .a1 .len (.var 0)
noncomputable def wA (p : SX) : SX := wd (.var 0) p
noncomputable def ns (k : Nat) : SX := .a2 .sub n0 (.lit k)
noncomputable def manyW : SX := wA (ns 16)
noncomputable def sumW : SX := wA (ns 12)
noncomputable def sizeW : SX := wA (ns 8)
noncomputable def nz (k : Nat) : SX := .a2 .sub (.a2 .sub n0 sizeW) (.lit k)
noncomputable def fromT : SX := nz 24
noncomputable def B1 : SX := .a3 .cut (.var 0) (ns 16) n0
noncomputable def sz4 : SX := wA (nz 20)
noncomputable def sz4i : SX := wd (.a3 .cut (.var 0) fromT (nz 16)) (.lit 4)
noncomputable def mk3 : SX := .a2 .eqL (.a3 .cut (.var 0) fromT (nz 21)) (.str [80, 77, 84])
noncomputable def rd3 : SX := .a2 .rd (.var 0) (nz 21)
noncomputable def mkF : SX := .a2 .eqL (.a3 .cut (.var 0) fromT (nz 20)) (.str [80, 77, 84, 30])
noncomputable def mkS : SX := .a2 .eqL (.a3 .cut (.var 0) fromT (nz 20)) (.str [80, 77, 84, 83])
noncomputable def psF : Facts := [(.a1 .byt (.var 0), true), (.a2 .lt (.lit 4000) n0, false), (.a2 .lt (.var 1) (.lit 0), false)]
noncomputable def tailE : SX := .a2 .eqL (.a3 .cut (.var 0) (ns 4) n0) (.str [80, 77, 84, 73])
noncomputable def rowsB : SX := .a3 .cut (.var 0) (nz 16) (ns 16)
noncomputable def sumE : SX := .a2 .eq (.a1 (.cv .u32) (.a1 (.u 20) rowsB)) sumW
noncomputable def stP (n : Nat) : SX := .a1 (.u n) (prs [rowsB, .lit 0, manyW, .lit 0, .lit 0, fromT, .lit 0])
noncomputable def b24 : Facts := [(.a2 .lt n0 (.lit 24), false)]
noncomputable def bSz : Facts := [(.a2 .lt (ns 24) sizeW, false), (.a2 .lt sizeW (.lit 0), false)]
noncomputable def psL : List Lem := [
  ⟨psF ++ b24, [(.a2 .eq (wd B1 (.lit 0)) manyW, true), (.a2 .eq (wd B1 (.lit 4)) sumW, true), (.a2 .eq (wd B1 (.lit 8)) sizeW, true)] ++ wdR manyW ++ wdR sumW ++ wdR sizeW⟩,
  ⟨psF ++ b24 ++ bSz, (.a2 .eq sz4i sz4, true) :: wdR sz4 ++ wdR sz4i⟩,
  ⟨psF ++ b24 ++ bSz ++ [(mk3, true), (.a2 .eq rd3 (.lit 83), true)], [(mkF, false), (mkS, true), (.a2 .eq rd3 (.lit 30), false)]⟩,
  ⟨psF ++ b24 ++ bSz ++ [(mk3, true), (.a2 .eq rd3 (.lit 30), true)], [(mkF, true), (mkS, false), (.a2 .eq rd3 (.lit 83), false)]⟩,
  ⟨psF ++ b24 ++ bSz ++ [(mk3, true), (.a2 .eq rd3 (.lit 83), false), (.a2 .eq rd3 (.lit 30), false)], [(mkF, false), (mkS, false)]⟩,
  ⟨psF ++ b24 ++ bSz ++ [(mk3, false)], [(mkF, false), (mkS, false)]⟩,
  ⟨[(.a2 .eq (stP 40) (.lit 1), false)], [(.a2 .eq (stP 40) (.lit 0), true)]⟩,
  ⟨psF ++ b24 ++ bSz ++ [(.a2 .lt sizeW manyW, false)], [(.a2 .lt (.lit 4000) manyW, false), (.a2 .lt (.lit 4000) sizeW, false)]⟩,
  ⟨psF ++ b24 ++ bSz ++ [(.a2 .eq (stP 40) (.lit 1), true), (.a2 .lt manyW (.lit 0), false)], [(.a2 .lt (stP 42) (.lit 0), false), (.a2 .lt sizeW (stP 42), false), (.a2 .lt (stP 43) (.lit 0), false), (.a2 .lt fromT (stP 43), false), (.a2 .eq (.a1 .len (stP 41)) (.a2 .mul manyW (.lit 2)), true)]⟩]
noncomputable def cPs (fs : Facts) : Con := ⟨3, [.slv 0 (.var 1) n0 none 1], [.win .u8 (.var 1) (.var 0)], fs, .lit (.bool true), [(0, .win .u8 (.var 1) (.var 0))], 1⟩
noncomputable def pf1 : Facts := (.a2 .lt n0 (.lit 24), true) :: psF
noncomputable def pf2 : Facts := (tailE, false) :: b24 ++ psF
noncomputable def pf3 : Facts := (tailE, true) :: (.a2 .lt (ns 24) sizeW, true) :: b24 ++ psF
noncomputable def m24 : SX := .a2 .lt manyW (.lit 16777216)
noncomputable def pfx (b : Bool) : Facts := (m24, b) :: (tailE, true) :: (.a2 .lt (ns 24) sizeW, false) :: b24 ++ psF
noncomputable def tW (t : ST) : ST := .lem 0 (.lem 1 t)
noncomputable def tMagic (t : ST) : ST := .br mk3 (.br (.a2 .eq rd3 (.lit 83)) (.lem 2 t) (.br (.a2 .eq rd3 (.lit 30)) (.lem 3 .leaf) (.lem 4 .leaf))) (.lem 5 .leaf)
noncomputable def tRest (t : ST) : ST := .br (.a2 .lt (.a2 .add sizeW (.lit 16)) sz4) .leaf (.br (.a2 .lt sz4 (.a2 .add sizeW (.lit 16))) .leaf (.br sumE t .leaf))
noncomputable def tLoops : ST := .br (.a2 .lt sizeW manyW) .leaf (.lem 7 (.br (.a2 .eq (stP 40) (.lit 1)) (.lem 8 (.br (.a2 .lt (stP 42) sizeW) (.br (.a2 .lt (.lit 0) (stP 43)) .leaf .leaf) (.br (.a2 .lt (.lit 0) (stP 43)) .leaf .leaf))) (.lem 6 .leaf)))
/-! the lemmas hold -/
noncomputable def wordI (l : List Int) (p : Int) : Int := l[p.toNat]?.getD 0 + (l[(p + 1).toNat]?.getD 0 * 256 + (l[(p + 2).toNat]?.getD 0 * 65536 + l[(p + 3).toNat]?.getD 0 * 16777216))
theorem wd_ev [h : WordI I] {v : Nat → D} (B p : SX) : (@SX.ev (I.at v) (wd B p)).int = wordI (@SX.ev (I.at v) B).list (@SX.ev (I.at v) p).int := by
  have e : @SX.ev (I.at v) (wd B p) = wordT.fn 0 (.p (@SX.ev (I.at v) B) (.p (@SX.ev (I.at v) p) (.i 0))) := h.h 0 (by decide) _
  rw [e]; rfl
theorem cut_get {l : List Int} {lo hi : Int} {j : Int} (h0 : 0 ≤ lo) (h1 : 0 ≤ j) (h2 : lo + j < hi) (h3 : hi ≤ l.length) : (cutL l lo hi)[j.toNat]?.getD 0 = l[(lo + j).toNat]?.getD 0 := by
  unfold cutL
  rw [List.getElem?_drop, List.getElem?_take_of_lt (by omega)]
  congr 2; omega
theorem word_cut {l : List Int} {lo hi p : Int} (h0 : 0 ≤ lo) (h1 : 0 ≤ p) (h2 : lo + p + 4 ≤ hi) (h3 : hi ≤ l.length) : wordI (cutL l lo hi) p = wordI l (lo + p) := by
  unfold wordI
  rw [cut_get h0 h1 (by omega) h3, cut_get h0 (by omega) (by omega) h3, cut_get h0 (by omega) (by omega) h3, cut_get h0 (by omega) (by omega) h3]
  rw [show lo + (p + 1) = lo + p + 1 by omega, show lo + (p + 2) = lo + p + 2 by omega, show lo + (p + 3) = lo + p + 3 by omega]
theorem byte_at {l : List Int} (h : bytB l = true) (j : Nat) : 0 ≤ l[j]?.getD 0 ∧ l[j]?.getD 0 ≤ 255 := by
  cases e : l[j]? with
  | none => exact ⟨Int.le_refl 0, by decide⟩
  | some z => exact bytB_iff.1 h z (List.mem_of_getElem? e)
theorem word_rng {l : List Int} (h : bytB l = true) (p : Int) : 0 ≤ wordI l p ∧ wordI l p ≤ 4294967295 := by
  have h0 := byte_at h p.toNat
  have h1 := byte_at h (p + 1).toNat
  have h2 := byte_at h (p + 2).toNat
  have h3 := byte_at h (p + 3).toNat
  unfold wordI
  omega
theorem wdR_ok [WordI I] {v : Nat → D} {B p : SX} (h : bytB (@SX.ev (I.at v) B).list = true) : @Holds (I.at v) (wdR (wd B p)) := by
  have := word_rng h (@SX.ev (I.at v) p).int
  simp only [wdR, holds_cons, holds_nil, and_true, tr_lt', decide_eq_false_iff_not, wd_ev]
  refine ⟨?_, ?_⟩
  · change ¬ wordI _ _ < 0; omega
  · change ¬ (4294967295 : Int) < wordI _ _; omega
theorem byt_cut {l : List Int} (h : bytB l = true) (lo hi : Int) : bytB (cutL l lo hi) = true := bytB_iff.2 fun z hz => bytB_iff.1 h z (List.mem_of_mem_take (List.mem_of_mem_drop hz))
theorem ps_base {v : Nat → D} (h : @Holds (I.at v) (psF ++ b24)) : bytB (v 0).list = true ∧ ((v 0).list.length : Int) ≤ 4000 ∧ 24 ≤ ((v 0).list.length : Int) := by
  obtain ⟨h1, h2⟩ := hold_app3 h
  simp only [psF, b24, holds_cons, holds_nil, and_true, tr_lt', decide_eq_false_iff_not] at h1 h2
  have a := h1.1
  have b : ¬ (4000 : Int) < ((v 0).list.length : Int) := h1.2.1
  have c : ¬ ((v 0).list.length : Int) < 24 := h2
  exact ⟨(D.tr_ofB _).symm.trans a, by omega, by omega⟩
theorem ps_size {v : Nat → D} (h : @Holds (I.at v) bSz) : 0 ≤ (@SX.ev (I.at v) sizeW).int ∧ (@SX.ev (I.at v) sizeW).int ≤ ((v 0).list.length : Int) - 24 := by
  simp only [bSz, holds_cons, holds_nil, and_true, tr_lt', decide_eq_false_iff_not] at h
  have a : ¬ ((v 0).list.length : Int) - 24 < (@SX.ev (I.at v) sizeW).int := h.1
  have b : ¬ (@SX.ev (I.at v) sizeW).int < 0 := h.2
  omega
theorem nz_ev {v : Nat → D} (k : Nat) : (@SX.ev (I.at v) (nz k)).int = ((v 0).list.length : Int) - (@SX.ev (I.at v) sizeW).int - (k : Int) := rfl
/-- four bytes from a place on -/
theorem cut4 {l : List Int} {a : Int} (h0 : 0 ≤ a) (h1 : a + 4 ≤ l.length) : cutL l a (a + 4) = [l[a.toNat]?.getD 0, l[(a + 1).toNat]?.getD 0, l[(a + 2).toNat]?.getD 0, l[(a + 3).toNat]?.getD 0] := by
  apply List.ext_getElem?
  intro j
  have hlen : (cutL l a (a + 4)).length = 4 := by unfold cutL; rw [List.length_drop, List.length_take]; omega
  match j with
  | 0 => rw [List.getElem?_eq_getElem (by omega)]; have := cut_get (l := l) (lo := a) (hi := a + 4) (j := 0) h0 (by omega) (by omega) h1; rw [List.getElem?_eq_getElem (by simpa using by omega)] at this; simpa using this
  | 1 => rw [List.getElem?_eq_getElem (by omega)]; have := cut_get (l := l) (lo := a) (hi := a + 4) (j := 1) h0 (by omega) (by omega) h1; rw [List.getElem?_eq_getElem (by simpa using by omega)] at this; simpa using this
  | 2 => rw [List.getElem?_eq_getElem (by omega)]; have := cut_get (l := l) (lo := a) (hi := a + 4) (j := 2) h0 (by omega) (by omega) h1; rw [List.getElem?_eq_getElem (by simpa using by omega)] at this; simpa using this
  | 3 => rw [List.getElem?_eq_getElem (by omega)]; have := cut_get (l := l) (lo := a) (hi := a + 4) (j := 3) h0 (by omega) (by omega) h1; rw [List.getElem?_eq_getElem (by simpa using by omega)] at this; simpa using this
  | j + 4 => rw [List.getElem?_eq_none (by omega), List.getElem?_eq_none (by simp)]
theorem cut3 {l : List Int} {a : Int} (h0 : 0 ≤ a) (h1 : a + 4 ≤ l.length) : cutL l a (a + 3) = [l[a.toNat]?.getD 0, l[(a + 1).toNat]?.getD 0, l[(a + 2).toNat]?.getD 0] := by
  have h := cut4 h0 h1
  have e : cutL l a (a + 3) = (cutL l a (a + 4)).take 3 := by
    unfold cutL
    rw [List.take_drop, List.take_take]
    congr 2; omega
  rw [e, h]; rfl
theorem low_of {x : Int} (h0 : 0 ≤ x) (h1 : x ≤ 255) : lowB x = x := by
  rw [lowB_eq, UInt8.toNat_ofNat', Nat.mod_eq_of_lt (by omega)]; omega
theorem bytes_iff {l m : List Int} (hl : bytB l = true) (hm : bytB m = true) : bytesOf l = bytesOf m ↔ l = m := by
  have h := low_iff l m
  rw [leq_iff] at h
  have e : ∀ l : List Int, bytB l = true → l.map lowB = l := fun l hl => by
    conv => rhs; rw [← List.map_id l]
    exact List.map_congr_left fun x hx => by have := bytB_iff.1 hl x hx; exact low_of this.1 this.2
  rw [e l hl, e m hm, decide_eq_decide] at h
  exact h.symm
theorem mark_ev {v : Nat → D} (h : @Holds (I.at v) (psF ++ b24)) (hs : @Holds (I.at v) bSz) : ∃ a0 a1 a2 a3 : Int,
    ((@SX.ev (I.at v) mk3).tr = decide ([a0, a1, a2] = [80, 77, 84])) ∧ ((@SX.ev (I.at v) rd3).int = a3) ∧
    ((@SX.ev (I.at v) mkF).tr = decide ([a0, a1, a2, a3] = [80, 77, 84, 30])) ∧ ((@SX.ev (I.at v) mkS).tr = decide ([a0, a1, a2, a3] = [80, 77, 84, 83])) := by
  obtain ⟨hb, h4, h24⟩ := ps_base h
  obtain ⟨s0, s1⟩ := ps_size hs
  obtain ⟨a, ha⟩ : ∃ a, ((v 0).list.length : Int) - (@SX.ev (I.at v) sizeW).int - 24 = a := ⟨_, rfl⟩
  have e21 : (@SX.ev (I.at v) (nz 21)).int = a + 3 := by rw [nz_ev]; omega
  have e20 : (@SX.ev (I.at v) (nz 20)).int = a + 4 := by rw [nz_ev]; omega
  have e24 : (@SX.ev (I.at v) fromT).int = a := by unfold fromT; rw [nz_ev]; omega
  have c4 := cut4 (l := (v 0).list) (a := a) (by omega) (by omega)
  have c3 := cut3 (l := (v 0).list) (a := a) (by omega) (by omega)
  have b0 := byte_at hb a.toNat
  have b1 := byte_at hb (a + 1).toNat
  have b2 := byte_at hb (a + 2).toNat
  have b3 := byte_at hb (a + 3).toNat
  refine ⟨(v 0).list[a.toNat]?.getD 0, (v 0).list[(a + 1).toNat]?.getD 0, (v 0).list[(a + 2).toNat]?.getD 0, (v 0).list[(a + 3).toNat]?.getD 0, ?_, ?_, ?_, ?_⟩
  rotate_left
  · change (v 0).list[(@SX.ev (I.at v) (nz 21)).int.toNat]?.getD 0 = _
    rw [e21]
  · change (D.ofB (decide (bytesOf (cutL (v 0).list (@SX.ev (I.at v) fromT).int (@SX.ev (I.at v) (nz 20)).int) = bytesOf [80, 77, 84, 30]))).tr = _
    rw [D.tr_ofB, e24, e20, c4, decide_eq_decide]
    exact bytes_iff (by rw [← c4]; exact byt_cut hb _ _) rfl
  · change (D.ofB (decide (bytesOf (cutL (v 0).list (@SX.ev (I.at v) fromT).int (@SX.ev (I.at v) (nz 20)).int) = bytesOf [80, 77, 84, 83]))).tr = _
    rw [D.tr_ofB, e24, e20, c4, decide_eq_decide]
    exact bytes_iff (by rw [← c4]; exact byt_cut hb _ _) rfl
  · change (D.ofB (decide (bytesOf (cutL (v 0).list (@SX.ev (I.at v) fromT).int (@SX.ev (I.at v) (nz 21)).int) = bytesOf [80, 77, 84]))).tr = _
    rw [D.tr_ofB, e24, e21, c3, decide_eq_decide]
    exact bytes_iff (by rw [← c3]; exact byt_cut hb _ _) rfl
theorem psL_ok [VarI I] [WordI I] [hR : RowI I] : ∀ l ∈ psL, l.Valid I := by
  intro l hl
  simp only [psL, List.mem_cons, List.not_mem_nil, or_false] at hl
  rcases hl with rfl | rfl | rfl | rfl | rfl | rfl | rfl | rfl | rfl
  · intro v h
    obtain ⟨hb, h4, h24⟩ := ps_base h
    have hr : ∀ p, @Holds (I.at v) (wdR (wA p)) := fun p => wdR_ok (B := .var 0) hb
    refine hold_app2 (hold_app2 (hold_app2 ?_ (hr _)) (hr _)) (hr _)
    have eB : (@SX.ev (I.at v) B1).list = cutL (v 0).list (((v 0).list.length : Int) - 16) ((v 0).list.length : Int) := rfl
    have eA : (@SX.ev (I.at v) (.var 0)).list = (v 0).list := rfl
    have eN : ∀ k : Nat, (@SX.ev (I.at v) (ns k)).int = ((v 0).list.length : Int) - (k : Int) := fun k => rfl
    simp only [holds_cons, holds_nil, and_true, tr_eq', decide_eq_true_eq, manyW, sumW, sizeW, wA, wd_ev, eB, eA, eN]
    refine ⟨?_, ?_, ?_⟩
    · change wordI _ 0 = _
      rw [word_cut (by omega) (by omega) (by omega) (Int.le_refl _)]; congr 1; omega
    · change wordI _ 4 = _
      rw [word_cut (by omega) (by omega) (by omega) (Int.le_refl _)]; congr 1; omega
    · change wordI _ 8 = _
      rw [word_cut (by omega) (by omega) (by omega) (Int.le_refl _)]; congr 1; omega
  · intro v h
    obtain ⟨h1, h2⟩ := hold_app3 h
    obtain ⟨hb, h4, h24⟩ := ps_base h1
    obtain ⟨s0, s1⟩ := ps_size h2
    refine hold_app2 (a := (.a2 .eq sz4i sz4, true) :: wdR sz4) (List.forall_mem_cons.2 ⟨?_, wdR_ok (B := .var 0) hb⟩) (wdR_ok (byt_cut hb _ _))
    refine tr_eq'.2 (decide_eq_true ?_)
    have eB : (@SX.ev (I.at v) (.a3 .cut (.var 0) fromT (nz 16))).list = cutL (v 0).list (@SX.ev (I.at v) fromT).int (@SX.ev (I.at v) (nz 16)).int := rfl
    have eF : (@SX.ev (I.at v) fromT).int = ((v 0).list.length : Int) - (@SX.ev (I.at v) sizeW).int - 24 := by unfold fromT; rw [nz_ev]; rfl
    have e16 := nz_ev (I := I) (v := v) 16
    have e20 := nz_ev (I := I) (v := v) 20
    unfold sz4i sz4 wA
    rw [wd_ev, wd_ev, eB, e20, eF, e16]
    change wordI _ 4 = wordI (v 0).list _
    rw [word_cut (by omega) (by omega) (by omega) (by omega)]; congr 1; omega
  · intro v h
    obtain ⟨h1, h2⟩ := hold_app3 h
    obtain ⟨h3, h4⟩ := hold_app3 h1
    obtain ⟨a0, a1, a2, a3, m1, m2, m3, m4⟩ := mark_ev h3 h4
    simp only [holds_cons, holds_nil, and_true, tr_eq', m1, m2, m3, m4, decide_eq_true_eq, decide_eq_false_iff_not] at h2 ⊢
    obtain ⟨k1, k2⟩ := h2
    have k2 : a3 = 83 := k2
    simp only [List.cons.injEq, and_true] at k1
    obtain ⟨rfl, rfl, rfl⟩ := k1
    subst k2
    refine ⟨by decide, rfl, ?_⟩
    change ¬ (83 : Int) = 30; decide
  · intro v h
    obtain ⟨h1, h2⟩ := hold_app3 h
    obtain ⟨h3, h4⟩ := hold_app3 h1
    obtain ⟨a0, a1, a2, a3, m1, m2, m3, m4⟩ := mark_ev h3 h4
    simp only [holds_cons, holds_nil, and_true, tr_eq', m1, m2, m3, m4, decide_eq_true_eq, decide_eq_false_iff_not] at h2 ⊢
    obtain ⟨k1, k2⟩ := h2
    have k2 : a3 = 30 := k2
    simp only [List.cons.injEq, and_true] at k1
    obtain ⟨rfl, rfl, rfl⟩ := k1
    subst k2
    refine ⟨rfl, by decide, ?_⟩
    change ¬ (30 : Int) = 83; decide
  · intro v h
    obtain ⟨h1, h2⟩ := hold_app3 h
    obtain ⟨h3, h4⟩ := hold_app3 h1
    obtain ⟨a0, a1, a2, a3, m1, m2, m3, m4⟩ := mark_ev h3 h4
    simp only [holds_cons, holds_nil, and_true, tr_eq', m1, m2, m3, m4, decide_eq_true_eq, decide_eq_false_iff_not] at h2 ⊢
    obtain ⟨k1, k2, k3⟩ := h2
    have k2 : ¬ a3 = 83 := k2
    have k3 : ¬ a3 = 30 := k3
    simp only [List.cons.injEq, and_true]
    exact ⟨fun hh => k3 hh.2.2.2, fun hh => k2 hh.2.2.2⟩
  · intro v h
    obtain ⟨h1, h2⟩ := hold_app3 h
    obtain ⟨h3, h4⟩ := hold_app3 h1
    obtain ⟨a0, a1, a2, a3, m1, m2, m3, m4⟩ := mark_ev h3 h4
    simp only [holds_cons, holds_nil, and_true, m1, m2, m3, m4, decide_eq_false_iff_not] at h2 ⊢
    simp only [List.cons.injEq, and_true] at h2 ⊢
    exact ⟨fun hh => h2 ⟨hh.1, hh.2.1, hh.2.2.1⟩, fun hh => h2 ⟨hh.1, hh.2.1, hh.2.2.1⟩⟩
  · intro v h
    simp only [holds_cons, holds_nil, and_true, tr_eq', decide_eq_true_eq, decide_eq_false_iff_not] at h ⊢
    have e : (@SX.ev (I.at v) (stP 40)).int = if (rowsD (@SX.ev (I.at v) (prs [rowsB, .lit 0, manyW, .lit 0, .lit 0, fromT, .lit 0]))).isSome then 1 else 0 := by
      change (I.f1 40 _).int = _
      rw [hR.h40]; rfl
    rw [e] at h ⊢
    split at h
    · exact absurd rfl h
    · rename_i hh; rw [if_neg hh]; rfl
  · intro v h
    obtain ⟨h1, h2⟩ := hold_app3 h
    obtain ⟨h3, h4⟩ := hold_app3 h1
    obtain ⟨hb, h5, h24⟩ := ps_base h3
    obtain ⟨s0, s1⟩ := ps_size h4
    simp only [holds_cons, holds_nil, and_true, tr_lt', decide_eq_false_iff_not] at h2 ⊢
    refine ⟨?_, ?_⟩
    · change ¬ (4000 : Int) < (@SX.ev (I.at v) manyW).int; omega
    · change ¬ (4000 : Int) < (@SX.ev (I.at v) sizeW).int; omega
  · intro v h
    obtain ⟨h1, h2⟩ := hold_app3 h
    obtain ⟨h3, h4⟩ := hold_app3 h1
    obtain ⟨hb, h5, h24⟩ := ps_base h3
    obtain ⟨s0, s1⟩ := ps_size h4
    simp only [holds_cons, holds_nil, and_true, tr_lt', tr_eq', decide_eq_true_eq, decide_eq_false_iff_not] at h2 ⊢
    obtain ⟨k1, k2⟩ := h2
    have k2 : ¬ (@SX.ev (I.at v) manyW).int < 0 := k2
    obtain ⟨x, hx⟩ : ∃ x, @SX.ev (I.at v) (prs [rowsB, .lit 0, manyW, .lit 0, .lit 0, fromT, .lit 0]) = x := ⟨_, rfl⟩
    have e : ∀ n, @SX.ev (I.at v) (stP n) = I.f1 n x := fun n => by rw [← hx]; rfl
    have hd : rowsD x = rowsF (@SX.ev (I.at v) rowsB) ((@SX.ev (I.at v) manyW).int - 0).toNat (.i 0) ((@SX.ev (I.at v) fromT).int - 0) 0 := by rw [← hx]; rfl
    have eF : (@SX.ev (I.at v) fromT).int = ((v 0).list.length : Int) - (@SX.ev (I.at v) sizeW).int - 24 := by unfold fromT; rw [nz_ev]; rfl
    have eB : (@SX.ev (I.at v) rowsB).list = cutL (v 0).list (((v 0).list.length : Int) - (@SX.ev (I.at v) sizeW).int - 16) (((v 0).list.length : Int) - 16) := rfl
    have lB : ((@SX.ev (I.at v) rowsB).list.length : Int) = (@SX.ev (I.at v) sizeW).int := by
      rw [eB]; unfold cutL
      rw [List.length_drop, List.length_take]; omega
    rw [e, hR.h40] at k1
    cases hr : rowsD x with
    | none => rw [hr] at k1; cases k1
    | some r =>
      obtain ⟨l, q, t⟩ := r
      rw [hr] at hd
      obtain ⟨d1, d2, d3, d4, d5⟩ := rows_bounds (I := I) (B := @SX.ev (I.at v) rowsB) (by rw [eB]; exact byt_cut hb _ _) (by omega) _ _ _ _ _ _ _ (by decide) (by change (0 : Int) ≤ _; omega) (by omega) hd.symm
      have e42 : (@SX.ev (I.at v) (stP 42)).int = q.int := by rw [e, hR.h42, hr]
      have e43 : (@SX.ev (I.at v) (stP 43)).int = t := by rw [e, hR.h43, hr]; rfl
      have e41 : (@SX.ev (I.at v) (.a1 .len (stP 41))).int = (l.length : Int) := by
        change (((@SX.ev (I.at v) (stP 41)).list.length : Nat) : Int) = _
        rw [e, hR.h41, hr]; rfl
      have eM : (@SX.ev (I.at v) (.a2 .mul manyW (.lit 2))).int = (@SX.ev (I.at v) manyW).int * 2 := rfl
      have d1 : (0 : Int) ≤ q.int := d1
      rw [e42, e43, e41, eM, d5]
      refine ⟨?_, ?_, ?_, ?_, ?_⟩
      · change ¬ q.int < 0; omega
      · omega
      · change ¬ t < 0; omega
      · omega
      · omega
end
end Go.Proofs.YtiemogegdoogaaaGreat.Sy
