/- The window and the bound of a patch, in the program and in the reference, on two open numbers. No condition beyond those that each contract lists. -/
import Derived.Test.YtgmhnjicaihmmaaGreatWin
import Derived.IntWalk
set_option linter.unusedVariables false
set_option linter.unusedSimpArgs false
set_option maxRecDepth 100000
namespace Go.Proofs.YtgmhnjicaihmmaaGreat.Sy
open Go Go.Proofs.YtgmhnjicaihmmaaGreat.Eng Go.Proofs
theorem i64_in (n : Int) (h : -9223372036854775808 ≤ n ∧ n ≤ 9223372036854775807) : IntKind.i64.wrap n = n := IntWalk.i64_in n h
theorem ceil_eq (a k : Int) (ha : 0 ≤ a) (hk : 1 ≤ k) : (a + k - 1) / k = a / k + min (a % k) 1 := by
  have h1 := Int.emod_add_mul_ediv a k
  have h2 := Int.emod_nonneg a (show k ≠ 0 by omega)
  have h3 := Int.emod_lt_of_pos a (show 0 < k by omega)
  generalize a / k = q at *
  generalize a % k = r at *
  by_cases hr : r = 0
  · subst hr
    have : (a + k - 1) / k = q ∧ (a + k - 1) % k = k - 1 := (Int.ediv_emod_unique (by omega)).2 ⟨by omega, by omega, by omega⟩
    rw [this.1]; omega
  · have : (a + k - 1) / k = q + 1 ∧ (a + k - 1) % k = r - 1 := (Int.ediv_emod_unique (by omega)).2 ⟨by rw [Int.mul_add]; omega, by omega, by omega⟩
    rw [this.1]; omega
theorem div_le (a k : Int) (ha : 0 ≤ a) (_hk : 1 ≤ k) : 0 ≤ a / k ∧ a / k ≤ a := by
  have h1 := Int.emod_add_mul_ediv a k
  have h2 := Int.emod_nonneg a (show k ≠ 0 by omega)
  have h0 := Int.ediv_nonneg ha (show 0 ≤ k by omega)
  refine ⟨h0, ?_⟩
  exact Int.ediv_le_self k ha

theorem quo_int [Interp] {x y : SX} {a b : Int} (hx : x.ev.int = a) (hy : y.ev.int = b) (h1 : 0 ≤ a) (h2 : 1 ≤ b) (h : a ≤ 9223372036854775807) : (SX.a2 (.ar .quo .i64) x y).ev.int = a / b := by
  subst hx hy
  have := div_le _ _ h1 h2
  change IntKind.i64.wrap (x.ev.int.tdiv y.ev.int) = _
  rw [Int.tdiv_eq_ediv_of_nonneg h1]
  exact i64_in _ (by omega)
theorem rem_int [Interp] {x y : SX} {a b : Int} (hx : x.ev.int = a) (hy : y.ev.int = b) (h1 : 0 ≤ a) : (SX.a2 (.ar .rem .i64) x y).ev.int = a % b := by
  subst hx hy
  exact Int.tmod_eq_emod_of_nonneg h1
section
variable {E : Nat → Option Value} {I : Interp}
noncomputable def sumW : SX := .a2 .add (.var 1) (.var 2)
noncomputable def winS : SX := wn (i0 sumW)
noncomputable def bp1 : SX := .a2 .lt (.var 1) (.lit 0)
noncomputable def bp2 : SX := .a2 .lt (.lit 67108864) (.var 1)
noncomputable def bp3 : SX := .a2 .lt (.var 2) (.lit 0)
noncomputable def bp4 : SX := .a2 .lt (.lit 67108864) (.var 2)
noncomputable def twoF : Facts := [(bp4, false), (bp3, false), (bp2, false), (bp1, false)]
/-- what is known of the window of a sum -/
noncomputable def sumL : Lem := ⟨[], [(.a2 .lt (i0 sumW) (.lit 0), false), (.a2 .lt (.lit 136) (i0 sumW), false), (.a2 .lt winS (.lit 1024), false), (.a2 .lt (.lit 134217728) winS, false), (.a2 .eq (i0 winS) (i0 sumW), true), (.a2 .lt (.a2 .mn winS (.lit 131072)) (.lit 1024), false)]⟩
theorem sumL_ok [hI : WinI I] : sumL.Valid I := by
  intro v h
  have e : (@SX.ev (I.at v) (i0 sumW)).int = idxW 0 ((v 1).int + (v 2).int) := by
    change (I.f2 51 (.i 0) (.i ((v 1).int + (v 2).int))).int = _
    rw [hI.h51]; rfl
  have e2 : (@SX.ev (I.at v) winS).int = winN (idxW 0 ((v 1).int + (v 2).int)) := by
    change (I.f1 50 (@SX.ev (I.at v) (i0 sumW))).int = _
    rw [hI.h50, e]; rfl
  have e3 : (@SX.ev (I.at v) (i0 winS)).int = idxW 0 (winN (idxW 0 ((v 1).int + (v 2).int))) := by
    change (I.f2 51 (.i 0) (@SX.ev (I.at v) winS)).int = _
    rw [hI.h51, e2]; rfl
  have r := idxW_range (k := 0) (n := (v 1).int + (v 2).int) (by omega) (by omega)
  have r2 := winN_range r.1 r.2
  have r3 := idxW_win r.1 r.2
  have e4 : (@SX.ev (I.at v) (.a2 .mn winS (.lit 131072))).int = min (winN (idxW 0 ((v 1).int + (v 2).int))) 131072 := by
    rw [@ev_mn (I.at v), e2]; rfl
  simp only [sumL, holds_cons, holds_nil, and_true, fact_lt, fact_eq, decide_eq_false_iff_not, decide_eq_true_eq]
  rw [e3, e, e2, e4, r3]
  generalize winN (idxW 0 ((v 1).int + (v 2).int)) = w at *
  refine ⟨?_, ?_, ?_, ?_, rfl, ?_⟩
  · change ¬ idxW 0 ((v 1).int + (v 2).int) < 0; omega
  · change ¬ (136 : Int) < idxW 0 ((v 1).int + (v 2).int); omega
  · change ¬ w < 1024; omega
  · change ¬ (134217728 : Int) < w; omega
  · change ¬ min w 131072 < 1024; omega
theorem sum_ok [WinI I] : ∀ l ∈ [sumL], l.Valid I := List.forall_mem_cons.2 ⟨sumL_ok, fun _ h => by cases h⟩
noncomputable def cPW (f : Nat) : Con := ⟨f, [.si .i64 (.var 1), .si .i64 (.var 2)], [], twoF, .si .i64 winS, [], 1⟩
noncomputable def kW : List Con := [cByte, cByteR, cWin, cWinR]
theorem kW_ok [WinI I] : ∀ c ∈ kW, ConGood E tb Tryz.prog I c := List.forall_mem_cons.2 ⟨cByte_ok, List.forall_mem_cons.2 ⟨cByteR_ok, List.forall_mem_cons.2 ⟨cWin_ok, List.forall_mem_cons.2 ⟨cWinR_ok, fun _ h => by cases h⟩⟩⟩⟩
theorem cPW_ok [WinI I] : ConGood E tb Tryz.prog I (cPW 13) :=
  con_casesM (d := 60) (l := kW) tb_ok kW_ok (L := lemL [sumL]) (fun v => lemL_ok sum_ok v) (t := .lem 0 .leaf) (by kernel_rfl)
theorem cRW_ok [WinI I] : ConGood E tb Tryz.prog I (cPW 14) :=
  con_casesM (d := 60) (l := kW) tb_ok kW_ok (L := lemL [sumL]) (fun v => lemL_ok sum_ok v) (t := .lem 0 .leaf) (by kernel_rfl)
/-! the bound -/
noncomputable def quoX (n k : SX) : SX := .a2 (.ar .quo .i64) n k
noncomputable def remX (n k : SX) : SX := .a2 .mn (.a2 (.ar .rem .i64) n k) (.lit 1)
noncomputable def perX : SX := .a2 .mx (.var 2) (.lit 1)
noncomputable def hasX : SX := .a2 .mn perX (.var 2)
noncomputable def blkX : SX := .a2 .mn winS (.lit 131072)
noncomputable def upX (n k : SX) : SX := .a2 .mx (quoX (.a2 .sub (.a2 .add n k) (.lit 1)) k) (.lit 1)
noncomputable def bndX (fr bl : SX) : SX := .a2 .add (.a2 .add (.var 2) (.a2 .mul fr (.a2 .add (.a2 .mul bl (.lit 3)) (.lit 26)))) (.lit 16)
noncomputable def bndP : SX := bndX (.a2 .mx (.a2 .add (remX (.var 2) perX) (quoX (.var 2) perX)) (.lit 1)) (.a2 .mx (.a2 .add (quoX hasX blkX) (remX hasX blkX)) (.lit 1))
noncomputable def bndR : SX := bndX (upX (.var 2) perX) (upX hasX blkX)
noncomputable def cPB (f : Nat) (r : SX) : Con := ⟨f, [.si .i64 (.var 1), .si .i64 (.var 2)], [], twoF, .si .i64 r, [], 1⟩
theorem cPB_ok [WinI I] : ConGood E tb Tryz.prog I (cPB 15 bndP) :=
  con_casesM (d := 60) (l := kW) tb_ok kW_ok (L := lemL [sumL]) (fun v => lemL_ok sum_ok v) (t := .lem 0 .leaf) (by kernel_rfl)
theorem cRB_ok [WinI I] : ConGood E tb Tryz.prog I (cPB 16 bndR) :=
  con_casesM (d := 60) (l := kW) tb_ok kW_ok (L := lemL [sumL]) (fun v => lemL_ok sum_ok v) (t := .lem 0 .leaf) (by kernel_rfl)
theorem upX_int [Interp] {n k : SX} {a b : Int} (hn : n.ev.int = a) (hk : k.ev.int = b) (h1 : 0 ≤ a ∧ a ≤ 1099511627776) (h2 : 1 ≤ b ∧ b ≤ 1099511627776) : (upX n k).ev.int = max (a / b + min (a % b) 1) 1 := by
  have := ceil_eq a b h1.1 h2.1
  rw [← this]
  have e : (SX.a2 .sub (.a2 .add n k) (.lit 1)).ev.int = a + b - 1 := by rw [ev_sub, ev_add, hn, hk]; rfl
  have q := quo_int (x := .a2 .sub (.a2 .add n k) (.lit 1)) (y := k) e hk (by omega) h2.1 (by omega)
  unfold upX quoX
  rw [ev_mx, q]; rfl
theorem qr_int [Interp] {n k : SX} {a b : Int} (hn : n.ev.int = a) (hk : k.ev.int = b) (h1 : 0 ≤ a ∧ a ≤ 1099511627776) (h2 : 1 ≤ b) : (quoX n k).ev.int = a / b ∧ (remX n k).ev.int = min (a % b) 1 := by
  refine ⟨quo_int hn hk h1.1 h2 (by omega), ?_⟩
  unfold remX
  rw [ev_mn, rem_int hn hk h1.1]; rfl
noncomputable def bndL : Lem := ⟨twoF, [(.a2 .eq bndP bndR, true)]⟩
theorem bndL_ok [hI : WinI I] : bndL.Valid I := by
  intro v h
  have hs := sumL_ok (I := I) v (fun q hq => by cases hq)
  simp only [bndL, twoF, sumL, bp1, bp2, bp3, bp4, holds_cons, holds_nil, and_true, fact_lt, fact_eq, decide_eq_false_iff_not, decide_eq_true_eq] at h hs ⊢
  letI : Interp := I.at v
  have hb1 : blkX.ev.int = min winS.ev.int 131072 := by unfold blkX; rw [ev_mn]; rfl
  have hp : perX.ev.int = max (v 2).int 1 := by unfold perX; rw [ev_mx]; rfl
  have hh : hasX.ev.int = (v 2).int := by unfold hasX; rw [ev_mn, hp]; change min (max (v 2).int 1) (v 2).int = _; omega
  have h3 : ¬ (v 2).int < 0 := h.2.1
  have h4 : ¬ (67108864 : Int) < (v 2).int := h.1
  have hw : ¬ winS.ev.int < 1024 := hs.2.2.1
  have h2 : (SX.var 2).ev.int = (v 2).int := rfl
  generalize winS.ev.int = w at hb1 hw
  generalize (v 2).int = n at *
  have q1 := qr_int h2 hp (by omega) (by omega)
  have q2 := qr_int hh hb1 (by omega) (by omega)
  have u1 := upX_int h2 hp (by omega) (by omega)
  have u2 := upX_int hh hb1 (by omega) (by omega)
  unfold bndP bndR bndX
  simp only [ev_add, ev_mul, ev_mx, ev_lit, q1.1, q1.2, q2.1, q2.2, u1, u2]
  rw [Int.add_comm (min (n % max n 1) 1)]
end
end Go.Proofs.YtgmhnjicaihmmaaGreat.Sy
