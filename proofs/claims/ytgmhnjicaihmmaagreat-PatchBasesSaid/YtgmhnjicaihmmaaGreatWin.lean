/- The windows of a header: what Window and Byte do on symbols, in the program and in the reference. No condition beyond those that each contract lists. -/
import Derived.Test.YtgmhnjicaihmmaaGreatTabs
set_option linter.unusedVariables false
set_option linter.unusedSimpArgs false
set_option maxRecDepth 100000
namespace Go.Proofs.YtgmhnjicaihmmaaGreat.Sy
open Go Go.Proofs.YtgmhnjicaihmmaaGreat.Eng Go.Proofs
/-- the windows that a byte tells -/
def winTab : List Int := [
  1024, 1152, 1280, 1408, 1536, 1664, 1792, 1920, 2048, 2304, 2560, 2816,
  3072, 3328, 3584, 3840, 4096, 4608, 5120, 5632, 6144, 6656, 7168, 7680,
  8192, 9216, 10240, 11264, 12288, 13312, 14336, 15360, 16384, 18432, 20480, 22528,
  24576, 26624, 28672, 30720, 32768, 36864, 40960, 45056, 49152, 53248, 57344, 61440,
  65536, 73728, 81920, 90112, 98304, 106496, 114688, 122880, 131072, 147456, 163840, 180224,
  196608, 212992, 229376, 245760, 262144, 294912, 327680, 360448, 393216, 425984, 458752, 491520,
  524288, 589824, 655360, 720896, 786432, 851968, 917504, 983040, 1048576, 1179648, 1310720, 1441792,
  1572864, 1703936, 1835008, 1966080, 2097152, 2359296, 2621440, 2883584, 3145728, 3407872, 3670016, 3932160,
  4194304, 4718592, 5242880, 5767168, 6291456, 6815744, 7340032, 7864320, 8388608, 9437184, 10485760, 11534336,
  12582912, 13631488, 14680064, 15728640, 16777216, 18874368, 20971520, 23068672, 25165824, 27262976, 29360128, 31457280,
  33554432, 37748736, 41943040, 46137344, 50331648, 54525952, 58720256, 62914560, 67108864, 75497472, 83886080, 92274688,
  100663296, 109051904, 117440512, 125829120, 134217728]
def winN (k : Int) : Int := winTab[k.toNat]?.getD 0
/-- the first byte from k on whose window is at least n -/
def idxF : Nat → Int → Int → Int
  | 0, k, _ => k
  | m + 1, k, n => if winN k < n then idxF m (k + 1) n else k
def idxW (k n : Int) : Int := idxF (136 - k).toNat k n
/-- the meaning of the functions 50 (the window of a byte) and 51 (the first byte) -/
class WinI (I : Interp) : Prop where
  h50 : ∀ x, I.f1 50 x = .i (winN x.int)
  h51 : ∀ x n, I.f2 51 x n = .i (idxW x.int n.int)
theorem winN_last : winN 136 = 134217728 := by decide
theorem idxW_lt {k n : Int} (h0 : 0 ≤ k) (h1 : k ≤ 136) (h2 : n ≤ 134217728) (h : winN k < n) : k < 136 ∧ idxW k n = idxW (k + 1) n := by
  have h3 : k < 136 := by
    rcases Int.lt_or_eq_of_le h1 with h3 | rfl
    · exact h3
    · rw [winN_last] at h; omega
  refine ⟨h3, ?_⟩
  unfold idxW
  rw [show (136 - k).toNat = (136 - (k + 1)).toNat + 1 by omega, idxF, if_pos h]
theorem idxW_ge {k n : Int} (h : ¬ winN k < n) : idxW k n = k := by
  unfold idxW
  cases (136 - k).toNat with
  | zero => rfl
  | succ m => rw [idxF, if_neg h]
theorem idxF_range : ∀ (m : Nat) (k n : Int), 0 ≤ k → k + m ≤ 136 → 0 ≤ idxF m k n ∧ idxF m k n ≤ 136
  | 0, k, n, h0, h1 => by simp only [idxF]; omega
  | m + 1, k, n, h0, h1 => by
    simp only [idxF]
    split
    · exact idxF_range m (k + 1) n (by omega) (by omega)
    · omega
theorem idxW_range {k n : Int} (h0 : 0 ≤ k) (h1 : k ≤ 136) : 0 ≤ idxW k n ∧ idxW k n ≤ 136 := idxF_range _ _ _ h0 (by omega)
/-- the byte of a window is found again -/
theorem idx_back : ((List.range 137).all fun k => decide (idxW 0 (winN k) = k)) = true := by decide +kernel
theorem idxW_win {k : Int} (h0 : 0 ≤ k) (h1 : k ≤ 136) : idxW 0 (winN k) = k := by
  have := List.all_eq_true.1 idx_back k.toNat (List.mem_range.2 (by omega))
  have h := of_decide_eq_true this
  rwa [show ((k.toNat : Nat) : Int) = k by omega] at h
theorem win_low : ((List.range 137).all fun k => decide (1024 ≤ winN k ∧ winN k ≤ 134217728)) = true := by decide +kernel
theorem winN_range {k : Int} (h0 : 0 ≤ k) (h1 : k ≤ 136) : 1024 ≤ winN k ∧ winN k ≤ 134217728 := by
  have := List.all_eq_true.1 win_low k.toNat (List.mem_range.2 (by omega))
  have h := of_decide_eq_true this
  rwa [show ((k.toNat : Nat) : Int) = k by omega] at h
/-! Window, byte by byte -/
/-- a call on plain arguments: what it returns, as the evaluator tells it -/
theorem law_ret [Interp] {d f : Nat} {vs : List Value} {r : AVal} {w : World} (q : R2 → Bool) (hq : ∀ x, q x = true → ∃ h n, x = .ret r h n) (h : q (evN tb Tryz.prog d f (vs.map .lit) .leaf 0) = true) :
    Calls Tryz.prog f vs.toArray w fun e w' => ∃ κ x, e = .returned x ∧ V κ r x ∧ RowKit.Below w.heap.size w w' := by
  obtain ⟨h', n', hev⟩ := hq _ h
  refine (evN_sound (E := fun _ => none) tb_ok (drawP_ok tb_ok) (rel_nil (E := fun _ => none) w) (fun _ _ h => nomatch h) (VL.lits vs) hev).mono fun e w' ⟨κ', x, h1, h2, h3⟩ => ?_
  exact ⟨κ', x, h1, h2, ⟨h3.os, h3.tape, h3.output, h3.size, fun b hb => h3.old b hb fun i hl => absurd hl (not_may_leaf _ _)⟩⟩
noncomputable def isWin2 (n : Int) (x : R2) : Bool := match x with
  | .ret (.tup [.lit (.int .i64 a), .lit (.int .i64 e)]) _ _ => ieq a n && ieq e 0
  | _ => false
theorem isWin2_ok {n : Int} (x : R2) (h : isWin2 n x = true) : ∃ h n', x = .ret (.tup [.lit (.int .i64 n), .lit (.int .i64 0)]) h n' := by
  unfold isWin2 at h
  split at h
  · rename_i a e h' n'
    simp only [Bool.and_eq_true] at h
    have h1 := ieq_eq h.1
    have h2 := ieq_eq h.2
    subst h1 h2
    exact ⟨_, _, rfl⟩
  · cases h
noncomputable def isWin1 (n : Int) (x : R2) : Bool := match x with
  | .ret (.lit (.int .i64 a)) _ _ => ieq a n
  | _ => false
theorem isWin1_ok {n : Int} (x : R2) (h : isWin1 n x = true) : ∃ h n', x = .ret (.lit (.int .i64 n)) h n' := by
  unfold isWin1 at h
  split at h
  · have h1 := ieq_eq h
    subst h1
    exact ⟨_, _, rfl⟩
  · cases h
theorem winAll : ((List.range 137).all fun k => isWin2 (winN k) (evN tb Tryz.prog 40 39 [.lit (.int .u8 k)] .leaf 0)) = true := by kernel_rfl
theorem winAllR : ((List.range 137).all fun k => isWin1 (winN k) (evN tb Tryz.prog 40 40 [.lit (.int .u8 k)] .leaf 0)) = true := by kernel_rfl
section
variable {E : Nat → Option Value} {I : Interp}
noncomputable def winF : Facts := [(.a2 .lt (.var 0) (.lit 0), false), (.a2 .lt (.lit 136) (.var 0), false)]
noncomputable def cWin : Con := ⟨39, [.si .u8 (.var 0)], [], winF, .tup [.si .i64 (.a1 (.u 50) (.var 0)), .lit (.int .i64 0)], [], 1⟩
noncomputable def cWinR : Con := ⟨40, [.si .u8 (.var 0)], [], winF, .si .i64 (.a1 (.u 50) (.var 0)), [], 1⟩
theorem winF_ok {v : Nat → D} (hv : @Holds (I.at v) winF) : 0 ≤ (v 0).int ∧ (v 0).int ≤ 136 := by
  have f0 := hv (.a2 .lt (.var 0) (.lit 0), false) (by simp [winF])
  have f1 := hv (.a2 .lt (.lit 136) (.var 0), false) (by simp [winF])
  simp only at f0 f1
  have f0 : ¬ (v 0).int < 0 := of_decide_eq_false ((D.tr_ofB _).symm.trans f0)
  have f1 : ¬ 136 < (v 0).int := of_decide_eq_false ((D.tr_ofB _).symm.trans f1)
  omega
theorem cWin_ok [hI : WinI I] : ConGood E tb Tryz.prog I cWin := by
  refine con_below tb_ok (by kernel_rfl) rfl (by kernel_rfl) fun v hv κ vs w hvs hr => ?_
  obtain ⟨h0, h1⟩ := winF_ok hv
  cases hvs with
  | cons hx ht =>
  cases ht
  cases hx with
  | si =>
  have hk := List.all_eq_true.1 winAll (v 0).int.toNat (List.mem_range.2 (by omega))
  rw [show (((v 0).int.toNat : Nat) : Int) = (v 0).int by omega] at hk
  have h9 := @law_ret Interp.void 40 _ [.int .u8 (v 0).int] _ w _ isWin2_ok hk
  refine h9.mono ?_
  rintro e' w' ⟨κ2, x, rfl, hx, hb'⟩
  refine ⟨_, rfl, ?_, hb'⟩
  cases hx with
  | tup hx =>
  cases hx with
  | cons hx hy =>
  cases hy with
  | cons hy hz =>
  cases hz
  cases hx
  cases hy
  have e9 : (@SX.ev (I.at v) (.a1 (.u 50) (.var 0))).int = winN (v 0).int := by
    change (I.f1 50 (v 0)).int = _
    rw [hI.h50]; rfl
  rw [← e9]
  exact @V.tup (I.at v) κ _ _ (@VL.cons (I.at v) κ _ _ _ _ (@V.si (I.at v) κ .i64 _) (@VL.cons (I.at v) κ _ _ _ _ (@V.lit (I.at v) κ _) (@VL.nil (I.at v) κ)))
theorem cWinR_ok [hI : WinI I] : ConGood E tb Tryz.prog I cWinR := by
  refine con_below tb_ok (by kernel_rfl) rfl (by kernel_rfl) fun v hv κ vs w hvs hr => ?_
  obtain ⟨h0, h1⟩ := winF_ok hv
  cases hvs with
  | cons hx ht =>
  cases ht
  cases hx with
  | si =>
  have hk := List.all_eq_true.1 winAllR (v 0).int.toNat (List.mem_range.2 (by omega))
  rw [show (((v 0).int.toNat : Nat) : Int) = (v 0).int by omega] at hk
  have h9 := @law_ret Interp.void 40 _ [.int .u8 (v 0).int] _ w _ isWin1_ok hk
  refine h9.mono ?_
  rintro e' w' ⟨κ2, x, rfl, hx, hb'⟩
  refine ⟨_, rfl, ?_, hb'⟩
  cases hx
  have e9 : (@SX.ev (I.at v) (.a1 (.u 50) (.var 0))).int = winN (v 0).int := by
    change (I.f1 50 (v 0)).int = _
    rw [hI.h50]; rfl
  rw [← e9]
  exact @V.si (I.at v) κ .i64 _
/-! Byte: a loop -/
noncomputable def wn (k : SX) : SX := .a1 (.u 50) k
noncomputable def ix (k n : SX) : SX := .a2 (.u 51) k n
noncomputable def small : SX := .a2 .lt (wn (.var 2)) (.var 1)
noncomputable def byteF : Facts := [(.a2 .lt (.var 1) (.lit 0), false), (.a2 .lt (.lit 134217728) (.var 1), false), (.a2 .lt (.var 2) (.lit 0), false), (.a2 .lt (.lit 136) (.var 2), false)]
noncomputable def byteL : List Lem := [
  ⟨(small, true) :: byteF, [(.a2 .lt (.var 2) (.lit 136), true), (.a2 .eq (ix (.var 2) (.var 1)) (ix (.a2 .add (.var 2) (.lit 1)) (.var 1)), true)]⟩,
  ⟨(small, false) :: byteF, [(.a2 .eq (ix (.var 2) (.var 1)) (.var 2), true)]⟩]
theorem byteL_ok [hI : WinI I] : ∀ l ∈ byteL, l.Valid I := by
  intro l hl
  simp only [byteL, List.mem_cons, List.not_mem_nil, or_false] at hl
  have e50 : ∀ (v : Nat → D), (@SX.ev (I.at v) (wn (.var 2))).int = winN (v 2).int := fun v => by
    change (I.f1 50 (v 2)).int = _
    rw [hI.h50]; rfl
  rcases hl with rfl | rfl
  · intro v h
    simp only [byteF, small, holds_cons, holds_nil, and_true, fact_lt, fact_eq, decide_eq_true_eq, decide_eq_false_iff_not] at h ⊢
    obtain ⟨h1, h2, h3, h4, h5⟩ := h
    rw [e50] at h1
    have h1 : winN (v 2).int < (v 1).int := h1
    have h2 : ¬ (v 1).int < 0 := h2
    have h3 : ¬ 134217728 < (v 1).int := h3
    have h4 : ¬ (v 2).int < 0 := h4
    have h5 : ¬ 136 < (v 2).int := h5
    obtain ⟨q1, q2⟩ := idxW_lt (k := (v 2).int) (n := (v 1).int) (by omega) (by omega) (by omega) h1
    refine ⟨q1, ?_⟩
    change (I.f2 51 (v 2) (v 1)).int = (I.f2 51 (.i ((v 2).int + 1)) (v 1)).int
    rw [hI.h51, hI.h51]
    exact q2
  · intro v h
    simp only [byteF, small, holds_cons, holds_nil, and_true, fact_lt, fact_eq, decide_eq_true_eq, decide_eq_false_iff_not] at h ⊢
    obtain ⟨h1, h2, h3, h4, h5⟩ := h
    rw [e50] at h1
    change (I.f2 51 (v 2) (v 1)).int = (v 2).int
    rw [hI.h51]
    exact idxW_ge h1
noncomputable def lByte : LCon := ⟨38, [false, true, false, true, true, true], 33,
  [(0, .si .i64 (.var 1)), (4, .si .u8 (.var 2)), (5, .si .i64 (wn (.var 2))), (6, .lit (.int .i64 0))],
  [(4, .si .u8 (ix (.var 2) (.var 1))), (5, .any), (18, .any), (19, .any), (20, .any), (21, .any), (22, .any), (23, .any), (24, .any), (25, .any), (26, .any), (27, .any), (28, .any), (29, .any), (30, .any), (31, .any)],
  [], [], byteF, .ext 0, [], 0, .a2 .sub (.lit 136) (.var 2)⟩
noncomputable def lByteR : LCon := ⟨41, [false, false, true, true], 11,
  [(0, .si .i64 (.var 1)), (3, .si .u8 (.var 2))],
  [(3, .si .u8 (ix (.var 2) (.var 1))), (4, .any), (5, .any), (6, .any), (7, .any), (8, .any), (9, .any)],
  [], [], byteF, .ext 0, [], 0, .a2 .sub (.lit 136) (.var 2)⟩
noncomputable def treeByte : ST := .br small (.lem 0 .leaf) (.lem 1 .leaf)
theorem lByte_ok [WinI I] : LGood tb Tryz.prog I lByte :=
  lcon_good (d := 60) (l := [cWin]) (lps := []) tb_ok (List.forall_mem_cons.2 ⟨cWin_ok, fun _ h => by cases h⟩) (fun _ h => by cases h) (L := lemL byteL) (fun v => lemL_ok byteL_ok v) (t := treeByte) (m := 2) (fun ds => by kernel_rfl)
theorem lByteR_ok [WinI I] : LGood tb Tryz.prog I lByteR :=
  lcon_good (d := 60) (l := [cWinR]) (lps := []) tb_ok (List.forall_mem_cons.2 ⟨cWinR_ok, fun _ h => by cases h⟩) (fun _ h => by cases h) (L := lemL byteL) (fun v => lemL_ok byteL_ok v) (t := treeByte) (m := 2) (fun ds => by kernel_rfl)
noncomputable def byte0 : Facts := [(.a2 .lt (.var 1) (.lit 0), false), (.a2 .lt (.lit 134217728) (.var 1), false)]
noncomputable def i0 (n : SX) : SX := ix (.lit 0) n
noncomputable def ixL (i : Nat) : Lem := ⟨[], [(.a2 .lt (i0 (.var i)) (.lit 0), false), (.a2 .lt (.lit 136) (i0 (.var i)), false)]⟩
theorem ixL_ok [hI : WinI I] (i : Nat) : (ixL i).Valid I := by
  intro v h
  simp only [ixL, holds_cons, holds_nil, and_true, fact_lt, decide_eq_false_iff_not]
  have e : (@SX.ev (I.at v) (i0 (.var i))).int = idxW 0 (v i).int := by
    change (I.f2 51 (.i 0) (v i)).int = _
    rw [hI.h51]; rfl
  rw [e]
  have := idxW_range (k := 0) (n := (v i).int) (by omega) (by omega)
  change ¬ idxW 0 (v i).int < 0 ∧ ¬ (136 : Int) < idxW 0 (v i).int
  omega
noncomputable def cByte : Con := ⟨38, [.si .i64 (.var 1)], [], byte0, .tup [.si .u8 (i0 (.var 1)), .lit (.int .i64 0)], [], 1⟩
noncomputable def cByteR : Con := ⟨41, [.si .i64 (.var 1)], [], byte0, .si .u8 (i0 (.var 1)), [], 1⟩
theorem one_ok {P : Con → Prop} {c : Con} (h : P c) : ∀ c' ∈ [c], P c' := List.forall_mem_cons.2 ⟨h, fun _ h => by cases h⟩
theorem cByte_ok [WinI I] : ConGood E tb Tryz.prog I cByte :=
  con_loopsM (d := 60) (l := [cWin]) (lps := [lByte]) tb_ok (one_ok cWin_ok) (List.forall_mem_cons.2 ⟨lByte_ok, fun _ h => by cases h⟩) (L := noLem) (t := .leaf) (fun v => @noLem_ok (I.at v)) (by kernel_rfl)
theorem cByteR_ok [WinI I] : ConGood E tb Tryz.prog I cByteR :=
  con_loopsM (d := 60) (l := [cWinR]) (lps := [lByteR]) tb_ok (one_ok cWinR_ok) (List.forall_mem_cons.2 ⟨lByteR_ok, fun _ h => by cases h⟩) (L := noLem) (t := .leaf) (fun v => @noLem_ok (I.at v)) (by kernel_rfl)
end
end Go.Proofs.YtgmhnjicaihmmaaGreat.Sy
