/- PatchHeads on symbols. -/
import Derived.Test.YtgmhnjicaihmmaaGreatHeads
set_option linter.unusedVariables false
set_option linter.unusedSimpArgs false
set_option maxRecDepth 100000
namespace Go.Proofs.YtgmhnjicaihmmaaGreat.Sy
open Go Go.Proofs.YtgmhnjicaihmmaaGreat.Eng Go.Proofs
theorem encH_len : ∀ (k : Nat) (n : Int), (enc k n).length ≤ k + 1
  | 0, n => by simp [enc]
  | k + 1, n => by
    simp only [enc]
    split
    · simp
    · have := encH_len k (n / 128)
      simp only [List.length_cons]; omega
theorem encH_byt : ∀ (k : Nat) (n : Int), 0 ≤ n → n < 256 * 128 ^ k → (∀ z ∈ enc k n, 0 ≤ z ∧ z ≤ 255)
  | 0, n, h0, h1 => by
    intro z hz
    simp only [enc, List.mem_singleton] at hz
    subst hz
    rw [Int.pow_zero] at h1
    omega
  | k + 1, n, h0, h1 => by
    intro z hz
    simp only [enc] at hz
    split at hz
    · simp only [List.mem_singleton] at hz; subst hz; omega
    · rcases List.mem_cons.1 hz with rfl | hz
      · omega
      · refine encH_byt k (n / 128) (Int.ediv_nonneg h0 (by decide)) ?_ z hz
        rw [Int.pow_succ] at h1
        exact Int.ediv_lt_of_lt_mul (by decide) (by rw [Int.mul_assoc]; exact h1)
section
variable {I : Interp}
noncomputable def encV (i : Nat) : SX := .a1 (.u 30) (.var i)
noncomputable def encL' (i : Nat) : Lem := ⟨[(.a2 .lt (.var i) (.lit 0), false), (.a2 .lt (.lit 67108864) (.var i), false)], [(.a2 .lt (.lit 9) (.a1 .len (encV i)), false), (.a1 .byt (encV i), true)]⟩
theorem encL'_ok [hP : PutI I] (i : Nat) : (encL' i).Valid I := fun v h => by
  simp only [encL', holds_cons, holds_nil, and_true, fact_lt, decide_eq_false_iff_not] at h ⊢
  obtain ⟨h0, h1⟩ := h
  have h0 : ¬ (v i).int < 0 := h0
  have h1 : ¬ (67108864 : Int) < (v i).int := h1
  have e : @SX.ev (I.at v) (encV i) = .l (enc 8 (v i).int) := hP.h _
  refine ⟨?_, ?_⟩
  · change ¬ (9 : Int) < ((@SX.ev (I.at v) (encV i)).list.length : Int)
    rw [e]
    have := encH_len 8 (v i).int
    change ¬ (9 : Int) < ((enc 8 (v i).int).length : Int)
    omega
  · change (D.ofB (bytB (@SX.ev (I.at v) (encV i)).list)).tr = true
    rw [D.tr_ofB, e]
    exact bytB_iff.2 fun z hz => encH_byt 8 (v i).int (by omega) (by omega) z hz
noncomputable def cKw : Con := ⟨5, [], [], [], .lit (.bool true), [], 1⟩
noncomputable def kH : List Con := [cPutV, cPutW, cRefV, cNumE, cNumB, cNumG, cRNumE, cRNumB, cRNumG, cBytesS, cBytes, cWordS, cWord, cLeft, cAt, cNew, cClone, cKw]
noncomputable def hn : SX := .a1 .len (.var 0)
noncomputable def hF : Facts := [(.a1 .byt (.var 0), true), (.a2 .lt (.lit 100) hn, false), (.a2 .lt (.var 2) (.lit 0), false), (.a2 .lt (.var 3) (.lit 0), false), (.a2 .lt (.lit 4294967295) (.var 3), false)]
noncomputable def prH (n : Nat) (p : SX) : SX := .a1 (.u n) (.a2 .pair (.var 0) (.a2 .pair p (.lit 0)))
noncomputable def p8 : SX := .lit 8
noncomputable def pN : SX := prH 12 p8
noncomputable def okH (p : SX) : SX := .a2 .eq (prH 11 p) (.lit 0)
noncomputable def bigH (p : SX) : SX := .a2 .lt (.lit 67108864) (prH 10 p)
noncomputable def magicE : SX := .a2 .eqL (.a3 .cut (.var 0) (.lit 0) (.lit 4)) (.str [80, 77, 84, 80])
noncomputable def atP (p : SX) : Nat → SX | 1 => p | i => .var i
noncomputable def hL : List Lem := [(numLs[0]).sub (atP p8), (numLs[0]).sub (atP pN), (numLs[1]).sub (atP p8), (numLs[1]).sub (atP pN), encL' 4, encL' 5]
theorem hL_ok [VarI I] [PutI I] : ∀ l ∈ hL, l.Valid I := by
  intro l hl
  simp only [hL, List.mem_cons, List.not_mem_nil, or_false] at hl
  rcases hl with rfl | rfl | rfl | rfl | rfl | rfl
  · exact Lem.sub_ok (numLs_ok _ (List.getElem_mem _)) _
  · exact Lem.sub_ok (numLs_ok _ (List.getElem_mem _)) _
  · exact Lem.sub_ok (numLs_ok _ (List.getElem_mem _)) _
  · exact Lem.sub_ok (numLs_ok _ (List.getElem_mem _)) _
  · exact encL'_ok _
  · exact encL'_ok _
noncomputable def cH (fs : Facts) : Con := ⟨3, [.si .u32 (.var 3), .si .i64 (.var 4), .si .i64 (.var 5), .slv 0 (.var 2) hn none 1], [.win .u8 (.var 2) (.var 0)], fs, .lit (.bool true), [(0, .win .u8 (.var 2) (.var 0))], 1⟩
noncomputable def tGet : ST := .br (.a2 .lt hn (.lit 4)) .leaf (.br magicE (.br (.a2 .lt hn (.lit 8)) .leaf (.lem 0 (.br (okH p8) (.br (bigH p8) .leaf (.lem 1 (.br (okH pN) (.br (bigH pN) .leaf .leaf) (.lem 3 .leaf)))) (.lem 2 .leaf)))) .leaf)
noncomputable def fx (e : SX) (b : Bool) (fs : Facts) : Facts := (e, b) :: fs
noncomputable def o1 : SX := .a2 .lt (.var 4) (.lit 0)
noncomputable def o2 : SX := .a2 .lt (.lit 67108864) (.var 4)
noncomputable def o3 : SX := .a2 .lt (.var 5) (.lit 0)
noncomputable def o4 : SX := .a2 .lt (.lit 67108864) (.var 5)
noncomputable def hAll : Facts := (o4, false) :: (o3, false) :: (o2, false) :: (o1, false) :: hF
end
end Go.Proofs.YtgmhnjicaihmmaaGreat.Sy
