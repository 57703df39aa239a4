/- Words and varints, written: contracts. -/
import Derived.Test.YtgmhnjicaihmmaaGreatNum
set_option linter.unusedVariables false
set_option linter.unusedSimpArgs false
set_option maxRecDepth 100000
namespace Go.Proofs.YtgmhnjicaihmmaaGreat.Sy
open Go Go.Proofs.YtgmhnjicaihmmaaGreat.Eng Go.Proofs
/-- a varint's bytes -/
def enc : Nat → Int → List Int
  | 0, n => [n]
  | k + 1, n => if n < 128 then [n] else (n % 128 + 128) :: enc k (n / 128)
/-- the meaning of the function 30 -/
class PutI (I : Interp) : Prop where
  h : ∀ x, I.f1 30 x = .l (enc 8 x.int)
section
variable {E : Nat → Option Value} {I : Interp}
noncomputable def putF : Facts := [(.a1 .byt (.var 0), true), (.a2 .lt (.lit 100000000) (.a1 .len (.var 0)), false), (.a2 .lt (.var 1) (.lit 0), false), (.a2 .lt (.lit 4611686018427387903) (.var 1), false)]
noncomputable def quoT (i : Nat) : SX := match i with | 0 => .var 1 | i => .a2 (.ar .quo .u64) (.var 1) (.lit (.ofNat (128 ^ i)))
noncomputable def remT (i : Nat) : SX := .a2 .add (.a2 (.ar .rem .u64) (quoT i) (.lit 128)) (.lit 128)
noncomputable def lowT (i : Nat) : SX := .a2 .lt (quoT i) (.lit 128)
/-- .. of j + 1 bytes -/
noncomputable def encT (j : Nat) : SX := Nat.rec (motive := fun _ => SX → Nat → SX) (fun a i => .a2 .push a (quoT i)) (fun _ ih a i => ih (.a2 .push a (remT i)) (i + 1)) j (.str []) 0
noncomputable def encU : SX := .a1 (.u 30) (.var 1)
/-- the conditions of so many bytes -/
noncomputable def encC (j : Nat) : Facts := (if j = 8 then [] else [(lowT j, true)]) ++ (List.range j).map fun i => (lowT i, false)
noncomputable def encL (j : Nat) : Lem := ⟨encC j ++ [(.a2 .lt (.var 1) (.lit 0), false), (.a2 .lt (.lit 4611686018427387903) (.var 1), false)], [(.a2 .same encU (encT j), true), (.a2 .eq (.a1 .len encU) (.lit (.ofNat (j + 1))), true)]⟩
theorem quo_ev {n : Int} {k : Nat} (h0 : 0 ≤ n) (h1 : n ≤ 4611686018427387903) : arI .quo .u64 n (k : Int) = n / (k : Int) := by
  simp only [arI]
  rw [Int.tdiv_eq_ediv_of_nonneg h0]
  have h2 : 0 ≤ n / (k : Int) := Int.ediv_nonneg h0 (Int.natCast_nonneg k)
  have h3 : n / (k : Int) ≤ n := Int.ediv_le_self _ h0
  exact wrap_id ⟨by simp [kLo]; omega, by simp [kHi]; omega⟩
theorem rem_ev {n : Int} (h0 : 0 ≤ n) : arI .rem .u64 n 128 = n % 128 := by
  simp only [arI]
  rw [Int.tmod_eq_emod_of_nonneg h0]
theorem enc_all : ∀ (j k : Nat) (n : Int), 0 ≤ n → j ≤ k → (∀ i, i < j → ¬ n / 128 ^ i < 128) → (j = k ∨ n / 128 ^ j < 128) → enc k n = ((List.range j).map fun i => n / 128 ^ i % 128 + 128) ++ [n / 128 ^ j]
  | 0, k, n, h0, hk, _, h2 => by
    rcases k with _ | k
    · simp [enc]
    · have h2 := h2.resolve_left (by omega)
      rw [Int.pow_zero, Int.ediv_one] at h2
      simp [enc, h2]
  | j + 1, k, n, h0, hk, h1, h2 => by
    rcases k with _ | k
    · omega
    · have h3 := h1 0 (by omega)
      rw [Int.pow_zero, Int.ediv_one] at h3
      have e : ∀ i : Nat, n / 128 / 128 ^ i = n / 128 ^ (i + 1) := fun i => by
        rw [Int.ediv_ediv_of_nonneg (by decide), Int.pow_succ, Int.mul_comm]
      have ih := enc_all j k (n / 128) (Int.ediv_nonneg h0 (by decide)) (by omega) (fun i hi => by rw [e]; exact h1 (i + 1) (by omega)) (by rw [e]; exact h2.imp (by omega) id)
      simp only [enc]
      rw [if_neg h3, ih, List.range_succ_eq_map, List.map_cons, List.map_map, Int.pow_zero, Int.ediv_one, List.cons_append, e]
      congr 2
      exact List.map_congr_left fun i _ => by simp only [Function.comp, e]
theorem quoT_ev {v : Nat → D} (h0 : 0 ≤ (v 1).int) (h1 : (v 1).int ≤ 4611686018427387903) (i : Nat) : (@SX.ev (I.at v) (quoT i)).int = (v 1).int / 128 ^ i := by
  rcases i with _ | i
  · rw [Int.pow_zero, Int.ediv_one]; rfl
  · have := quo_ev (n := (v 1).int) (k := 128 ^ (i + 1)) h0 h1
    rw [show (((128 ^ (i + 1) : Nat)) : Int) = 128 ^ (i + 1) by rw [Int.natCast_pow]; rfl] at this
    rw [← this]; rfl
theorem remT_ev {v : Nat → D} (h0 : 0 ≤ (v 1).int) (h1 : (v 1).int ≤ 4611686018427387903) (i : Nat) : (@SX.ev (I.at v) (remT i)).int = (v 1).int / 128 ^ i % 128 + 128 := by
  have e := quoT_ev (I := I) h0 h1 i
  have h2 : 0 ≤ (v 1).int / 128 ^ i := Int.ediv_nonneg h0 (Int.pow_nonneg (by decide))
  change arI .rem .u64 (@SX.ev (I.at v) (quoT i)).int 128 + 128 = _
  rw [e, rem_ev h2]
theorem encT_ev {v : Nat → D} (h0 : 0 ≤ (v 1).int) (h1 : (v 1).int ≤ 4611686018427387903) : ∀ (j : Nat) (a : SX) (i : Nat),
    (@SX.ev (I.at v) (Nat.rec (motive := fun _ => SX → Nat → SX) (fun a i => .a2 .push a (quoT i)) (fun _ ih a i => ih (.a2 .push a (remT i)) (i + 1)) j a i)) = .l ((@SX.ev (I.at v) a).list ++ (((List.range j).map fun t => (v 1).int / 128 ^ (i + t) % 128 + 128) ++ [(v 1).int / 128 ^ (i + j)]))
  | 0, a, i => by
    change D.l ((@SX.ev (I.at v) a).list ++ [(@SX.ev (I.at v) (quoT i)).int]) = _
    rw [quoT_ev h0 h1]; rfl
  | j + 1, a, i => by
    have ih := encT_ev h0 h1 j (.a2 .push a (remT i)) (i + 1)
    refine ih.trans ?_
    have e : (@SX.ev (I.at v) (.a2 .push a (remT i))).list = (@SX.ev (I.at v) a).list ++ [(v 1).int / 128 ^ i % 128 + 128] := by
      rw [← remT_ev (I := I) h0 h1]; rfl
    rw [e, List.range_succ_eq_map, List.map_cons, List.map_map]
    congr 1
    simp only [List.append_assoc, List.cons_append, List.nil_append, Nat.add_zero]
    congr 2
    rw [show i + 1 + j = i + (j + 1) by omega]
    congr 1
    exact List.map_congr_left fun t _ => by simp only [Function.comp]; rw [show i + 1 + t = i + (t + 1) by omega]
theorem encL_ok [hI : PutI I] (j : Nat) (hj : j ≤ 8) : (encL j).Valid I := fun v h => by
  have f0 := h (.a2 .lt (.var 1) (.lit 0), false) (by simp [encL])
  have f1 := h (.a2 .lt (.lit 4611686018427387903) (.var 1), false) (by simp [encL])
  have h0 : ¬ (v 1).int < 0 := of_decide_eq_false ((D.tr_ofB _).symm.trans f0)
  have h1 : ¬ (4611686018427387903 : Int) < (v 1).int := of_decide_eq_false ((D.tr_ofB _).symm.trans f1)
  have h0 : 0 ≤ (v 1).int := by omega
  have h1 : (v 1).int ≤ 4611686018427387903 := by omega
  have hlow : ∀ i b, (lowT i, b) ∈ encC j → decide ((v 1).int / 128 ^ i < 128) = b := fun i b hm => by
    have h3 := h (lowT i, b) (by simp only [encL]; exact List.mem_append.2 (.inl hm))
    have h4 : (@SX.ev (I.at v) (lowT i)).tr = decide ((@SX.ev (I.at v) (quoT i)).int < 128) := D.tr_ofB _
    rw [h4, quoT_ev h0 h1] at h3; exact h3
  have e : enc 8 (v 1).int = ((List.range j).map fun i => (v 1).int / 128 ^ i % 128 + 128) ++ [(v 1).int / 128 ^ j] := by
    refine enc_all j 8 _ h0 hj (fun i hi => of_decide_eq_false (hlow i false ?_)) ?_
    · unfold encC
      exact List.mem_append.2 (.inr (List.mem_map.2 ⟨i, List.mem_range.2 hi, rfl⟩))
    · by_cases h8 : j = 8
      · exact .inl h8
      · refine .inr (of_decide_eq_true (hlow j true ?_))
        unfold encC
        rw [if_neg h8]; exact List.mem_append.2 (.inl (by simp))
  have e1 : @SX.ev (I.at v) encU = .l (enc 8 (v 1).int) := by
    change I.f1 30 (v 1) = _
    exact hI.h _
  have e2 : @SX.ev (I.at v) (encT j) = .l (enc 8 (v 1).int) := by
    rw [e]
    refine (encT_ev h0 h1 j (.str []) 0).trans ?_
    simp [SX.ev, D.list]
  intro q hq
  simp only [encL, List.mem_cons, List.not_mem_nil, or_false] at hq
  rcases hq with rfl | rfl
  · change (@F2.ev (I.at v) .same (@SX.ev (I.at v) encU) (@SX.ev (I.at v) (encT j))).tr = true
    rw [e1, e2]; simp only [F2.ev, D.tr_ofB, decide_eq_true_eq]
  · change (D.ofB (decide (((@SX.ev (I.at v) encU).list.length : Int) = ((j + 1 : Nat) : Int)))).tr = true
    rw [D.tr_ofB, e1, e]
    exact decide_eq_true (by simp [D.list])
noncomputable def encLs : List Lem := [encL 0, encL 1, encL 2, encL 3, encL 4, encL 5, encL 6, encL 7, encL 8]
theorem encLs_ok [hI : PutI I] : ∀ l ∈ encLs, l.Valid I := fun l h => by
  simp only [encLs, List.mem_cons, List.not_mem_nil, or_false] at h
  rcases h with rfl | rfl | rfl | rfl | rfl | rfl | rfl | rfl | rfl
  all_goals exact encL_ok _ (by decide)
noncomputable def encS : ST := .br (lowT 0) (.lem 0 .leaf) (.br (lowT 1) (.lem 1 .leaf) (.br (lowT 2) (.lem 2 .leaf) (.br (lowT 3) (.lem 3 .leaf) (.br (lowT 4) (.lem 4 .leaf) (.br (lowT 5) (.lem 5 .leaf) (.br (lowT 6) (.lem 6 .leaf) (.br (lowT 7) (.lem 7 .leaf) (.lem 8 .leaf))))))))
noncomputable def cPutV : Con := ⟨25, [.slv 0 (.lit 0) (.a1 .len (.var 0)) none 1, .si .u64 (.var 1)], [.seq .u8 (.var 0) 5], putF, .tup [.slv 1 (.lit 0) (.a2 .add (.a1 .len (.var 0)) (.a1 .len encU)) none 1, .lit (.int .i64 0)], [(0, .seq .u8 (.var 0) 5), (1, .seq .u8 (.a2 .app (.var 0) encU) 5)], 2⟩
theorem cPutV_ok [hI : PutI I] : ConGood E tb Tryz.prog I cPutV := con_casesM (d := 60) tb_ok k1_ok (L := lemL encLs) (fun v => lemL_ok encLs_ok v) (t := encS) (by kernel_rfl)
noncomputable def cPutVX : Con := ⟨25, [.slv 0 (.lit 0) (.a1 .len (.var 0)) none 1, .si .u64 (.var 1)], [.seq .u8 (.var 0) 5], [(.a2 .lt (.lit 4611686018427387903) (.var 1), true)], .tup [.lit (.slice none 0 0), .lit (.int .i64 2)], [(0, .seq .u8 (.var 0) 5)], 1⟩
theorem cPutVX_ok : ConGood E tb Tryz.prog I cPutVX := con_goodM (d := 60) tb_ok k1_ok (by kernel_rfl)
/-! words -/
noncomputable def qw (n : SX) (k : Int) : SX := .a2 (.ar .quo .u64) n (.lit k)
noncomputable def rw8 (n : SX) : SX := .a2 (.ar .rem .u64) n (.lit 256)
noncomputable def putW (a n : SX) : SX := .a2 .push (.a2 .push (.a2 .push (.a2 .push a (rw8 n)) (rw8 (qw n 256))) (rw8 (qw n 65536))) (qw n 16777216)
noncomputable def putWF : Facts := [(.a1 .byt (.var 0), true), (.a2 .lt (.lit 100000000) (.a1 .len (.var 0)), false), (.a2 .lt (.var 1) (.lit 0), false), (.a2 .lt (.lit 4294967295) (.var 1), false)]
noncomputable def cPutW : Con := ⟨23, [.slv 0 (.lit 0) (.a1 .len (.var 0)) none 1, .si .u32 (.var 1)], [.seq .u8 (.var 0) 5], putWF, .slv 1 (.lit 0) (.a2 .add (.a1 .len (.var 0)) (.lit 4)) none 1, [(0, .seq .u8 (.var 0) 5), (1, .seq .u8 (putW (.var 0) (.var 1)) 5)], 2⟩
theorem cPutW_ok : ConGood E tb Tryz.prog I cPutW := con_goodM (d := 60) tb_ok k1_ok (by kernel_rfl)
end
end Go.Proofs.YtgmhnjicaihmmaaGreat.Sy
