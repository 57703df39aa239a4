/- A call of FrameMay returns true for all options and every number, and turns nothing that was there: what known returns is known; whether a window is valid is a function of it; the law is run in the 21 cases that the options and the number leave. No condition. -/
import Derived.Test.YtapnpdingakdcaaGreatWins
import Derived.IntWalk
set_option linter.unusedVariables false
set_option maxRecDepth 100000
namespace Go.Proofs.YtapnpdingakdcaaGreat
open Go Go.Proofs.YtapnpdingakdcaaGreat.Eng Go.Proofs
theorem i64_in (n : Int) (h : -9223372036854775808 ≤ n ∧ n ≤ 9223372036854775807) : IntKind.i64.wrap n = n := IntWalk.i64_in n h
/-- how many pieces of k bytes, at least one: once with the rest, once rounded up -/
noncomputable def pcsA (n k : SX) : SX := .a2 .mx (.a2 (.ar .add .i64) (.a2 (.ar .quo .i64) n k) (.a2 .mn (.a2 (.ar .rem .i64) n k) (.lit 1))) (.lit 1)
noncomputable def pcsB (n k : SX) : SX := .a2 .mx (.a2 (.ar .quo .i64) (.a2 (.ar .sub .i64) (.a2 (.ar .add .i64) n k) (.lit 1)) k) (.lit 1)
theorem ceil_eq (a k : Int) (ha : 0 ≤ a) (hk : 1 ≤ k) : (a + k - 1) / k = a / k + min (a % k) 1 := by
  have h1 := Int.emod_add_mul_ediv a k
  have h2 := Int.emod_nonneg a (show k ≠ 0 by omega)
  have h3 := Int.emod_lt_of_pos a (show 0 < k by omega)
  generalize a / k = q at *
  generalize a % k = r at *
  by_cases hr : r = 0
  · subst hr
    have : (a + k - 1) / k = q ∧ (a + k - 1) % k = k - 1 := (Int.ediv_emod_unique (by omega)).2 ⟨by omega, by omega, by omega⟩
    rw [this.1]; omega
  · have : (a + k - 1) / k = q + 1 ∧ (a + k - 1) % k = r - 1 := (Int.ediv_emod_unique (by omega)).2 ⟨by rw [Int.mul_add]; omega, by omega, by omega⟩
    rw [this.1]; omega
theorem div_le (a k : Int) (ha : 0 ≤ a) (_hk : 1 ≤ k) : 0 ≤ a / k ∧ a / k ≤ a := by
  have h1 := Int.emod_add_mul_ediv a k
  have h2 := Int.emod_nonneg a (show k ≠ 0 by omega)
  have h0 := Int.ediv_nonneg ha (show 0 ≤ k by omega)
  refine ⟨h0, ?_⟩
  exact Int.ediv_le_self k ha

theorem mx_int [Interp] {x y : SX} {a b : Int} (hx : x.ev.int = a) (hy : y.ev.int = b) : (SX.a2 .mx x y).ev.int = max a b := by
  subst hx hy
  change (if y.ev.int > x.ev.int then y.ev.int else x.ev.int) = _
  split <;> omega
theorem mn_int [Interp] {x y : SX} {a b : Int} (hx : x.ev.int = a) (hy : y.ev.int = b) : (SX.a2 .mn x y).ev.int = min a b := by
  subst hx hy
  change (if y.ev.int < x.ev.int then y.ev.int else x.ev.int) = _
  split <;> omega
theorem add_int [Interp] {x y : SX} {a b : Int} (hx : x.ev.int = a) (hy : y.ev.int = b) (h : -9223372036854775808 ≤ a + b ∧ a + b ≤ 9223372036854775807) : (SX.a2 (.ar .add .i64) x y).ev.int = a + b := by
  subst hx hy; exact i64_in _ h
theorem sub_int [Interp] {x y : SX} {a b : Int} (hx : x.ev.int = a) (hy : y.ev.int = b) (h : -9223372036854775808 ≤ a - b ∧ a - b ≤ 9223372036854775807) : (SX.a2 (.ar .sub .i64) x y).ev.int = a - b := by
  subst hx hy; exact i64_in _ h
theorem quo_int [Interp] {x y : SX} {a b : Int} (hx : x.ev.int = a) (hy : y.ev.int = b) (h1 : 0 ≤ a) (h2 : 1 ≤ b) (h : a ≤ 9223372036854775807) : (SX.a2 (.ar .quo .i64) x y).ev.int = a / b := by
  subst hx hy
  have := div_le _ _ h1 h2
  change IntKind.i64.wrap (x.ev.int.tdiv y.ev.int) = _
  rw [Int.tdiv_eq_ediv_of_nonneg h1]
  exact i64_in _ (by omega)
theorem rem_int [Interp] {x y : SX} {a b : Int} (hx : x.ev.int = a) (hy : y.ev.int = b) (h1 : 0 ≤ a) : (SX.a2 (.ar .rem .i64) x y).ev.int = a % b := by
  subst hx hy
  exact Int.tmod_eq_emod_of_nonneg h1
theorem pcsA_int [Interp] {n k : SX} {a b : Int} (hn : n.ev.int = a) (hk : k.ev.int = b) (h1 : 0 ≤ a ∧ a ≤ 1099511627776) (h2 : 1 ≤ b) : (pcsA n k).ev.int = max (a / b + min (a % b) 1) 1 := by
  have hd := div_le a b h1.1 h2
  have h3 := Int.emod_nonneg a (show b ≠ 0 by omega)
  exact mx_int (add_int (quo_int hn hk h1.1 h2 (by omega)) (mn_int (rem_int hn hk h1.1) rfl) (by omega)) rfl
theorem pcsB_int [Interp] {n k : SX} {a b : Int} (hn : n.ev.int = a) (hk : k.ev.int = b) (h1 : 0 ≤ a ∧ a ≤ 1099511627776) (h2 : 1 ≤ b ∧ b ≤ 1099511627776) : (pcsB n k).ev.int = max (a / b + min (a % b) 1) 1 := by
  have := ceil_eq a b h1.1 h2.1
  rw [← this]
  exact mx_int (quo_int (sub_int (add_int hn hk (by omega)) rfl (by omega)) hk (by omega) h2.1 (by omega)) rfl
noncomputable def bndT (n fr bl : SX) : SX := .a2 (.ar .add .i64) n (.a2 (.ar .mul .i64) fr (.a2 (.ar .add .i64) (.a2 (.ar .mul .i64) (.lit 3) (.a2 (.ar .add .i64) bl (.lit 1))) (.lit 23)))
theorem bndT_eq [Interp] {n a b c d : SX} (h1 : a.ev.int = c.ev.int) (h2 : b.ev.int = d.ev.int) : (SX.a2 .eq (bndT n a b) (bndT n c d)).ev.tr = true := by
  have : (bndT n a b).ev.int = (bndT n c d).ev.int := by
    change arI .add .i64 n.ev.int (arI .mul .i64 a.ev.int (arI .add .i64 (arI .mul .i64 3 (arI .add .i64 b.ev.int 1)) 23)) = arI .add .i64 n.ev.int (arI .mul .i64 c.ev.int (arI .add .i64 (arI .mul .i64 3 (arI .add .i64 d.ev.int 1)) 23))
    rw [h1, h2]
  exact (D.tr_ofB _).trans (decide_eq_true this)

noncomputable def cK : Con := ⟨9, [], [], [], .lit (.bool true), [], 200000⟩
theorem cK_ok {E : Nat → Option Value} {I : Interp} : ConGood E tb Tryz.prog I cK := con_goodR (l := []) (d := 60) tb_ok (fun _ h => by cases h) (by kernel_rfl)
noncomputable def cons : List Con := [cH 10, cH 11, cK]
theorem cons_ok {E : Nat → Option Value} {u : Nat → D} : ∀ c ∈ cons, ConGood E tb Tryz.prog (mean u) c :=
  List.forall_mem_cons.2 ⟨cH_ok allV outV, List.forall_mem_cons.2 ⟨cH_ok allM outM, List.forall_mem_cons.2 ⟨cK_ok, fun _ h => by cases h⟩⟩⟩
noncomputable def fargs : List AVal := [.agg [.si .i64 (.var 0), .si .i64 (.var 1), .si .i64 (.var 2), .sb (.var 5), .sb (.var 6), .si .i64 (.var 3)], .si .i64 (.var 4)]
noncomputable def good (fs : Facts) : Bool := match litR (callF (tb.knows fs) Tryz.prog (evR (tb.knows fs) Tryz.prog cons 40) 3 fargs .leaf 0) with
  | some (.bool b) => b
  | _ => false
noncomputable def uT (b : Bool) : SX × Bool := (.a1 (.u 0) (.var 0), b)
noncomputable def dT : SX × Bool := (.a1 (.u 0) (.lit 1048576), true)
noncomputable def f1 (b : Bool) : SX × Bool := (.a2 .lt (.var 1) (.lit 0), b)
noncomputable def f2 (b : Bool) : SX × Bool := (.a2 .lt (.lit 3) (.var 1), b)
noncomputable def f3 (b : Bool) : SX × Bool := (.a2 .lt (.var 2) (.lit 0), b)
noncomputable def f4 (b : Bool) : SX × Bool := (.a2 .lt (.lit 4096) (.var 2), b)
noncomputable def f5 (b : Bool) : SX × Bool := (.a2 .lt (.var 3) (.lit 0), b)
noncomputable def n1 (b : Bool) : SX × Bool := (.a2 .lt (.var 4) (.lit 0), b)
noncomputable def n2 (b : Bool) : SX × Bool := (.a2 .lt (.lit 1099511627776) (.var 4), b)
/-- the ways in which options are not valid, and that they are -/
noncomputable def ways : List Facts := [[dT, uT false], [dT, uT true, f1 true], [dT, uT true, f1 false, f2 true], [dT, uT true, f1 false, f2 false, f3 true], [dT, uT true, f1 false, f2 false, f3 false, f4 true], [dT, uT true, f1 false, f2 false, f3 false, f4 false, f5 true]]
noncomputable def all : Facts := [dT, uT true, f1 false, f2 false, f3 false, f4 false, f5 false]
/-- the ways in which the number is not one that has a bound, and that it is -/
noncomputable def nums : List Facts := [[n1 true], [n1 false, n2 true], [n1 false, n2 false]]
theorem runs_bad : (ways.all fun a => nums.all fun b => good (a ++ b)) = true := by kernel_rfl
theorem runs_out : (good (all ++ [n1 true]) && good (all ++ [n1 false, n2 true])) = true := by kernel_rfl
noncomputable def per1 : SX := .a2 .mx (.var 4) (.lit 1)
noncomputable def blk : SX := .a2 .mn (.var 0) (.lit 131072)
noncomputable def rest : Facts := [(.a2 .lt (.var 0) (.lit 1024), false), (.a2 .eq per1 (.lit 0), false), (.a2 .eq blk (.lit 0), false)]
noncomputable def same (a b c d : SX) : SX × Bool := (.a2 .eq (bndT (.var 4) a b) (bndT (.var 4) c d), true)
noncomputable def way0 : Facts := [(.a2 .eq (.var 3) (.lit 0), true), same (pcsA (.var 4) per1) (pcsA (.a2 .mn per1 (.var 4)) blk) (pcsB (.var 4) per1) (pcsB (.a2 .mn per1 (.var 4)) blk)]
noncomputable def way1 : Facts := [(.a2 .lt (.lit 0) (.var 3), true), (.a2 .lt (.var 4) (.var 3), true), same (pcsA (.var 4) (.var 3)) (pcsA (.var 4) blk) (pcsB (.var 4) per1) (pcsB (.a2 .mn per1 (.var 4)) blk)]
noncomputable def way2 : Facts := [(.a2 .lt (.lit 0) (.var 3), true), (.a2 .lt (.var 4) (.var 3), false), same (pcsA (.var 4) (.var 3)) (pcsA (.var 3) blk) (pcsB (.var 4) (.var 3)) (pcsB (.var 3) blk)]
noncomputable def allN : Facts := all ++ [n1 false, n2 false]
theorem runs_in : (good (allN ++ (rest ++ way0)) && good (allN ++ (rest ++ way1)) && good (allN ++ (rest ++ way2))) = true := by kernel_rfl
noncomputable def vars (w l d f n : Int) (s m : Bool) : Nat → D
  | 0 => .i w
  | 1 => .i l
  | 2 => .i d
  | 3 => .i f
  | 4 => .i n
  | 5 => D.ofB s
  | _ => D.ofB m
theorem okDefault : okW 1048576 = true := by kernel_rfl
section
variable {w l d f n : Int} {s m : Bool}
theorem law_of {W : World} {fs : Facts} (h : @Holds (mean (vars w l d f n s m)) fs) (hg : good fs = true) :
    Calls Tryz.prog 3 #[.agg #[.int .i64 w, .int .i64 l, .int .i64 d, .bool s, .bool m, .int .i64 f], .int .i64 n] W fun e w' => e = .returned (.bool true) ∧ RowKit.Below W.heap.size W w' := by
  letI : Interp := mean (vars w l d f n s m)
  have ok : (tb.knows fs).OK Tryz.prog := Tab.OK.knows tb_ok h
  unfold good at hg
  split at hg
  case h_2 => cases hg
  rename_i b hb
  subst hg
  have e5 : (SX.var 5).ev.tr = s := D.tr_ofB s
  have e6 : (SX.var 6).ev.tr = m := D.tr_ofB m
  have v5 := V.sb (κ := ⟨fun _ => none, fun _ => none, fun _ => none⟩) (e := .var 5)
  have v6 := V.sb (κ := ⟨fun _ => none, fun _ => none, fun _ => none⟩) (e := .var 6)
  rw [e5] at v5; rw [e6] at v6
  exact law_know (E := fun _ => none) ok (evR_ok ok cons_ok 40) (vs := [.agg #[.int .i64 w, .int .i64 l, .int .i64 d, .bool s, .bool m, .int .i64 f], .int .i64 n])
    (.cons (V.agg (.cons .si (.cons .si (.cons .si (.cons v5 (.cons v6 (.cons .si .nil))))))) (.cons .si .nil)) hb
end
theorem frameMay_walk (a0 a1 a2 a5 b0 : Int) (a3 a4 : Bool) (W : World) :
    Calls Tryz.prog 3 #[.agg #[.int .i64 a0, .int .i64 a1, .int .i64 a2, .bool a3, .bool a4, .int .i64 a5], .int .i64 b0] W fun e w' => e = .returned (.bool true) ∧ RowKit.Below W.heap.size W w' := by
  letI I : Interp := mean (vars a0 a1 a2 a5 b0 a3 a4)
  have hD : (SX.a1 (.u 0) (.lit 1048576)).ev.tr = true := by
    change (D.ofB (okW 1048576)).tr = true
    rw [okDefault]; rfl
  have hU : (SX.a1 (.u 0) (.var 0)).ev.tr = okW a0 := D.tr_ofB _
  have hn : (b0 < 0 ∧ Holds [n1 true]) ∨ (1099511627776 < b0 ∧ Holds [n1 false, n2 true]) ∨ (0 ≤ b0 ∧ b0 ≤ 1099511627776 ∧ Holds [n1 false, n2 false]) := by
    by_cases h1 : b0 < 0
    · exact .inl ⟨h1, holdsC (lt_t (x := .var 4) (y := .lit 0) h1) holds0⟩
    · by_cases h2 : 1099511627776 < b0
      · exact .inr (.inl ⟨h2, holdsC (lt_f (x := .var 4) (y := .lit 0) h1) (holdsC (lt_t (x := .lit 1099511627776) (y := .var 4) h2) holds0)⟩)
      · exact .inr (.inr ⟨by omega, by omega, holdsC (lt_f (x := .var 4) (y := .lit 0) h1) (holdsC (lt_f (x := .lit 1099511627776) (y := .var 4) h2) holds0)⟩)
  have hN : ∃ nb ∈ nums, Holds nb := by
    rcases hn with ⟨_, h⟩ | ⟨_, h⟩ | ⟨_, _, h⟩
    · exact ⟨_, List.mem_cons_self .., h⟩
    · exact ⟨_, List.mem_cons_of_mem _ (List.mem_cons_self ..), h⟩
    · exact ⟨_, List.mem_cons_of_mem _ (List.mem_cons_of_mem _ (List.mem_cons_self ..)), h⟩
  have bad : ∀ wa ∈ ways, Holds wa → Calls Tryz.prog 3 #[.agg #[.int .i64 a0, .int .i64 a1, .int .i64 a2, .bool a3, .bool a4, .int .i64 a5], .int .i64 b0] W fun e w' => e = .returned (.bool true) ∧ RowKit.Below W.heap.size W w' := fun wa hm hw => by
    obtain ⟨nb, h1, h2⟩ := hN
    exact law_of (holdsA hw h2) (List.all_eq_true.1 (List.all_eq_true.1 runs_bad wa hm) nb h1)
  cases hok : okW a0 with
  | false => exact bad [dT, uT false] (List.mem_cons_self ..) (holdsC hD (holdsC (hU.trans hok) holds0))
  | true =>
    have hW := okW_range hok
    have u := hU.trans hok
    by_cases c1 : a1 < 0
    · exact bad [dT, uT true, f1 true] (List.mem_cons_of_mem _ (List.mem_cons_self ..)) (holdsC hD (holdsC u (holdsC (lt_t (x := .var 1) (y := .lit 0) c1) holds0)))
    have k1 := lt_f (x := .var 1) (y := .lit 0) c1
    by_cases c2 : 3 < a1
    · exact bad [dT, uT true, f1 false, f2 true] (List.mem_cons_of_mem _ (List.mem_cons_of_mem _ (List.mem_cons_self ..))) (holdsC hD (holdsC u (holdsC k1 (holdsC (lt_t (x := .lit 3) (y := .var 1) c2) holds0))))
    have k2 := lt_f (x := .lit 3) (y := .var 1) c2
    by_cases c3 : a2 < 0
    · exact bad [dT, uT true, f1 false, f2 false, f3 true] (List.mem_cons_of_mem _ (List.mem_cons_of_mem _ (List.mem_cons_of_mem _ (List.mem_cons_self ..)))) (holdsC hD (holdsC u (holdsC k1 (holdsC k2 (holdsC (lt_t (x := .var 2) (y := .lit 0) c3) holds0)))))
    have k3 := lt_f (x := .var 2) (y := .lit 0) c3
    by_cases c4 : 4096 < a2
    · exact bad [dT, uT true, f1 false, f2 false, f3 false, f4 true] (List.mem_cons_of_mem _ (List.mem_cons_of_mem _ (List.mem_cons_of_mem _ (List.mem_cons_of_mem _ (List.mem_cons_self ..))))) (holdsC hD (holdsC u (holdsC k1 (holdsC k2 (holdsC k3 (holdsC (lt_t (x := .lit 4096) (y := .var 2) c4) holds0))))))
    have k4 := lt_f (x := .lit 4096) (y := .var 2) c4
    by_cases c5 : a5 < 0
    · exact bad [dT, uT true, f1 false, f2 false, f3 false, f4 false, f5 true] (List.mem_cons_of_mem _ (List.mem_cons_of_mem _ (List.mem_cons_of_mem _ (List.mem_cons_of_mem _ (List.mem_cons_of_mem _ (List.mem_cons_self ..)))))) (holdsC hD (holdsC u (holdsC k1 (holdsC k2 (holdsC k3 (holdsC k4 (holdsC (lt_t (x := .var 3) (y := .lit 0) c5) holds0)))))))
    have k5 := lt_f (x := .var 3) (y := .lit 0) c5
    have hall : Holds all := holdsC hD (holdsC u (holdsC k1 (holdsC k2 (holdsC k3 (holdsC k4 (holdsC k5 holds0))))))
    have ro := runs_out
    have ri := runs_in
    simp only [Bool.and_eq_true] at ro ri
    rcases hn with ⟨_, h⟩ | ⟨_, h⟩ | ⟨q1, q2, h⟩
    · exact law_of (holdsA hall h) ro.1
    · exact law_of (holdsA hall h) ro.2
    have hallN : Holds allN := holdsA hall h
    have v0 : (SX.var 0).ev.int = a0 := rfl
    have v3 : (SX.var 3).ev.int = a5 := rfl
    have v4 : (SX.var 4).ev.int = b0 := rfl
    have l1 : (SX.lit 1).ev.int = 1 := rfl
    have hp : per1.ev.int = max b0 1 := mx_int v4 l1
    have hb : blk.ev.int = min a0 131072 := mn_int v0 rfl
    have hm : (SX.a2 .mn per1 (.var 4)).ev.int = b0 := (mn_int hp v4).trans (by omega)
    have hrest : Holds rest := holdsC (lt_f (x := .var 0) (y := .lit 1024) (show ¬ a0 < 1024 by omega)) (holdsC (eq_f (x := per1) (y := .lit 0) (by rw [hp]; change ¬ max b0 1 = 0; omega)) (holdsC (eq_f (x := blk) (y := .lit 0) (by rw [hb]; change ¬ min a0 131072 = 0; omega)) holds0))
    have bl : ∀ {x y : SX} {c : Int}, x.ev.int = c → y.ev.int = c → 0 ≤ c ∧ c ≤ 1099511627776 → (pcsA x blk).ev.int = (pcsB y blk).ev.int := fun hx hy hc => (pcsA_int hx hb hc (by omega)).trans (pcsB_int hy hb hc (by omega)).symm
    by_cases z0 : a5 = 0
    · refine law_of (holdsA hallN (holdsA hrest (m := way0) (holdsC (eq_t (x := .var 3) (y := .lit 0) z0) (holdsC (bndT_eq ?_ (bl hm hm ⟨q1, q2⟩)) holds0)))) ri.1.1
      exact (pcsA_int v4 hp ⟨q1, q2⟩ (by omega)).trans (pcsB_int v4 hp ⟨q1, q2⟩ (by omega)).symm
    · by_cases z1 : b0 < a5
      · refine law_of (holdsA hallN (holdsA hrest (m := way1) (holdsC (lt_t (x := .lit 0) (y := .var 3) (show 0 < a5 by omega)) (holdsC (lt_t (x := .var 4) (y := .var 3) z1) (holdsC (bndT_eq ?_ (bl v4 hm ⟨q1, q2⟩)) holds0))))) ri.1.2
        refine (pcsA_int v4 v3 ⟨q1, q2⟩ (by omega)).trans (Eq.trans ?_ (pcsB_int v4 hp ⟨q1, q2⟩ (by omega)).symm)
        rw [Int.ediv_eq_zero_of_lt q1 z1, Int.emod_eq_of_lt q1 z1]
        by_cases z2 : b0 = 0
        · subst z2; rfl
        · have e : max b0 1 = b0 := by omega
          rw [e, Int.ediv_self z2, Int.emod_self]; omega
      · refine law_of (holdsA hallN (holdsA hrest (m := way2) (holdsC (lt_t (x := .lit 0) (y := .var 3) (show 0 < a5 by omega)) (holdsC (lt_f (x := .var 4) (y := .var 3) z1) (holdsC (bndT_eq ?_ (bl v3 v3 ⟨by omega, by omega⟩)) holds0))))) ri.2
        exact (pcsA_int v4 v3 ⟨q1, q2⟩ (by omega)).trans (pcsB_int v4 v3 ⟨q1, q2⟩ ⟨by omega, by omega⟩).symm
end Go.Proofs.YtapnpdingakdcaaGreat
