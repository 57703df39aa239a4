/- seek.Table on symbols: rows of two numbers, each as a varint. -/
import Derived.Test.YtempojknmnmffaaGreatPut
set_option linter.unusedVariables false
set_option linter.unusedSimpArgs false
set_option maxRecDepth 100000
namespace Go.Proofs.YtempojknmnmffaaGreat.Sy
open Go Go.Proofs.YtempojknmnmffaaGreat.Eng Go.Proofs
/-- the bytes of rows of two numbers -/
def encRows : List Int → List Int
  | x :: y :: r => enc 8 x ++ (enc 8 y ++ encRows r)
  | _ => []
def mayRows : List Int → Bool
  | x :: y :: r => decide (0 < x ∧ x ≤ 4611686018427387903 ∧ 0 ≤ y ∧ y ≤ 4611686018427387903) && mayRows r
  | _ => true
/-- the meaning of the functions 31 and 32 -/
class TabI (I : Interp) : Prop where
  h31 : ∀ x i, I.f2 31 x i = .i (if mayRows (x.list.drop (2 * i.int.toNat)) then 1 else 0)
  h32 : ∀ x i, I.f2 32 x i = .l (encRows (x.list.drop (2 * i.int.toNat)))
theorem enc_len : ∀ (k : Nat) (n : Int), (enc k n).length ≤ k + 1
  | 0, n => by simp [enc]
  | k + 1, n => by
    simp only [enc]
    split
    · simp
    · have := enc_len k (n / 128)
      simp only [List.length_cons]; omega
theorem enc_byt : ∀ (k : Nat) (n : Int), 0 ≤ n → n < 256 * 128 ^ k → (k = 0 ∨ True) → (∀ z ∈ enc k n, 0 ≤ z ∧ z ≤ 255)
  | 0, n, h0, h1, _ => by
    intro z hz
    simp only [enc, List.mem_singleton] at hz
    subst hz
    rw [Int.pow_zero] at h1
    omega
  | k + 1, n, h0, h1, _ => by
    intro z hz
    simp only [enc] at hz
    split at hz
    · simp only [List.mem_singleton] at hz; subst hz; omega
    · rcases List.mem_cons.1 hz with rfl | hz
      · omega
      · refine enc_byt k (n / 128) (Int.ediv_nonneg h0 (by decide)) ?_ (.inr trivial) z hz
        rw [Int.pow_succ] at h1
        exact Int.ediv_lt_of_lt_mul (by decide) (by rw [Int.mul_assoc]; exact h1)
section
variable {E : Nat → Option Value} {I : Interp}
noncomputable def rowsT (i : SX) : SX := .a2 (.u 32) (.var 0) i
noncomputable def mayT (i : SX) : SX := .a2 (.u 31) (.var 0) i
noncomputable def at2 : SX := .a2 .mul (.var 3) (.lit 2)
noncomputable def x0 : SX := .a2 .rd (.var 0) at2
noncomputable def y0 : SX := .a2 .rd (.var 0) (.a2 .add at2 (.lit 1))
noncomputable def encX (x : SX) : SX := .a1 (.u 30) x
noncomputable def n3 : SX := .a2 .add (.var 3) (.lit 1)
noncomputable def c2 : SX × Bool := (.a2 .eq (.a1 .len (.var 0)) (.a2 .mul (.var 2) (.lit 2)), true)
noncomputable def more : SX := .a2 .lt (.var 3) (.var 2)
noncomputable def tabF : Facts := [(.a1 .byt (.var 4), true), (.a2 .lt (.var 3) (.lit 0), false), (.a2 .lt (.var 2) (.var 3), false), (.a2 .lt (.lit 200) (.var 2), false), (.a2 .lt (.var 1) (.lit 0), false), c2, (.a2 .lt (.a2 .mul (.var 3) (.lit 18)) (.a1 .len (.var 4)), false), (.a2 .eq (mayT (.var 3)) (.lit 1), true)]
noncomputable def tabL : List Lem := [
  ⟨[(.a2 .lt (.var 3) (.lit 0), false), (more, true), c2, (.a2 .eq (mayT (.var 3)) (.lit 1), true)],
   [(.a2 .lt (.a2 .add at2 (.lit 1)) (.a1 .len (.var 0)), true), (.a2 .lt at2 (.a1 .len (.var 0)), true), (.a2 .lt x0 (.lit 0), false), (.a2 .lt (.lit 4611686018427387903) x0, false), (.a2 .lt y0 (.lit 0), false), (.a2 .lt (.lit 4611686018427387903) y0, false),
    (.a2 .lt (.lit 9) (.a1 .len (encX x0)), false), (.a2 .lt (.lit 9) (.a1 .len (encX y0)), false), (.a2 .lt (.lit 18) (.a2 .add (.a1 .len (encX x0)) (.a1 .len (encX y0))), false), (.a1 .byt (encX x0), true), (.a1 .byt (encX y0), true),
    (.a2 .eq (mayT n3) (.lit 1), true), (.a2 .same (rowsT (.var 3)) (.a2 .app (encX x0) (.a2 .app (encX y0) (rowsT n3))), true)]⟩,
  ⟨[(.a2 .lt (.var 3) (.lit 0), false), (more, false), c2], [(.a2 .same (rowsT (.var 3)) (.str []), true)]⟩,
  ⟨[(.a2 .lt (.a2 .mul (.var 3) (.lit 18)) (.a1 .len (.var 4)), false), (.a2 .lt (.lit 200) (.var 2), false), (.a2 .lt (.var 2) (.var 3), false)], [(.a2 .lt (.lit 4000) (.a1 .len (.var 4)), false)]⟩]
noncomputable def resT : SX := .a2 .app (.var 4) (rowsT (.var 3))
noncomputable def lTab : LCon := ⟨8, [false, true, false, true, true, true], 57,
  [(17, .slv 0 (.var 1) (.var 2) none 2), (18, .si .i64 (.var 2)), (19, .si .i64 (.var 3)), (4, .slv 1 (.lit 0) (.a1 .len (.var 4)) none 1)],
  [(4, .slv 1 (.lit 0) (.a1 .len resT) none 1), (6, .any), (8, .any), (19, .any), (20, .any), (21, .any), (22, .any), (23, .any), (24, .any), (25, .any), (26, .any), (27, .any), (28, .any), (29, .any), (30, .any), (31, .any), (32, .any), (33, .any), (34, .any), (35, .any)],
  [.win .i64 (.var 1) (.var 0), .seq .u8 (.var 4) 5], [1], tabF, .ext 0,
  [(0, .win .i64 (.var 1) (.var 0)), (1, .seq .u8 resT 5)], 400, .a2 .sub (.var 2) (.var 3)⟩
theorem drop_two {l : List Int} {n : Nat} (h : 2 * n + 1 < l.length) : l.drop (2 * n) = l[2 * n]?.getD 0 :: l[2 * n + 1]?.getD 0 :: l.drop (2 * (n + 1)) := by
  rw [List.drop_eq_getElem_cons (by omega), List.drop_eq_getElem_cons (by omega), List.getElem?_eq_getElem (by omega), List.getElem?_eq_getElem h]
  rfl
theorem tr_lt {J : Interp} {x y : SX} {b : Bool} : (@SX.ev J (.a2 .lt x y)).tr = b ↔ decide ((@SX.ev J x).int < (@SX.ev J y).int) = b := by rw [show (@SX.ev J (.a2 .lt x y)).tr = _ from D.tr_ofB _]
theorem tr_eq {J : Interp} {x y : SX} {b : Bool} : (@SX.ev J (.a2 .eq x y)).tr = b ↔ decide ((@SX.ev J x).int = (@SX.ev J y).int) = b := by rw [show (@SX.ev J (.a2 .eq x y)).tr = _ from D.tr_ofB _]
theorem tr_same {J : Interp} {x y : SX} (h : @SX.ev J x = @SX.ev J y) : (@SX.ev J (.a2 .same x y)).tr = true := by
  change (@F2.ev J .same _ _).tr = true
  rw [h]; simp only [F2.ev, D.tr_ofB, decide_eq_true_eq]
theorem tabL_ok [hP : PutI I] [hT : TabI I] : ∀ l ∈ tabL, l.Valid I := by
  intro l hl
  simp only [tabL, List.mem_cons, List.not_mem_nil, or_false] at hl
  rcases hl with rfl | rfl | rfl
  · intro v h
    simp only [holds_cons, holds_nil, and_true, more, c2, tr_lt, tr_eq, decide_eq_true_eq, decide_eq_false_iff_not] at h
    obtain ⟨h0, h1, h2, h3⟩ := h
    have h0 : ¬ (v 3).int < 0 := h0
    have h1 : (v 3).int < (v 2).int := h1
    have h2 : ((v 0).list.length : Int) = (v 2).int * 2 := h2
    obtain ⟨n, hn⟩ : ∃ n : Nat, (v 3).int = n := ⟨(v 3).int.toNat, by omega⟩
    have hlt : 2 * n + 1 < (v 0).list.length := by omega
    have hd := drop_two hlt
    have e31 : (@SX.ev (I.at v) (mayT (.var 3))).int = if mayRows ((v 0).list.drop (2 * n)) then 1 else 0 := by
      change (I.f2 31 (v 0) (v 3)).int = _
      rw [hT.h31, hn]; rfl
    have e31' : (@SX.ev (I.at v) (mayT n3)).int = if mayRows ((v 0).list.drop (2 * (n + 1))) then 1 else 0 := by
      change (I.f2 31 (v 0) (.i ((v 3).int + 1))).int = _
      have e4 : (D.i ((v 3).int + 1)).int.toNat = n + 1 := by change ((v 3).int + 1).toNat = _; omega
      rw [hT.h31, e4]; rfl
    have hx : (@SX.ev (I.at v) x0).int = (v 0).list[2 * n]?.getD 0 := by
      change ((v 0).list[((v 3).int * 2).toNat]?.getD 0) = _
      rw [hn, show ((n : Int) * 2).toNat = 2 * n by omega]
    have hy : (@SX.ev (I.at v) y0).int = (v 0).list[2 * n + 1]?.getD 0 := by
      change ((v 0).list[((v 3).int * 2 + 1).toNat]?.getD 0) = _
      rw [hn, show ((n : Int) * 2 + 1).toNat = 2 * n + 1 by omega]
    have ex : @SX.ev (I.at v) (encX x0) = .l (enc 8 ((v 0).list[2 * n]?.getD 0)) := by
      rw [← hx]; exact hP.h _
    have ey : @SX.ev (I.at v) (encX y0) = .l (enc 8 ((v 0).list[2 * n + 1]?.getD 0)) := by
      rw [← hy]; exact hP.h _
    generalize (v 0).list[2 * n]?.getD 0 = x at hd hx ex
    generalize (v 0).list[2 * n + 1]?.getD 0 = y at hd hy ey
    rw [e31, hd] at h3
    have h3 : mayRows (x :: y :: (v 0).list.drop (2 * (n + 1))) = true := by
      cases hm : mayRows (x :: y :: (v 0).list.drop (2 * (n + 1))) with
      | true => rfl
      | false => rw [hm] at h3; simp [SX.ev, D.int] at h3
    simp only [mayRows, Bool.and_eq_true, decide_eq_true_eq] at h3
    obtain ⟨⟨a1, a2, a3, a4⟩, a5⟩ := h3
    have lx := enc_len 8 x
    have ly := enc_len 8 y
    have bx : bytB (enc 8 x) = true := bytB_iff.2 fun z hz => by have := enc_byt 8 x (by omega) (by omega) (.inr trivial) z hz; omega
    have by' : bytB (enc 8 y) = true := bytB_iff.2 fun z hz => by have := enc_byt 8 y (by omega) (by omega) (.inr trivial) z hz; omega
    have lenE : ∀ e : SX, (@SX.ev (I.at v) (.a1 .len e)).int = ((@SX.ev (I.at v) e).list.length : Int) := fun e => rfl
    simp only [holds_cons, holds_nil, and_true, tr_lt, tr_eq, decide_eq_true_eq, decide_eq_false_iff_not, hx, hy]
    refine ⟨?_, ?_, ?_, ?_, ?_, ?_, ?_, ?_, ?_, ?_, ?_, ?_, ?_⟩
    · change (v 3).int * 2 + 1 < ((v 0).list.length : Int); omega
    · change (v 3).int * 2 < ((v 0).list.length : Int); omega
    · change ¬ x < 0; omega
    · change ¬ (4611686018427387903 : Int) < x; omega
    · change ¬ y < 0; omega
    · change ¬ (4611686018427387903 : Int) < y; omega
    · rw [lenE, ex]; change ¬ (9 : Int) < ((enc 8 x).length : Int); omega
    · rw [lenE, ey]; change ¬ (9 : Int) < ((enc 8 y).length : Int); omega
    · change ¬ (18 : Int) < ((@SX.ev (I.at v) (encX x0)).list.length : Int) + ((@SX.ev (I.at v) (encX y0)).list.length : Int)
      rw [ex, ey]; change ¬ (18 : Int) < ((enc 8 x).length : Int) + ((enc 8 y).length : Int); omega
    · change (D.ofB (bytB (@SX.ev (I.at v) (encX x0)).list)).tr = true
      rw [D.tr_ofB, ex]; exact bx
    · change (D.ofB (bytB (@SX.ev (I.at v) (encX y0)).list)).tr = true
      rw [D.tr_ofB, ey]; exact by'
    · rw [e31', a5]; rfl
    · refine tr_same ?_
      change I.f2 32 (v 0) (v 3) = .l ((@SX.ev (I.at v) (encX x0)).list ++ ((@SX.ev (I.at v) (encX y0)).list ++ (I.f2 32 (v 0) (.i ((v 3).int + 1))).list))
      have e4 : (D.i ((v 3).int + 1)).int.toNat = n + 1 := by change ((v 3).int + 1).toNat = _; omega
      have e5 : (v 3).int.toNat = n := by omega
      rw [hT.h32, hT.h32, ex, ey, e4, e5, hd]
      rfl
  · intro v h
    simp only [holds_cons, holds_nil, and_true, more, c2, tr_lt, tr_eq, decide_eq_true_eq, decide_eq_false_iff_not] at h
    obtain ⟨h0, h1, h2⟩ := h
    have h0 : ¬ (v 3).int < 0 := h0
    have h1 : ¬ (v 3).int < (v 2).int := h1
    have h2 : ((v 0).list.length : Int) = (v 2).int * 2 := h2
    simp only [holds_cons, holds_nil, and_true]
    refine tr_same ?_
    change I.f2 32 (v 0) (v 3) = .l []
    rw [hT.h32, List.drop_eq_nil_of_le (by omega)]; rfl
  · intro v h
    simp only [holds_cons, holds_nil, and_true, tr_lt, decide_eq_false_iff_not] at h ⊢
    obtain ⟨h0, h1, h2⟩ := h
    have h0 : ¬ (v 3).int * 18 < ((v 4).list.length : Int) := h0
    have h1 : ¬ (200 : Int) < (v 2).int := h1
    have h2 : ¬ (v 2).int < (v 3).int := h2
    change ¬ (4000 : Int) < ((v 4).list.length : Int)
    omega
noncomputable def kTab : List Con := [cPutV]
theorem kTab_ok [PutI I] : ∀ c ∈ kTab, ConGood E tb Tryz.prog I c := List.forall_mem_cons.2 ⟨cPutV_ok, fun _ h => by cases h⟩
noncomputable def treeTab : ST := .lem 2 (.br more (.lem 0 .leaf) (.lem 1 .leaf))
theorem lTab_ok [PutI I] [TabI I] : LGood tb Tryz.prog I lTab :=
  lcon_good (d := 60) (l := kTab) (lps := []) tb_ok kTab_ok (fun _ h => by cases h) (L := lemL tabL) (fun v => lemL_ok tabL_ok v) (t := treeTab) (m := 2) (fun ds => by kernel_rfl)
/-! all rows valid: ContainsFunc finds none that is not -/
noncomputable def idxL : List Lem := [
  ⟨[(.a2 .lt (.var 3) (.lit 0), false), (more, true), c2, (.a2 .eq (mayT (.var 3)) (.lit 1), true)],
   [(.a2 .lt (.a2 .add at2 (.lit 1)) (.a1 .len (.var 0)), true), (.a2 .lt at2 (.a1 .len (.var 0)), true), (.a2 .lt (.lit 0) x0, true), (.a2 .lt (.lit 4611686018427387903) x0, false), (.a2 .lt y0 (.lit 0), false), (.a2 .lt (.lit 4611686018427387903) y0, false), (.a2 .eq (mayT n3) (.lit 1), true)]⟩]
noncomputable def idxF : Facts := [(.a2 .lt (.var 3) (.lit 0), false), (.a2 .lt (.var 2) (.var 3), false), (.a2 .lt (.lit 200) (.var 2), false), (.a2 .lt (.var 1) (.lit 0), false), c2, (.a2 .eq (mayT (.var 3)) (.lit 1), true)]
noncomputable def lIdx : LCon := ⟨59, [false, true, false, true], 19,
  [(0, .slv 0 (.var 1) (.var 2) none 2), (1, .fn 24 [] []), (6, .slv 0 (.var 1) (.var 2) none 2), (7, .si .i64 (.var 2)), (8, .si .i64 (.var 3)), (4, .lit (.int .i64 0))],
  [(5, .any), (8, .any), (9, .any), (10, .any), (11, .any), (12, .any), (13, .any), (14, .any), (15, .any), (16, .any), (17, .any), (18, .any)],
  [.win .i64 (.var 1) (.var 0)], [], idxF, .ext 0, [(0, .win .i64 (.var 1) (.var 0))], 400, .a2 .sub (.var 2) (.var 3)⟩
theorem idxL_ok [hP : PutI I] [hT : TabI I] : ∀ l ∈ idxL, l.Valid I := by
  intro l hl
  simp only [idxL, List.mem_cons, List.not_mem_nil, or_false] at hl
  subst hl
  intro v h
  have h' := tabL_ok (I := I) _ (List.mem_cons_self ..) v h
  simp only [holds_cons, holds_nil, and_true] at h h' ⊢
  refine ⟨h'.1, h'.2.1, ?_, h'.2.2.2.1, h'.2.2.2.2.1, h'.2.2.2.2.2.1, h'.2.2.2.2.2.2.2.2.2.2.2.1⟩
  obtain ⟨h0, h1, h2, h3⟩ := h
  simp only [more, c2, tr_lt, tr_eq, decide_eq_true_eq, decide_eq_false_iff_not] at h0 h1 h2 h3
  have h0 : ¬ (v 3).int < 0 := h0
  have h1 : (v 3).int < (v 2).int := h1
  have h2 : ((v 0).list.length : Int) = (v 2).int * 2 := h2
  obtain ⟨n, hn⟩ : ∃ n : Nat, (v 3).int = n := ⟨(v 3).int.toNat, by omega⟩
  have hd := drop_two (l := (v 0).list) (n := n) (by omega)
  have e5 : (v 3).int.toNat = n := by omega
  have e31 : (@SX.ev (I.at v) (mayT (.var 3))).int = if mayRows ((v 0).list.drop (2 * n)) then 1 else 0 := by
    change (I.f2 31 (v 0) (v 3)).int = _
    rw [hT.h31, e5]; rfl
  rw [e31, hd] at h3
  rw [tr_lt, decide_eq_true_eq]
  change (0 : Int) < ((v 0).list[((v 3).int * 2).toNat]?.getD 0)
  rw [show ((v 3).int * 2).toNat = 2 * n by omega]
  cases hm : mayRows ((v 0).list[2 * n]?.getD 0 :: (v 0).list[2 * n + 1]?.getD 0 :: (v 0).list.drop (2 * (n + 1))) with
  | false => rw [hm] at h3; simp [SX.ev, D.int] at h3
  | true =>
    simp only [mayRows, Bool.and_eq_true, decide_eq_true_eq] at hm
    exact hm.1.1
noncomputable def treeIdx : ST := .br more (.lem 0 .leaf) .leaf
theorem lIdx_ok [PutI I] [TabI I] : LGood tb Tryz.prog I lIdx :=
  lcon_good (d := 60) (l := []) (lps := []) tb_ok (fun _ h => by cases h) (fun _ h => by cases h) (L := lemL idxL) (fun v => lemL_ok idxL_ok v) (t := treeIdx) (m := 2) (fun ds => by kernel_rfl)
noncomputable def all0 : Facts := [(.a2 .lt (.var 2) (.lit 0), false), (.a2 .lt (.lit 200) (.var 2), false), (.a2 .lt (.var 1) (.lit 0), false), c2, (.a2 .eq (mayT (.lit 0)) (.lit 1), true)]
noncomputable def cIdx : Con := ⟨59, [.slv 0 (.var 1) (.var 2) none 2, .fn 24 [] []], [.win .i64 (.var 1) (.var 0)], all0, .lit (.int .i64 (-1)), [(0, .win .i64 (.var 1) (.var 0))], 500⟩
theorem cIdx_ok [PutI I] [TabI I] : ConGood (fun _ => none) tb Tryz.prog I cIdx := con_loops (d := 60) (l := []) (lps := [lIdx]) (L := noLem) (t := .leaf) tb_ok (fun _ h => by cases h) (List.forall_mem_cons.2 ⟨lIdx_ok, fun _ h => by cases h⟩) (fun v => @noLem_ok (I.at v)) (by kernel_rfl)
noncomputable def cHas : Con := ⟨23, [.slv 0 (.var 1) (.var 2) none 2, .fn 24 [] []], [.win .i64 (.var 1) (.var 0)], all0, .lit (.bool false), [(0, .win .i64 (.var 1) (.var 0))], 600⟩
theorem cHas_ok [PutI I] [TabI I] : ConGood (fun _ => none) tb Tryz.prog I cHas := con_goodR (d := 60) (l := [cIdx]) tb_ok (List.forall_mem_cons.2 ⟨cIdx_ok, fun _ h => by cases h⟩) (by kernel_rfl)
end
end Go.Proofs.YtempojknmnmffaaGreat.Sy
