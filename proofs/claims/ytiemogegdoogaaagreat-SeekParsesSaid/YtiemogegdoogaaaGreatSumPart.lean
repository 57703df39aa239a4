/- The checksum of a part of a row, by the program and by the reference. No condition beyond those that each contract lists. -/
import Derived.Test.YtiemogegdoogaaaGreatSumRef
import Derived.Test.YtiemogegdoogaaaGreatGet
set_option linter.unusedVariables false
set_option maxRecDepth 100000
namespace Go.Proofs.YtiemogegdoogaaaGreat.Sy
open Go Go.Proofs.YtiemogegdoogaaaGreat.Eng Go.Proofs
/-- what stands in a slice that is a part of a row that is only read -/
theorem slv_win [Interp] {κ : Pl} {s : St} {w : World} (hr : Rel κ s w) {i : Nat} {lo lo' ln A : SX} {k : IntKind} {c : Option SX} {v : Value} (hv : V κ (.slv i lo ln c 1) v)
    (hg : s.heap.get i = some (.win k lo' A)) (h0 : 0 ≤ lo.ev.int - lo'.ev.int) (h1 : 0 ≤ ln.ev.int) (h2 : lo.ev.int - lo'.ev.int + ln.ev.int ≤ A.ev.list.length) {l : List Int} (hl : cutL A.ev.list (lo.ev.int - lo'.ev.int) (lo.ev.int - lo'.ev.int + ln.ev.int) = l) :
    ∃ a cap, v = .slice a l.length cap ∧ (0 < l.length → ∃ b p, a = some ⟨b, p, none⟩ ∧ b < w.heap.size ∧ ∀ j, j < l.length → w.cell? ⟨b, p + j, none⟩ = some (.int k (l[j]?.getD 0))) := by
  obtain ⟨o, e0⟩ : ∃ n : Nat, lo.ev.int - lo'.ev.int = n := ⟨(lo.ev.int - lo'.ev.int).toNat, by omega⟩
  obtain ⟨ln', e1⟩ : ∃ n : Nat, ln.ev.int = n := ⟨ln.ev.int.toNat, by omega⟩
  rw [e0, e1] at h2 hl
  have hlen : l.length = ln' := by
    rw [← hl]; unfold cutL
    rw [List.length_drop, List.length_take]; omega
  cases hv with
  | @slv _ off len cap b _ _ _ _ x1 x2 x3 x4 x5 x6 =>
    have e : len = l.length := by omega
    subst e
    refine ⟨_, cap, rfl, fun hp => ⟨b, off, rfl, hr.size _ _ x1, fun j hj => ?_⟩⟩
    obtain ⟨ob, h3, h4⟩ := hr.on hg x1
    cases h4 with
    | win q1 q2 =>
      unfold World.cell?
      rw [h3]
      have h5 := q2 (o + j) (by omega)
      have h6 : l[j]? = some (A.ev.list[o + j]?.getD 0) := by
        rw [← hl]
        have := cutL_get A.ev.list o ln' j (by omega) (by omega)
        rw [← this]; congr 2
      rw [h6, Option.getD_some]
      rw [show lo'.ev.int.toNat + (o + j) = off + j by omega] at h5
      simpa using h5
  | @slv0 _ _ _ _ _ a y1 y2 y3 =>
    have e : l.length = 0 := by omega
    exact ⟨a, 0, by rw [e], fun hp => by omega⟩
section
variable {E : Nat → Option Value} {I : Interp}
theorem same_list {J : Interp} {x y : SX} (h : (@SX.ev J (.a2 .same x y)).tr = true) : @SX.ev J x = @SX.ev J y := by
  have h4 : (D.ofB (@decide (@SX.ev J x = @SX.ev J y) (Classical.propDecidable _))).tr = true := h
  exact @of_decide_eq_true _ (Classical.propDecidable _) ((D.tr_ofB _).symm.trans h4)
noncomputable def cRefWin : Con := onWin 19 [] [] (.si .u64 (.a1 (.u 20) (.var 0)))
theorem cRefWin_ok [hI : SumI I] : ConGood E tb Tryz.prog I cRefWin := by
  refine con_below tb_ok (by kernel_rfl) rfl (by kernel_rfl) fun v hv κ vs w hvs hr => ?_
  cases hvs with
  | cons hx ht =>
  cases ht
  have f0 := hv (.a1 .byt (.var 0), true) (by simp [cRefWin, onWin, winF])
  have f1 := hv (.a2 .lt (.a2 .sub (.var 2) (.var 4)) (.lit 0), false) (by simp [cRefWin, onWin, winF])
  have f2 := hv (.a2 .lt (.var 3) (.lit 0), false) (by simp [cRefWin, onWin, winF])
  have f3 := hv (.a2 .lt (.a1 .len (.var 5)) (.a2 .add (.a2 .sub (.var 2) (.var 4)) (.var 3)), false) (by simp [cRefWin, onWin, winF])
  have f4 := hv (.a2 .lt (.lit 1000000) (.a1 .len (.var 0)), false) (by simp [cRefWin, onWin, winF])
  have f5 := hv (.a2 .same (.var 0) cutV, true) (by simp [cRefWin, onWin, winF])
  simp only at f0 f1 f2 f3 f4 f5
  have f0 : bytB (v 0).list = true := (D.tr_ofB _).symm.trans f0
  have f1 : ¬ (v 2).int - (v 4).int < 0 := of_decide_eq_false ((D.tr_ofB _).symm.trans f1)
  have f2 : ¬ (v 3).int < 0 := of_decide_eq_false ((D.tr_ofB _).symm.trans f2)
  have f3 : ¬ (((v 5).list.length : Int) < (v 2).int - (v 4).int + (v 3).int) := of_decide_eq_false ((D.tr_ofB _).symm.trans f3)
  have f4 : ¬ ((1000000 : Int) < ((v 0).list.length : Int)) := of_decide_eq_false ((D.tr_ofB _).symm.trans f4)
  have f5 : v 0 = .l (cutL (v 5).list ((v 2).int - (v 4).int) ((v 2).int - (v 4).int + (v 3).int)) := same_list f5
  obtain ⟨l, hl⟩ : ∃ l, cutL (v 5).list ((v 2).int - (v 4).int) ((v 2).int - (v 4).int + (v 3).int) = l := ⟨_, rfl⟩
  rw [hl] at f5
  obtain ⟨a, cap, e, h⟩ := @slv_win (I.at v) κ _ w hr 0 (.var 2) (.var 4) (.var 3) (.var 5) .u8 _ _ hx (by rw [show ({ heap := layO cRefWin.objs, next := cRefWin.objs.length } : St).heap = layO cRefWin.objs from rfl, layO_get (by decide)]; rfl)
    (by change 0 ≤ (v 2).int - (v 4).int; omega) (by change 0 ≤ (v 3).int; omega) (by change (v 2).int - (v 4).int + (v 3).int ≤ ((v 5).list.length : Int); omega) l hl
  have hb : bytB l = true := by rw [f5] at f0; exact f0
  have hm : (toB l).length = l.length := by simp [toB]
  have hlen : l.length ≤ 1000000 := by
    rw [f5] at f4
    have f4 : ¬ ((1000000 : Int) < (l.length : Int)) := f4
    omega
  subst e
  have h9 := refof_any cap a (toB l) w (by omega) (bytes_of hb h)
  rw [hm] at h9
  refine h9.mono ?_
  rintro e' w' ⟨rfl, rfl⟩
  refine ⟨_, rfl, ?_, RowKit.Below.refl _ _⟩
  have e9 : (@SX.ev (I.at v) (.a1 (.u 20) (.var 0))).int = n64 (hsum (toB l)) := by
    change (I.f1 20 (v 0)).int = _
    rw [hI.h, f5]; rfl
  rw [← e9]
  exact @V.si (I.at v) κ .u64 _
/-! a part of a row of the program's own -/
noncomputable def cutS : SX := .a3 .cut (.var 5) (.var 2) (.a2 .add (.var 2) (.var 3))
noncomputable def partF : Facts := [(.a1 .byt (.var 0), true), (.a2 .same (.var 0) cutS, true), (.a2 .lt (.var 2) (.lit 0), false), (.a2 .lt (.var 3) (.lit 0), false), (.a2 .lt (.a1 .len (.var 5)) (.a2 .add (.var 2) (.var 3)), false), (.a2 .lt (.lit 1000000) (.a1 .len (.var 0)), false)]
noncomputable def cSumPart : Con := ⟨55, [.slv 0 (.var 2) (.var 3) none 1], [.seq .u8 (.var 5) 5], partF, .si .u64 (.a1 (.u 20) (.var 0)), [(0, .seq .u8 (.var 5) 5)], 1⟩
theorem cSumPart_ok [hI : SumI I] : ConGood E tb Tryz.prog I cSumPart := by
  refine con_below tb_ok (by kernel_rfl) rfl (by kernel_rfl) fun v hv κ vs w hvs hr => ?_
  cases hvs with
  | cons hx ht =>
  cases ht
  have f0 := hv (.a1 .byt (.var 0), true) (by simp [cSumPart, partF])
  have f1 := hv (.a2 .lt (.var 2) (.lit 0), false) (by simp [cSumPart, partF])
  have f2 := hv (.a2 .lt (.var 3) (.lit 0), false) (by simp [cSumPart, partF])
  have f3 := hv (.a2 .lt (.a1 .len (.var 5)) (.a2 .add (.var 2) (.var 3)), false) (by simp [cSumPart, partF])
  have f4 := hv (.a2 .lt (.lit 1000000) (.a1 .len (.var 0)), false) (by simp [cSumPart, partF])
  have f5 := hv (.a2 .same (.var 0) cutS, true) (by simp [cSumPart, partF])
  simp only at f0 f1 f2 f3 f4 f5
  have f0 : bytB (v 0).list = true := (D.tr_ofB _).symm.trans f0
  have f1 : ¬ (v 2).int < 0 := of_decide_eq_false ((D.tr_ofB _).symm.trans f1)
  have f2 : ¬ (v 3).int < 0 := of_decide_eq_false ((D.tr_ofB _).symm.trans f2)
  have f3 : ¬ (((v 5).list.length : Int) < (v 2).int + (v 3).int) := of_decide_eq_false ((D.tr_ofB _).symm.trans f3)
  have f4 : ¬ ((1000000 : Int) < ((v 0).list.length : Int)) := of_decide_eq_false ((D.tr_ofB _).symm.trans f4)
  have f5 : v 0 = .l (cutL (v 5).list (v 2).int ((v 2).int + (v 3).int)) := same_list f5
  obtain ⟨l, hl⟩ : ∃ l, cutL (v 5).list (v 2).int ((v 2).int + (v 3).int) = l := ⟨_, rfl⟩
  rw [hl] at f5
  obtain ⟨a, cap, e, h⟩ := @slv_cut (I.at v) κ _ w hr 0 5 (.var 2) (.var 3) (.var 5) .u8 _ _ hx (by rw [show ({ heap := layO cSumPart.objs, next := cSumPart.objs.length } : St).heap = layO cSumPart.objs from rfl, layO_get (by decide)]; rfl)
    (by change 0 ≤ (v 2).int; omega) (by change 0 ≤ (v 3).int; omega) (by change (v 2).int + (v 3).int ≤ ((v 5).list.length : Int); omega) l hl
  have hb : bytB l = true := by rw [f5] at f0; exact f0
  have hm : (toB l).length = l.length := by simp [toB]
  have hlen : l.length ≤ 1000000 := by
    rw [f5] at f4
    have f4 : ¬ ((1000000 : Int) < (l.length : Int)) := f4
    omega
  subst e
  have h9 := of_any cap a (toB l) w (by omega) (bytes_of hb h)
  rw [hm] at h9
  refine h9.mono ?_
  rintro e' w' ⟨rfl, hb'⟩
  refine ⟨_, rfl, ?_, hb'⟩
  have e9 : (@SX.ev (I.at v) (.a1 (.u 20) (.var 0))).int = n64 (hsum (toB l)) := by
    change (I.f1 20 (v 0)).int = _
    rw [hI.h, f5]; rfl
  rw [← e9]
  exact @V.si (I.at v) κ .u64 _
end
end Go.Proofs.YtiemogegdoogaaaGreat.Sy
