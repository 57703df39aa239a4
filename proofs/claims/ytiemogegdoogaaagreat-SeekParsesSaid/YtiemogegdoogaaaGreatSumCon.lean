/- The checksum of layer 4 as a contract on symbols. No condition beyond those that it lists. -/
import Derived.Test.YtiemogegdoogaaaGreatTabs
import Derived.Test.YtiemogegdoogaaaGreatSumWrite
set_option linter.unusedVariables false
set_option maxRecDepth 100000
namespace Go.Proofs.YtiemogegdoogaaaGreat.Sy
open Go Go.Proofs.YtiemogegdoogaaaGreat.Eng Go.Proofs
/-- a list of numbers, as bytes -/
def toB (l : List Int) : List UInt8 := l.map fun n => UInt8.ofNat n.toNat
/-- the meaning of the function 20: the checksum -/
class SumI (I : Interp) : Prop where
  h : ∀ x, I.f1 20 x = .i (n64 (hsum (toB x.list)))
theorem toB_get {l : List Int} (h : bytB l = true) {j : Nat} (hj : j < l.length) : n8 ((toB l)[j]?.getD 0) = l[j]?.getD 0 := by
  have h1 := bytB_iff.1 h l[j] (List.getElem_mem hj)
  unfold toB
  rw [List.getElem?_map, List.getElem?_eq_getElem hj]
  simp only [Option.map_some, Option.getD_some, n8]
  rw [UInt8.toNat_ofNat', Nat.mod_eq_of_lt (by omega)]
  omega
theorem bytes_of {w : World} {a : Option Addr} {l : List Int} (hb : bytB l = true) (h : 0 < l.length → ∃ b p, a = some ⟨b, p, none⟩ ∧ b < w.heap.size ∧ ∀ j, j < l.length → w.cell? ⟨b, p + j, none⟩ = some (.int .u8 (l[j]?.getD 0))) : Bytes w a (toB l) := fun hp => by
  obtain ⟨b, p, h1, h2, h3⟩ := h (by simpa [toB] using hp)
  refine ⟨b, p, h1, h2, fun j hj => ?_⟩
  have hj : j < l.length := by simpa [toB] using hj
  rw [h3 j hj, toB_get hb hj]
noncomputable def sumF : Facts := [(.a1 .byt (.var 0), true), (.a2 .lt (.var 1) (.lit 0), false), (.a2 .lt (.var 2) (.lit 0), false), (.a2 .lt (.a1 .len (.var 0)) (.a2 .add (.var 1) (.var 2)), false), (.a2 .lt (.lit 100000000) (.a1 .len (.var 0)), false)]
noncomputable def cSumOf : Con := ⟨55, [.slv 0 (.var 1) (.var 2) none 1], [.seq .u8 (.var 0) 5], sumF, .si .u64 (.a1 (.u 20) (.a3 .cut (.var 0) (.var 1) (.a2 .add (.var 1) (.var 2)))), [(0, .seq .u8 (.var 0) 5)], 1⟩
theorem cSumOf_ok {E : Nat → Option Value} {I : Interp} [hI : SumI I] : ConGood E tb Tryz.prog I cSumOf := by
  refine con_below tb_ok (by kernel_rfl) rfl (by kernel_rfl) fun v hv κ vs w hvs hr => ?_
  cases hvs with
  | cons hx ht =>
  cases ht
  have f0 := hv (.a1 .byt (.var 0), true) (by simp [cSumOf, sumF])
  have f1 := hv (.a2 .lt (.var 1) (.lit 0), false) (by simp [cSumOf, sumF])
  have f2 := hv (.a2 .lt (.var 2) (.lit 0), false) (by simp [cSumOf, sumF])
  have f3 := hv (.a2 .lt (.a1 .len (.var 0)) (.a2 .add (.var 1) (.var 2)), false) (by simp [cSumOf, sumF])
  have f4 := hv (.a2 .lt (.lit 100000000) (.a1 .len (.var 0)), false) (by simp [cSumOf, sumF])
  simp only at f0 f1 f2 f3 f4
  have f0 : bytB (v 0).list = true := (D.tr_ofB _).symm.trans f0
  have f1 : ¬ (v 1).int < 0 := of_decide_eq_false ((D.tr_ofB _).symm.trans f1)
  have f2 : ¬ (v 2).int < 0 := of_decide_eq_false ((D.tr_ofB _).symm.trans f2)
  have f3 : ¬ (((v 0).list.length : Int) < (v 1).int + (v 2).int) := of_decide_eq_false ((D.tr_ofB _).symm.trans f3)
  have f4 : ¬ ((100000000 : Int) < ((v 0).list.length : Int)) := of_decide_eq_false ((D.tr_ofB _).symm.trans f4)
  obtain ⟨l, hl⟩ : ∃ l, cutL (v 0).list (v 1).int ((v 1).int + (v 2).int) = l := ⟨_, rfl⟩
  obtain ⟨a, cap, e, h⟩ := @slv_cut (I.at v) κ _ w hr 0 5 (.var 1) (.var 2) (.var 0) .u8 _ _ hx (by rw [show ({ heap := layO cSumOf.objs, next := cSumOf.objs.length } : St).heap = layO cSumOf.objs from rfl, layO_get (by decide)]; rfl)
    (by change 0 ≤ (v 1).int; omega) (by change 0 ≤ (v 2).int; omega) (by change (v 1).int + (v 2).int ≤ ((v 0).list.length : Int); omega) l hl
  have hb : bytB l = true := bytB_iff.2 fun z hz => bytB_iff.1 f0 z (by rw [← hl] at hz; exact List.mem_of_mem_take (List.mem_of_mem_drop hz))
  have hm : (toB l).length = l.length := by simp [toB]
  have hlen : l.length ≤ 100000000 := by
    rw [← hl]; unfold cutL
    rw [List.length_drop, List.length_take]; omega
  subst e
  have h9 := of_any cap a (toB l) w (by omega) (bytes_of hb h)
  rw [hm] at h9
  refine h9.mono ?_
  rintro e' w' ⟨rfl, hb'⟩
  refine ⟨_, rfl, ?_, hb'⟩
  have e9 : (@SX.ev (I.at v) (.a1 (.u 20) (.a3 .cut (.var 0) (.var 1) (.a2 .add (.var 1) (.var 2))))).int = n64 (hsum (toB l)) := by
    change (I.f1 20 (.l (cutL (v 0).list (v 1).int ((v 1).int + (v 2).int)))).int = _
    rw [hI.h, hl]; rfl
  rw [← e9]
  exact @V.si (I.at v) κ .u64 _
/-- .. of a whole row -/
noncomputable def cSumAll : Con := ⟨55, [.slv 0 (.lit 0) (.a1 .len (.var 0)) none 1], [.seq .u8 (.var 0) 5], [(.a1 .byt (.var 0), true), (.a2 .lt (.lit 100000000) (.a1 .len (.var 0)), false)], .si .u64 (.a1 (.u 20) (.var 0)), [(0, .seq .u8 (.var 0) 5)], 1⟩
theorem cSumAll_ok {E : Nat → Option Value} {I : Interp} [hI : SumI I] : ConGood E tb Tryz.prog I cSumAll := by
  refine con_below tb_ok (by kernel_rfl) rfl (by kernel_rfl) fun v hv κ vs w hvs hr => ?_
  cases hvs with
  | cons hx ht =>
  cases ht
  have f0 := hv (.a1 .byt (.var 0), true) (by simp [cSumAll])
  have f4 := hv (.a2 .lt (.lit 100000000) (.a1 .len (.var 0)), false) (by simp [cSumAll])
  simp only at f0 f4
  have f0 : bytB (v 0).list = true := (D.tr_ofB _).symm.trans f0
  have f4 : ¬ ((100000000 : Int) < ((v 0).list.length : Int)) := of_decide_eq_false ((D.tr_ofB _).symm.trans f4)
  obtain ⟨a, cap, e, h⟩ := @slv_cells (I.at v) κ _ w hr 0 (.lit 0) (.a1 .len (.var 0)) (.var 0) .u8 _ _ hx (.inl ⟨5, by rw [show ({ heap := layO cSumAll.objs, next := cSumAll.objs.length } : St).heap = layO cSumAll.objs from rfl, layO_get (by decide)]; rfl, rfl⟩) rfl
  have h : 0 < (v 0).list.length → ∃ b p, a = some ⟨b, p, none⟩ ∧ b < w.heap.size ∧ ∀ j, j < (v 0).list.length → w.cell? ⟨b, p + j, none⟩ = some (.int .u8 ((v 0).list[j]?.getD 0)) := h
  have hm : (toB (v 0).list).length = (v 0).list.length := by simp [toB]
  subst e
  have h9 := of_any cap a (toB (v 0).list) w (by omega) (bytes_of f0 h)
  rw [hm] at h9
  refine h9.mono ?_
  rintro e' w' ⟨rfl, hb'⟩
  refine ⟨_, rfl, ?_, hb'⟩
  have e9 : (@SX.ev (I.at v) (.a1 (.u 20) (.var 0))).int = n64 (hsum (toB (v 0).list)) := by
    change (I.f1 20 (v 0)).int = _
    rw [hI.h]; rfl
  rw [← e9]
  exact @V.si (I.at v) κ .u64 _
end Go.Proofs.YtiemogegdoogaaaGreat.Sy
