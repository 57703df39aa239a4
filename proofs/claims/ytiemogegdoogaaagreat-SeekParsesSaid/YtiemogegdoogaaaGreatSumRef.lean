/- The reference's checksum, as a contract on symbols. No condition beyond those that it lists. -/
import Derived.Test.YtiemogegdoogaaaGreatSumCon
import Derived.LoopN
namespace Go.Proofs.YtiemogegdoogaaaGreat
open Go Go.RowKit
set_option linter.unusedSimpArgs false
set_option linter.unusedVariables false
theorem turned_any (x : UInt64) (w : World) :
    Calls Tryz.prog 51 #[.int .u64 (n64 x)] w fun e w' => e = .returned (.int .u64 (n64 (rotl31 x))) ∧ w = w' := by
  have h0 := n64_lo x
  have h1 := n64_hi x
  go_enter Tryz.func51, Tryz.ntmps51
  go_wp2
  go_ret
  exact ⟨ret_u64 (turned_form x), rfl⟩

theorem refmul_form (b : UInt8) (r : List UInt8) (h : r.length ≤ 7) : IntKind.u64.wrap (IntKind.u64.wrap (256 * n64 (word r)) + IntKind.u64.wrap (n8 b)) = n64 (word (b :: r)) := by
  have h1 := le_lt r
  have h2 := pow256_le (r.length + 1) (by omega)
  rw [Nat.pow_succ] at h2
  have hb := b.toNat_lt
  unfold n64 n8
  rw [word_toNat r (by omega), word_toNat (b :: r) (by simp; omega), IntKind.wrap_u64, IntKind.wrap_u64, IntKind.wrap_u64]
  simp only [le]
  omega
theorem refmul_zero : IntKind.u64.wrap (256 * n64 (word [])) = n64 (word []) := by decide

theorem group_drop (m : List UInt8) (j s : Nat) (h : 8 * j + s < m.length) (hs : s < 8) : (group m j).drop s = (m[8 * j + s]?.getD 0) :: (group m j).drop (s + 1) := by
  have hl : s < (group m j).length := by unfold group; simp; omega
  rw [List.drop_eq_getElem_cons hl]
  congr 1
  simp [group, h]
theorem group_drop_nil (m : List UInt8) (j s : Nat) (h : ¬ 8 * j + s < m.length) : (group m j).drop s = [] := by
  apply List.drop_eq_nil_of_le; unfold group; simp; omega
theorem group_drop8 (m : List UInt8) (j : Nat) : (group m j).drop 8 = [] := by
  apply List.drop_eq_nil_of_le; unfold group; simp; omega

theorem K3_lit : (18397679294719823053 : Int) = n64 K3 := by decide

theorem tdiv64 (x : UInt64) (k : Nat) (c : Int) (hk : k < 64) (hc : c = (2 ^ k : Nat)) : IntKind.u64.wrap ((n64 x).tdiv c) = n64 (x >>> UInt64.ofNat k) := by
  rw [Int.tdiv_eq_ediv_of_nonneg (n64_lo x), div64 x k c hk hc]
  exact IntWalk.u64_in _ ⟨n64_lo _, n64_hi _⟩
theorem tfin_form (g : UInt64) (n : Nat) (hn : n ≤ 9223372036854775807) :
    bits .xor .u64 (IntKind.u64.wrap (bits .xor .u64 (bits .xor .u64 (n64 g) (n : Int)) (IntKind.u64.wrap ((bits .xor .u64 (n64 g) (n : Int)).tdiv 536870912)) * 11400714819323198485))
      (IntKind.u64.wrap ((IntKind.u64.wrap (bits .xor .u64 (bits .xor .u64 (n64 g) (n : Int)) (IntKind.u64.wrap ((bits .xor .u64 (n64 g) (n : Int)).tdiv 536870912)) * 11400714819323198485)).tdiv 4294967296)) = n64 (fin g n) := by
  have e29 : ∀ x : UInt64, IntKind.u64.wrap ((n64 x).tdiv (536870912 : Int)) = n64 (x >>> 29) := fun x => tdiv64 x 29 (536870912 : Int) (by decide) (by decide)
  have e32 : ∀ x : UInt64, IntKind.u64.wrap ((n64 x).tdiv (4294967296 : Int)) = n64 (x >>> 32) := fun x => tdiv64 x 32 (4294967296 : Int) (by decide) (by decide)
  rw [lit64 n (by omega), xor64, e29, xor64, mulK1, e32, xor64]
  rfl

set_option maxHeartbeats 1000000 in
theorem refof_any (cap : Nat) (a : Option Addr) (m : List UInt8) (w : World) (hlen : m.length ≤ 4611686018427387904) (ha : Bytes w a m) :
    Calls Tryz.prog 19 #[.slice a m.length cap] w fun e w' => e = .returned (.int .u64 (n64 (hsum m))) ∧ w = w' := by
  have HA := Lib.hid ha
  clear ha
  go_enter Tryz.func19, Tryz.ntmps19
  go_wp2
  go_loop [3, 4, 5, 6] (fun h i _ _ => ∃ j : Nat, j ≤ (m.length + 7) / 8 ∧ i = .int .i64 ((8 * j : Nat) : Int) ∧ h = .int .u64 (n64 (hgroups m j))) (fun _ i _ _ => m.length + 8 - (intOf i).toNat)
  case atStart => exact ⟨0, Nat.zero_le _, rfl, by rw [K3_lit]; rfl⟩
  case round =>
    obtain ⟨j, hj, rfl, rfl⟩ := hrel
    by_cases hlt : 8 * j < m.length
    · have hlt' : decide (((8 * j : Nat) : Int) < (m.length : Int)) = true := by simp; omega
      have Hlt := Lib.hid hlt
      have Hj := Lib.hid hj
      go_wp2
      clear hlt hlt' hj
      go_loop [5, 6] (fun v k => ∃ t : Nat, t ≤ 8 ∧ k = .int .i64 ((t : Int) - 1) ∧ v = .int .u64 (n64 (word ((group m j).drop t)))) (fun _ k => (intOf k + 1).toNat)
      case atStart => exact ⟨8, by omega, by simp, by rw [group_drop8]; rfl⟩
      case round =>
        obtain ⟨t, ht, rfl, rfl⟩ := hrel
        rcases Nat.eq_zero_or_pos t with rfl | hpos
        · have ht0 : decide (0 ≤ (((0 : Nat) : Int) - 1)) = false := by decide
          have e2 := mulK1 (word (group m j))
          have e3 := xor64 (hgroups m j) (word (group m j) * K1)
          go_wp2_with (go_at_call 51; (with_reducible refine (turned_any _ _).mono ?_); rintro e w' ⟨rfl, rfl⟩)
          go_round
          case rel =>
            have := Hlt.out
            exact ⟨j + 1, by omega, by go_num, by rw [mulK2]; rfl⟩
          case measure => have := Hlt.out; simp [intOf]; omega
        · obtain ⟨s, rfl⟩ : ∃ s, t = s + 1 := ⟨t - 1, by omega⟩
          by_cases hin : 8 * j + s < m.length
          · obtain ⟨c, p, hap, hcl, hcc⟩ := HA.out (by omega)
            subst hap
            have hcx := hcc (8 * j + s) hin
            obtain ⟨x, hx⟩ : ∃ x, m[8 * j + s]?.getD 0 = x := ⟨_, rfl⟩
            rw [hx] at hcx
            have hgd := group_drop m j s hin (by omega)
            rw [hx] at hgd
            have HG := Lib.hid hgd
            clear hcc hx hgd
            go_wp2
            go_round
            case rel => exact ⟨s, by omega, by go_num, by rw [HG.out, refmul_form _ _ (by unfold group; simp; omega)]⟩
            case measure => simp [intOf]
          · have hg1 := group_drop_nil m j s hin
            have hg2 := group_drop_nil m j (s + 1) (by omega)
            rw [hg2]
            have HG := Lib.hid hg1
            clear hg1 hg2
            go_wp2
            go_round
            case rel => exact ⟨s, by omega, by go_num, by rw [HG.out, refmul_zero]⟩
            case measure => simp [intOf]
    · have Hlt := Lib.hid hlt
      go_wp2
      go_ret
      have hj' : j = (m.length + 7) / 8 := by omega
      refine ⟨ret_u64 ?_, rfl⟩
      rw [tfin_form (hgroups m j) m.length (by omega), hj']
      rfl

end Go.Proofs.YtiemogegdoogaaaGreat
set_option linter.unusedVariables false
set_option maxRecDepth 100000
namespace Go.Proofs.YtiemogegdoogaaaGreat.Sy
open Go Go.Proofs.YtiemogegdoogaaaGreat.Eng Go.Proofs
/-- .. of a whole row -/
noncomputable def cRefAll : Con := ⟨19, [.slv 0 (.lit 0) (.a1 .len (.var 0)) none 1], [.seq .u8 (.var 0) 5], [(.a1 .byt (.var 0), true), (.a2 .lt (.lit 100000000) (.a1 .len (.var 0)), false)], .si .u64 (.a1 (.u 20) (.var 0)), [(0, .seq .u8 (.var 0) 5)], 1⟩
theorem cRefAll_ok {E : Nat → Option Value} {I : Interp} [hI : SumI I] : ConGood E tb Tryz.prog I cRefAll := by
  refine con_below tb_ok (by kernel_rfl) rfl (by kernel_rfl) fun v hv κ vs w hvs hr => ?_
  cases hvs with
  | cons hx ht =>
  cases ht
  have f0 := hv (.a1 .byt (.var 0), true) (by simp [cRefAll])
  have f4 := hv (.a2 .lt (.lit 100000000) (.a1 .len (.var 0)), false) (by simp [cRefAll])
  simp only at f0 f4
  have f0 : bytB (v 0).list = true := (D.tr_ofB _).symm.trans f0
  have f4 : ¬ ((100000000 : Int) < ((v 0).list.length : Int)) := of_decide_eq_false ((D.tr_ofB _).symm.trans f4)
  obtain ⟨a, cap, e, h⟩ := @slv_cells (I.at v) κ _ w hr 0 (.lit 0) (.a1 .len (.var 0)) (.var 0) .u8 _ _ hx (.inl ⟨5, by rw [show ({ heap := layO cRefAll.objs, next := cRefAll.objs.length } : St).heap = layO cRefAll.objs from rfl, layO_get (by decide)]; rfl, rfl⟩) rfl
  have h : 0 < (v 0).list.length → ∃ b p, a = some ⟨b, p, none⟩ ∧ b < w.heap.size ∧ ∀ j, j < (v 0).list.length → w.cell? ⟨b, p + j, none⟩ = some (.int .u8 ((v 0).list[j]?.getD 0)) := h
  have hm : (toB (v 0).list).length = (v 0).list.length := by simp [toB]
  subst e
  have h9 := refof_any cap a (toB (v 0).list) w (by omega) (bytes_of f0 h)
  rw [hm] at h9
  refine h9.mono ?_
  rintro e' w' ⟨rfl, rfl⟩
  refine ⟨_, rfl, ?_, RowKit.Below.refl _ _⟩
  have e9 : (@SX.ev (I.at v) (.a1 (.u 20) (.var 0))).int = n64 (hsum (toB (v 0).list)) := by
    change (I.f1 20 (v 0)).int = _
    rw [hI.h]; rfl
  rw [← e9]
  exact @V.si (I.at v) κ .u64 _
end Go.Proofs.YtiemogegdoogaaaGreat.Sy
