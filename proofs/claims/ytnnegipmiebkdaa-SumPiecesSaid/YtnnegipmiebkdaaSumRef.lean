/-
  The reference's checksum, and the law's own examples. Conditions: the bytes' cells; a length of at most 2^62.
-/
import Derived.Test.YtnnegipmiebkdaaSumWrite
import Derived.LoopN
namespace Go.Proofs.Ytnnegipmiebkdaa
open Go Go.RowKit
set_option linter.unusedSimpArgs false
set_option linter.unusedVariables false

theorem refmul_form (b : UInt8) (r : List UInt8) (h : r.length ≤ 7) : IntKind.u64.wrap (IntKind.u64.wrap (256 * n64 (word r)) + IntKind.u64.wrap (n8 b)) = n64 (word (b :: r)) := by
  have h1 := le_lt r
  have h2 := pow256_le (r.length + 1) (by omega)
  rw [Nat.pow_succ] at h2
  have hb := b.toNat_lt
  unfold n64 n8
  rw [word_toNat r (by omega), word_toNat (b :: r) (by simp; omega), IntKind.wrap_u64, IntKind.wrap_u64, IntKind.wrap_u64]
  simp only [le]
  omega
theorem refmul_zero : IntKind.u64.wrap (256 * n64 (word [])) = n64 (word []) := by decide

theorem group_drop (m : List UInt8) (j s : Nat) (h : 8 * j + s < m.length) (hs : s < 8) : (group m j).drop s = (m[8 * j + s]?.getD 0) :: (group m j).drop (s + 1) := by
  have hl : s < (group m j).length := by unfold group; simp; omega
  rw [List.drop_eq_getElem_cons hl]
  congr 1
  simp [group, h]
theorem group_drop_nil (m : List UInt8) (j s : Nat) (h : ¬ 8 * j + s < m.length) : (group m j).drop s = [] := by
  apply List.drop_eq_nil_of_le; unfold group; simp; omega
theorem group_drop8 (m : List UInt8) (j : Nat) : (group m j).drop 8 = [] := by
  apply List.drop_eq_nil_of_le; unfold group; simp; omega

theorem K3_lit : (18397679294719823053 : Int) = n64 K3 := by decide

theorem tdiv64 (x : UInt64) (k : Nat) (c : Int) (hk : k < 64) (hc : c = (2 ^ k : Nat)) : IntKind.u64.wrap ((n64 x).tdiv c) = n64 (x >>> UInt64.ofNat k) := by
  rw [Int.tdiv_eq_ediv_of_nonneg (n64_lo x), div64 x k c hk hc]
  exact IntWalk.u64_in _ ⟨n64_lo _, n64_hi _⟩
theorem tfin_form (g : UInt64) (n : Nat) (hn : n ≤ 9223372036854775807) :
    bits .xor .u64 (IntKind.u64.wrap (bits .xor .u64 (bits .xor .u64 (n64 g) (n : Int)) (IntKind.u64.wrap ((bits .xor .u64 (n64 g) (n : Int)).tdiv 536870912)) * 11400714819323198485))
      (IntKind.u64.wrap ((IntKind.u64.wrap (bits .xor .u64 (bits .xor .u64 (n64 g) (n : Int)) (IntKind.u64.wrap ((bits .xor .u64 (n64 g) (n : Int)).tdiv 536870912)) * 11400714819323198485)).tdiv 4294967296)) = n64 (fin g n) := by
  have e29 : ∀ x : UInt64, IntKind.u64.wrap ((n64 x).tdiv (536870912 : Int)) = n64 (x >>> 29) := fun x => tdiv64 x 29 (536870912 : Int) (by decide) (by decide)
  have e32 : ∀ x : UInt64, IntKind.u64.wrap ((n64 x).tdiv (4294967296 : Int)) = n64 (x >>> 32) := fun x => tdiv64 x 32 (4294967296 : Int) (by decide) (by decide)
  rw [lit64 n (by omega), xor64, e29, xor64, mulK1, e32, xor64]
  rfl

set_option maxHeartbeats 1000000 in
theorem refof_any (cap : Nat) (a : Option Addr) (m : List UInt8) (w : World) (hlen : m.length ≤ 4611686018427387904) (ha : Bytes w a m) :
    Calls Try.prog 13 #[.slice a m.length cap] w fun e w' => e = .returned (.int .u64 (n64 (hsum m))) ∧ w = w' := by
  have HA := Lib.hid ha
  clear ha
  go_enter Try.func13, Try.ntmps13
  go_wp2
  go_loop [3, 4, 5, 6] (fun h i _ _ => ∃ j : Nat, j ≤ (m.length + 7) / 8 ∧ i = .int .i64 ((8 * j : Nat) : Int) ∧ h = .int .u64 (n64 (hgroups m j))) (fun _ i _ _ => m.length + 8 - (intOf i).toNat)
  case atStart => exact ⟨0, Nat.zero_le _, rfl, by rw [K3_lit]; rfl⟩
  case round =>
    obtain ⟨j, hj, rfl, rfl⟩ := hrel
    by_cases hlt : 8 * j < m.length
    · have hlt' : decide (((8 * j : Nat) : Int) < (m.length : Int)) = true := by simp; omega
      have Hlt := Lib.hid hlt
      have Hj := Lib.hid hj
      go_wp2
      clear hlt hlt' hj
      go_loop [5, 6] (fun v k => ∃ t : Nat, t ≤ 8 ∧ k = .int .i64 ((t : Int) - 1) ∧ v = .int .u64 (n64 (word ((group m j).drop t)))) (fun _ k => (intOf k + 1).toNat)
      case atStart => exact ⟨8, by omega, by simp, by rw [group_drop8]; rfl⟩
      case round =>
        obtain ⟨t, ht, rfl, rfl⟩ := hrel
        rcases Nat.eq_zero_or_pos t with rfl | hpos
        · have ht0 : decide (0 ≤ (((0 : Nat) : Int) - 1)) = false := by decide
          have e2 := mulK1 (word (group m j))
          have e3 := xor64 (hgroups m j) (word (group m j) * K1)
          go_wp2_with (go_at_call 20; (with_reducible refine (turned_any _ _).mono ?_); rintro e w' ⟨rfl, rfl⟩)
          go_round
          case rel =>
            have := Hlt.out
            exact ⟨j + 1, by omega, by go_num, by rw [mulK2]; rfl⟩
          case measure => have := Hlt.out; simp [intOf]; omega
        · obtain ⟨s, rfl⟩ : ∃ s, t = s + 1 := ⟨t - 1, by omega⟩
          by_cases hin : 8 * j + s < m.length
          · obtain ⟨c, p, hap, hcl, hcc⟩ := HA.out (by omega)
            subst hap
            have hcx := hcc (8 * j + s) hin
            obtain ⟨x, hx⟩ : ∃ x, m[8 * j + s]?.getD 0 = x := ⟨_, rfl⟩
            rw [hx] at hcx
            have hgd := group_drop m j s hin (by omega)
            rw [hx] at hgd
            have HG := Lib.hid hgd
            clear hcc hx hgd
            go_wp2
            go_round
            case rel => exact ⟨s, by omega, by go_num, by rw [HG.out, refmul_form _ _ (by unfold group; simp; omega)]⟩
            case measure => simp [intOf]
          · have hg1 := group_drop_nil m j s hin
            have hg2 := group_drop_nil m j (s + 1) (by omega)
            rw [hg2]
            have HG := Lib.hid hg1
            clear hg1 hg2
            go_wp2
            go_round
            case rel => exact ⟨s, by omega, by go_num, by rw [HG.out, refmul_zero]⟩
            case measure => simp [intOf]
    · have Hlt := Lib.hid hlt
      go_wp2
      go_ret
      have hj' : j = (m.length + 7) / 8 := by omega
      refine ⟨ret_u64 ?_, rfl⟩
      rw [tfin_form (hgroups m j) m.length (by omega), hj']
      rfl

set_option maxHeartbeats 1000000 in
/-- The law's own examples. -/
theorem known_any (w : World) : Calls Try.prog 11 #[] w fun e w' => e = .returned (.bool true) ∧ Below w.heap.size w w' := by
  have e0 := K3_lit
  have e29 : ∀ x : UInt64, n64 x / (536870912 : Int) = n64 (x >>> 29) := fun x => div64 x 29 (536870912 : Int) (by decide) (by decide)
  have e32 : ∀ x : UInt64, n64 x / (4294967296 : Int) = n64 (x >>> 32) := fun x => div64 x 32 (4294967296 : Int) (by decide) (by decide)
  have e1 := mulK1
  have e2 := xor64
  have e3 : (K3 ^^^ K3 >>> 29) * K1 ^^^ ((K3 ^^^ K3 >>> 29) * K1) >>> 32 = hsum [] := by decide
  obtain ⟨H, hH⟩ : ∃ H, hsum [] = H := ⟨_, rfl⟩
  rw [hH] at e3
  have HH := Lib.hid hH
  clear hH
  go_enter Try.func11, Try.ntmps11
  go_wp2_with (first
    | (go_at_call 12; refine (of_any 0 none [] _ (by simp) (Bytes.nil _ _)).mono ?_; rw [HH.out]; rintro e w1 ⟨rfl, hb1⟩; have H1 := Lib.hid hb1; clear hb1)
    | (go_at_call 14; refine (new_any _).mono ?_; rintro e w2 ⟨rfl, hs2, hb2, hz2⟩; have H2 := Lib.hid (And.intro hs2 (And.intro hb2 hz2)); clear hs2 hb2 hz2)
    | (go_at_call 16; refine (sum_any _ _ _ _ H2.out.1 (by simp)).mono ?_; rw [HH.out]; rintro e w3 ⟨rfl, hb3⟩; have H3 := Lib.hid hb3; clear hb3))
  go_ret
  exact ⟨rfl, (H1.out.trans (H2.out.2.1.mono H1.out.size)).trans (H3.out.mono (Nat.le_trans H1.out.size H2.out.2.1.size))⟩

end Go.Proofs.Ytnnegipmiebkdaa
