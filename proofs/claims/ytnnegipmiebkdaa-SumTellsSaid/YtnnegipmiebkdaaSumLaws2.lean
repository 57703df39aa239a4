/-
  The walks of the laws SumBits and SumTells. Conditions: what the rows' reading gives of the arguments.
-/
import Derived.Test.YtnnegipmiebkdaaSumLaws
namespace Go.Proofs.Ytnnegipmiebkdaa
open Go Go.RowKit
set_option linter.unusedSimpArgs false
set_option linter.unusedVariables false

theorem xor8_ne (x b : UInt8) (h : b ≠ 0) : x ^^^ b ≠ x := fun e => h (by
  have := congrArg (x ^^^ ·) e
  simpa [← UInt8.xor_assoc] using this)
/-- Inverting bit j of a byte. -/
theorem flip8 (x : UInt8) (j : Nat) (hj : j < 8) : ∃ y, bits .xor .u8 (n8 x) (2 ^ j % 256) = n8 y ∧ y ≠ x := by
  have h8 : j = 0 ∨ j = 1 ∨ j = 2 ∨ j = 3 ∨ j = 4 ∨ j = 5 ∨ j = 6 ∨ j = 7 := by omega
  rcases h8 with rfl | rfl | rfl | rfl | rfl | rfl | rfl | rfl
  · exact ⟨x ^^^ 1, xor8 x 1, xor8_ne x _ (by decide)⟩
  · exact ⟨x ^^^ 2, xor8 x 2, xor8_ne x _ (by decide)⟩
  · exact ⟨x ^^^ 4, xor8 x 4, xor8_ne x _ (by decide)⟩
  · exact ⟨x ^^^ 8, xor8 x 8, xor8_ne x _ (by decide)⟩
  · exact ⟨x ^^^ 16, xor8 x 16, xor8_ne x _ (by decide)⟩
  · exact ⟨x ^^^ 32, xor8 x 32, xor8_ne x _ (by decide)⟩
  · exact ⟨x ^^^ 64, xor8 x 64, xor8_ne x _ (by decide)⟩
  · exact ⟨x ^^^ 128, xor8 x 128, xor8_ne x _ (by decide)⟩

theorem group_get (l : List UInt8) (k t : Nat) (ht : t < 8) : (group l k)[t]? = l[8 * k + t]? := by
  unfold group
  rw [List.getElem?_take_of_lt ht, List.getElem?_drop]
theorem group_set (l : List UInt8) (i : Nat) (x : UInt8) (k : Nat) (h : k ≠ i / 8) : group (l.set i x) k = group l k := by
  apply List.ext_getElem?
  intro t
  by_cases ht : t < 8
  · rw [group_get _ _ _ ht, group_get _ _ _ ht, List.getElem?_set_ne (by omega)]
  · rw [List.getElem?_eq_none (by unfold group; simp; omega), List.getElem?_eq_none (by unfold group; simp; omega)]
/-- One byte other: another sum. -/
theorem hsum_set (l : List UInt8) (i : Nat) (x : UInt8) (hi : i < l.length) (h : x ≠ l[i]?.getD 0) : hsum l ≠ hsum (l.set i x) := by
  refine hsum_differ l _ (by simp) (i / 8) (by omega) (fun k hk => (group_set l i x k hk).symm) (fun e => h ?_)
  have e1 := group_get l (i / 8) (i % 8) (by omega)
  have e2 := group_get (l.set i x) (i / 8) (i % 8) (by omega)
  rw [← e] at e2
  rw [show 8 * (i / 8) + i % 8 = i by omega] at e1 e2
  rw [e1] at e2
  rw [e2]; simp [hi]

set_option maxHeartbeats 1000000 in
theorem sumBits_walk (a : Option Addr) (len cap : Nat) (zs : List Int) (bit : Int) (w : World) (h : Row8 w a len cap zs) (hbit : (Lit.int .i64 bit).wf = true) :
    Calls Try.prog 5 #[.slice a len cap, .int .i64 bit] w fun e w' => e = .returned (.bool true) ∧ Below w.heap.size w w' := by
  obtain ⟨hl, hlc, hcm, hb⟩ := row8_bytes h
  have hn : a = none → cap = 0 ∧ len = 0 := by
    rcases h with ⟨rfl, rfl, rfl, rfl⟩ | ⟨x, rfl, _⟩
    · intro _; exact ⟨rfl, rfl⟩
    · intro e; cases e
  obtain ⟨m, hm⟩ : ∃ m, bytesOf zs len = m := ⟨_, rfl⟩
  rw [hm] at hl hb
  clear h hm
  subst hl
  have HB := Lib.hid hb
  clear hb
  by_cases h0 : m.length = 0
  · have ht : ((m.length : Int) == 0) = true := beq_t (by omega)
    have HN := Lib.hid h0
    clear h0 hlc hcm hn
    go_enter Try.func5, Try.ntmps5
    go_wp2_with (go_at_call 11; refine (known_any _).mono ?_; rintro e w1 ⟨rfl, hb1⟩)
    go_ret
    exact ⟨rfl, hb1⟩
  have ht : ((m.length : Int) == 0) = false := beq_f (by omega)
  by_cases hbig : 4000 < m.length
  · have ht2 : decide ((4000 : Int) < (m.length : Int)) = true := by simp; omega
    have HN := Lib.hid (And.intro h0 hbig)
    clear h0 hbig hlc hcm hn
    go_enter Try.func5, Try.ntmps5
    go_wp2_with (go_at_call 11; refine (known_any _).mono ?_; rintro e w1 ⟨rfl, hb1⟩)
    go_ret
    exact ⟨rfl, hb1⟩
  have ht2 : decide ((4000 : Int) < (m.length : Int)) = false := by simp; omega
  obtain ⟨B, hB⟩ : ∃ B : Int, IntKind.u64.wrap bit = B := ⟨_, rfl⟩
  have hB0 : 0 ≤ B := by rw [← hB, IntKind.wrap_u64]; omega
  have hB1 : B ≤ 18446744073709551615 := by rw [← hB, IntKind.wrap_u64]; omega
  obtain ⟨K, hK⟩ : ∃ K : Nat, B % (8 * (m.length : Int)) = K := ⟨(B % (8 * (m.length : Int))).toNat, by rw [Int.toNat_of_nonneg (Int.emod_nonneg _ (by omega))]⟩
  have hK1 : (K : Int) < 8 * (m.length : Int) := by rw [← hK]; exact Int.emod_lt_of_pos _ (by omega)
  have hmpos : 0 < m.length := by omega
  have HN := Lib.hid hn
  clear h0 hn
  go_enter Try.func5, Try.ntmps5
  go_wp2_with (at_builtin; refine wpList_appendB rfl _ _ rfl w.heap.size _ [] rfl (OwnB.nil _ _) _ _ _ m rfl rfl HB.out (by simp; omega) (Nat.le_refl _) (fun e => ⟨(HN.out e).1, List.length_eq_zero_iff.1 (HN.out e).2⟩) ?_; intro a' c' w1 hown hgrow; simp only [List.length_nil, Nat.zero_add, List.nil_append] at hown ⊢; obtain ⟨g, rfl, hg, hgl, hcell, hfz, hset⟩ := hown.cell hmpos; have hck := hcell (K / 8) (by omega); have hfk := hfz (K / 8); have H1 := Lib.hid (And.intro hown (And.intro (grown_none hgrow) (And.intro hset hg))); clear hown hgrow hset hcell hfz)
  go_region
  obtain ⟨y, hy, hyx⟩ := flip8 (m[K / 8]?.getD 0) (K % 8) (by omega)
  rw [hy]
  obtain ⟨W, hW⟩ : ∃ W, (w1.setCell ⟨g, K / 8, none⟩ (.int .u8 (n8 y))).drew = W := ⟨_, rfl⟩
  have hbel : Below w.heap.size w W := by rw [← hW]; exact (H1.out.2.1.setCell (p := ⟨g, K / 8, none⟩) H1.out.2.2.2 _).drew
  have hownW : OwnB w.heap.size W (.slice (some ⟨g, 0, none⟩) m.length c') (m.set (K / 8) y) := by rw [← hW]; exact H1.out.2.2.1 (K / 8) y (by omega)
  have hne : (n64 (hsum m) != n64 (hsum (m.set (K / 8) y))) = true := by
    rw [n64_bne]; exact bne_iff_ne.2 (hsum_set m (K / 8) y (by omega) hyx)
  rw [hW]
  have H2 := Lib.hid (And.intro hbel hownW)
  have hlen2 : (m.set (K / 8) y).length = m.length := by simp
  have Hlen2 := Lib.hid hlen2
  clear hbel hownW hW hy hyx hck hfk hlen2
  go_wp2_with (first
      | (go_at_call 12; (with_reducible refine (of_any cap a m W (by omega) (HB.out.below H2.out.1)).mono ?_); rintro e w3 ⟨rfl, hb3⟩; have H3 := Lib.hid hb3; clear hb3)
      | (go_at_call 12; (with_reducible refine (of_at _ _ _ (m.set (K / 8) y) _ Hlen2.out.symm (by have := Hlen2.out; omega) (H2.out.2.bytes.2.2.2.below H3.out)).mono ?_); rintro e w4 ⟨rfl, hb4⟩; have H4 := Lib.hid hb4; clear hb4)
      | (go_at_call 11; refine (known_any _).mono ?_; rintro e w5 ⟨rfl, hb5⟩; have H5 := Lib.hid hb5; clear hb5))
  go_ret
  have q1 := H2.out.1
  have q2 := q1.trans (H3.out.mono q1.size)
  have q3 := q2.trans (H4.out.mono q2.size)
  exact ⟨rfl, q3.trans (H5.out.mono q3.size)⟩

end Go.Proofs.Ytnnegipmiebkdaa
