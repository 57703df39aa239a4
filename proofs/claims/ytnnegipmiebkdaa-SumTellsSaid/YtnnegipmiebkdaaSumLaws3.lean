/-
  The walk of the law SumTells. Conditions: what the rows' reading gives of the arguments.
-/
import Derived.Test.YtnnegipmiebkdaaSumLaws2
namespace Go.Proofs.Ytnnegipmiebkdaa
open Go Go.RowKit
set_option linter.unusedSimpArgs false
set_option linter.unusedVariables false

/-- The first i bytes of group k replaced. -/
def repl (m by_ : List UInt8) (k : Nat) : Nat → List UInt8
  | 0 => m
  | i + 1 => (repl m by_ k i).set (8 * k + i) (by_[i]?.getD 0)
def oth (m by_ : List UInt8) (k : Nat) : Nat → Bool
  | 0 => false
  | i + 1 => oth m by_ k i || (m[8 * k + i]?.getD 0 != by_[i]?.getD 0)
theorem repl_length (m by_ : List UInt8) (k i : Nat) : (repl m by_ k i).length = m.length := by
  induction i with
  | zero => rfl
  | succ i ih => simp [repl, ih]
theorem repl_get (m by_ : List UInt8) (k i j : Nat) (h : j < 8 * k ∨ 8 * k + i ≤ j) : (repl m by_ k i)[j]? = m[j]? := by
  induction i with
  | zero => rfl
  | succ i ih => rw [repl, List.getElem?_set_ne (by omega), ih (by omega)]
theorem repl_got (m by_ : List UInt8) (k i t : Nat) (h : t < i) (hm : 8 * k + t < m.length) : (repl m by_ k i)[8 * k + t]? = some (by_[t]?.getD 0) := by
  induction i with
  | zero => omega
  | succ i ih =>
    rw [repl]
    by_cases e : t = i
    · subst e; rw [List.getElem?_set_self (by rw [repl_length]; exact hm)]
    · rw [List.getElem?_set_ne (by omega), ih (by omega)]
theorem repl_same (m by_ : List UInt8) (k i : Nat) (hin : ∀ t, t < i → 8 * k + t < m.length) (h : oth m by_ k i = false) : repl m by_ k i = m := by
  induction i with
  | zero => rfl
  | succ i ih =>
    simp only [oth, Bool.or_eq_false_iff, bne_eq_false_iff_eq] at h
    rw [repl, ih (fun t ht => hin t (by omega)) h.1, ← h.2]
    have := hin i (by omega)
    apply List.ext_getElem?
    intro j
    by_cases e : j = 8 * k + i
    · subst e; rw [List.getElem?_set_self this]; simp [this]
    · rw [List.getElem?_set_ne (by omega)]
theorem oth_at (m by_ : List UInt8) (k i : Nat) (h : oth m by_ k i = true) : ∃ t, t < i ∧ m[8 * k + t]?.getD 0 ≠ by_[t]?.getD 0 := by
  induction i with
  | zero => cases h
  | succ i ih =>
    simp only [oth, Bool.or_eq_true, bne_iff_ne] at h
    rcases h with h | h
    · obtain ⟨t, ht, hn⟩ := ih h; exact ⟨t, by omega, hn⟩
    · exact ⟨i, by omega, h⟩
theorem repl_other (m by_ : List UInt8) (k i : Nat) (hi : i ≤ 8) (hin : ∀ t, t < i → 8 * k + t < m.length) (h : oth m by_ k i = true) : hsum m ≠ hsum (repl m by_ k i) := by
  obtain ⟨t, ht, hn⟩ := oth_at m by_ k i h
  have htm := hin t ht
  refine hsum_differ m _ (repl_length m by_ k i).symm k (by omega) (fun j hj => ?_) (fun e => hn ?_)
  · apply List.ext_getElem?
    intro s
    by_cases hs : s < 8
    · rw [group_get _ _ _ hs, group_get _ _ _ hs, repl_get _ _ _ _ _ (by omega)]
    · rw [List.getElem?_eq_none (by unfold group; simp; omega), List.getElem?_eq_none (by unfold group; simp; omega)]
  · have e1 := group_get m k t (by omega)
    have e2 := group_get (repl m by_ k i) k t (by omega)
    rw [← e, e1, repl_got m by_ k i t ht htm] at e2
    rw [e2]; rfl

set_option maxHeartbeats 2000000 in
theorem sumTells_walk (a : Option Addr) (len cap : Nat) (zs : List Int) (which : Int) (a2 : Option Addr) (len2 cap2 : Nat) (zs2 : List Int) (w : World) (h : Row8 w a len cap zs) (hwh : (Lit.int .i64 which).wf = true) (h2 : Row8 w a2 len2 cap2 zs2) :
    Calls Try.prog 4 #[.slice a len cap, .int .i64 which, .slice a2 len2 cap2] w fun e w' => e = .returned (.bool true) ∧ Below w.heap.size w w' := by
  obtain ⟨hl, hlc, hcm, hb⟩ := row8_bytes h
  obtain ⟨hl2, hlc2, hcm2, hb2⟩ := row8_bytes h2
  have hn : a = none → cap = 0 ∧ len = 0 := by
    rcases h with ⟨rfl, rfl, rfl, rfl⟩ | ⟨x, rfl, _⟩
    · intro _; exact ⟨rfl, rfl⟩
    · intro e; cases e
  obtain ⟨m, hm⟩ : ∃ m, bytesOf zs len = m := ⟨_, rfl⟩
  obtain ⟨n, hnn⟩ : ∃ n, bytesOf zs2 len2 = n := ⟨_, rfl⟩
  rw [hm] at hl hb
  rw [hnn] at hl2 hb2
  clear h hm h2 hnn
  subst hl
  subst hl2
  have HB := Lib.hid hb
  have HB2 := Lib.hid hb2
  clear hb hb2
  by_cases h0 : m.length = 0
  · have ht : ((m.length : Int) == 0) = true := beq_t (by omega)
    have HN := Lib.hid h0
    clear h0 hlc hcm hn
    go_enter Try.func4, Try.ntmps4
    go_wp2_with (go_at_call 11; refine (known_any _).mono ?_; rintro e w1 ⟨rfl, hb1⟩)
    go_ret
    exact ⟨rfl, hb1⟩
  have ht : ((m.length : Int) == 0) = false := beq_f (by omega)
  by_cases hbig : 4000 < m.length
  · have ht2 : decide ((4000 : Int) < (m.length : Int)) = true := dec_t (by omega)
    have HN := Lib.hid (And.intro h0 hbig)
    clear h0 hbig hlc hcm hn
    go_enter Try.func4, Try.ntmps4
    go_wp2_with (go_at_call 11; refine (known_any _).mono ?_; rintro e w1 ⟨rfl, hb1⟩)
    go_ret
    exact ⟨rfl, hb1⟩
  have ht2 : decide ((4000 : Int) < (m.length : Int)) = false := dec_f (by omega)
  obtain ⟨B, hB⟩ : ∃ B : Int, IntKind.u64.wrap which = B := ⟨_, rfl⟩
  have hB0 : 0 ≤ B := by rw [← hB, IntKind.wrap_u64]; omega
  have hB1 : B ≤ 18446744073709551615 := by rw [← hB, IntKind.wrap_u64]; omega
  obtain ⟨K, hK⟩ : ∃ K : Nat, B % (((m.length : Int) + 7) / 8) = K := ⟨(B % (((m.length : Int) + 7) / 8)).toNat, by rw [Int.toNat_of_nonneg (Int.emod_nonneg _ (by omega))]⟩
  have hK1 : (K : Int) < ((m.length : Int) + 7) / 8 := by rw [← hK]; exact Int.emod_lt_of_pos _ (by omega)
  have hmpos : 0 < m.length := by omega
  have hK2 : 8 * K < m.length := by omega
  have HN := Lib.hid hn
  clear h0 hn
  go_enter Try.func4, Try.ntmps4
  go_wp2_with (at_builtin; refine wpList_appendB rfl _ _ rfl w.heap.size _ [] rfl (OwnB.nil _ _) _ _ _ m rfl rfl HB.out (by simp; omega) (Nat.le_refl _) (fun e => ⟨(HN.out e).1, List.length_eq_zero_iff.1 (HN.out e).2⟩) ?_; intro a' c' w1 hown hgrow; simp only [List.length_nil, Nat.zero_add, List.nil_append] at hown ⊢; obtain ⟨g, rfl, hg, hgl, _⟩ := hown.cell hmpos; have H1 := Lib.hid (And.intro hown (And.intro (grown_none hgrow) hg)); clear hown hgrow)
  clear hK
  go_loopw [9, 10] (fun v i wr => ∃ k : Nat, k ≤ 8 ∧ i = .int .i64 k ∧ v = .bool (oth m n K k) ∧ OwnB w.heap.size wr (.slice (some ⟨g, 0, none⟩) m.length c') (repl m n K k) ∧ Below w.heap.size w wr ∧ ∀ t, t < k → 8 * K + t < m.length) (fun _ i _ => 8 - (intOf i).toNat)
  case atStart => exact ⟨0, by omega, rfl, rfl, H1.out.1, H1.out.2.1, fun t ht => by omega⟩
  case round =>
    obtain ⟨k, hk, rfl, rfl, hown, hbel, hin⟩ := hrel
    have HR := Lib.hid (And.intro hk (And.intro hown (And.intro hbel hin)))
    clear hown hbel hin hk
    by_cases hgo : k < 8 ∧ 8 * K + k < m.length ∧ k < n.length
    · obtain ⟨g1, g2, g3⟩ := hgo
      obtain ⟨hk, hown, hbel, hin⟩ := HR.out
      obtain ⟨g', e1, hg', hgl', hcell, hfz, hset⟩ := hown.cell (by rw [repl_length]; exact hmpos)
      obtain rfl : g = g' := by cases e1; rfl
      obtain ⟨c, p, rfl, hcl, hcc⟩ := HB2.out.below hbel (by omega)
      have hcx := hcell (8 * K + k) (by rw [repl_length]; exact g2)
      have hfx := hfz (8 * K + k)
      rw [repl_get _ _ _ _ _ (by omega)] at hcx
      have hcy := hcc k g3
      obtain ⟨x, hx⟩ : ∃ x, m[8 * K + k]?.getD 0 = x := ⟨_, rfl⟩
      obtain ⟨y, hy⟩ : ∃ y, n[k]?.getD 0 = y := ⟨_, rfl⟩
      rw [hx] at hcx
      rw [hy] at hcy
      have hs := hset (8 * K + k) y (by rw [repl_length]; exact g2)
      have hb' : Below w.heap.size w (wr.setCell ⟨g, 8 * K + k, none⟩ (.int .u8 (n8 y))) := hbel.setCell (p := ⟨g, 8 * K + k, none⟩) hg' _
      have HH : Hid (repl m n K (k + 1) = (repl m n K k).set (8 * K + k) y ∧ oth m n K (k + 1) = (oth m n K k || (x != y))) := ⟨by rw [repl, hy], by rw [oth, hx, hy]⟩
      have HS := Lib.hid (And.intro hs hb')
      have hne : (n8 x != n8 y) = (x != y) := n8_bne x y
      clear hk hown hbel hin e1 hcell hfz hset hcc hs hb' hx hy
      cases hoo : oth m n K k with
      | true =>
        have ho := Lib.hid hoo
        clear hoo
        go_wp2
        go_region
        go_wp2
        refine ⟨⟨k + 1, by omega, by go_num, by rw [HH.out.2, ho.out]; rfl, by rw [HH.out.1]; exact HS.out.1, HS.out.2.drew, fun t ht => ?_⟩, by simp [intOf]; omega⟩
        by_cases e : t = k
        · subst e; exact g2
        · exact HR.out.2.2.2 t (by omega)
      | false =>
        have ho := Lib.hid hoo
        clear hoo
        go_wp2
        go_region
        go_wp2
        refine ⟨⟨k + 1, by omega, by go_num, by rw [HH.out.2, ho.out]; rfl, by rw [HH.out.1]; exact HS.out.1, HS.out.2.drew, fun t ht => ?_⟩, by simp [intOf]; omega⟩
        by_cases e : t = k
        · subst e; exact g2
        · exact HR.out.2.2.2 t (by omega)
    · have hne : (n64 (hsum m) != n64 (hsum (repl m n K k))) = oth m n K k := by
        rw [n64_bne]
        cases ho : oth m n K k with
        | true => exact bne_iff_ne.2 (repl_other m n K k HR.out.1 HR.out.2.2.2 ho)
        | false => rw [repl_same m n K k HR.out.2.2.2 ho]; simp
      obtain ⟨ob, hob⟩ : ∃ ob, oth m n K k = ob := ⟨_, rfl⟩
      rw [hob] at hne ⊢
      have Hob := Lib.hid hob
      clear hob
      by_cases g1 : k < 8
      · by_cases g2 : 8 * K + k < m.length
        · have g3 : ¬ k < n.length := fun h => hgo ⟨g1, g2, h⟩
          clear hgo
          go_wp2_with (first
            | (go_at_call 12; (with_reducible refine (of_any cap a m wr (by omega) (HB.out.below HR.out.2.2.1)).mono ?_); rintro e w3 ⟨rfl, hb3⟩; have H3 := Lib.hid hb3; clear hb3)
            | (go_at_call 12; (with_reducible refine (of_at _ _ _ (repl m n K k) _ (repl_length m n K k).symm (by rw [repl_length]; omega) (HR.out.2.1.bytes.2.2.2.below H3.out)).mono ?_); rintro e w4 ⟨rfl, hb4⟩; have H4 := Lib.hid hb4; clear hb4)
            | (go_at_call 11; refine (known_any _).mono ?_; rintro e w5 ⟨rfl, hb5⟩; have H5 := Lib.hid hb5; clear hb5))
          go_ret
          have q1 := HR.out.2.2.1
          have q2 := q1.trans (H3.out.mono q1.size)
          have q3 := q2.trans (H4.out.mono q2.size)
          exact ⟨rfl, q3.trans (H5.out.mono q3.size)⟩
        · clear hgo
          go_wp2_with (first
            | (go_at_call 12; (with_reducible refine (of_any cap a m wr (by omega) (HB.out.below HR.out.2.2.1)).mono ?_); rintro e w3 ⟨rfl, hb3⟩; have H3 := Lib.hid hb3; clear hb3)
            | (go_at_call 12; (with_reducible refine (of_at _ _ _ (repl m n K k) _ (repl_length m n K k).symm (by rw [repl_length]; omega) (HR.out.2.1.bytes.2.2.2.below H3.out)).mono ?_); rintro e w4 ⟨rfl, hb4⟩; have H4 := Lib.hid hb4; clear hb4)
            | (go_at_call 11; refine (known_any _).mono ?_; rintro e w5 ⟨rfl, hb5⟩; have H5 := Lib.hid hb5; clear hb5))
          go_ret
          have q1 := HR.out.2.2.1
          have q2 := q1.trans (H3.out.mono q1.size)
          have q3 := q2.trans (H4.out.mono q2.size)
          exact ⟨rfl, q3.trans (H5.out.mono q3.size)⟩
      · clear hgo
        go_wp2_with (first
          | (go_at_call 12; (with_reducible refine (of_any cap a m wr (by omega) (HB.out.below HR.out.2.2.1)).mono ?_); rintro e w3 ⟨rfl, hb3⟩; have H3 := Lib.hid hb3; clear hb3)
          | (go_at_call 12; (with_reducible refine (of_at _ _ _ (repl m n K k) _ (repl_length m n K k).symm (by rw [repl_length]; omega) (HR.out.2.1.bytes.2.2.2.below H3.out)).mono ?_); rintro e w4 ⟨rfl, hb4⟩; have H4 := Lib.hid hb4; clear hb4)
          | (go_at_call 11; refine (known_any _).mono ?_; rintro e w5 ⟨rfl, hb5⟩; have H5 := Lib.hid hb5; clear hb5))
        go_ret
        have q1 := HR.out.2.2.1
        have q2 := q1.trans (H3.out.mono q1.size)
        have q3 := q2.trans (H4.out.mono q2.size)
        exact ⟨rfl, q3.trans (H5.out.mono q3.size)⟩

end Go.Proofs.Ytnnegipmiebkdaa
