/-
  The walk of the law SumOwn. Conditions: what the rows' reading gives of the arguments.
-/
import Derived.Test.YtnnegipmiebkdaaSumLaws5
namespace Go.Proofs.Ytnnegipmiebkdaa
open Go Go.RowKit
set_option linter.unusedSimpArgs false
set_option linter.unusedVariables false

set_option maxHeartbeats 4000000 in
theorem sumOwn_walk (a : Option Addr) (len cap : Nat) (zs : List Int) (a2 : Option Addr) (len2 cap2 : Nat) (zs2 : List Int) (w : World)
    (h : Row8 w a len cap zs) (h2 : Row8 w a2 len2 cap2 zs2) :
    Calls Try.prog 6 #[.slice a len cap, .slice a2 len2 cap2] w fun e w' => e = .returned (.bool true) ∧ Below w.heap.size w w' := by
  obtain ⟨hl, _, _, hb⟩ := row8_bytes h
  obtain ⟨hl2, _, _, hb2⟩ := row8_bytes h2
  have N1 := Lib.hid (row8_nil h)
  have N2 := Lib.hid (row8_nil h2)
  obtain ⟨m, hm⟩ : ∃ m, bytesOf zs len = m := ⟨_, rfl⟩
  obtain ⟨m2, hm2⟩ : ∃ m, bytesOf zs2 len2 = m := ⟨_, rfl⟩
  rw [hm] at hl hb N1
  rw [hm2] at hl2 hb2 N2
  clear h hm h2 hm2
  subst hl hl2
  have HB := Lib.hid hb
  have HB2 := Lib.hid hb2
  clear hb hb2
  by_cases g1 : 4000 < m.length
  · go_enter Try.func6, Try.ntmps6
    go_wp2_with (go_at_call 11; refine (known_any _).mono ?_; rintro e w1 ⟨rfl, hb1⟩)
    go_ret
    exact ⟨rfl, hb1⟩
  by_cases g2 : 4000 < m2.length
  · go_enter Try.func6, Try.ntmps6
    go_wp2_with (go_at_call 11; refine (known_any _).mono ?_; rintro e w1 ⟨rfl, hb1⟩)
    go_ret
    exact ⟨rfl, hb1⟩
  go_enter Try.func6, Try.ntmps6
  go_wp2_with (first
    | (go_at_call 14; (with_reducible refine (new_any _).mono ?_); rintro e w1 ⟨rfl, hs, hb, hz⟩; have H1 := Lib.hid (And.intro hs (And.intro hb hz)); clear hs hb hz)
    | (at_builtin; refine wpList_appendB rfl (.const (.slice none 0 0)) (.tmp 21) rfl w1.heap.size _ [] rfl (OwnB.nil _ _) _ _ _ m rfl rfl (HB.out.below H1.out.2.1) (by simp only [List.length_nil]; omega) (Nat.le_refl _) N1.out ?_; intro a2' c2' w2 hown hgrow; simp only [List.length_nil, Nat.zero_add, List.nil_append] at hown ⊢; have H2 := Lib.hid (And.intro hown (And.intro (grown_none hgrow) (And.intro (H1.out.1.below (grown_none hgrow) H1.out.1.lt) (H1.out.2.1.trans ((grown_none hgrow).mono H1.out.2.1.size))))); clear hown hgrow)
    | (go_at_call 15; (with_reducible refine (write_any _ _ _ _ [] m w2 H2.out.2.2.1 (by simp only [List.length_nil]; omega) (fun hp => by obtain ⟨g, e, q1, q2, q3, _⟩ := H2.out.1.cell hp; exact ⟨g, 0, e, (by have := H1.out.2.2; omega), q2, fun j hj => by rw [Nat.zero_add]; exact q3 j hj⟩)).mono ?_); rintro e w3 ⟨rfl, hs, ht⟩; have H3 : Hid (SumAt w.heap.size 0 m w3 ∧ OwnB w1.heap.size w3 (.slice a2' m.length c2') m ∧ Below w.heap.size w w3) := ⟨hs, H2.out.1.touch ht (Nat.le_refl _) (by have := H1.out.2.2; omega), H2.out.2.2.2.trans (ht.below w.heap.size (Nat.le_refl _) H2.out.2.2.2.size)⟩; have hc1 := run_convB H3.out.2.1.bytes.2.2.2 m.length c2' rfl (fun e => (H3.out.2.1.of_none e).2); have hc2 := run_convB (HB.out.below H3.out.2.2) m.length cap rfl (fun e => (N1.out e).2); clear hs ht))
  go_loopw [8] (fun i wr => ∃ k : Nat, k ≤ m.length ∧ i = .int .i64 k ∧ SumAt w.heap.size 0 m wr ∧ Below w.heap.size w wr ∧ ∃ L, L.length = m.length ∧ OwnB w1.heap.size wr (.slice a2' m.length c2') L) (fun i _ => m.length - (intOf i).toNat)
  case atStart => exact ⟨0, by omega, rfl, H3.out.1, H3.out.2.2, m, rfl, H3.out.2.1⟩
  case round =>
    obtain ⟨k, hk, rfl, hs, hbel, L, hL, hown⟩ := hrel
    by_cases hlt : k < m.length
    · obtain ⟨g, rfl, hg, hgl, hcell, hfz, hset⟩ := hown.cell (by omega)
      have hcx := hcell k (by omega)
      obtain ⟨x, hx⟩ : ∃ x, L[k]?.getD 0 = x := ⟨_, rfl⟩
      rw [hx] at hcx
      have hfx := hfz k
      have hadd := add8 x 1
      have h1 : n8 1 = 1 := by decide
      rw [h1] at hadd
      have hs2 := hset k (x + 1) (by omega)
      have hH1 := H1.out.2.2
      have hs3 : SumAt w.heap.size 0 m (wr.setCell ⟨g, k, none⟩ (.int .u8 (n8 (x + 1)))) := hs.touch (Touch.setCell (Touch.refl wr.heap.size g 0 (k + 1) wr) k (by omega) (by omega) _) hs.lt (by omega)
      have HS : Hid (∃ k' : Nat, k' ≤ m.length ∧ Value.int .i64 ((k : Int) + 1) = .int .i64 k' ∧ SumAt w.heap.size 0 m (wr.setCell ⟨g, k, none⟩ (.int .u8 (n8 (x + 1)))) ∧ Below w.heap.size w (wr.setCell ⟨g, k, none⟩ (.int .u8 (n8 (x + 1)))) ∧ ∃ L, L.length = m.length ∧ OwnB w1.heap.size (wr.setCell ⟨g, k, none⟩ (.int .u8 (n8 (x + 1)))) (.slice (some ⟨g, 0, none⟩) m.length c2') L) :=
        ⟨k + 1, by omega, by go_num, hs3, hbel.setCell (p := ⟨g, k, none⟩) (show w.heap.size ≤ g by omega) _, _, by simpa using hL, hs2⟩
      clear hk hs hbel hL hown hcell hfz hset hs2 hs3 hx h1 hH1
      go_wp2
      exact ⟨HS.out, by simp [intOf]; omega⟩
    · have HR := Lib.hid (And.intro hs (And.intro hbel hown))
      clear hs hbel hown hk
      go_wp2_with (first
        | (go_at_call 15; (with_reducible refine (write_at _ _ cap2 _ w.heap.size a2 m m2 wr HR.out.1 (by omega) rfl (HB2.out.at HR.out.2.1) (Nat.le_refl _)).mono ?_); rintro e w4 ⟨rfl, hs, ht⟩; have H4 := Lib.hid (And.intro hs (HR.out.2.1.trans (ht.below w.heap.size (Nat.le_refl _) HR.out.2.1.size))); clear hs ht)
        | (go_at_call 16; (with_reducible refine (sum_any _ _ _ w4 H4.out.1 (by simp only [List.length_append]; omega)).mono ?_); rintro e w5 ⟨rfl, hb5⟩; have H5 := Lib.hid (H4.out.2.trans (hb5.mono H4.out.2.size)); clear hb5)
        | (at_builtin; refine wpList_appendB rfl (.const (.slice none 0 0)) (.tmp 52) rfl w5.heap.size _ [] rfl (OwnB.nil _ _) _ _ _ m rfl rfl (HB.out.below H5.out) (by simp only [List.length_nil]; omega) (Nat.le_refl _) N1.out ?_; intro a6 c6 w6 hown hgrow; have H6 := Lib.hid (And.intro hown (grown_none hgrow)); clear hown hgrow)
        | (at_builtin; refine wpList_appendB rfl (.tmp 53) (.tmp 54) rfl w5.heap.size _ ([] ++ m) (by simp only [List.nil_append, List.length_nil, Nat.zero_add]; rfl) H6.out.1 _ _ _ m2 rfl rfl (HB2.out.below (H5.out.trans (H6.out.2.mono H5.out.size))) (by simp only [List.nil_append]; omega) H6.out.2.size N2.out ?_; intro a7 c7 w7 hown hgrow; have H7 := Lib.hid (And.intro hown (H5.out.trans ((H6.out.2.trans (H6.out.1.grown hgrow H6.out.2.size)).mono H5.out.size))); clear hown hgrow)
        | (go_at_call 13; (with_reducible refine (refof_at _ _ _ ([] ++ m ++ m2) w7 (by simp only [List.length_append, List.length_nil]; omega) (by simp only [List.length_append, List.length_nil]; omega) H7.out.1.bytes.2.2.2).mono ?_); rintro e w8 ⟨rfl, rfl⟩)
        | (go_at_call 11; refine (known_any _).mono ?_; rintro e w9 ⟨rfl, hb9⟩; have H9 := Lib.hid hb9; clear hb9))
      go_ret
      exact ⟨rfl, H7.out.2.trans (H9.out.mono H7.out.2.size)⟩

end Go.Proofs.Ytnnegipmiebkdaa
