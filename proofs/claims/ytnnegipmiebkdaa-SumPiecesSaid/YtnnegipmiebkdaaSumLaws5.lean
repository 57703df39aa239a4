/-
  The walk of the law SumApart. Conditions: what the rows' reading gives of the arguments.
-/
import Derived.Test.YtnnegipmiebkdaaSumLaws
namespace Go.Proofs.Ytnnegipmiebkdaa
open Go Go.RowKit
set_option linter.unusedSimpArgs false
set_option linter.unusedVariables false

theorem row8_nil {w : World} {a : Option Addr} {len cap : Nat} {zs : List Int} (h : Row8 w a len cap zs) : a = none → cap = 0 ∧ bytesOf zs len = [] := by
  rcases h with ⟨rfl, rfl, rfl, rfl⟩ | ⟨x, rfl, _⟩
  · intro _; exact ⟨rfl, rfl⟩
  · intro e; cases e

/-- Bytes below B, to be handed to Write. -/
theorem Bytes.at {W W' : World} {a : Option Addr} {m : List UInt8} (h : Bytes W a m) (hb : Below W.heap.size W W') :
    0 < m.length → ∃ c p, a = some ⟨c, p, none⟩ ∧ c < W.heap.size ∧ ∀ j, j < m.length → W'.cell? ⟨c, p + j, none⟩ = some (.int .u8 (n8 (m[j]?.getD 0))) := fun hp => by
  obtain ⟨c, p, q1, q2, q3⟩ := h hp
  exact ⟨c, p, q1, q2, fun j hj => (hb.cell (p := ⟨c, p + j, none⟩) q2).trans (q3 j hj)⟩

set_option maxHeartbeats 4000000 in
theorem sumApart_walk (a : Option Addr) (len cap : Nat) (zs : List Int) (a2 : Option Addr) (len2 cap2 : Nat) (zs2 : List Int) (a3 : Option Addr) (len3 cap3 : Nat) (zs3 : List Int) (w : World)
    (h : Row8 w a len cap zs) (h2 : Row8 w a2 len2 cap2 zs2) (h3 : Row8 w a3 len3 cap3 zs3) :
    Calls Try.prog 9 #[.slice a len cap, .slice a2 len2 cap2, .slice a3 len3 cap3] w fun e w' => e = .returned (.bool true) ∧ Below w.heap.size w w' := by
  obtain ⟨hl, _, _, hb⟩ := row8_bytes h
  obtain ⟨hl2, _, _, hb2⟩ := row8_bytes h2
  obtain ⟨hl3, _, _, hb3⟩ := row8_bytes h3
  have N1 := Lib.hid (row8_nil h)
  have N2 := Lib.hid (row8_nil h2)
  have N3 := Lib.hid (row8_nil h3)
  obtain ⟨m, hm⟩ : ∃ m, bytesOf zs len = m := ⟨_, rfl⟩
  obtain ⟨m2, hm2⟩ : ∃ m, bytesOf zs2 len2 = m := ⟨_, rfl⟩
  obtain ⟨m3, hm3⟩ : ∃ m, bytesOf zs3 len3 = m := ⟨_, rfl⟩
  rw [hm] at hl hb N1
  rw [hm2] at hl2 hb2 N2
  rw [hm3] at hl3 hb3 N3
  clear h hm h2 hm2 h3 hm3
  subst hl hl2 hl3
  have HB := Lib.hid hb
  have HB2 := Lib.hid hb2
  have HB3 := Lib.hid hb3
  clear hb hb2 hb3
  by_cases g1 : 4000 < m.length
  · have ht : decide ((4000 : Int) < (m.length : Int)) = true := dec_t (by omega)
    go_enter Try.func9, Try.ntmps9
    go_wp2_with (go_at_call 11; refine (known_any _).mono ?_; rintro e w1 ⟨rfl, hb1⟩)
    go_ret
    exact ⟨rfl, hb1⟩
  by_cases g2 : 4000 < m2.length
  · go_enter Try.func9, Try.ntmps9
    go_wp2_with (go_at_call 11; refine (known_any _).mono ?_; rintro e w1 ⟨rfl, hb1⟩)
    go_ret
    exact ⟨rfl, hb1⟩
  by_cases g3 : 4000 < m3.length
  · go_enter Try.func9, Try.ntmps9
    go_wp2_with (go_at_call 11; refine (known_any _).mono ?_; rintro e w1 ⟨rfl, hb1⟩)
    go_ret
    exact ⟨rfl, hb1⟩
  go_enter Try.func9, Try.ntmps9
  go_wp2_with (first
    | (go_at_call 14; (with_reducible refine (new_any _).mono ?_); rintro e w1 ⟨rfl, hs, hb, hz⟩; have H1 := Lib.hid (And.intro hs (And.intro hb hz)); clear hs hb hz)
    | (go_at_call 15; (with_reducible refine (write_at _ _ cap _ w.heap.size a [] m w1 H1.out.1 (by have := g1; simp only [List.length_nil]; omega) rfl (HB.out.at H1.out.2.1) (Nat.le_refl _)).mono ?_); rintro e w2 ⟨rfl, hs, ht⟩; have H2 := Lib.hid (And.intro hs (And.intro (H1.out.2.1.trans (ht.below w.heap.size (Nat.le_refl _) H1.out.2.1.size)) ht.size)); clear hs ht)
    | (go_at_call 19; (with_reducible refine (copy_any _ _ _ _ H2.out.1).mono ?_); rintro e w3 ⟨rfl, hs, hb, hz⟩; have H3 := Lib.hid (And.intro hs (And.intro (H2.out.1.below hb H2.out.1.lt) (And.intro (H2.out.2.1.trans (hb.mono H2.out.2.1.size)) hz))); clear hs hb hz)
    | (go_at_call 15; (with_reducible refine (write_at _ _ cap2 _ w.heap.size a2 ([] ++ m) m2 w3 H3.out.2.1 (by simp only [List.length_nil, List.nil_append]; omega) rfl (HB2.out.at H3.out.2.2.1) (Nat.le_refl _)).mono ?_); rintro e w4 ⟨rfl, hs, ht⟩; have H4 := Lib.hid (And.intro hs (And.intro (H3.out.1.touch ht H3.out.1.lt (by have := H2.out.1.lt; omega)) (And.intro (H3.out.2.2.1.trans (ht.below w.heap.size (Nat.le_refl _) H3.out.2.2.1.size)) ht.size))); clear hs ht)
    | (go_at_call 15; (with_reducible refine (write_at _ _ cap3 _ w.heap.size a3 ([] ++ m) m3 w4 H4.out.2.1 (by simp only [List.length_nil, List.nil_append]; omega) rfl (HB3.out.at H4.out.2.2.1) H2.out.2.1.size).mono ?_); rintro e w5 ⟨rfl, hs, ht⟩; have H5 := Lib.hid (And.intro hs (And.intro (H4.out.1.touch ht H4.out.1.lt (by have := H2.out.1.lt; omega)) (And.intro (H4.out.2.2.1.trans (ht.below w.heap.size H2.out.2.1.size H4.out.2.2.1.size)) ht.size))); clear hs ht)
    | (at_builtin; refine wpList_appendB rfl (.const (.slice none 0 0)) (.tmp 41) rfl w5.heap.size _ [] rfl (OwnB.nil _ _) _ _ _ m rfl rfl (HB.out.below H5.out.2.2.1) (by simp only [List.length_nil]; omega) (Nat.le_refl _) N1.out ?_; intro a6 c6 w6 hown hgrow; have H6 := Lib.hid (And.intro hown (grown_none hgrow)); clear hown hgrow)
    | (at_builtin; refine wpList_appendB rfl (.tmp 42) (.tmp 43) rfl w5.heap.size _ ([] ++ m) (by simp only [List.nil_append, List.length_nil, Nat.zero_add]; rfl) H6.out.1 _ _ _ m2 rfl rfl (HB2.out.below (H5.out.2.2.1.trans (H6.out.2.mono H5.out.2.2.1.size))) (by simp only [List.nil_append]; omega) H6.out.2.size N2.out ?_; intro a7 c7 w7 hown hgrow; have H7 := Lib.hid (And.intro hown (And.intro (H6.out.2.trans (H6.out.1.grown hgrow H6.out.2.size)) (H5.out.2.2.1.trans ((H6.out.2.trans (H6.out.1.grown hgrow H6.out.2.size)).mono H5.out.2.2.1.size)))); clear hown hgrow)
    | (at_builtin; refine wpList_appendB rfl (.const (.slice none 0 0)) (.tmp 45) rfl w7.heap.size _ [] rfl (OwnB.nil _ _) _ _ _ m rfl rfl (HB.out.below H7.out.2.2) (by simp only [List.length_nil]; omega) (Nat.le_refl _) N1.out ?_; intro a8 c8 w8 hown hgrow; have H8 := Lib.hid (And.intro hown (grown_none hgrow)); clear hown hgrow)
    | (at_builtin; refine wpList_appendB rfl (.tmp 46) (.tmp 47) rfl w7.heap.size _ ([] ++ m) (by simp only [List.nil_append, List.length_nil, Nat.zero_add]; rfl) H8.out.1 _ _ _ m3 rfl rfl (HB3.out.below (H7.out.2.2.trans (H8.out.2.mono H7.out.2.2.size))) (by simp only [List.nil_append]; omega) H8.out.2.size N3.out ?_; intro a9 c9 w9 hown hgrow; have H9 := Lib.hid (And.intro hown (H8.out.2.trans (H8.out.1.grown hgrow H8.out.2.size))); clear hown hgrow; have HW : Hid (Below w.heap.size w w9 ∧ SumAt w.heap.size 0 ([] ++ m ++ m2) w9 ∧ SumAt w2.heap.size 0 ([] ++ m ++ m3) w9 ∧ OwnB w5.heap.size w9 (.slice a7 (([] ++ m).length + m2.length) c7) ([] ++ m ++ m2)) := ⟨H7.out.2.2.trans (H9.out.2.mono H7.out.2.2.size), (H5.out.2.1.below H7.out.2.1 H5.out.2.1.lt).below H9.out.2 (H5.out.2.1.below H7.out.2.1 H5.out.2.1.lt).lt, (H5.out.1.below H7.out.2.1 H5.out.1.lt).below H9.out.2 (H5.out.1.below H7.out.2.1 H5.out.1.lt).lt, H7.out.1.below H9.out.2⟩)
    | (go_at_call 16; (with_reducible refine (sum_any _ _ _ w9 HW.out.2.1 (by simp only [List.length_append, List.length_nil]; omega)).mono ?_); rintro e w10 ⟨rfl, hb10⟩; have H10 := Lib.hid hb10; clear hb10)
    | (go_at_call 13; (with_reducible refine (refof_at _ _ _ ([] ++ m ++ m2) w10 (by simp only [List.length_append, List.length_nil]; omega) (by simp only [List.length_append, List.length_nil]; omega) (HW.out.2.2.2.bytes.2.2.2.below H10.out)).mono ?_); rintro e w11 ⟨rfl, rfl⟩)
    | (go_at_call 16; (with_reducible refine (sum_any _ _ _ w10 (HW.out.2.2.1.below H10.out HW.out.2.2.1.lt) (by simp only [List.length_append, List.length_nil]; omega)).mono ?_); rintro e w12 ⟨rfl, hb12⟩; have H12 := Lib.hid hb12; clear hb12)
    | (go_at_call 13; (with_reducible refine (refof_at _ _ _ ([] ++ m ++ m3) w12 (by simp only [List.length_append, List.length_nil]; omega) (by simp only [List.length_append, List.length_nil]; omega) ((H9.out.1.below H10.out).below H12.out).bytes.2.2.2).mono ?_); rintro e w13 ⟨rfl, rfl⟩)
    | (go_at_call 18; (with_reducible refine (len_any _ _ _ w12 ((HW.out.2.1.below H10.out HW.out.2.1.lt).below H12.out (HW.out.2.1.below H10.out HW.out.2.1.lt).lt)).mono ?_); rintro e w14 ⟨rfl, rfl⟩)
    | (go_at_call 18; (with_reducible refine (len_any _ _ _ w12 ((HW.out.2.2.1.below H10.out HW.out.2.2.1.lt).below H12.out (HW.out.2.2.1.below H10.out HW.out.2.2.1.lt).lt)).mono ?_); rintro e w14 ⟨rfl, rfl⟩)
    | (go_at_call 11; refine (known_any _).mono ?_; rintro e w15 ⟨rfl, hb15⟩; have H15 := Lib.hid hb15; clear hb15))
  go_ret
  have q1 := HW.out.1.trans (H10.out.mono HW.out.1.size)
  have q2 := q1.trans (H12.out.mono q1.size)
  exact ⟨rfl, q2.trans (H15.out.mono q2.size)⟩

end Go.Proofs.Ytnnegipmiebkdaa
