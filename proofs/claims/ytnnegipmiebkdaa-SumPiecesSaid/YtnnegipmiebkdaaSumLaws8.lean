/-
  The walk of the law SumPieces. Conditions: what the row's reading gives of the argument.
-/
import Derived.Test.YtnnegipmiebkdaaSumLaws4
import Derived.Test.YtnnegipmiebkdaaSumLaws5
namespace Go.Proofs.Ytnnegipmiebkdaa
open Go Go.RowKit
set_option linter.unusedSimpArgs false
set_option linter.unusedVariables false

/-- What the reading tells of a slice of slices of bytes: its rows. -/
def Rows8 (w : World) (a : Option Addr) (len : Nat) (A : Nat → Option Addr) (L C : Nat → Nat) (Z : Nat → List Int) : Prop :=
  0 < len → ∃ x, a = some x ∧ ∀ r, r < len → w.cell? (x.add r) = some (.slice (A r) (L r) (C r)) ∧ Row8 w (A r) (L r) (C r) (Z r)

/-- The pieces up to i, joined. -/
def cat (M : Nat → List UInt8) : Nat → List UInt8
  | 0 => []
  | i + 1 => cat M i ++ M i
theorem cat_len (M : Nat → List UInt8) (i : Nat) (h : ∀ j, j < i → (M j).length ≤ 4000) : (cat M i).length ≤ 4000 * i := by
  induction i with
  | zero => simp [cat]
  | succ i ih =>
    have h1 := ih (fun j hj => h j (by omega))
    have h2 := h i (by omega)
    simp only [cat, List.length_append]; omega

set_option maxHeartbeats 4000000 in
theorem sumPieces_walk (a : Option Addr) (len cap : Nat) (A : Nat → Option Addr) (L C : Nat → Nat) (Z : Nat → List Int) (w : World) (h : Rows8 w a len A L C Z) (hlm : len ≤ 9223372036854775807) :
    Calls Try.prog 8 #[.slice a len cap] w fun e w' => e = .returned (.bool true) ∧ Below w.heap.size w w' := by
  by_cases g1 : 40 < len
  · clear h
    go_enter Try.func8, Try.ntmps8
    go_wp2_with (go_at_call 11; refine (known_any _).mono ?_; rintro e w1 ⟨rfl, hb1⟩)
    go_ret
    exact ⟨rfl, hb1⟩
  obtain ⟨M, hM⟩ : ∃ M : Nat → List UInt8, ∀ r, M r = bytesOf (Z r) (L r) := ⟨fun r => bytesOf (Z r) (L r), fun _ => rfl⟩
  have HR : Hid (∀ r, r < len → ∃ c p, a = some ⟨c, p, none⟩ ∧ c < w.heap.size ∧ w.cell? ⟨c, p + r, none⟩ = some (.slice (A r) (M r).length (C r)) ∧ Bytes w (A r) (M r) ∧ (A r = none → C r = 0 ∧ M r = [])) := fun r hr => by
    obtain ⟨x, rfl, hx⟩ := h (by omega)
    obtain ⟨b, off, spot⟩ := x
    have h0 := (hx 0 (by omega)).1
    have hspot : spot = none := by simpa [Addr.add] using World.cell?_spot h0
    subst hspot
    obtain ⟨q1, q2⟩ := hx r hr
    rw [Addr.add_lit] at q1
    obtain ⟨r1, r2, r3, r4⟩ := row8_bytes q2
    exact ⟨b, off, rfl, World.block_lt_of_cell? w ⟨b, off + r, none⟩ q1, by rw [q1, hM, r1], by rw [hM]; exact r4, fun e => by rw [hM]; exact row8_nil q2 e⟩
  clear h hM
  go_enter Try.func8, Try.ntmps8
  go_wp2_with (first
    | (go_at_call 14; (with_reducible refine (new_any w).mono ?_); rintro e w1 ⟨rfl, hs, hb, hz⟩; have H1 := Lib.hid (And.intro hs (And.intro hb hz)); clear hs hb hz)
    | (go_at_call 14; (with_reducible refine (new_any w1).mono ?_); rintro e w2 ⟨rfl, hs, hb, hz⟩; have H2 : Hid (SumAt w1.heap.size 0 [] w2 ∧ SumAt w.heap.size 0 [] w2 ∧ Below w.heap.size w w2 ∧ w2.heap.size = w1.heap.size + 1 ∧ w1.heap.size = w.heap.size + 1) := ⟨hs, H1.out.1.below hb H1.out.1.lt, H1.out.2.1.trans (hb.mono H1.out.2.1.size), hz, H1.out.2.2⟩; clear hs hb hz))
  go_loopw [5, 6] (fun v i wr => ∃ k : Nat, k ≤ len ∧ i = .int .i64 k ∧ (∀ j, j < k → (M j).length ≤ 4000) ∧ SumAt w.heap.size 0 (cat M k) wr ∧ SumAt w1.heap.size 0 (cat M k) wr ∧ Below w.heap.size w wr ∧ w2.heap.size ≤ wr.heap.size ∧ ∃ a' c', v = .slice a' (cat M k).length c' ∧ OwnB w2.heap.size wr (.slice a' (cat M k).length c') (cat M k)) (fun _ i _ => len - (intOf i).toNat)
  case atStart => exact ⟨0, by omega, rfl, fun j hj => by omega, H2.out.2.1, H2.out.1, H2.out.2.2.1, Nat.le_refl _, none, 0, rfl, OwnB.nil _ _⟩
  case round =>
    obtain ⟨k, hk, rfl, hle, hs1, hs2, hbel, hsz, a', c', rfl, hown⟩ := hrel
    have hcl := cat_len M k hle
    obtain ⟨X, hX⟩ : ∃ X, cat M k = X := ⟨_, rfl⟩
    rw [hX] at hs1 hs2 hown hcl ⊢
    have HK := Lib.hid (And.intro hX (And.intro hle (And.intro hs1 (And.intro hs2 (And.intro hbel (And.intro hsz hown))))))
    have HL := Lib.hid hcl
    clear hX hle hs1 hs2 hbel hsz hown hcl
    by_cases hlt : k < len
    · obtain ⟨c, p, rfl, hc, hcell, hby, hnil⟩ := HR.out k hlt
      have hcx := (HK.out.2.2.2.2.1.cell (p := ⟨c, p + k, none⟩) hc).trans hcell
      obtain ⟨Y, hY⟩ : ∃ Y, M k = Y := ⟨_, rfl⟩
      obtain ⟨ar, har⟩ : ∃ ar, A k = ar := ⟨_, rfl⟩
      obtain ⟨cr, hcr⟩ : ∃ cr, C k = cr := ⟨_, rfl⟩
      rw [hY, har, hcr] at hcx
      rw [hY, har] at hby
      rw [hY, har, hcr] at hnil
      have HY := Lib.hid (And.intro hY (And.intro hby hnil))
      have HC := Lib.hid hc
      clear hc hcell hby hnil hY har hcr
      by_cases g4 : 4000 < Y.length
      · go_wp2_with (go_at_call 11; refine (known_any _).mono ?_; rintro e w3 ⟨rfl, hb3⟩; have H3 := Lib.hid hb3; clear hb3)
        go_ret
        exact ⟨rfl, HK.out.2.2.2.2.1.trans (H3.out.mono HK.out.2.2.2.2.1.size)⟩
      · have hXl : X.length ≤ 160000 := by have := HL.out; omega
        have f1 := wrap64_32
        go_wp2_with (first
          | (at_builtin; refine wpList_appendB rfl (.tmp 33) (.tmp 37) rfl w2.heap.size _ X rfl HK.out.2.2.2.2.2.2 _ _ _ Y rfl rfl (HY.out.2.1.below HK.out.2.2.2.2.1) (by omega) HK.out.2.2.2.2.2.1 HY.out.2.2 ?_; intro a3 c3 w3 hown hgrow; have hb3 := HK.out.2.2.2.2.2.2.grown hgrow HK.out.2.2.2.2.2.1; have H3 : Hid (OwnB w2.heap.size w3 (.slice a3 (X.length + Y.length) c3) (X ++ Y) ∧ SumAt w.heap.size 0 X w3 ∧ SumAt w1.heap.size 0 X w3 ∧ Below w.heap.size w w3 ∧ w2.heap.size ≤ w3.heap.size) := ⟨hown, HK.out.2.2.1.below hb3 (by have := H2.out.2.2.2; omega), HK.out.2.2.2.1.below hb3 (by have := H2.out.2.2.2; omega), HK.out.2.2.2.2.1.trans (hb3.mono H2.out.2.2.1.size), Nat.le_trans HK.out.2.2.2.2.2.1 hb3.size⟩; clear hown hgrow hb3; have hcx3 := (H3.out.2.2.2.1.cell (p := ⟨c, p + k, none⟩) HC.out).trans ((HK.out.2.2.2.2.1.cell (p := ⟨c, p + k, none⟩) HC.out).symm.trans hcx))
          | (go_at_call 15; (with_reducible refine (write_at _ _ cr _ w.heap.size ar X Y w3 H3.out.2.1 (by omega) rfl (HY.out.2.1.at H3.out.2.2.2.1) (Nat.le_refl _)).mono ?_); rintro e w4 ⟨rfl, hs, ht⟩; have hb4 := ht.below w.heap.size (Nat.le_refl _) H3.out.2.2.2.1.size; have H4 : Hid (OwnB w2.heap.size w4 (.slice a3 (X.length + Y.length) c3) (X ++ Y) ∧ SumAt w.heap.size 0 (X ++ Y) w4 ∧ SumAt w1.heap.size 0 X w4 ∧ Below w.heap.size w w4 ∧ w2.heap.size ≤ w4.heap.size) := ⟨H3.out.1.touch ht (Nat.le_refl _) (by have := H2.out.2.2.2; omega), hs, H3.out.2.2.1.touch ht H3.out.2.2.1.lt (by have := H2.out.2.2.2; omega), H3.out.2.2.2.1.trans hb4, Nat.le_trans H3.out.2.2.2.2 ht.size⟩; have hcx4 := (hb4.cell (p := ⟨c, p + k, none⟩) HC.out).trans hcx3; clear hs ht hb4)
          | (go_at_call 15; (with_reducible refine (write_at _ _ cr _ w.heap.size ar X Y w4 H4.out.2.2.1 (by omega) rfl (HY.out.2.1.at H4.out.2.2.2.1) H1.out.2.1.size).mono ?_); rintro e w5 ⟨rfl, hs, ht⟩; have hb5 := ht.below w.heap.size H1.out.2.1.size H4.out.2.2.2.1.size; have H5 : Hid (OwnB w2.heap.size w5 (.slice a3 (X.length + Y.length) c3) (X ++ Y) ∧ SumAt w.heap.size 0 (X ++ Y) w5 ∧ SumAt w1.heap.size 0 (X ++ Y) w5 ∧ Below w.heap.size w w5 ∧ w2.heap.size ≤ w5.heap.size) := ⟨H4.out.1.touch ht (Nat.le_refl _) (by have := H2.out.2.2.2; omega), H4.out.2.1.touch ht H4.out.2.1.lt (by have := H2.out.2.2.2; omega), hs, H4.out.2.2.2.1.trans hb5, Nat.le_trans H4.out.2.2.2.2 ht.size⟩; clear hs ht hb5)
          | (go_at_call 13; (with_reducible refine (refof_at _ _ _ (X ++ Y) w5 (by simp only [List.length_append]) (by simp only [List.length_append]; omega) H5.out.1.bytes.2.2.2).mono ?_); rintro e w6 ⟨rfl, rfl⟩)
          | (go_at_call 16; (with_reducible refine (sum_any _ _ _ w5 H5.out.2.1 (by simp only [List.length_append]; omega)).mono ?_); rintro e w6 ⟨rfl, hb6⟩; have H6 := Lib.hid hb6; clear hb6)
          | (go_at_call 17; (with_reducible refine (low_any _ _ _ w6 (H5.out.2.1.below H6.out H5.out.2.1.lt) (by simp only [List.length_append]; omega)).mono ?_); rintro e w7 ⟨rfl, hb7⟩; have H7 := Lib.hid (H6.out.trans (hb7.mono H6.out.size)); clear hb7)
          | (go_at_call 18; (with_reducible refine (len_any _ _ _ w7 (H5.out.2.1.below H7.out H5.out.2.1.lt)).mono ?_); rintro e w8 ⟨rfl, rfl⟩))
        go_roundw
        case rel =>
          have hcat : cat M (k + 1) = X ++ Y := by rw [cat, HK.out.1, HY.out.1]
          refine ⟨k + 1, by omega, by go_num, fun j hj => ?_, by rw [hcat]; exact H5.out.2.1.below H7.out H5.out.2.1.lt, by rw [hcat]; exact H5.out.2.2.1.below H7.out H5.out.2.2.1.lt, H5.out.2.2.2.1.trans (H7.out.mono H5.out.2.2.2.1.size), Nat.le_trans H5.out.2.2.2.2 H7.out.size, a3, c3, by rw [hcat, List.length_append], by rw [hcat, List.length_append]; exact H5.out.1.below H7.out⟩
          by_cases e : j = k
          · subst e; rw [HY.out.1]; omega
          · exact HK.out.2.1 j (by omega)
        case measure => simp [intOf]; omega
    · obtain rfl : k = len := by omega
      have hXl : X.length ≤ 160000 := by have := HL.out; omega
      go_wp2_with (first
        | (go_at_call 16; (with_reducible refine (sum_any _ _ _ wr HK.out.2.2.2.1 (by omega)).mono ?_); rintro e w3 ⟨rfl, hb3⟩; have H3 := Lib.hid hb3; clear hb3)
        | (go_at_call 12; (with_reducible refine (of_at _ _ _ X w3 rfl (by omega) (HK.out.2.2.2.2.2.2.below H3.out).bytes.2.2.2).mono ?_); rintro e w4 ⟨rfl, hb4⟩; have H4 := Lib.hid hb4; clear hb4)
        | (go_at_call 11; refine (known_any _).mono ?_; rintro e w5 ⟨rfl, hb5⟩; have H5 := Lib.hid hb5; clear hb5))
      go_ret
      have q1 := HK.out.2.2.2.2.1.trans (H3.out.mono HK.out.2.2.2.2.1.size)
      have q2 := q1.trans (H4.out.mono q1.size)
      exact ⟨rfl, q2.trans (H5.out.mono q2.size)⟩

end Go.Proofs.Ytnnegipmiebkdaa
