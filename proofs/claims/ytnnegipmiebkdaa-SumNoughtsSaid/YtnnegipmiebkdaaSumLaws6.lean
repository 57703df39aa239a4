/-
  The walk of the law SumNoughts. Conditions: what the rows' reading gives of the arguments.
-/
import Derived.Test.YtnnegipmiebkdaaSumLaws
namespace Go.Proofs.Ytnnegipmiebkdaa
open Go Go.RowKit
set_option linter.unusedSimpArgs false
set_option linter.unusedVariables false

theorem fill_set (n k : Nat) (x : UInt8) (h : k < n) : (List.replicate k x ++ List.replicate (n - k) 0).set k x = List.replicate (k + 1) x ++ List.replicate (n - (k + 1)) 0 := by
  rw [List.set_append_right _ _ (by simp)]
  obtain ⟨d, hd⟩ : ∃ d, n - k = d + 1 := ⟨n - k - 1, by omega⟩
  rw [hd, show n - (k + 1) = d by omega, List.replicate_succ (n := d), List.replicate_succ' (n := k)]
  simp

set_option maxHeartbeats 2000000 in
theorem sumNoughts_walk (n : Int) (x : Int) (hn : (Lit.int .i64 n).wf = true) (hx : (Lit.int .u8 x).wf = true) (w : World) :
    Calls Try.prog 7 #[.int .i64 n, .int .u8 x] w fun e w' => e = .returned (.bool true) ∧ Below w.heap.size w w' := by
  have hx8 := n8_of x hx
  obtain ⟨y, hy⟩ : ∃ y, UInt8.ofNat x.toNat = y := ⟨_, rfl⟩
  rw [hy] at hx8
  subst hx8
  clear hy hx hn
  by_cases g1 : n < 0
  · go_enter Try.func7, Try.ntmps7
    go_wp2_with (go_at_call 11; refine (known_any _).mono ?_; rintro e w1 ⟨rfl, hb1⟩)
    go_ret
    exact ⟨rfl, hb1⟩
  by_cases g2 : 4000 < n
  · go_enter Try.func7, Try.ntmps7
    go_wp2_with (go_at_call 11; refine (known_any _).mono ?_; rintro e w1 ⟨rfl, hb1⟩)
    go_ret
    exact ⟨rfl, hb1⟩
  obtain ⟨N, rfl⟩ : ∃ N : Nat, n = N := ⟨n.toNat, by omega⟩
  have hN : N ≤ 4000 := by omega
  clear g1
  go_enter Try.func7, Try.ntmps7
  go_wp2_with (first
    | (at_make; refine wpList_makeB rfl (.tmp 15) (.tmp 15) rfl w.heap.size _ _ _ _ N rfl rfl rfl rfl (by omega) (Nat.le_refl _) ?_; intro w1 hown hgrow; have H1 := Lib.hid (And.intro hown (grown_none hgrow)); clear hown hgrow)
    | (at_make; refine wpList_makeB rfl (.tmp 17) (.tmp 17) rfl w1.heap.size _ _ _ _ N rfl rfl rfl rfl (by omega) (Nat.le_refl _) ?_; intro w2 hown hgrow; have H2 := Lib.hid (And.intro hown (grown_none hgrow)); clear hown hgrow))
  go_loopw [7] (fun i wr => ∃ k : Nat, k ≤ N ∧ i = .int .i64 k ∧ OwnB w1.heap.size wr (.slice (some ⟨w1.heap.size, 0, none⟩) N N) (List.replicate k y ++ List.replicate (N - k) 0) ∧ Below w1.heap.size w1 wr) (fun i _ => N - (intOf i).toNat)
  case atStart => exact ⟨0, by omega, rfl, by simpa using H2.out.1, H2.out.2⟩
  case round =>
    obtain ⟨k, hk, rfl, hown, hbel⟩ := hrel
    have HR := Lib.hid (And.intro hk (And.intro hown hbel))
    by_cases hlt : k < N
    · obtain ⟨g', e1, hg', hgl', hcell, hfz, hset⟩ := hown.cell (by simp; omega)
      obtain rfl : w1.heap.size = g' := by cases e1; rfl
      have hcx := hcell k (by simp; omega)
      have hfx := hfz k
      have hs := hset k y (by simp; omega)
      rw [fill_set N k y hlt] at hs
      have HS := Lib.hid hs
      clear hk hown hbel hcell hfz hset hs e1
      go_wp2
      go_roundw
      case rel => exact ⟨k + 1, by omega, by go_num, HS.out, HR.out.2.2.setCell (p := ⟨w1.heap.size, k, none⟩) (Nat.le_refl _) _⟩
      case measure => simp [intOf]; omega
    · obtain rfl : k = N := by omega
      have HA : Hid (OwnB w1.heap.size wr (.slice (some ⟨w1.heap.size, 0, none⟩) k k) (List.replicate k y) ∧ OwnB w.heap.size wr (.slice (some ⟨w.heap.size, 0, none⟩) k k) (List.replicate k 0) ∧ Below w.heap.size w wr) :=
        ⟨by simpa using hown, H1.out.1.below hbel, H1.out.2.trans (hbel.mono H1.out.2.size)⟩
      clear hk hown hbel
      go_wp2_with (first
        | (go_at_call 12; (with_reducible refine (of_at _ _ _ (List.replicate k 0) wr (by simp) (by simp; omega) HA.out.2.1.bytes.2.2.2).mono ?_); rintro e w3 ⟨rfl, hb3⟩; have H3 := Lib.hid hb3; clear hb3)
        | (go_at_call 13; (with_reducible refine (refof_at _ _ _ (List.replicate k 0) w3 (by simp) (by simp; omega) (HA.out.2.1.below H3.out).bytes.2.2.2).mono ?_); rintro e w4 ⟨rfl, rfl⟩)
        | (go_at_call 12; (with_reducible refine (of_at _ _ _ (List.replicate k y) w3 (by simp) (by simp; omega) (HA.out.1.below H3.out).bytes.2.2.2).mono ?_); rintro e w5 ⟨rfl, hb5⟩; have H5 := Lib.hid hb5; clear hb5)
        | (go_at_call 13; (with_reducible refine (refof_at _ _ _ (List.replicate k y) w5 (by simp) (by simp; omega) ((HA.out.1.below H3.out).below H5.out).bytes.2.2.2).mono ?_); rintro e w6 ⟨rfl, rfl⟩)
        | (go_at_call 11; refine (known_any _).mono ?_; rintro e w7 ⟨rfl, hb7⟩; have H7 := Lib.hid hb7; clear hb7))
      go_ret
      have q1 := HA.out.2.2.trans (H3.out.mono HA.out.2.2.size)
      have q2 := q1.trans (H5.out.mono q1.size)
      exact ⟨rfl, q2.trans (H7.out.mono q2.size)⟩

end Go.Proofs.Ytnnegipmiebkdaa
