/-
  The walks of the laws SumNil and SumApart. Conditions: what the rows' reading gives of the arguments.
-/
import Derived.Test.YtnnegipmiebkdaaSumLaws
namespace Go.Proofs.Ytnnegipmiebkdaa
open Go Go.RowKit
set_option linter.unusedSimpArgs false
set_option linter.unusedVariables false

theorem low_nil (w : World) : Calls Try.prog 17 #[.pointer none] w fun e w' => e = .returned (.int .u32 0) ∧ w = w' := by
  go_enter Try.func17, Try.ntmps17
  go_wp2_with (go_at_call 16; refine (sum_nil _).mono ?_; rintro e w' ⟨rfl, rfl⟩)
  go_ret
  exact ⟨rfl, rfl⟩

theorem low_any (b o : Nat) (l : List UInt8) (w : World) (hs : SumAt b o l w) (hlen : l.length ≤ 9223372036854775807) :
    Calls Try.prog 17 #[.pointer (some ⟨b, o, none⟩)] w fun e w' => e = .returned (.int .u32 (n32 (hsum l).toUInt32)) ∧ Below w.heap.size w w' := by
  have f := wrap64_32
  have HS := Lib.hid hs
  clear hs
  go_enter Try.func17, Try.ntmps17
  go_wp2_with (go_at_call 16; refine (sum_any _ _ _ _ HS.out hlen).mono ?_; rintro e w' ⟨rfl, hb⟩; have HB := Lib.hid hb; clear hb)
  go_ret
  exact ⟨rfl, HB.out⟩

/-- A zero Sum laid by the call. -/
theorem sumAt_zero (w : World) (T : Nat) : SumAt w.heap.size 0 [] (w.alloc (.cells #[.int .u64 0, .int .i64 0, .int .u8 0, .int .u8 0, .int .u8 0, .int .u8 0, .int .u8 0, .int .u8 0, .int .u8 0, .int .u8 0] T)) := by
  have h := sumAt_new w [] 0 0 0 0 0 0 0 0 rfl T
  have e : n64 (hfull [] ^^^ K3) = 0 := by decide
  have e2 : n8 0 = 0 := by decide
  rw [e, e2] at h
  exact h

theorem zero_write (cap : Nat) (a : Option Addr) (m : List UInt8) (w : World) (hlen : m.length ≤ 4000) (hb : Bytes w a m) :
    Calls Try.prog 15 #[.pointer (some ⟨w.heap.size, 0, none⟩), .slice a m.length cap] (w.alloc (.cells #[.int .u64 0, .int .i64 0, .int .u8 0, .int .u8 0, .int .u8 0, .int .u8 0, .int .u8 0, .int .u8 0, .int .u8 0, .int .u8 0] 44))
      fun e w' => e = .returned (.tuple #[]) ∧ SumAt w.heap.size 0 m w' ∧ Below w.heap.size w w' := by
  have hA : Below w.heap.size w (w.alloc (.cells #[.int .u64 0, .int .i64 0, .int .u8 0, .int .u8 0, .int .u8 0, .int .u8 0, .int .u8 0, .int .u8 0, .int .u8 0, .int .u8 0] 44)) := (Below.refl _ _).alloc (Nat.le_refl _) _
  refine (write_at w.heap.size 0 cap m.length w.heap.size a [] m _ (sumAt_zero w _) (by simp; omega) rfl (fun hp => ?_) (Nat.le_refl _)).mono ?_
  · obtain ⟨c, p, q1, q2, q3⟩ := hb hp
    exact ⟨c, p, q1, q2, fun j hj => (hA.cell (p := ⟨c, p + j, none⟩) q2).trans (q3 j hj)⟩
  · rintro e w' ⟨rfl, h1, h2⟩
    exact ⟨rfl, h1, hA.trans (h2.below w.heap.size (Nat.le_refl _) (by simp))⟩

set_option maxHeartbeats 2000000 in
theorem sumNil_walk (a : Option Addr) (len cap : Nat) (zs : List Int) (w : World) (h : Row8 w a len cap zs) :
    Calls Try.prog 10 #[.slice a len cap] w fun e w' => e = .returned (.bool true) ∧ Below w.heap.size w w' := by
  obtain ⟨hl, hlc, hcm, hb⟩ := row8_bytes h
  obtain ⟨m, hm⟩ : ∃ m, bytesOf zs len = m := ⟨_, rfl⟩
  rw [hm] at hl hb
  clear h hm
  subst hl
  have HB := Lib.hid hb
  clear hb hlc hcm
  by_cases hbig : 4000 < m.length
  · have ht : decide ((4000 : Int) < (m.length : Int)) = true := dec_t (by omega)
    clear hbig
    go_enter Try.func10, Try.ntmps10
    go_wp2_with (go_at_call 11; refine (known_any _).mono ?_; rintro e w1 ⟨rfl, hb1⟩)
    go_ret
    exact ⟨rfl, hb1⟩
  · have ht : decide ((4000 : Int) < (m.length : Int)) = false := dec_f (by omega)
    go_enter Try.func10, Try.ntmps10
    go_wp2_with (first
      | (go_at_call 15; (with_reducible refine (write_nil _ _).mono ?_); rintro e w1 ⟨rfl, rfl⟩)
      | (go_at_call 15; (with_reducible refine (zero_write cap a m w (by omega) HB.out).mono ?_); rintro e w2 ⟨rfl, hs2, hb2⟩; have H2 := Lib.hid (And.intro hs2 hb2); clear hs2 hb2)
      | (go_at_call 16; (with_reducible refine (sum_nil _).mono ?_); rintro e w3 ⟨rfl, rfl⟩)
      | (go_at_call 17; (with_reducible refine (low_nil _).mono ?_); rintro e w3 ⟨rfl, rfl⟩)
      | (go_at_call 18; (with_reducible refine (len_nil _).mono ?_); rintro e w3 ⟨rfl, rfl⟩)
      | (go_at_call 19; (with_reducible refine (copy_nil _).mono ?_); rintro e w3 ⟨rfl, rfl⟩)
      | (go_at_call 16; (with_reducible refine (sum_any _ _ _ _ H2.out.1 (by omega)).mono ?_); rintro e w4 ⟨rfl, hb4⟩; have H4 := Lib.hid hb4; clear hb4)
      | (go_at_call 13; (with_reducible refine (refof_any cap a m _ (by omega) (HB.out.below (H2.out.2.trans (H4.out.mono H2.out.2.size)))).mono ?_); rintro e w5 ⟨rfl, rfl⟩)
      | (go_at_call 18; (with_reducible refine (len_any _ _ _ _ (H2.out.1.below H4.out H2.out.1.lt)).mono ?_); rintro e w6 ⟨rfl, rfl⟩)
      | (go_at_call 11; refine (known_any _).mono ?_; rintro e w7 ⟨rfl, hb7⟩; have H7 := Lib.hid hb7; clear hb7))
    go_ret
    have q1 := H2.out.2.trans (H4.out.mono H2.out.2.size)
    exact ⟨rfl, q1.trans (H7.out.mono q1.size)⟩

end Go.Proofs.Ytnnegipmiebkdaa
