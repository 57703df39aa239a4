/-
  What the functions of layer 4 do, each walked once: take, number, Sum, Low, Len, Copy, New. Conditions: those that each theorem lists (the cells of the receiver, the length of a group).
-/
import Derived.Test.YtiemogegdoogaaaGreatProg
import Derived.Test.YtiemogegdoogaaaGreatSumSpec
import Derived.WalkKit
import Derived.BigQuiet
import Derived.WalkSmall
import Derived.Deep.QuietTactic
namespace Go.Proofs.YtiemogegdoogaaaGreat
open Go Go.RowKit
set_option linter.unusedSimpArgs false
set_option linter.unusedVariables false

theorem ret_u64 {a b : Int} (h : a = b) : Ending.returned (.int .u64 a) = .returned (.int .u64 b) := by rw [h]

theorem rot_any (x : UInt64) (w : World) :
    Calls Tryz.prog 154 #[.int .u64 (n64 x), .int .i64 31] w fun e w' => e = .returned (.int .u64 (n64 (rotl31 x))) ∧ w = w' := by
  have e1 : bits BinOp.and IntKind.u64 31 63 = 31 := by decide
  have h0 := n64_lo x
  have h1 := n64_hi x
  go_enter Tryz.func154, Tryz.ntmps154
  go_wp2
  go_ret
  exact ⟨ret_u64 (rotl31_form x), rfl⟩

theorem xorK3 (x : UInt64) : bits .xor .u64 (n64 x) 18397679294719823053 = n64 (x ^^^ K3) := xor64 x K3
theorem mulK1 (x : UInt64) : IntKind.u64.wrap (n64 x * 11400714819323198485) = n64 (x * K1) := mul64 x K1
theorem mulK2 (x : UInt64) : IntKind.u64.wrap (n64 x * 15485907386658061715) = n64 (x * K2) := mul64 x K2

/-- (*Sum).take: one cell is turned. -/
theorem take_any (b o : Nat) (h x : UInt64) (w : World) (h0 : w.cell? ⟨b, o, none⟩ = some (.int .u64 (n64 (h ^^^ K3)))) (hf : w.frozen? ⟨b, o, none⟩ = false) :
    Calls Tryz.prog 122 #[.pointer (some ⟨b, o, none⟩), .int .u64 (n64 x)] w fun e w' => e = .returned (.tuple #[]) ∧ w.setCell ⟨b, o, none⟩ (.int .u64 (n64 (sstep h x ^^^ K3))) = w' := by
  have f1 := xorK3
  have f2 := mulK1
  have f3 := mulK2
  have f4 := xor64
  have f5 : (h ^^^ K3) ^^^ K3 = h := by rw [UInt64.xor_assoc]; simp
  go_enter Tryz.func122, Tryz.ntmps122
  go_wp2_with (go_at_call 154; refine (rot_any _ _).mono ?_; rintro e w' ⟨rfl, rfl⟩)
  go_end0
  exact ⟨rfl, rfl⟩

theorem number_form (q : List UInt8) (k : Nat) (hk : k < q.length) (h8 : q.length ≤ 8) :
    bits BinOp.or IntKind.u64 (n64 (word (q.take k))) (IntKind.u64.wrap (IntKind.u64.wrap (n8 (q[k]?.getD 0)) * 2 ^ (8 * k))) = n64 (word (q.take (k + 1))) := by
  have e : q[k]?.getD 0 = q[k] := by simp [hk]
  have hx := (q[k]).toNat_lt
  have e2 : IntKind.u64.wrap (IntKind.u64.wrap (n8 q[k]) * 2 ^ (8 * k)) = n64 (UInt64.ofNat (q[k].toNat * 2 ^ (8 * (q.take k).length))) := by
    rw [← wrapNat64]
    congr 1
    rw [IntWalk.u64_in _ ⟨n8_lo _, by have := n8_hi q[k]; omega⟩, List.length_take, Nat.min_eq_left (by omega)]
    unfold n8
    push_cast
    rfl
  rw [e, e2, or64, word_or _ _ (by simp; omega), List.take_succ_eq_append_getElem hk]

/-- number: the little-endian number of at most eight bytes. -/
theorem number_any (b o len cap : Nat) (q : List UInt8) (w : World) (hl : q.length = len) (hle : len ≤ 8) (hc : ∀ j, j < len → w.cell? ⟨b, o + j, none⟩ = some (.int .u8 (n8 (q[j]?.getD 0)))) :
    Calls Tryz.prog 123 #[.slice (some ⟨b, o, none⟩) len cap] w fun e w' => e = .returned (.int .u64 (n64 (word q))) ∧ w = w' := by
  go_enter Tryz.func123, Tryz.ntmps123
  go_wp2
  go_loop [3, 8] (fun v i => ∃ k : Nat, k ≤ len ∧ i = .int .i64 k ∧ v = .int .u64 (n64 (word (q.take k)))) (fun _ i => len - (intOf i).toNat)
  case atStart => exact ⟨0, Nat.zero_le _, rfl, rfl⟩
  case round =>
    obtain ⟨k, hk, rfl, rfl⟩ := hrel
    by_cases hlt : k < len
    · have hcx := hc k hlt
      have hform := number_form q k (by omega) (by omega)
      have H : Hid (bits BinOp.or IntKind.u64 (n64 (word (q.take k))) (IntKind.u64.wrap (IntKind.u64.wrap (n8 (q[k]?.getD 0)) * 2 ^ (8 * k))) = n64 (word (q.take (k + 1)))) := hform
      clear hform
      go_wp2
      go_round
      case rel => exact ⟨k + 1, by omega, by go_num, by rw [← H.out]; simp [show k < q.length by omega]⟩
      case measure => simp [intOf]; omega
    · go_wp2
      go_ret
      exact ⟨ret_u64 (by rw [List.take_of_length_le (by omega)]), rfl⟩


/-- WHAT THE CELLS OF A Sum HOLD that has received the bytes l: (o: where it begins in its block). -/
structure SumAt (b o : Nat) (l : List UInt8) (W : World) : Prop where
  h : W.cell? ⟨b, o, none⟩ = some (.int .u64 (n64 (hfull l ^^^ K3)))
  n : W.cell? ⟨b, o + 1, none⟩ = some (.int .i64 (l.length : Int))
  wait : ∃ q : List UInt8, q.length = 8 ∧ q.take (l.length % 8) = rest l ∧ ∀ j, j < 8 → W.cell? ⟨b, o + 2 + j, none⟩ = some (.int .u8 (n8 (q[j]?.getD 0)))
  fz : ∀ j, j < 10 → W.frozen? ⟨b, o + j, none⟩ = false

theorem sum_nil (w : World) : Calls Tryz.prog 87 #[.pointer none] w fun e w' => e = .returned (.int .u64 0) ∧ w = w' := by
  go_enter Tryz.func87, Tryz.ntmps87
  go_wp2
  go_ret
  exact ⟨rfl, rfl⟩

theorem fin_form (g : UInt64) (n : Nat) (hn : n ≤ 9223372036854775807) :
    bits .xor .u64 (IntKind.u64.wrap (bits .xor .u64 (bits .xor .u64 (n64 g) (n : Int)) (bits .xor .u64 (n64 g) (n : Int) / 536870912) * 11400714819323198485))
      (IntKind.u64.wrap (bits .xor .u64 (bits .xor .u64 (n64 g) (n : Int)) (bits .xor .u64 (n64 g) (n : Int) / 536870912) * 11400714819323198485) / 4294967296) = n64 (fin g n) := by
  have e29 : ∀ x : UInt64, n64 x / (536870912 : Int) = n64 (x >>> 29) := fun x => div64 x 29 (536870912 : Int) (by decide) (by decide)
  have e32 : ∀ x : UInt64, n64 x / (4294967296 : Int) = n64 (x >>> 32) := fun x => div64 x 32 (4294967296 : Int) (by decide) (by decide)
  rw [lit64 n (by omega), xor64, e29, xor64, mulK1, e32, xor64]
  rfl

theorem list8 {α : Type} {q : List α} (h : q.length = 8) : ∃ a0 a1 a2 a3 a4 a5 a6 a7, q = [a0, a1, a2, a3, a4, a5, a6, a7] := by
  match q, h with
  | [a0, a1, a2, a3, a4, a5, a6, a7], _ => exact ⟨_, _, _, _, _, _, _, _, rfl⟩

theorem number_new (w : World) (h n : Value) (q0 q1 q2 q3 q4 q5 q6 q7 : UInt8) (T len : Nat) (hl : len ≤ 8) :
    Calls Tryz.prog 123 #[.slice (some ⟨w.heap.size, 2, none⟩) len 8] (w.alloc (.cells #[h, n, .int .u8 (n8 q0), .int .u8 (n8 q1), .int .u8 (n8 q2), .int .u8 (n8 q3), .int .u8 (n8 q4), .int .u8 (n8 q5), .int .u8 (n8 q6), .int .u8 (n8 q7)] T))
      fun e w' => e = .returned (.int .u64 (n64 (word ([q0, q1, q2, q3, q4, q5, q6, q7].take len)))) ∧ w.alloc (.cells #[h, n, .int .u8 (n8 q0), .int .u8 (n8 q1), .int .u8 (n8 q2), .int .u8 (n8 q3), .int .u8 (n8 q4), .int .u8 (n8 q5), .int .u8 (n8 q6), .int .u8 (n8 q7)] T) = w' := by
  refine number_any _ _ _ _ _ _ (by simp; omega) hl ?_
  intro j hj
  rw [List.getElem?_take_of_lt hj, World.cell?_alloc_new]
  have hj8 : j = 0 ∨ j = 1 ∨ j = 2 ∨ j = 3 ∨ j = 4 ∨ j = 5 ∨ j = 6 ∨ j = 7 := by omega
  rcases hj8 with rfl | rfl | rfl | rfl | rfl | rfl | rfl | rfl <;> rfl

set_option maxHeartbeats 1000000 in
theorem sum_any (b o : Nat) (l : List UInt8) (w : World) (hs : SumAt b o l w) (hlen : l.length ≤ 9223372036854775807) :
    Calls Tryz.prog 87 #[.pointer (some ⟨b, o, none⟩)] w fun e w' => e = .returned (.int .u64 (n64 (hsum l))) ∧ Below w.heap.size w w' := by
  obtain ⟨q, hq, hr, hw⟩ := hs.wait
  obtain ⟨q0, q1, q2, q3, q4, q5, q6, q7, rfl⟩ := list8 hq
  have h0 := hs.h
  have h1 := hs.n
  have w0 : w.cell? ⟨b, o + 2, none⟩ = some (.int .u8 (n8 q0)) := hw 0 (by omega)
  have w1 : w.cell? ⟨b, o + 2 + 1, none⟩ = some (.int .u8 (n8 q1)) := hw 1 (by omega)
  have w2 : w.cell? ⟨b, o + 2 + 2, none⟩ = some (.int .u8 (n8 q2)) := hw 2 (by omega)
  have w3 : w.cell? ⟨b, o + 2 + 3, none⟩ = some (.int .u8 (n8 q3)) := hw 3 (by omega)
  have w4 : w.cell? ⟨b, o + 2 + 4, none⟩ = some (.int .u8 (n8 q4)) := hw 4 (by omega)
  have w5 : w.cell? ⟨b, o + 2 + 5, none⟩ = some (.int .u8 (n8 q5)) := hw 5 (by omega)
  have w6 : w.cell? ⟨b, o + 2 + 6, none⟩ = some (.int .u8 (n8 q6)) := hw 6 (by omega)
  have w7 : w.cell? ⟨b, o + 2 + 7, none⟩ = some (.int .u8 (n8 q7)) := hw 7 (by omega)
  have HR : Hid (List.take (l.length % 8) [q0, q1, q2, q3, q4, q5, q6, q7] = rest l) := hr
  clear hw hs hr hq
  have hb : b < w.heap.size := World.block_lt_of_cell? w ⟨b, o, none⟩ h0
  have f1 := xorK3
  have f5 : ∀ x : UInt64, (x ^^^ K3) ^^^ K3 = x := fun x => by rw [UInt64.xor_assoc]; simp
  by_cases hz : l.length % 8 = 0
  · have hz' : decide (0 < (l.length : Int) % 8) = false := by simp; omega
    have H0 : Hid (l.length % 8 = 0) := hz
    clear hz
    go_enter Tryz.func87, Tryz.ntmps87
    go_wp2_with fail
    go_quiet (fail)
    go_wp2
    go_ret
    refine ⟨ret_u64 ?_, ?_⟩
    · rw [hsum_whole l H0.out]; exact fin_form _ _ hlen
    · exact below_drewN ((Below.refl _ _).alloc (Nat.le_refl _) _) _
  · have hz' : decide (0 < (l.length : Int) % 8) = true := by simp; omega
    have H0 : Hid (¬ l.length % 8 = 0) := hz
    clear hz
    have hm0 : 0 ≤ (l.length : Int) % 8 := by omega
    have hm1 : (l.length : Int) % 8 ≤ 8 := by omega
    go_enter Tryz.func87, Tryz.ntmps87
    go_wp2_with (first
      | (go_at_call 123; refine (number_new _ _ _ _ _ _ _ _ _ _ _ _ _ (by omega)).mono ?_; rw [HR.out]; rintro e w' ⟨rfl, rfl⟩)
      | (go_at_call 122; refine (take_any _ _ (hfull l) _ _ (by simp) (by simp)).mono ?_; rintro e w' ⟨rfl, rfl⟩))
    go_quiet (fail)
    go_wp2
    go_ret
    refine ⟨ret_u64 ?_, ?_⟩
    · rw [hsum_rest l H0.out]; exact fin_form _ _ hlen
    · exact below_drewN ((Below.refl _ _).alloc (Nat.le_refl _) _) _

end Go.Proofs.YtiemogegdoogaaaGreat
