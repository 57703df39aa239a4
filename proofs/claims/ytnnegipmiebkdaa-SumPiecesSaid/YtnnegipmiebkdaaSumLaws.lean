/-
  The walks of the laws of layer 4. Conditions: what the rows' reading gives of the arguments.
-/
import Derived.Test.YtnnegipmiebkdaaSumRef
import Derived.Laws.AppendOwn
import Derived.Lib.Hide
namespace Go.Proofs.Ytnnegipmiebkdaa
open Go Go.RowKit
set_option linter.unusedSimpArgs false
set_option linter.unusedVariables false

/-- What the reading tells of a slice of bytes that came in. -/
def Row8 (w : World) (a : Option Addr) (len cap : Nat) (zs : List Int) : Prop :=
  (a = none ∧ len = 0 ∧ cap = 0 ∧ zs = []) ∨
  ∃ x, a = some x ∧ len ≤ cap ∧ cap ≤ maxLen ∧ zs.length = cap ∧ (∀ i, i < zs.length → w.cell? (x.add i) = some (.int .u8 (zs.getD i 0))) ∧ ∀ n ∈ zs, (Lit.int .u8 n).wf = true

/-- The bytes of a list of numbers. -/
def bytesOf (zs : List Int) (len : Nat) : List UInt8 := (zs.take len).map fun n => UInt8.ofNat n.toNat

theorem row8_bytes {w : World} {a : Option Addr} {len cap : Nat} {zs : List Int} (h : Row8 w a len cap zs) : (bytesOf zs len).length = len ∧ len ≤ cap ∧ cap ≤ maxLen ∧ Bytes w a (bytesOf zs len) := by
  rcases h with ⟨rfl, rfl, rfl, rfl⟩ | ⟨x, rfl, hl, hm, hz, hc, hw⟩
  · exact ⟨rfl, Nat.le_refl _, Nat.zero_le _, Bytes.nil _ _⟩
  · have hlen : (bytesOf zs len).length = len := by unfold bytesOf; simp; omega
    refine ⟨hlen, hl, hm, fun hp => ?_⟩
    rw [hlen] at hp
    obtain ⟨b, off, spot⟩ := x
    have h0 := hc 0 (by omega)
    have hspot : spot = none := by simpa [Addr.add] using World.cell?_spot h0
    subst hspot
    have hadd : ∀ j, (⟨b, off, none⟩ : Addr).add j = ⟨b, off + j, none⟩ := fun j => by unfold Addr.add; split <;> simp_all
    refine ⟨b, off, rfl, ?_, fun j hj => ?_⟩
    · have := World.block_lt_of_cell? w _ h0
      rwa [hadd] at this
    · rw [hlen] at hj
      have := hc j (by omega)
      rw [hadd] at this
      rw [this]
      have hj2 : j < zs.length := by omega
      have e1 : zs.getD j 0 = zs[j] := by simp [List.getD, hj2]
      have e2 : (bytesOf zs len)[j]?.getD 0 = UInt8.ofNat zs[j].toNat := by
        unfold bytesOf
        simp [hj, hj2]
      rw [e1, e2, ← n8_of _ (hw _ (List.getElem_mem hj2))]

theorem of_at (cap n : Nat) (a : Option Addr) (m : List UInt8) (w : World) (hn : n = m.length) (hlen : m.length ≤ 4611686018427387904) (ha : Bytes w a m) :
    Calls Try.prog 12 #[.slice a n cap] w fun e w' => e = .returned (.int .u64 (n64 (hsum m))) ∧ Below w.heap.size w w' := by
  subst hn; exact of_any cap a m w (by omega) ha
theorem refof_at (cap n : Nat) (a : Option Addr) (m : List UInt8) (w : World) (hn : n = m.length) (hlen : m.length ≤ 4611686018427387904) (ha : Bytes w a m) :
    Calls Try.prog 13 #[.slice a n cap] w fun e w' => e = .returned (.int .u64 (n64 (hsum m))) ∧ w = w' := by
  subst hn; exact refof_any cap a m w (by omega) ha

set_option maxHeartbeats 1000000 in
theorem sumOf_walk (a : Option Addr) (len cap : Nat) (zs : List Int) (w : World) (h : Row8 w a len cap zs) :
    Calls Try.prog 3 #[.slice a len cap] w fun e w' => e = .returned (.bool true) ∧ Below w.heap.size w w' := by
  obtain ⟨hl, hlc, hcm, hb⟩ := row8_bytes h
  obtain ⟨m, hm⟩ : ∃ m, bytesOf zs len = m := ⟨_, rfl⟩
  rw [hm] at hl hb
  clear h hm
  subst hl
  have HB := Lib.hid hb
  clear hb
  by_cases hbig : 100000 < m.length
  · have ht : decide ((100000 : Int) < (m.length : Int)) = true := by simp; omega
    go_enter Try.func3, Try.ntmps3
    go_wp2_with (go_at_call 11; refine (known_any _).mono ?_; rintro e w1 ⟨rfl, hb1⟩)
    go_ret
    exact ⟨rfl, hb1⟩
  · have ht : decide ((100000 : Int) < (m.length : Int)) = false := by simp; omega
    have hm1 := HB.out
    go_enter Try.func3, Try.ntmps3
    clear hm1
    go_wp2_with (first
      | (go_at_call 12; (with_reducible refine (of_any cap a m _ (by omega) HB.out).mono ?_); rintro e w1 ⟨rfl, hb1⟩; have H1 := Lib.hid hb1; clear hb1)
      | (go_at_call 13; (with_reducible refine (refof_any cap a m _ (by omega) (HB.out.below H1.out)).mono ?_); rintro e w2 ⟨rfl, rfl⟩)
      | (go_at_call 11; refine (known_any _).mono ?_; rintro e w3 ⟨rfl, hb3⟩; have H3 := Lib.hid hb3; clear hb3))
    go_ret
    exact ⟨rfl, H1.out.trans (H3.out.mono H1.out.size)⟩

end Go.Proofs.Ytnnegipmiebkdaa
