/-
  (*Sum).Write: the iterator over whole words, the loop over it, and the method. Conditions: the receiver's cells, and the bytes that are written, which lie in another block.
-/
import Derived.Test.YtiemogegdoogaaaGreatRangeJ
import Derived.Shelf.Abstract
import Derived.Test.YtiemogegdoogaaaGreatSumWalks
import Derived.Test.YtiemogegdoogaaaGreatBytesOwn
import Derived.BigRegionIn
import Derived.RegionIn
import Derived.Lib.Hide
namespace Go.Proofs.YtiemogegdoogaaaGreat
open Go Go.RowKit
set_option linter.unusedSimpArgs false
set_option linter.unusedVariables false
attribute [local go_sem] Oper.semAt_some

/-- Below B all is as it was but for the cells lo .. hi - 1 of block b. -/
structure Touch (B b lo hi : Nat) (w w' : World) : Prop where
  os : w'.os = w.os
  tape : w'.tape = w.tape
  output : w'.output = w.output
  size : w.heap.size ≤ w'.heap.size
  block : ∀ k, k < B → k ≠ b → w'.heap[k]? = w.heap[k]?
  cell : ∀ a : Addr, a.block = b → (a.off < lo ∨ hi ≤ a.off) → w'.cell? a = w.cell? a
  frozen : ∀ a : Addr, a.block = b → w'.frozen? a = w.frozen? a

theorem Touch.refl (B b lo hi : Nat) (w : World) : Touch B b lo hi w w := ⟨rfl, rfl, rfl, Nat.le_refl _, fun _ _ _ => rfl, fun _ _ _ => rfl, fun _ _ => rfl⟩
theorem Touch.trans {B b lo hi : Nat} {x y z : World} (h : Touch B b lo hi x y) (k : Touch B b lo hi y z) : Touch B b lo hi x z :=
  ⟨k.os.trans h.os, k.tape.trans h.tape, k.output.trans h.output, Nat.le_trans h.size k.size, fun i hi hb => (k.block i hi hb).trans (h.block i hi hb),
   fun a ha ho => (k.cell a ha ho).trans (h.cell a ha ho), fun a ha => (k.frozen a ha).trans (h.frozen a ha)⟩
theorem Touch.mono {B B' b lo hi : Nat} {x y : World} (h : Touch B b lo hi x y) (hB : B' ≤ B) : Touch B' b lo hi x y :=
  ⟨h.os, h.tape, h.output, h.size, fun i hi hb => h.block i (by omega) hb, h.cell, h.frozen⟩
theorem Touch.of_below {B b lo hi : Nat} {x y : World} (h : Below B x y) (hb : b < B) : Touch B b lo hi x y :=
  ⟨h.os, h.tape, h.output, h.size, fun i hi _ => h.block i hi, fun a ha _ => h.cell (by omega), fun a ha => h.frozen (by omega)⟩
theorem Touch.setCell {B b lo hi : Nat} {x y : World} (h : Touch B b lo hi x y) (i : Nat) (h1 : lo ≤ i) (h2 : i < hi) (v : Value) : Touch B b lo hi x (y.setCell ⟨b, i, none⟩ v) :=
  h.trans ⟨rfl, rfl, rfl, by simp, fun k _ hk => Below.heap_setCell _ _ _ _ hk, fun a ha ho => World.cell?_setCell_other _ _ _ _ (by rintro rfl; simp at ho; omega), fun a _ => World.frozen?_setCell _ _ _ _⟩
theorem Touch.drew {B b lo hi : Nat} {x y : World} (h : Touch B b lo hi x y) : Touch B b lo hi x y.drew := h.trans ⟨rfl, rfl, rfl, Nat.le_refl _, fun _ _ _ => rfl, fun _ _ _ => rfl, fun _ _ => rfl⟩
theorem Touch.same {B B' b lo hi : Nat} {x y z : World} (h : Touch B b lo hi x y) (k : Same B' y z) (hB : B ≤ B') : Touch B b lo hi x z :=
  h.trans ⟨k.below.os, k.below.tape, k.below.output, by have := k.size; omega, fun i hi _ => k.below.block i (by omega), fun a _ _ => k.cell a, fun a _ => k.frozen a⟩
theorem Touch.other {B b lo hi : Nat} {x y : World} (h : Touch B b lo hi x y) {a : Addr} (ha : a.block < B) (hb : a.block ≠ b) : y.cell? a = x.cell? a :=
  World.cell?_of_block (w := x) (h.block a.block ha hb)
theorem Touch.other_frozen {B b lo hi : Nat} {x y : World} (h : Touch B b lo hi x y) {a : Addr} (ha : a.block < B) (hb : a.block ≠ b) : y.frozen? a = x.frozen? a :=
  World.frozen?_of_block (w := x) (h.block a.block ha hb)

/-- wholes: the two arguments are boxed; the closure captures the boxes. -/
theorem wholes_any (p v : Value) (w : World) (hp : ∃ a, p = .pointer a) (hv : ∃ a l c, v = .slice a l c) :
    Calls Tryz.prog 121 #[p, v] w fun e w' => e = .returned (.func (.func 153) #[] #[.pointer (some ⟨w.heap.size + 1, 0, none⟩), .pointer (some ⟨w.heap.size, 0, none⟩)]) ∧
      (w.alloc (.cells #[p] 148)).alloc (.cells #[v] 22) = w' := by
  obtain ⟨a, rfl⟩ := hp
  obtain ⟨a, l, c, rfl⟩ := hv
  go_enter Tryz.func121, Tryz.ntmps121
  go_wp2
  go_ret
  exact ⟨rfl, rfl⟩

/-- The cells where yield is called: all L have been counted, the last group is in wait, h not yet turned. -/
structure MidAt (b o : Nat) (L : List UInt8) (x : UInt8) (W : World) : Prop where
  h : W.cell? ⟨b, o, none⟩ = some (.int .u64 (n64 (hfull L ^^^ K3)))
  n : W.cell? ⟨b, o + 1, none⟩ = some (.int .i64 ((L.length + 1 : Nat) : Int))
  wait : ∃ q : List UInt8, q.length = 8 ∧ ∀ j, j < 8 → W.cell? ⟨b, o + 2 + j, none⟩ = some (.int .u8 (n8 (q[j]?.getD 0)))
  fz : ∀ j, j < 10 → W.frozen? ⟨b, o + j, none⟩ = false

/-- The word that is yielded at byte k of m behind l. -/
def wordAt (l m : List UInt8) (k : Nat) : UInt64 := word (rest (l ++ m.take k) ++ [m[k]?.getD 0])

/-- The world behind one byte's stores. -/
abbrev stored (wr : World) (b o N : Nat) (x : UInt8) : World := ((wr.setCell ⟨b, o + 2 + N % 8, none⟩ (.int .u8 (n8 x))).setCell ⟨b, o + 1, none⟩ (.int .i64 ((N : Int) + 1))).drew

theorem stored_cells {wr : World} {b o N : Nat} {x : UInt8} {q : List UInt8} (hq : q.length = 8) {hv nv : Value} (h0 : wr.cell? ⟨b, o, none⟩ = some hv) (h1 : wr.cell? ⟨b, o + 1, none⟩ = some nv)
    (hw : ∀ j, j < 8 → wr.cell? ⟨b, o + 2 + j, none⟩ = some (.int .u8 (n8 (q[j]?.getD 0)))) :
    (stored wr b o N x).cell? ⟨b, o, none⟩ = some hv ∧ (stored wr b o N x).cell? ⟨b, o + 1, none⟩ = some (.int .i64 ((N : Int) + 1)) ∧
      (∀ j, j < 8 → (stored wr b o N x).cell? ⟨b, o + 2 + j, none⟩ = some (.int .u8 (n8 ((q.set (N % 8) x)[j]?.getD 0)))) ∧ ∀ a, (stored wr b o N x).frozen? a = wr.frozen? a := by
  have h7 : N % 8 < 8 := by omega
  refine ⟨?_, ?_, fun j hj => ?_, fun a => ?_⟩
  · rw [World.cell?_drew, World.cell?_setCell_other _ _ _ _ (by simp), World.cell?_setCell_other _ _ _ _ (by first | (simp; done) | (simp; omega))]; exact h0
  · rw [World.cell?_drew]
    exact World.cell?_setCell_same _ _ _ (u := nv) (by rw [World.cell?_setCell_other _ _ _ _ (by simp)]; exact h1)
  · rw [World.cell?_drew, World.cell?_setCell_other _ _ _ _ (by simp)]
    by_cases e : j = N % 8
    · subst e
      rw [World.cell?_setCell_same _ _ _ (hw _ h7)]
      simp [hq, h7]
    · rw [World.cell?_setCell_other _ _ _ _ (by simp), hw j hj, List.getElem?_set_ne (fun h => e h.symm)]
  · rw [World.frozen?_drew, World.frozen?_setCell, World.frozen?_setCell]

theorem stored_keeps (wr : World) (b o N : Nat) (x : UInt8) : KeepsOthers wr (stored wr b o N x) :=
  ((KeepsOthers.setCell _ _ _).trans (KeepsOthers.setCell _ _ _)).trans (KeepsOthers.drew _)
theorem stored_touch {B : Nat} {W0 wr : World} {b o : Nat} (h : Touch B b o (o + 10) W0 wr) (N : Nat) (x : UInt8) : Touch B b o (o + 10) W0 (stored wr b o N x) :=
  ((h.setCell _ (by omega) (by omega) _).setCell _ (by omega) (by omega) _).drew

/-- A byte that does not fill its group. -/
theorem stored_not {wr : World} {b o : Nat} {L : List UInt8} {x : UInt8} (hs : SumAt b o L wr) (hn : (L.length + 1) % 8 ≠ 0) : SumAt b o (L ++ [x]) (stored wr b o L.length x) := by
  obtain ⟨q, hq, hr, hw⟩ := hs.wait
  obtain ⟨c0, c1, c2, c3⟩ := stored_cells (N := L.length) (x := x) hq hs.h hs.n hw
  refine ⟨by rw [hfull_snoc_not _ _ hn]; exact c0, by rw [c1]; simp, ⟨_, by simpa using hq, ?_, c2⟩, fun j hj => by rw [c3]; exact hs.fz j hj⟩
  rw [rest_snoc_not _ _ hn, ← hr]
  have e : (L ++ [x]).length % 8 = L.length % 8 + 1 := by simp; omega
  rw [e, List.take_succ_eq_append_getElem (by simp [hq]; omega)]
  simp [List.take_set_of_le]
/-- A byte that does. -/
theorem stored_mid {wr : World} {b o : Nat} {L : List UInt8} {x : UInt8} (hs : SumAt b o L wr) (hn : (L.length + 1) % 8 = 0) : MidAt b o L x (stored wr b o L.length x) ∧
    ∀ j, j < 8 → (stored wr b o L.length x).cell? ⟨b, o + 2 + j, none⟩ = some (.int .u8 (n8 ((rest L ++ [x])[j]?.getD 0))) := by
  obtain ⟨q, hq, hr, hw⟩ := hs.wait
  obtain ⟨c0, c1, c2, c3⟩ := stored_cells (N := L.length) (x := x) hq hs.h hs.n hw
  refine ⟨⟨c0, by rw [c1]; simp, ⟨_, by simpa using hq, c2⟩, fun j hj => by rw [c3]; exact hs.fz j hj⟩, fun j hj => ?_⟩
  have e : q.set (L.length % 8) x = rest L ++ [x] := by
    have e7 : L.length % 8 = 7 := by omega
    rw [e7] at hr ⊢
    rw [← hr]
    obtain ⟨q0, q1, q2, q3, q4, q5, q6, q7, rfl⟩ := list8 hq
    rfl
  rw [← e]; exact c2 j hj

set_option maxRecDepth 100000 in
set_option maxHeartbeats 2000000 in
theorem wholes1_in (l B : Nat) (Bb Bs b o c p cap : Nat) (L m : List UInt8) (Wb W0 : World) (ht0 : Touch B b o (o + 10) Wb W0) (hne : c ≠ b) (hc : c < B) (hb : b < B) (hlen : L.length + m.length ≤ 9223372036854775807)
    (hBb : Wb.cell? ⟨Bb, 0, none⟩ = some (.slice (some ⟨c, p, none⟩) m.length cap)) (hBs : Wb.cell? ⟨Bs, 0, none⟩ = some (.pointer (some ⟨b, o, none⟩))) (hBbb : Bb ≠ b) (hBsb : Bs ≠ b) (hBbl : Bb < B) (hBsl : Bs < B)
    (hm : ∀ j, j < m.length → Wb.cell? ⟨c, p + j, none⟩ = some (.int .u8 (n8 (m[j]?.getD 0))))
    (Bk : World → Prop) (hBk : ∀ A C, KeepsFrom B A C → Bk A → Bk C)
    (hY : ∀ k W, k < m.length ∧ (L.length + k + 1) % 8 = 0 ∧ MidAt b o (L ++ m.take k) (m[k]?.getD 0) W ∧ Touch B b o (o + 10) Wb W → Bk W → YieldAt Fence.wide 5 Tryz.prog l #[.int .u64 (n64 (wordAt L m k))] W fun e W' =>
      e = .returned (.bool true) ∧ SumAt b o (L ++ m.take (k + 1)) W' ∧ Touch B b o (o + 10) Wb W' ∧ Bk W')
    (h0 : SumAt b o L W0) (hk0 : Bk W0) :
    CallsIn Fence.wide 6 Tryz.prog 153 #[.func (.yield l) #[] #[], .pointer (some ⟨Bb, 0, none⟩), .pointer (some ⟨Bs, 0, none⟩)] W0 fun e W' => (∃ v, e = .returned v) ∧
      SumAt b o (L ++ m) W' ∧ Touch B b o (o + 10) Wb W' ∧ Bk W' := by
  refine callsIn_of_wp Tryz.func153 rfl trivial ?_ rfl
  simp only [Tryz.ntmps153, List.size_toArray, List.length_cons, List.length_nil, Nat.reduceAdd, Nat.reduceSub, Array.replicate_succ, Array.replicate_zero, List.push_toArray, List.append_toArray, List.nil_append, List.cons_append]
  have hbb0 : W0.cell? ⟨Bb, 0, none⟩ = _ := (ht0.other (a := ⟨Bb, 0, none⟩) hBbl hBbb).trans hBb
  gi_wp2
  gi_loopw [8] (fun i wr => ∃ k : Nat, k ≤ m.length ∧ i = .int .i64 k ∧ SumAt b o (L ++ m.take k) wr ∧ Touch B b o (o + 10) Wb wr ∧ Bk wr)
    (fun i _ => m.length - (intOf i).toNat)
  case atStart => exact ⟨0, Nat.zero_le _, rfl, by simpa using h0, ht0, hk0⟩
  case round =>
    obtain ⟨k, hk, rfl, hs, ht, hbk⟩ := hrel
    by_cases hlt : k < m.length
    · obtain ⟨x, hx⟩ : ∃ x, m[k]?.getD 0 = x := ⟨_, rfl⟩
      have hcx : wr.cell? ⟨c, p + k, none⟩ = some (.int .u8 (n8 x)) := by rw [← hx]; exact (ht.other (a := ⟨c, p + k, none⟩) hc hne).trans (hm k hlt)
      have hbb : wr.cell? ⟨Bb, 0, none⟩ = _ := (ht.other (a := ⟨Bb, 0, none⟩) hBbl hBbb).trans hBb
      have hbs : wr.cell? ⟨Bs, 0, none⟩ = _ := (ht.other (a := ⟨Bs, 0, none⟩) hBsl hBsb).trans hBs
      obtain ⟨q, hq, hqr, hqc⟩ := hs.wait
      obtain ⟨LL, hLL⟩ : ∃ LL, L ++ m.take k = LL := ⟨_, rfl⟩
      have hLk : LL.length = L.length + k := by rw [← hLL]; simp; omega
      have hsn : L ++ m.take (k + 1) = LL ++ [x] := by rw [← hLL, ← hx, List.take_succ_eq_append_getElem hlt]; simp [hlt]
      rw [hLL] at hs hqr
      have h0 := hs.h
      have h1 := hs.n
      have f1 : wr.frozen? ⟨b, o + 1, none⟩ = false := hs.fz 1 (by omega)
      have f2 : wr.frozen? ⟨b, o + 2 + LL.length % 8, none⟩ = false := by have := hs.fz (2 + LL.length % 8) (by omega); rwa [← Nat.add_assoc] at this
      have h2 := hqc (LL.length % 8) (by omega)
      have hm1 : (LL.length : Int) % 8 < 8 := by omega
      have hm2 : 0 ≤ (LL.length : Int) % 8 := by omega
      have hNs : LL.length < 9223372036854775807 := by omega
      have hfn : ∀ f, Fence.wide.fn f = True := fun _ => rfl
      have HT : Hid (Touch B b o (o + 10) Wb (stored wr b o LL.length x) ∧ Bk (stored wr b o LL.length x)) := ⟨stored_touch ht _ _, hBk _ _ ((stored_keeps _ _ _ _ _).from _) hbk⟩
      by_cases hfull : (LL.length + 1) % 8 = 0
      · have ht8 : (((LL.length : Int) + 1) % 8 == 0) = true := by simp; omega
        obtain ⟨hmid, hq8⟩ := stored_mid (x := x) hs hfull
        obtain ⟨fn, tmps, assign, body, hy, hR⟩ := hY k (stored wr b o LL.length x) ⟨hlt, by omega, by rw [hLL, hx]; exact hmid, HT.out.1⟩ HT.out.2
        have hword : wordAt L m k = word (rest LL ++ [x]) := by unfold wordAt; rw [hLL, hx]
        rw [hword] at hy
        have hnum := number_any b (o + 2) 8 8 (rest LL ++ [x]) (stored wr b o LL.length x) (by simp [rest_length]; omega) (by omega) (fun j hj => hq8 j hj)
        clear hx hLL hLk hsn hs ht hbk hqc hqr hm hword hmid hq8 hfull hY
        gi_wp2
        gi_region
        gi_wp2_with (gi_at_call 123; refine (callsIn_wide.2 hnum).mono ?_; rintro e w' ⟨rfl, rfl⟩)
        refine hR.mono ?_
        rintro e W3 ⟨rfl, hs3, ht3, hk3⟩
        gi_wp2
        go_roundw
        case rel => exact ⟨k + 1, by omega, by simp, hs3, ht3, hk3⟩
        case measure => simp [intOf]; omega
      · have ht8 : (((LL.length : Int) + 1) % 8 == 0) = false := by simp; omega
        have HF : Hid (SumAt b o (L ++ m.take (k + 1)) (stored wr b o LL.length x)) := by rw [hsn]; exact stored_not hs hfull
        clear hx hLL hLk hsn hs ht hbk hqc hqr hm hfull hY
        gi_wp2
        gi_region
        gi_wp2
        go_roundw
        case rel => exact ⟨k + 1, by omega, by simp, HF.out, HT.out.1, HT.out.2⟩
        case measure => simp [intOf]; omega
    · obtain rfl : k = m.length := by omega
      gi_wp2
      go_end0
      exact ⟨⟨_, rfl⟩, by simpa using hs, ht, hbk⟩


set_option maxHeartbeats 1000000 in
/-- .. over no bytes: no round. -/
theorem wholes0_in (l : Nat) (Bb Bs cap : Nat) (a : Option Addr) (W0 : World) (hBb : W0.cell? ⟨Bb, 0, none⟩ = some (.slice a 0 cap)) :
    CallsIn Fence.wide 6 Tryz.prog 153 #[.func (.yield l) #[] #[], .pointer (some ⟨Bb, 0, none⟩), .pointer (some ⟨Bs, 0, none⟩)] W0 fun e W' => (∃ v, e = .returned v) ∧ W' = W0 := by
  refine callsIn_of_wp Tryz.func153 rfl trivial ?_ rfl
  simp only [Tryz.ntmps153, List.size_toArray, List.length_cons, List.length_nil, Nat.reduceAdd, Nat.reduceSub, Array.replicate_succ, Array.replicate_zero, List.push_toArray, List.append_toArray, List.nil_append, List.cons_append]
  gi_wp2
  gi_loopw [8] (fun i wr => i = .int .i64 0 ∧ wr = W0) (fun _ _ => 0)
  case atStart => exact ⟨rfl, rfl⟩
  case round =>
    obtain ⟨rfl, rfl⟩ := hrel
    gi_wp2
    go_end0
    exact ⟨⟨_, rfl⟩, rfl⟩

/-- Behind take, at the end of a round. -/
theorem mid_take {b o : Nat} {L : List UInt8} {x : UInt8} {W : World} (h : MidAt b o L x W) (hn : (L.length + 1) % 8 = 0) :
    SumAt b o (L ++ [x]) (W.setCell ⟨b, o, none⟩ (.int .u64 (n64 (sstep (hfull L) (word (rest L ++ [x])) ^^^ K3)))) := by
  obtain ⟨q, hq, hw⟩ := h.wait
  refine ⟨?_, ?_, ⟨q, hq, ?_, fun j hj => ?_⟩, fun j hj => by rw [World.frozen?_setCell]; exact h.fz j hj⟩
  · rw [hfull_snoc_full _ _ hn]; exact World.cell?_setCell_same _ _ _ h.h
  · rw [World.cell?_setCell_other _ _ _ _ (by simp)]; rw [h.n]; simp
  · rw [rest_snoc_full _ _ hn]
    have e : (L ++ [x]).length % 8 = 0 := by simp; omega
    rw [e]; rfl
  · rw [World.cell?_setCell_other _ _ _ _ (by simp <;> omega)]; exact hw j hj
theorem MidAt.same {B b o : Nat} {L : List UInt8} {x : UInt8} {W W' : World} (h : MidAt b o L x W) (hs : Same B W W') : MidAt b o L x W' :=
  ⟨by rw [hs.cell]; exact h.h, by rw [hs.cell]; exact h.n, let ⟨q, hq, hw⟩ := h.wait; ⟨q, hq, fun j hj => by rw [hs.cell]; exact hw j hj⟩, fun j hj => by rw [hs.frozen]; exact h.fz j hj⟩
theorem SumAt.same {B b o : Nat} {L : List UInt8} {W W' : World} (h : SumAt b o L W) (hs : Same B W W') : SumAt b o L W' :=
  ⟨by rw [hs.cell]; exact h.h, by rw [hs.cell]; exact h.n, let ⟨q, hq, hr, hw⟩ := h.wait; ⟨q, hq, hr, fun j hj => by rw [hs.cell]; exact hw j hj⟩, fun j hj => by rw [hs.frozen]; exact h.fz j hj⟩
theorem SumAt.below {B b o : Nat} {L : List UInt8} {W W' : World} (h : SumAt b o L W) (hs : Below B W W') (hb : b < B) : SumAt b o L W' :=
  ⟨by rw [hs.cell (p := ⟨b, o, none⟩) hb]; exact h.h, by rw [hs.cell (p := ⟨b, o + 1, none⟩) hb]; exact h.n, let ⟨q, hq, hr, hw⟩ := h.wait; ⟨q, hq, hr, fun j hj => by rw [hs.cell (p := ⟨b, o + 2 + j, none⟩) hb]; exact hw j hj⟩, fun j hj => by rw [hs.frozen (p := ⟨b, o + j, none⟩) hb]; exact h.fz j hj⟩

set_option maxRecDepth 100000 in
set_option maxHeartbeats 2000000 in
/-- each, over the iterator of whole words and the method value take. -/
theorem each_any (Bb Bs b o cap : Nat) (a : Option Addr) (L m : List UInt8) (w : World) (hb : b < w.heap.size) (hlen : L.length + m.length ≤ 9223372036854775807)
    (hBb : w.cell? ⟨Bb, 0, none⟩ = some (.slice a m.length cap)) (hBs : w.cell? ⟨Bs, 0, none⟩ = some (.pointer (some ⟨b, o, none⟩))) (hBbb : Bb ≠ b) (hBsb : Bs ≠ b) (hBbl : Bb < w.heap.size) (hBsl : Bs < w.heap.size)
    (ha : 0 < m.length → ∃ c p, a = some ⟨c, p, none⟩ ∧ c ≠ b ∧ c < w.heap.size ∧ ∀ j, j < m.length → w.cell? ⟨c, p + j, none⟩ = some (.int .u8 (n8 (m[j]?.getD 0)))) (h0 : SumAt b o L w) :
    Calls Tryz.prog 120 #[.func (.func 153) #[] #[.pointer (some ⟨Bb, 0, none⟩), .pointer (some ⟨Bs, 0, none⟩)], .func (.func 122) #[.pointer (some ⟨b, o, none⟩)] #[]] w fun e w' =>
      e = .returned (.tuple #[]) ∧ SumAt b o (L ++ m) w' ∧ Touch w.heap.size b o (o + 10) w w' := by
  refine (callsIn_wide (n := 7)).1 ?_
  refine callsIn_of_wp_marks Tryz.func120 rfl trivial ?_ rfl
  simp only [Tryz.ntmps120, List.size_toArray, List.length_cons, List.length_nil, Nat.reduceAdd, Nat.reduceSub, Array.replicate_succ, Array.replicate_zero, List.push_toArray, List.append_toArray, List.nil_append, List.cons_append]
  gi_wp2
  obtain ⟨W0, hW0⟩ : ∃ W0, w.alloc (.cells #[.func (.func 122) #[.pointer (some ⟨b, o, none⟩)] #[]] 195) = W0 := ⟨_, rfl⟩
  have hz : W0.heap.size = w.heap.size + 1 := by rw [← hW0]; simp
  have hbel : Below w.heap.size w W0 := by rw [← hW0]; exact (Below.refl _ _).alloc (Nat.le_refl _) _
  have hbox : W0.cell? ⟨w.heap.size, 0, none⟩ = some (.func (.func 122) #[.pointer (some ⟨b, o, none⟩)] #[]) := by rw [← hW0]; simp
  rw [hW0]
  refine wpIn_rangeFunc_J (α := Nat) rfl (by simp) (gf := 153) (lb := #[.pointer (some ⟨Bb, 0, none⟩), .pointer (some ⟨Bs, 0, none⟩)]) rfl trivial (enters_of Tryz.func153 (by kernel_rfl) rfl)
    (fun k => #[.int .u64 (n64 (wordAt L m k))]) (fun _ => rfl)
    (fun k W => k < m.length ∧ (L.length + k + 1) % 8 = 0 ∧ MidAt b o (L ++ m.take k) (m[k]?.getD 0) W ∧ Touch W0.heap.size b o (o + 10) W0 W)
    (fun k W => SumAt b o (L ++ m.take (k + 1)) W ∧ Touch W0.heap.size b o (o + 10) W0 W)
    (fun _ _ _ => False)
    (fun W => SumAt b o (L ++ m) W ∧ Touch W0.heap.size b o (o + 10) W0 W)
    (fun _ _ => False)
    (fun k W W' hs h => ⟨h.1, h.2.1, h.2.2.1.same hs, h.2.2.2.same hs (Nat.le_refl _)⟩)
    (fun k W W' hs h => ⟨h.1.same hs, h.2.same hs (Nat.le_refl _)⟩)
    (fun _ _ _ _ _ h => h)
    (fun W W' hs h => ⟨h.1.same hs, h.2.same hs (Nat.le_refl _)⟩)
    (fun _ _ _ _ h => h)
    ?iter
    (fun k => { tmps := #[.func (.func 153) #[] #[.pointer (some ⟨Bb, 0, none⟩), .pointer (some ⟨Bs, 0, none⟩)], .func (.func 122) #[.pointer (some ⟨b, o, none⟩)] #[], undef, .pointer (some ⟨w.heap.size, 0, none⟩), .int .u64 (n64 (wordAt L m k)), .func (.func 153) #[] #[.pointer (some ⟨Bb, 0, none⟩), .pointer (some ⟨Bs, 0, none⟩)], .int .u64 (n64 (wordAt L m k)), undef, undef, undef], defers := [] })
    ?assign ?body ?done ?stop
  case iter =>
    intro l W1 Bk Bd hs1 hb1 hBk _ hk1 hY
    rcases Nat.eq_zero_or_pos m.length with hz0 | hpos
    · obtain rfl := List.length_eq_zero_iff.1 hz0
      refine (wholes0_in l Bb Bs cap a W1 (((hbel.trans (hb1.mono (by omega))).cell (p := ⟨Bb, 0, none⟩) hBbl).trans hBb)).mono ?_
      rintro e W' ⟨hv, rfl⟩
      exact ⟨hv, .inl ⟨⟨by simpa using h0.below (hbel.trans (hb1.mono (by omega))) hb, .of_below hb1 (by omega)⟩, hk1⟩⟩
    obtain ⟨c, p, rfl, hne, hc, hm⟩ := ha hpos
    refine (wholes1_in l W0.heap.size Bb Bs b o c p cap L m W0 W1 (.of_below hb1 (by omega)) hne (by omega) (by omega) hlen
      ((hbel.cell (p := ⟨Bb, 0, none⟩) hBbl).trans hBb) ((hbel.cell (p := ⟨Bs, 0, none⟩) hBsl).trans hBs) hBbb hBsb (by omega) (by omega)
      (fun j hj => (hbel.cell (p := ⟨c, p + j, none⟩) hc).trans (hm j hj)) Bk hBk ?_ (h0.below (hbel.trans (hb1.mono (by omega))) hb) hk1).mono ?_
    · intro k W hi hbk
      obtain ⟨fn, tmps, assign, body, hy, hR⟩ := hY k W hi hbk
      refine ⟨fn, tmps, assign, body, hy, hR.mono ?_⟩
      rintro e W' (⟨rfl, ⟨h1, h2⟩, h3⟩ | ⟨_, _, h, _⟩)
      · exact ⟨rfl, h1, h2, h3⟩
      · exact h.elim
    · rintro e W' ⟨hv, h1, h2, h3⟩
      exact ⟨hv, .inl ⟨⟨h1, h2⟩, h3⟩⟩
  case assign =>
    intro l x W K hK
    gi_wp2
    exact hK
  case body =>
    rintro l k W ⟨q1, q2, q3, q4⟩
    have hb' := (q4.other (a := ⟨w.heap.size, 0, none⟩) (by simp; omega) (by simp; omega)).trans hbox
    have hfn : ∀ f, Fence.wide.fn f = True := fun _ => rfl
    have hn : (L ++ m.take k).length = L.length + k := by simp; omega
    have ht := take_any b o (hfull (L ++ m.take k)) (wordAt L m k) W q3.h (q3.fz 0 (by omega))
    have hK := KeepsOthers.setCell W ⟨b, o, none⟩ (.int .u64 (n64 (sstep (hfull (L ++ m.take k)) (wordAt L m k) ^^^ K3)))
    have hS : SumAt b o (L ++ m.take (k + 1)) (W.setCell ⟨b, o, none⟩ (.int .u64 (n64 (sstep (hfull (L ++ m.take k)) (wordAt L m k) ^^^ K3)))) := by
      have := mid_take q3 (by omega)
      rw [List.append_assoc] at this
      have e : m.take k ++ [m[k]?.getD 0] = m.take (k + 1) := by rw [List.take_succ_eq_append_getElem q1]; simp [q1]
      rwa [e] at this
    have hT := q4.setCell o (Nat.le_refl _) (by omega) (.int .u64 (n64 (sstep (hfull (L ++ m.take k)) (wordAt L m k) ^^^ K3)))
    have HH := Lib.hid (And.intro hK (And.intro hS hT))
    clear hK hS hT q1 q2 q3 q4 hn
    gi_wp2_with (gi_at_call 122; refine (CallsIn.inRound l (callsIn_wide.2 ht)).mono ?_; rintro e w' ⟨rfl, rfl⟩)
    exact ⟨HH.out.1.from _, HH.out.2⟩
  case done =>
    rintro W ⟨h1, h2⟩ hK
    gi_wp2
    refine ⟨by simp, .inl ⟨_, _, rfl, run_takeDeferred hK, ?_⟩⟩
    have hsm : Same W0.heap.size W (W.putObj W0.heap.size (.deferred none)) := Same.of_putObj _ (Nat.le_refl _) hK rfl rfl
    refine ⟨_, results_none rfl _ _ _, rfl, h1.same hsm, ((Touch.of_below hbel (by omega)).trans (h2.mono (by omega))).same hsm (by omega)⟩
  case stop =>
    intro c W h
    exact h.elim


/-- (*Sum).Write on a nil receiver. -/
theorem write_nil (v : Value) (w : World) : Calls Tryz.prog 86 #[.pointer none, v] w fun e w' => e = .returned (.tuple #[]) ∧ w = w' := by
  go_enter Tryz.func86, Tryz.ntmps86
  go_wp2
  go_end0
  exact ⟨rfl, rfl⟩

set_option maxHeartbeats 1000000 in
/-- **(*Sum).Write: the receiver has received m more; nothing else has turned.** -/
theorem write_any (b o cap : Nat) (a : Option Addr) (L m : List UInt8) (w : World) (hs : SumAt b o L w) (hlen : L.length + m.length ≤ 9223372036854775807)
    (ha : 0 < m.length → ∃ c p, a = some ⟨c, p, none⟩ ∧ c ≠ b ∧ c < w.heap.size ∧ ∀ j, j < m.length → w.cell? ⟨c, p + j, none⟩ = some (.int .u8 (n8 (m[j]?.getD 0)))) :
    Calls Tryz.prog 86 #[.pointer (some ⟨b, o, none⟩), .slice a m.length cap] w fun e w' => e = .returned (.tuple #[]) ∧ SumAt b o (L ++ m) w' ∧ Touch w.heap.size b o (o + 10) w w' := by
  have hb : b < w.heap.size := World.block_lt_of_cell? w ⟨b, o, none⟩ hs.h
  obtain ⟨W1, hW1⟩ : ∃ W1, (w.alloc (.cells #[.pointer (some ⟨b, o, none⟩)] 148)).alloc (.cells #[.slice a m.length cap] 22) = W1 := ⟨_, rfl⟩
  have hbel : Below w.heap.size w W1 := by rw [← hW1]; exact ((Below.refl _ _).alloc (Nat.le_refl _) _).alloc (by simp) _
  have hsz : W1.heap.size = w.heap.size + 2 := by rw [← hW1]; simp
  have c1 : W1.cell? ⟨w.heap.size, 0, none⟩ = some (.pointer (some ⟨b, o, none⟩)) := by rw [← hW1, World.cell?_alloc_lt _ _ _ (by simp)]; simp
  have c2 : W1.cell? ⟨w.heap.size + 1, 0, none⟩ = some (.slice a m.length cap) := by
    rw [← hW1]
    have := World.cell?_alloc_new (w.alloc (.cells #[.pointer (some ⟨b, o, none⟩)] 148)) #[.slice a m.length cap] 22 0
    rw [World.size_alloc] at this
    exact this
  have heach := each_any (w.heap.size + 1) w.heap.size b o cap a L m W1 (by omega) hlen c2 c1 (by omega) (by omega) (by omega) (by omega)
    (fun h => by obtain ⟨c, p, h1, h2, h3, h4⟩ := ha h; exact ⟨c, p, h1, h2, by omega, fun j hj => (hbel.cell (p := ⟨c, p + j, none⟩) h3).trans (h4 j hj)⟩) (hs.below hbel hb)
  have HH := Lib.hid (And.intro hbel (And.intro hb heach))
  have HW := Lib.hid hW1
  clear hbel c1 c2 hW1 heach ha hs hsz
  go_enter Tryz.func86, Tryz.ntmps86
  go_wp2_with (first
    | (go_at_call 121; refine (wholes_any _ _ _ ⟨_, rfl⟩ ⟨_, _, _, rfl⟩).mono ?_; rw [HW.out]; rintro e w' ⟨rfl, rfl⟩)
    | (go_at_call 120; refine HH.out.2.2.mono ?_; rintro e w' ⟨rfl, h1, h2⟩))
  go_end0
  exact ⟨rfl, h1, (Touch.of_below HH.out.1 HH.out.2.1).trans (h2.mono (by have := HH.out.1.size; omega))⟩

/-! ### New, Copy -/
theorem sumAt_new (w : World) (l : List UInt8) (q0 q1 q2 q3 q4 q5 q6 q7 : UInt8) (hr : List.take (l.length % 8) [q0, q1, q2, q3, q4, q5, q6, q7] = rest l) (T : Nat) :
    SumAt w.heap.size 0 l (w.alloc (.cells #[.int .u64 (n64 (hfull l ^^^ K3)), .int .i64 (l.length : Int), .int .u8 (n8 q0), .int .u8 (n8 q1), .int .u8 (n8 q2), .int .u8 (n8 q3), .int .u8 (n8 q4), .int .u8 (n8 q5), .int .u8 (n8 q6), .int .u8 (n8 q7)] T)) := by
  refine ⟨by simp, by simp, ⟨_, rfl, hr, fun j hj => ?_⟩, fun j hj => by simp⟩
  rw [World.cell?_alloc_new]
  have hj8 : j = 0 ∨ j = 1 ∨ j = 2 ∨ j = 3 ∨ j = 4 ∨ j = 5 ∨ j = 6 ∨ j = 7 := by omega
  rcases hj8 with rfl | rfl | rfl | rfl | rfl | rfl | rfl | rfl <;> rfl

theorem new_any (w : World) : Calls Tryz.prog 85 #[] w fun e w' => e = .returned (.pointer (some ⟨w.heap.size, 0, none⟩)) ∧ SumAt w.heap.size 0 [] w' ∧ Below w.heap.size w w' ∧ w'.heap.size = w.heap.size + 1 := by
  go_enter Tryz.func85, Tryz.ntmps85
  go_wp2
  go_ret
  refine ⟨rfl, ?_, (Below.refl _ _).alloc (Nat.le_refl _) _, by simp⟩
  have h := sumAt_new w [] 0 0 0 0 0 0 0 0 rfl 190
  have e : n64 (hfull [] ^^^ K3) = 0 := by decide
  have e2 : n8 0 = 0 := by decide
  rw [e, e2] at h
  exact h

/-! ### Of -/
theorem Touch.below {B b lo hi : Nat} {x y : World} (h : Touch B b lo hi x y) (B' : Nat) (hB : B' ≤ b) (hB2 : B' ≤ B) : Below B' x y :=
  ⟨h.os, h.tape, h.output, h.size, fun k hk => h.block k (by omega) (by omega)⟩

theorem SumAt.touch {B b b' o lo hi : Nat} {L : List UInt8} {W W' : World} (h : SumAt b o L W) (t : Touch B b' lo hi W W') (hb : b < B) (hne : b ≠ b') : SumAt b o L W' :=
  ⟨by rw [t.other (a := ⟨b, o, none⟩) hb hne]; exact h.h, by rw [t.other (a := ⟨b, o + 1, none⟩) hb hne]; exact h.n, let ⟨q, hq, hr, hw⟩ := h.wait; ⟨q, hq, hr, fun j hj => by rw [t.other (a := ⟨b, o + 2 + j, none⟩) hb hne]; exact hw j hj⟩, fun j hj => by rw [t.other_frozen (a := ⟨b, o + j, none⟩) hb hne]; exact h.fz j hj⟩
theorem OwnB.touch {base B b lo hi : Nat} {W W' : World} {v : Value} {m : List UInt8} (h : OwnB base W v m) (t : Touch B b lo hi W W') (hB : W.heap.size ≤ B) (hb : b < base) : OwnB base W' v m := by
  obtain ⟨h1, h2 | ⟨g, c, cur, hv, hg, hh, hn, hc, hs, ht⟩⟩ := h
  · exact ⟨h1, .inl h2⟩
  · exact ⟨h1, .inr ⟨g, c, cur, hv, hg, (t.block g (by have := (Array.getElem?_eq_some_iff.1 hh).1; omega) (by omega)).trans hh, hn, hc, hs, ht⟩⟩
theorem SumAt.lt {b o : Nat} {L : List UInt8} {W : World} (h : SumAt b o L W) : b < W.heap.size := World.block_lt_of_cell? W ⟨b, o, none⟩ h.h
/-- Write, the bytes lying below the receiver's block. -/
theorem write_at (b o cap n B : Nat) (a : Option Addr) (L m : List UInt8) (w : World) (hs : SumAt b o L w) (hlen : L.length + m.length ≤ 9223372036854775807) (hn : n = m.length)
    (ha : 0 < m.length → ∃ c p, a = some ⟨c, p, none⟩ ∧ c < B ∧ ∀ j, j < m.length → w.cell? ⟨c, p + j, none⟩ = some (.int .u8 (n8 (m[j]?.getD 0)))) (hB : B ≤ b) :
    Calls Tryz.prog 86 #[.pointer (some ⟨b, o, none⟩), .slice a n cap] w fun e w' => e = .returned (.tuple #[]) ∧ SumAt b o (L ++ m) w' ∧ Touch w.heap.size b o (o + 10) w w' := by
  subst hn
  exact write_any b o cap a L m w hs hlen (fun hp => by obtain ⟨c, p, h1, h2, h3⟩ := ha hp; exact ⟨c, p, h1, by omega, by have := hs.lt; omega, h3⟩)

set_option maxHeartbeats 1000000 in
theorem of_any (cap : Nat) (a : Option Addr) (m : List UInt8) (w : World) (hlen : m.length ≤ 9223372036854775807) (ha : Bytes w a m) :
    Calls Tryz.prog 55 #[.slice a m.length cap] w fun e w' => e = .returned (.int .u64 (n64 (hsum m))) ∧ Below w.heap.size w w' := by
  have HA := Lib.hid ha
  clear ha
  go_enter Tryz.func55, Tryz.ntmps55
  go_wp2_with (first
    | (go_at_call 85; refine (new_any _).mono ?_; rintro e w1 ⟨rfl, hs1, hb1, hz1⟩; have H1 := Lib.hid (And.intro hs1 (And.intro hb1 hz1)); clear hs1 hb1 hz1)
    | (go_at_call 86; refine (write_any _ _ _ _ _ _ _ H1.out.1 (by simpa using hlen) (fun hp => by obtain ⟨c, p, h1, h2, h3⟩ := HA.out.below H1.out.2.1 hp; exact ⟨c, p, h1, (by obtain ⟨c', p', h1', h2', _⟩ := HA.out hp; rw [h1'] at h1; simp at h1; omega), h2, h3⟩)).mono ?_; rintro e w2 ⟨rfl, hs2, ht2⟩; have H2 := Lib.hid (And.intro hs2 ht2); clear hs2 ht2)
    | (go_at_call 87; refine (sum_any _ _ _ _ H2.out.1 (by simpa using hlen)).mono ?_; rintro e w3 ⟨rfl, hb3⟩; have H3 := Lib.hid hb3; clear hb3))
  go_ret
  have h2 := H2.out.2.below w.heap.size (Nat.le_refl _) (by have := H1.out.2.2; omega)
  exact ⟨rfl, (H1.out.2.1.trans h2).trans (H3.out.mono (by have := H1.out.2.2; have := h2.size; omega))⟩

end Go.Proofs.YtiemogegdoogaaaGreat
