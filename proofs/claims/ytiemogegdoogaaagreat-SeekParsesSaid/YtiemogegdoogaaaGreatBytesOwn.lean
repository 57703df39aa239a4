/-
  Slices of bytes that a call has made itself, and append onto them. Plain laws; conditions as each theorem lists them.
-/
import Derived.Test.YtiemogegdoogaaaGreatProg
import Derived.Test.YtiemogegdoogaaaGreatU64
import Derived.WalkKit
import Derived.Laws.AppendOwn
import Derived.Laws.OwnMore
import Derived.Laws.BytesArg
import Derived.Laws.IdiomStrings
namespace Go.Proofs.YtiemogegdoogaaaGreat
open Go Go.RowKit

def cellsB (m : List UInt8) : List Value := m.map fun b => .int .u8 (n8 b)
theorem cellsB_length (m : List UInt8) : (cellsB m).length = m.length := by simp [cellsB]
theorem cellsB_append (l m : List UInt8) : cellsB (l ++ m) = cellsB l ++ cellsB m := by simp [cellsB]
theorem cellsB_get (m : List UInt8) (j : Nat) (h : j < m.length) : (cellsB m)[j]? = some (.int .u8 (n8 (m[j]?.getD 0))) := by simp [cellsB, h]

/-- The slice at a (its length that of m) reads as m. -/
def Bytes (W : World) (a : Option Addr) (m : List UInt8) : Prop :=
  0 < m.length → ∃ c p, a = some ⟨c, p, none⟩ ∧ c < W.heap.size ∧ ∀ j, j < m.length → W.cell? ⟨c, p + j, none⟩ = some (.int .u8 (n8 (m[j]?.getD 0)))
theorem Bytes.below {W W' : World} {a : Option Addr} {m : List UInt8} (h : Bytes W a m) (hb : Below W.heap.size W W') : Bytes W' a m := fun hp => by
  obtain ⟨c, p, h1, h2, h3⟩ := h hp
  exact ⟨c, p, h1, Nat.lt_of_lt_of_le h2 hb.size, fun j hj => (hb.cell (p := ⟨c, p + j, none⟩) h2).trans (h3 j hj)⟩
theorem Bytes.nil (W : World) (a : Option Addr) : Bytes W a [] := fun h => by simp at h

/-- The slice v is a row of the call's own, in a block from base on (or nil), and reads as m. -/
def OwnB (base : Nat) (W : World) (v : Value) (m : List UInt8) : Prop := W.ownsRow base 5 1 v m.length (cellsB m)

theorem OwnB.nil (base : Nat) (W : World) : OwnB base W (.slice none 0 0) [] := World.ownsRow_nil _ _ _ _

theorem OwnB.bytes {base : Nat} {W : World} {a : Option Addr} {n cap : Nat} {m : List UInt8} (h : OwnB base W (.slice a n cap) m) : n = m.length ∧ m.length ≤ cap ∧ cap ≤ maxLen ∧ Bytes W a m := by
  obtain ⟨h1, h2 | ⟨g, c, cur, hv, hg, hh, hn, hc, hs, ht⟩⟩ := h
  · obtain ⟨e, e0⟩ := h2
    cases e
    obtain rfl := List.length_eq_zero_iff.1 e0
    exact ⟨rfl, Nat.le_refl _, Nat.zero_le _, Bytes.nil _ _⟩
  · cases hv
    refine ⟨rfl, hn, hc, fun hp => ⟨g, 0, rfl, (Array.getElem?_eq_some_iff.1 hh).1, fun j hj => ?_⟩⟩
    rw [Nat.zero_add, ← cellsB_get m j hj, ← ht, List.getElem?_take_of_lt (by omega)]
    simp [World.cell?, hh]

/-- A cell of an owned row, to be written. -/
theorem OwnB.cell {base : Nat} {W : World} {a : Option Addr} {n cap : Nat} {m : List UInt8} (h : OwnB base W (.slice a n cap) m) (hp : 0 < m.length) :
    ∃ g, a = some ⟨g, 0, none⟩ ∧ base ≤ g ∧ g < W.heap.size ∧ (∀ j, j < m.length → W.cell? ⟨g, j, none⟩ = some (.int .u8 (n8 (m[j]?.getD 0)))) ∧ (∀ j, W.frozen? ⟨g, j, none⟩ = false) ∧
      ∀ i x, i < m.length → OwnB base (W.setCell ⟨g, i, none⟩ (.int .u8 (n8 x))) (.slice a n cap) (m.set i x) := by
  obtain ⟨_, _, _, hb⟩ := h.bytes
  obtain ⟨c, p, e1, hlt, hc⟩ := hb hp
  obtain ⟨h1, h2 | ⟨g, c', cur, hv, hg, hh, hn, hcm, hs, ht⟩⟩ := h
  · obtain ⟨e, e0⟩ := h2; omega
  · cases hv
    cases e1
    refine ⟨c, rfl, hg, hlt, fun j hj => by simpa using hc j hj, fun j => by simp [World.frozen?, hh], fun i x hi => ⟨by simp [cellsB], .inr ⟨c, _, _, by rw [List.length_set], hg, heap_setCell_same W c i cur _ _ hh, by simpa using hn, hcm, by simpa using hs, ?_⟩⟩⟩
    simp only [List.length_set, Nat.mul_one] at ht ⊢
    rw [Array.toList_setIfInBounds, List.take_set, ht]
    simp [cellsB, List.map_set]

theorem info8 : (Tryz.prog.info? 5).map (fun i => (i.zero, i.size, i.bytes)) = some (some (.int .u8 0), 1, 1) := by kernel_rfl

/-- **append(v, x...) onto a row of the call's own, whatever x.** -/
theorem run_appendB (w : World) (base T : Nat) (v : Value) (m : List UInt8) (hown : OwnB base w v m) (a : Option Addr) (cap : Nat) (m2 : List UInt8) (hx : Bytes w a m2) (hlen : m.length + m2.length ≤ 140737488355328) (hbase : base ≤ w.heap.size) (hcap : a = none → cap = 0 ∧ m2 = []) :
    ∃ a' cap' w', (Builtin.append_ #[22, 22] T #[v, .slice a m2.length cap]).run Tryz.prog w = .ok (.slice a' (m.length + m2.length) cap') w' ∧ OwnB base w' (.slice a' (m.length + m2.length) cap') (m ++ m2) ∧ w.grownBy w' v.ownBlock := by
  obtain ⟨i0, hi, hz0, hz1, hz2⟩ := info_parts info8
  have hmx : m.length + m2.length ≤ maxLen := by unfold maxLen; omega
  cases a with
  | none =>
    obtain ⟨rfl, rfl⟩ := hcap rfl
    obtain ⟨a', c', hv⟩ : ∃ a' c', v = .slice a' m.length c' := by
      rcases hown.2 with ⟨rfl, h0⟩ | ⟨g, c, cur, hv, _⟩
      · exact ⟨none, 0, by rw [h0]⟩
      · exact ⟨_, _, hv⟩
    subst hv
    exact ⟨a', c', w, run_append_owned_none (P := Tryz.prog) (w := w) base 22 T 5 i0 1 Tryz.underlying22 hi _ _ _ hown, by simpa using hown, World.grownBy.refl _ _⟩
  | some x =>
    have hcells : ∀ j u, (cellsB m2)[j]? = some u → w.cell? (x.add j) = some u := fun j u hu => by
      have hj : j < m2.length := by simpa [cellsB] using (List.getElem?_eq_some_iff.1 hu).1
      obtain ⟨c, p, e1, _, hc⟩ := hx (by omega)
      cases e1
      rw [cellsB_get m2 j hj] at hu
      cases hu
      rw [Addr.add_lit]; exact hc j hj
    obtain ⟨v', w', hr, h1, h2, h3⟩ := run_append_own (P := Tryz.prog) w base 22 T 5 i0 (.int .u8 0) 1 1 Tryz.underlying22 hi hz0 hz1 hz2 rfl (by decide) v m.length (cellsB m) hown x m2.length cap (cellsB m2)
      (by simp [cellsB]) hcells (by intro u hu; obtain ⟨_, _, rfl⟩ := List.mem_map.1 hu; rfl) hmx (by omega) hbase
    have h1' : OwnB base w' v' (m ++ m2) := by unfold OwnB; rw [List.length_append, cellsB_append]; exact h1
    obtain ⟨a', c', hv⟩ : ∃ a' c', v' = .slice a' (m.length + m2.length) c' := by
      rcases h1.2 with ⟨rfl, h0⟩ | ⟨g, c, cur, hv, _⟩
      · exact ⟨none, 0, by rw [h0]⟩
      · exact ⟨_, _, hv⟩
    subst hv
    exact ⟨a', c', w', hr, h1', h2⟩

/-- As a law of the walk; of a guarded operation too, where its guard lets it run. -/
theorem wpList_appendB {w : World} {ops : Array Oper} {rest : List Oper} {o : Oper} {a : Act} {Q : Exit → Act → World → Prop} (hw : Region.wanted o (yielded ops a.tmps) = true) (s x : Operand)
    (ho : o.op = .call { callee := .builtin .append, args := #[s, x], argTypes := #[22, 22] })
    (base : Nat) (v : Value) (m : List UInt8) (hs : a.eval s = v) (hown : OwnB base w v m) (ao : Option Addr) (k cap : Nat) (m2 : List UInt8) (hx : a.eval x = .slice ao k cap) (hk : k = m2.length) (hb : Bytes w ao m2)
    (hlen : m.length + m2.length ≤ 140737488355328) (hbase : base ≤ w.heap.size) (hcap : ao = none → cap = 0 ∧ m2 = [])
    (h : ∀ a' cap' w', OwnB base w' (.slice a' (m.length + m2.length) cap') (m ++ m2) → w.grownBy w' v.ownBlock → wpList Tryz.prog ops Q rest (a.put o.dst (.slice a' (m.length + m2.length) cap')) w') :
    wpList Tryz.prog ops Q (o :: rest) a w := by
  subst hk
  refine wpList_step fun K hK => ?_
  rw [if_pos hw]
  obtain ⟨a', c', w', hr, h1, h2⟩ := run_appendB w base o.type v m hown ao cap m2 hb hlen hbase hcap
  unfold Oper.wp execOp
  simp only [ho, resolve, invoke, builtin, Sem.run_bind, Sem.run_pure, Result.andThen_ok, List.map_toArray, List.map_cons, List.map_nil, hs, hx, hr]
  exact hK _ _ (h a' c' w' h1 h2)

theorem madeCells_bytes (n : Nat) : (madeCells (Value.int .u8 0).cells (n * 1)).toList = cellsB (List.replicate n 0) := by
  rw [Nat.mul_one, show (Value.int .u8 0).cells = #[.int .u8 0] from rfl, toList_madeCells_one]
  simp only [cellsB, List.map_replicate]
  rfl
/-- make([]byte, n). -/
theorem wpList_makeB {w : World} {ops : Array Oper} {rest : List Oper} {o : Oper} {a : Act} {Q : Exit → Act → World → Prop} (hg : o.guard = none) (l c : Operand) (hop : o.op = Op.makeSlice 22 l c)
    (base : Nat) (kl kc : IntKind) (L C : Int) (n : Nat) (hl : a.eval l = .int kl L) (hc : a.eval c = .int kc C) (hL : L = (n : Int)) (hC : C = (n : Int)) (hn : n ≤ 281474976710656) (hbase : base ≤ w.heap.size)
    (h : ∀ w', OwnB base w' (.slice (some ⟨w.heap.size, 0, none⟩) n n) (List.replicate n 0) → w.grownBy w' none → wpList Tryz.prog ops Q rest (a.put o.dst (.slice (some ⟨w.heap.size, 0, none⟩) n n)) w') :
    wpList Tryz.prog ops Q (o :: rest) a w := by
  obtain ⟨i0, hi, hz0, hz1, hz2⟩ := info_parts info8
  refine wpList_make_full w hg l c 22 hop base 5 i0 (.int .u8 0) 1 Tryz.underlying22 hi hz0 hz1 kl kc L C n hl hc hL hC (by rw [hz2]; omega) (by unfold maxLen; omega) hbase ?_
  intro w' h1 h2
  refine h w' ?_ h2
  rw [madeCells_bytes] at h1
  unfold OwnB
  rw [List.length_replicate]
  exact h1

theorem grown_below {B : Nat} {w w' : World} {row : Option Nat} (hg : w.grownBy w' row) (hB : B ≤ w.heap.size) (hr : ∀ k, row = some k → B ≤ k) : Below B w w' :=
  (Below.refl B w).grown hg hB hr
theorem grown_none {w w' : World} (hg : w.grownBy w' (Value.slice none 0 0).ownBlock) : Below w.heap.size w w' :=
  grown_below hg (Nat.le_refl _) (fun k e => by cases e)

theorem OwnB.below {base : Nat} {W W' : World} {v : Value} {m : List UInt8} (h : OwnB base W v m) (hb : Below W.heap.size W W') : OwnB base W' v m := by
  obtain ⟨h1, h2 | ⟨g, c, cur, hv, hg, hh, hn, hc, hs, ht⟩⟩ := h
  · exact ⟨h1, .inl h2⟩
  · exact ⟨h1, .inr ⟨g, c, cur, hv, hg, (hb.block g (Array.getElem?_eq_some_iff.1 hh).1).trans hh, hn, hc, hs, ht⟩⟩
theorem OwnB.lt {base : Nat} {W : World} {v : Value} {m : List UInt8} (h : OwnB base W v m) : ∀ k, v.ownBlock = some k → base ≤ k ∧ k < W.heap.size := World.ownsRow.lt h
/-- An append onto an owned row: below the row's base nothing has turned. -/
theorem OwnB.grown {base : Nat} {W W' : World} {v : Value} {m : List UInt8} (h : OwnB base W v m) (hg : W.grownBy W' v.ownBlock) (hbase : base ≤ W.heap.size) : Below base W W' :=
  grown_below hg hbase (fun k e => (h.lt k e).1)

theorem OwnB.of_none {base : Nat} {W : World} {a : Option Addr} {n cap : Nat} {m : List UInt8} (h : OwnB base W (.slice a n cap) m) (e : a = none) : cap = 0 ∧ m = [] := by
  subst e
  rcases h.2 with ⟨e, h0⟩ | ⟨g, c, cur, hv, _⟩
  · cases e; exact ⟨rfl, List.length_eq_zero_iff.1 h0⟩
  · cases hv
/-- string(b). -/
theorem run_convB {W : World} {a : Option Addr} {m : List UInt8} (h : Bytes W a m) (n cap : Nat) (hn : n = m.length) (hnil : a = none → m = []) :
    (convert 22 9 (.slice a n cap)).run Tryz.prog W = .ok (.string ⟨m.toArray⟩) W := by
  subst hn
  cases a with
  | none =>
    obtain rfl := hnil rfl
    exact run_convert_bytes_nil (P := Tryz.prog) W 22 5 Tryz.underlying22 Tryz.underlying5 0 cap 9 Tryz.underlying9
  | some x =>
    refine run_convert_bytes_back (P := Tryz.prog) W 22 9 5 x cap m Tryz.underlying22 Tryz.underlying5 Tryz.underlying9 (fun j hj => ?_)
    obtain ⟨c, p, e, _, hc⟩ := h (by omega)
    cases e
    rw [Addr.add_lit, hc j hj]
    simp [hj, n8]

end Go.Proofs.YtiemogegdoogaaaGreat
