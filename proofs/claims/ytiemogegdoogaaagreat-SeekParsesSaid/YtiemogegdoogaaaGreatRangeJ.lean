/-
  A range over a function whose iterator keeps state of its own in cells: a law of the walk. No condition beyond those that the theorem lists; it names no function of the program.
-/
import Derived.RangeFuncNested
import Derived.RangeFuncBound
import Derived.RangeFuncCalls
import Derived.RangeFuncLeaves
import Derived.RangeFuncBox
import Derived.WalkKit
import Derived.OwnWalkIn
import Derived.TacticsInMore
import Derived.LoopNIn
import Derived.LoopIn
namespace Go.Proofs.YtiemogegdoogaaaGreat
open Go Go.RowKit

/-- The two worlds hold the same cells, and below B all is the same; blocks that are no cells may have turned from B on. -/
structure Same (B : Nat) (W W' : World) : Prop where
  cell : ∀ a, W'.cell? a = W.cell? a
  frozen : ∀ a, W'.frozen? a = W.frozen? a
  size : W'.heap.size = W.heap.size
  below : Below B W W'

theorem Same.of_putObj {B : Nat} {W : World} {l : Nat} {o : Obj} (o' : Obj) (hl : B ≤ l) (h : W.heap[l]? = some o) (ho : o.isCells = false) (ho' : o'.isCells = false) : Same B W (W.putObj l o') := by
  have hlt : l < W.heap.size := (Array.getElem?_eq_some_iff.1 h).1
  refine ⟨fun a => ?_, fun a => ?_, by simp, ?_⟩
  · by_cases e : a.block = l
    · unfold World.cell?
      rw [e, World.putObj_heap_same hlt, h]
      cases o <;> cases o' <;> simp_all [Obj.isCells]
    · unfold World.cell?
      rw [World.putObj_heap_other e]
  · by_cases e : a.block = l
    · unfold World.frozen?
      rw [e, World.putObj_heap_same hlt, h]
      cases o <;> cases o' <;> simp_all [Obj.isCells]
    · unfold World.frozen?
      rw [World.putObj_heap_other e]
  · exact ⟨rfl, rfl, rfl, by simp, fun k hk => World.putObj_heap_other (by omega)⟩

theorem Same.trans {B : Nat} {X Y Z : World} (h : Same B X Y) (k : Same B Y Z) : Same B X Z :=
  ⟨fun a => (k.cell a).trans (h.cell a), fun a => (k.frozen a).trans (h.frozen a), k.size.trans h.size, h.below.trans k.below⟩

/-- How the body of a round may be left. -/
def postJ {α : Type} (B : Nat) (I' : α → World → Prop) (Ix : Code → α → World → Prop) (x : α) (W : World) : Exit → Act → World → Prop
  | .normal, _, W' => KeepsFrom B W W' ∧ I' x W'
  | .ret, _, W' => KeepsFrom B W W' ∧ Ix .ret x W'
  | .exit id, _, W' => KeepsFrom B W W' ∧ Ix (.exit id) x W'
  | .goto t, _, W' => KeepsFrom B W W' ∧ Ix (.goto t) x W'
  | .panic _, _, _ => False
  | .outgrown, _, _ => False

variable {F : Fence} {n : Nat} {P : Program}

/-- **THE STATEMENT 'for .. := range g { .. }', g AN ITERATOR THAT MAY KEEP STATE IN CELLS.** I x: what holds where yield is called at x; I' x: behind a round that goes on; Ix c x: behind a round that has left by c; S: where the iterator has ended by itself; T c: where it has been stopped. -/
theorem wpIn_rangeFunc_J {α : Type} {g : Operand} {ps : Array Tmp} {assign body : Code} {Q : Exit → Act → World → Prop} {a : Act} {w : World}
    (hro : F.round = none) (h1 : F.depth.isSome = true → 1 ≤ n) {gf : Nat} {lb : Array Value} (hg : a.eval g = .func (.func gf) #[] lb) (hFg : F.fn gf) (eg : ∀ args w, (callFunc gf args).run P w = .ok (.enter gf args) w)
    (encs : α → Array Value) (hps : ∀ x, (encs x).size = ps.size)
    (I I' : α → World → Prop) (Ix : Code → α → World → Prop) (S : World → Prop) (T : Code → World → Prop)
    (hI : ∀ x W W', Same w.heap.size W W' → I x W → I x W') (hI' : ∀ x W W', Same w.heap.size W W' → I' x W → I' x W') (hIx : ∀ c x W W', Same w.heap.size W W' → Ix c x W → Ix c x W')
    (hS : ∀ W W', Same w.heap.size W W' → S W → S W') (hT : ∀ c W W', Same w.heap.size W W' → T c W → T c W')
    (iter : ∀ (l : Nat) (W1 : World) (Bk : World → Prop) (Bd : Code → World → Prop), W1.heap.size = w.heap.size + 2 → Below w.heap.size w W1 →
      (∀ A B, KeepsFrom w.heap.size A B → Bk A → Bk B) → (∀ c A B, KeepsFrom w.heap.size A B → Bd c A → Bd c B) → Bk W1 →
      (∀ x W, I x W → Bk W → YieldAt F (n - 1 - 1) P l (encs x) W fun e W' =>
        (e = .returned (.bool true) ∧ I' x W' ∧ Bk W') ∨ (e = .returned (.bool false) ∧ ∃ c, Ix c x W' ∧ Bd c W')) →
      CallsIn F (n - 1) P gf (#[.func (.yield l) #[] #[]] ++ lb) W1 fun e W' => (∃ v, e = .returned v) ∧ ((S W' ∧ Bk W') ∨ (∃ c, T c W' ∧ Bd c W')))
    (a₁ : α → Act)
    (hassign : ∀ (l : Nat) (x : α) (W : World) (K : Act → World → Prop), K (a₁ x) W →
      assign.wpIn (F.inRound l) (n - 1 - 1) P (Exit.then K (fun _ _ _ => False)) { tmps := (ps.zip (encs x)).foldl (fun t (p, v) => t.setIfInBounds p v) a.tmps, defers := [] } W)
    (hbody : ∀ (l : Nat) (x : α) (W : World), I x W → body.wpIn (F.inRound l) (n - 1 - 1) P (postJ w.heap.size I' Ix x W) (a₁ x) W)
    (hdone : ∀ (W : World), S W → W.heap[w.heap.size]? = some (.deferred (some [])) → Q .normal { a with defers := { target := .collected w.heap.size, args := #[] } :: a.defers } W)
    (hstop : ∀ (c : Code) (W : World), T c W → W.heap[w.heap.size]? = some (.deferred (some [])) → c.wpIn F n P Q { a with defers := { target := .collected w.heap.size, args := #[] } :: a.defers } W) :
    (Code.rangeFunc g ps assign body).wpIn F n P Q a w := by
  refine wpIn_rangeFunc ?_
  intro fn hfn
  rw [hro]
  obtain ⟨rec, hrec⟩ : ∃ rec : LoopState → Option Code → Loop, rec = fun st pe => { state := st, pending := pe, fn, tmps := a.tmps, params := ps, assign, body, defers := w.heap.size } := ⟨_, rfl⟩
  obtain ⟨W1, hW1⟩ : ∃ W1, (w.alloc (.deferred (some []))).alloc (.loop (rec .ready none)) = W1 := ⟨_, rfl⟩
  have hL1 : W1.heap[w.heap.size + 1]? = some (.loop (rec .ready none)) := by
    rw [← hW1]; have := World.alloc_heap_new (w.alloc (.deferred (some []))) (.loop (rec .ready none)); rwa [World.size_alloc] at this
  have hK1 : W1.heap[w.heap.size]? = some (.deferred (some [])) := by
    rw [← hW1]; exact (Below.heap_alloc _ _ _ (by simp)).trans (World.alloc_heap_new w _)
  have hb1 : Below w.heap.size w W1 := by
    rw [← hW1]; exact (((Below.refl _ w).alloc (Nat.le_refl _) _).alloc (by simp) _)
  have hs1 : W1.heap.size = w.heap.size + 2 := by rw [← hW1]; simp
  refine ⟨w.heap.size + 1, [{ target := .collected w.heap.size, args := #[] }], W1, { target := .fn (.func gf) lb, args := #[.func (.yield (w.heap.size + 1)) #[] #[]] }, W1, gf,
    #[.func (.yield (w.heap.size + 1)) #[] #[]] ++ lb, W1, ?_, ?_, ?_, ?_, h1, ?_⟩
  · rw [← hW1, hrec]; exact run_enterLoop_outer _ _ _ _ _
  · simp only [resolve, hg]
    simp [go_sem]
  · intro f' hf'; simp [Target.leads] at hf'; subst hf'; exact hFg
  · simp [invoke, go_sem, eg]
  · refine (iter (w.heap.size + 1) W1
      (fun W => W.heap[w.heap.size + 1]? = some (.loop (rec .ready none)) ∧ W.heap[w.heap.size]? = some (.deferred (some [])))
      (fun c W => W.heap[w.heap.size + 1]? = some (.loop (rec .done (some c))) ∧ W.heap[w.heap.size]? = some (.deferred (some [])))
      hs1 hb1
      (fun A B h hs => ⟨h.same _ _ (by omega) hs.1 rfl, h.same _ _ (Nat.le_refl _) hs.2 rfl⟩)
      (fun c A B h hs => ⟨h.same _ _ (by omega) hs.1 rfl, h.same _ _ (Nat.le_refl _) hs.2 rfl⟩)
      ⟨hL1, hK1⟩ ?_).mono ?_
    · rintro x W hi ⟨hl, hk⟩
      have hlt : w.heap.size + 1 < W.heap.size := (Array.getElem?_eq_some_iff.1 hl).1
      have hy := run_yield (P := P) (args := encs x) hl (by rw [hrec]; exact hps x)
      rw [hrec] at hy
      refine ⟨fn, _, assign, body, hy, roundIn_of_wpIn hfn (hassign _ x W _ ⟨_, run_beginRound hl (by rw [hrec]), ?_⟩)⟩
      have hl2 : (W.putObj (w.heap.size + 1) (.loop { rec .ready none with state := .busy })).heap[w.heap.size + 1]? = some (.loop { rec .ready none with state := .busy }) := World.putObj_heap_same hlt
      have hk2 : (W.putObj (w.heap.size + 1) (.loop { rec .ready none with state := .busy })).heap[w.heap.size]? = some (.deferred (some [])) := (World.putObj_heap_other (by omega)).trans hk
      refine wpIn_mono (hbody _ x _ (hI _ _ _ (Same.of_putObj _ (by omega) hl rfl rfl) hi)) ?_
      have fin : ∀ (jump : Option Code) (W3 : World), KeepsFrom w.heap.size (W.putObj (w.heap.size + 1) (.loop { rec .ready none with state := .busy })) W3 →
          (Instr.endRound (w.heap.size + 1) jump).run P W3 = .ok (.bool jump.isNone) (W3.putObj (w.heap.size + 1) (.loop (rec (if jump.isNone then .ready else .done) jump))) ∧
          Same w.heap.size W3 (W3.putObj (w.heap.size + 1) (.loop (rec (if jump.isNone then .ready else .done) jump))) ∧
          (W3.putObj (w.heap.size + 1) (.loop (rec (if jump.isNone then .ready else .done) jump))).heap[w.heap.size + 1]? = some (.loop (rec (if jump.isNone then .ready else .done) jump)) ∧
          (W3.putObj (w.heap.size + 1) (.loop (rec (if jump.isNone then .ready else .done) jump))).heap[w.heap.size]? = some (.deferred (some [])) := fun jump W3 hk3 => by
        have hl3 := hk3.same _ _ (by omega) hl2 rfl
        have := run_endRound (P := P) jump hl3
        rw [hrec] at this ⊢
        exact ⟨this, Same.of_putObj _ (by omega) hl3 rfl rfl, World.putObj_heap_same (Array.getElem?_eq_some_iff.1 hl3).1, (World.putObj_heap_other (by omega)).trans (hk3.same _ _ (Nat.le_refl _) hk2 rfl)⟩
      rintro e a3 W3 hp
      cases e with
      | normal =>
        obtain ⟨hk3, hi3⟩ := hp
        obtain ⟨hr, hsm, hl4, hk4⟩ := fin none W3 hk3
        exact ⟨_, _, hr, .inl ⟨rfl, hI' _ _ _ hsm hi3, hl4, hk4⟩⟩
      | ret =>
        obtain ⟨hk3, hi3⟩ := hp
        obtain ⟨hr, hsm, hl4, hk4⟩ := fin (some .ret) W3 hk3
        exact ⟨_, _, hr, .inr ⟨rfl, .ret, hIx _ _ _ _ hsm hi3, hl4, hk4⟩⟩
      | exit id =>
        obtain ⟨hk3, hi3⟩ := hp
        obtain ⟨hr, hsm, hl4, hk4⟩ := fin (some (.exit id)) W3 hk3
        exact ⟨_, _, hr, .inr ⟨rfl, .exit id, hIx _ _ _ _ hsm hi3, hl4, hk4⟩⟩
      | goto t =>
        obtain ⟨hk3, hi3⟩ := hp
        obtain ⟨hr, hsm, hl4, hk4⟩ := fin (some (.goto t)) W3 hk3
        exact ⟨_, _, hr, .inr ⟨rfl, .goto t, hIx _ _ _ _ hsm hi3, hl4, hk4⟩⟩
      | panic ch => exact hp.elim
      | outgrown => exact hp.elim
    · rintro e W2 ⟨⟨v, rfl⟩, (⟨hi, hl, hk⟩ | ⟨c, hi, hl, hk⟩)⟩
      · exact ⟨none, _, by have := run_endLoop (P := P) hl (by rw [hrec]; simp); rw [hrec] at this; exact this, hdone _ (hS _ _ (Same.of_putObj _ (by omega) hl rfl rfl) hi) ((World.putObj_heap_other (by omega)).trans hk)⟩
      · exact ⟨some c, _, by have := run_endLoop (P := P) hl (by rw [hrec]; simp); rw [hrec] at this; exact this, hstop c _ (hT _ _ _ (Same.of_putObj _ (by omega) hl rfl rfl) hi) ((World.putObj_heap_other (by omega)).trans hk)⟩

end Go.Proofs.YtiemogegdoogaaaGreat
