/-
  The checksum of layer 4 in plain Lean, with its laws: it is a fold over groups of eight bytes, each step of which is injective. No condition beyond those that each theorem lists.
-/
import Derived.Test.YtiemogegdoogaaaGreatU64
namespace Go.Proofs.YtiemogegdoogaaaGreat
open Go
set_option linter.unusedSimpArgs false

def K1 : UInt64 := 11400714819323198485
def K2 : UInt64 := 15485907386658061715
def K3 : UInt64 := 18397679294719823053

def rotl31 (x : UInt64) : UInt64 := x <<< 31 ||| x >>> 33
def sstep (h w : UInt64) : UInt64 := rotl31 (h ^^^ (w * K1)) * K2
/-- The little-endian number of some bytes. -/
def le : List UInt8 → Nat
  | [] => 0
  | b :: r => b.toNat + 256 * le r
def word (l : List UInt8) : UInt64 := UInt64.ofNat (le l)
/-- Group i of a list: eight bytes, or what is left. -/
def group (l : List UInt8) (i : Nat) : List UInt8 := (l.drop (8 * i)).take 8
def hgroups (l : List UInt8) : Nat → UInt64
  | 0 => K3
  | j + 1 => sstep (hgroups l j) (word (group l j))
def fin (h : UInt64) (n : Nat) : UInt64 :=
  let a := h ^^^ UInt64.ofNat n
  let b := (a ^^^ (a >>> 29)) * K1
  b ^^^ (b >>> 32)
def hfull (l : List UInt8) : UInt64 := hgroups l (l.length / 8)
def rest (l : List UInt8) : List UInt8 := l.drop (8 * (l.length / 8))
/-- THE CHECKSUM. -/
def hsum (l : List UInt8) : UInt64 := fin (hgroups l ((l.length + 7) / 8)) l.length

theorem hgroups_append (l m : List UInt8) (j : Nat) (h : 8 * j ≤ l.length) : hgroups (l ++ m) j = hgroups l j := by
  induction j with
  | zero => rfl
  | succ j ih =>
    unfold hgroups
    rw [ih (by omega)]
    congr 2
    unfold group
    rw [List.drop_append_of_le_length (by omega), List.take_append_of_le_length (by simp; omega)]

theorem rest_length (l : List UInt8) : (rest l).length = l.length % 8 := by
  unfold rest; simp; omega

theorem group_last (l : List UInt8) : group l (l.length / 8) = rest l := by
  unfold group rest
  exact List.take_of_length_le (by simp; omega)

/-- One byte more, the group not yet full. -/
theorem hfull_snoc_not (l : List UInt8) (x : UInt8) (h : (l.length + 1) % 8 ≠ 0) : hfull (l ++ [x]) = hfull l := by
  unfold hfull
  have e : (l ++ [x]).length / 8 = l.length / 8 := by simp; omega
  rw [e, hgroups_append _ _ _ (by omega)]
theorem rest_snoc_not (l : List UInt8) (x : UInt8) (h : (l.length + 1) % 8 ≠ 0) : rest (l ++ [x]) = rest l ++ [x] := by
  unfold rest
  have e : (l ++ [x]).length / 8 = l.length / 8 := by simp; omega
  rw [e, List.drop_append_of_le_length (by omega)]
/-- One byte more, and the group is full. -/
theorem hfull_snoc_full (l : List UInt8) (x : UInt8) (h : (l.length + 1) % 8 = 0) : hfull (l ++ [x]) = sstep (hfull l) (word (rest l ++ [x])) := by
  unfold hfull
  have e : (l ++ [x]).length / 8 = l.length / 8 + 1 := by simp; omega
  rw [e]
  show sstep (hgroups (l ++ [x]) (l.length / 8)) (word (group (l ++ [x]) (l.length / 8))) = _
  rw [hgroups_append _ _ _ (by omega)]
  have e2 : group (l ++ [x]) (l.length / 8) = rest l ++ [x] := by
    unfold group rest
    rw [List.drop_append_of_le_length (by omega)]
    exact List.take_of_length_le (by simp; omega)
  rw [e2]
theorem rest_snoc_full (l : List UInt8) (x : UInt8) (h : (l.length + 1) % 8 = 0) : rest (l ++ [x]) = [] := by
  have := rest_length (l ++ [x])
  simp only [List.length_append, List.length_cons, List.length_nil, Nat.zero_add, h] at this
  exact List.length_eq_zero_iff.1 this

theorem hsum_whole (l : List UInt8) (h : l.length % 8 = 0) : hsum l = fin (hfull l) l.length := by
  unfold hsum hfull
  have e : (l.length + 7) / 8 = l.length / 8 := by omega
  rw [e]
theorem hsum_rest (l : List UInt8) (h : l.length % 8 ≠ 0) : hsum l = fin (sstep (hfull l) (word (rest l))) l.length := by
  unfold hsum hfull
  have e : (l.length + 7) / 8 = l.length / 8 + 1 := by omega
  rw [e]
  show fin (sstep _ (word (group l (l.length / 8)))) _ = _
  rw [group_last]

/-! ### le -/
theorem le_lt (l : List UInt8) : le l < 256 ^ l.length := by
  induction l with
  | nil => simp [le]
  | cons b r ih =>
    have := b.toNat_lt
    simp only [le, List.length_cons, Nat.pow_succ]
    omega
theorem le_append (l m : List UInt8) : le (l ++ m) = le l + 256 ^ l.length * le m := by
  induction l with
  | nil => simp [le]
  | cons b r ih => simp only [List.cons_append, le, ih, List.length_cons, Nat.pow_succ]; rw [Nat.mul_add, Nat.mul_comm (256 ^ r.length) 256, Nat.mul_assoc]; omega
theorem le_inj (l m : List UInt8) (h : l.length = m.length) (e : le l = le m) : l = m := by
  induction l generalizing m with
  | nil => cases m with | nil => rfl | cons _ _ => simp at h
  | cons b r ih =>
    cases m with
    | nil => simp at h
    | cons c s =>
      simp only [le] at e
      have h1 := b.toNat_lt
      have h2 := c.toNat_lt
      have e1 : b.toNat = c.toNat := by omega
      have e2 : le r = le s := by omega
      rw [UInt8.toNat_inj.1 e1, ih s (by simpa using h) e2]
theorem pow256_le (n : Nat) (h : n ≤ 8) : 256 ^ n ≤ 18446744073709551616 :=
  Nat.le_trans (Nat.pow_le_pow_right (by decide) h) (by decide)
theorem word_toNat (l : List UInt8) (h : l.length ≤ 8) : (word l).toNat = le l := by
  unfold word
  have h1 := le_lt l
  have h2 := pow256_le _ h
  exact UInt64.toNat_ofNat_of_lt' (by simp [UInt64.size]; omega)
theorem word_inj (l m : List UInt8) (h : l.length = m.length) (h8 : l.length ≤ 8) (e : word l = word m) : l = m := by
  refine le_inj l m h ?_
  rw [← word_toNat l h8, ← word_toNat m (h ▸ h8), e]
/-- A byte laid on by or. -/
theorem word_or (l : List UInt8) (x : UInt8) (h : l.length < 8) : word l ||| UInt64.ofNat (x.toNat * 2 ^ (8 * l.length)) = word (l ++ [x]) := by
  have hx := x.toNat_lt
  have h1 := le_lt l
  have e : 256 ^ l.length = 2 ^ (8 * l.length) := by rw [Nat.pow_mul]
  have h2 := pow256_le (l.length + 1) (by omega)
  rw [Nat.pow_succ] at h2
  have h3 : x.toNat * 2 ^ (8 * l.length) < 18446744073709551616 := by
    rw [← e]
    have : x.toNat * 256 ^ l.length ≤ 255 * 256 ^ l.length := Nat.mul_le_mul_right _ (by omega)
    omega
  apply UInt64.toNat_inj.1
  rw [UInt64.toNat_or, word_toNat _ (by omega), word_toNat _ (by simp; omega), UInt64.toNat_ofNat_of_lt' (by simp [UInt64.size]; omega), le_append, e]
  simp only [le, Nat.mul_zero, Nat.add_zero]
  rw [Nat.or_comm, Nat.mul_comm, ← Nat.two_pow_add_eq_or_of_lt (by omega)]
  omega

/-! ### Each step is injective -/
theorem rotl31_inj {x y : UInt64} (h : rotl31 x = rotl31 y) : x = y := by
  unfold rotl31 at h
  have hb : ∀ i, (x <<< 31 ||| x >>> 33).toBitVec.getLsbD i = (y <<< 31 ||| y >>> 33).toBitVec.getLsbD i := by rw [h]; intro i; rfl
  apply UInt64.toBitVec_inj.1
  apply BitVec.eq_of_getLsbD_eq
  intro i hi
  have c31 : (31 : UInt64).toBitVec.toNat = 31 := by decide
  have c33 : (33 : UInt64).toBitVec.toNat = 33 := by decide
  by_cases h33 : i < 33
  · have := hb (i + 31)
    simp [BitVec.getLsbD_or, BitVec.getLsbD_shiftLeft, BitVec.getLsbD_ushiftRight, show i + 31 < 64 by omega, BitVec.getLsbD_of_ge _ _ (show 64 ≤ 33 + (i + 31) by omega)] at this
    exact this
  · have := hb (i - 33)
    simp [BitVec.getLsbD_or, BitVec.getLsbD_shiftLeft, BitVec.getLsbD_ushiftRight, show i - 33 < 31 by omega, show 33 + (i - 33) = i by omega] at this
    exact this
theorem mulK1_inj {x y : UInt64} (h : x * K1 = y * K1) : x = y := by
  have e : ∀ z : UInt64, z * K1 * 17428512612931826493 = z := fun z => by rw [UInt64.mul_assoc, show K1 * 17428512612931826493 = 1 by decide, UInt64.mul_one]
  rw [← e x, h, e y]
theorem mulK2_inj {x y : UInt64} (h : x * K2 = y * K2) : x = y := by
  have e : ∀ z : UInt64, z * K2 * 14982988110149298331 = z := fun z => by rw [UInt64.mul_assoc, show K2 * 14982988110149298331 = 1 by decide, UInt64.mul_one]
  rw [← e x, h, e y]
theorem xor_right_inj {x y z : UInt64} (h : x ^^^ z = y ^^^ z) : x = y := by
  have := congrArg (· ^^^ z) h
  simpa [UInt64.xor_assoc] using this
theorem xor_left_inj {x y z : UInt64} (h : z ^^^ x = z ^^^ y) : x = y := by
  rw [UInt64.xor_comm z x, UInt64.xor_comm z y] at h; exact xor_right_inj h
theorem xorshift_inj (k : Nat) (hk : 0 < k) (hk2 : k < 64) {x y : UInt64} (h : x ^^^ (x >>> UInt64.ofNat k) = y ^^^ (y >>> UInt64.ofNat k)) : x = y := by
  have ek : (UInt64.ofNat k).toBitVec.toNat = k := by
    show (UInt64.ofNat k).toNat = k
    exact UInt64.toNat_ofNat_of_lt' (by simp [UInt64.size]; omega)
  have hb : ∀ i, (x.toBitVec.getLsbD i ^^ x.toBitVec.getLsbD (k + i)) = (y.toBitVec.getLsbD i ^^ y.toBitVec.getLsbD (k + i)) := fun i => by
    have : (x ^^^ (x >>> UInt64.ofNat k)).toBitVec.getLsbD i = (y ^^^ (y >>> UInt64.ofNat k)).toBitVec.getLsbD i := by rw [h]
    simpa [BitVec.getLsbD_xor, BitVec.getLsbD_ushiftRight, ek, Nat.mod_eq_of_lt hk2] using this
  apply UInt64.toBitVec_inj.1
  apply BitVec.eq_of_getLsbD_eq
  have key : ∀ m i, 64 - i ≤ m → x.toBitVec.getLsbD i = y.toBitVec.getLsbD i := by
    intro m
    induction m with
    | zero => intro i hi; rw [BitVec.getLsbD_of_ge _ _ (by omega), BitVec.getLsbD_of_ge _ _ (by omega)]
    | succ m ih =>
      intro i hi
      have h1 := hb i
      have h2 := ih (k + i) (by omega)
      rw [h2] at h1
      simpa using h1
  intro i _
  exact key 64 i (by omega)
theorem sstep_w_inj {h w v : UInt64} (e : sstep h w = sstep h v) : w = v :=
  mulK1_inj (xor_left_inj (rotl31_inj (mulK2_inj e)))
theorem sstep_h_inj {h g w : UInt64} (e : sstep h w = sstep g w) : h = g :=
  xor_right_inj (rotl31_inj (mulK2_inj e))
theorem fin_inj {h g : UInt64} {n : Nat} (e : fin h n = fin g n) : h = g := by
  unfold fin at e
  have e32 : (32 : UInt64) = UInt64.ofNat 32 := rfl
  have e29 : (29 : UInt64) = UInt64.ofNat 29 := rfl
  simp only [e32, e29] at e
  exact xor_right_inj (xorshift_inj 29 (by decide) (by decide) (mulK1_inj (xorshift_inj 32 (by decide) (by decide) e)))

/-- Two lists that differ in one group have different sums. -/
theorem hgroups_differ (l m : List UInt8) (hlen : l.length = m.length) (k : Nat) (hsame : ∀ i, i ≠ k → group l i = group m i) (hdiff : group l k ≠ group m k) :
    (∀ j, j ≤ k → hgroups l j = hgroups m j) ∧ ∀ j, k < j → hgroups l j ≠ hgroups m j := by
  have h1 : ∀ j, j ≤ k → hgroups l j = hgroups m j := by
    intro j
    induction j with
    | zero => intro _; rfl
    | succ j ih => intro hj; unfold hgroups; rw [ih (by omega), hsame j (by omega)]
  refine ⟨h1, fun j => ?_⟩
  induction j with
  | zero => intro h; omega
  | succ j ih =>
    intro hj e
    unfold hgroups at e
    by_cases hjk : j = k
    · subst hjk
      rw [h1 j (Nat.le_refl _)] at e
      refine hdiff (word_inj _ _ ?_ ?_ (sstep_w_inj e)) <;> (unfold group; simp; omega)
    · rw [hsame j hjk] at e
      exact ih (by omega) (sstep_h_inj e)
theorem hsum_differ (l m : List UInt8) (hlen : l.length = m.length) (k : Nat) (hk : 8 * k < l.length) (hsame : ∀ i, i ≠ k → group l i = group m i) (hdiff : group l k ≠ group m k) :
    hsum l ≠ hsum m := by
  intro e
  unfold hsum at e
  rw [hlen] at e
  exact (hgroups_differ l m hlen k hsame hdiff).2 _ (by omega) (fin_inj e)

/-! ### The forms that the walk shows -/
theorem rotl31_form (x : UInt64) : bits .or .u64 (IntKind.u64.wrap (n64 x * 2147483648)) (n64 x / 8589934592) = n64 (rotl31 x) := by
  have e1 : IntKind.u64.wrap (n64 x * 2147483648) = n64 (x <<< 31) := by
    unfold n64; rw [IntKind.wrap_u64, UInt64.toNat_shiftLeft]
    rw [show (31 : UInt64).toNat % 64 = 31 by decide, Nat.shiftLeft_eq]
    omega
  have e2 : n64 x / (8589934592 : Int) = n64 (x >>> 33) := div64 x 33 (8589934592 : Int) (by decide) (by decide)
  rw [e1, e2, or64]; rfl
theorem turned_form (x : UInt64) : IntKind.u64.wrap (IntKind.u64.wrap (n64 x * 2147483648) + n64 x / 8589934592) = n64 (rotl31 x) := by
  have hx := x.toNat_lt
  unfold n64 rotl31
  rw [IntKind.wrap_u64, IntKind.wrap_u64, UInt64.toNat_or, UInt64.toNat_shiftLeft, UInt64.toNat_shiftRight, show (31 : UInt64).toNat % 64 = 31 by decide, show (33 : UInt64).toNat % 64 = 33 by decide,
    Nat.shiftLeft_eq, Nat.shiftRight_eq_div_pow]
  have e1 : x.toNat * 2 ^ 31 % 2 ^ 64 = 2 ^ 31 * (x.toNat % 2 ^ 33) := by omega
  rw [e1, ← Nat.two_pow_add_eq_or_of_lt (by omega)]
  omega

end Go.Proofs.YtiemogegdoogaaaGreat
