/- PatchHeads returns true at every input, given that its examples hold. No condition beyond the cells of what came in. -/
import Derived.Test.YtgmhnjicaihmmaaGreatHeads2
set_option linter.unusedVariables false
set_option maxRecDepth 100000
namespace Go.Proofs.YtgmhnjicaihmmaaGreat.Sy
open Go Go.Proofs.YtgmhnjicaihmmaaGreat.Eng Go.Proofs
section
variable {I : Interp}
theorem kH_ok [VarI I] [PutI I] (hk : ConGood (fun _ => none) tb Tryz.prog I cKw) : ∀ c ∈ kH, ConGood (fun _ => none) tb Tryz.prog I c :=
  List.forall_mem_cons.2 ⟨cPutV_ok, List.forall_mem_cons.2 ⟨cPutW_ok, List.forall_mem_cons.2 ⟨cRefV_ok, List.forall_mem_cons.2 ⟨cNumE_ok, List.forall_mem_cons.2 ⟨cNumB_ok, List.forall_mem_cons.2 ⟨cNumG_ok, List.forall_mem_cons.2 ⟨cRNumE_ok, List.forall_mem_cons.2 ⟨cRNumB_ok, List.forall_mem_cons.2 ⟨cRNumG_ok, List.forall_mem_cons.2 ⟨cBytesS_ok, List.forall_mem_cons.2 ⟨cBytes_ok, List.forall_mem_cons.2 ⟨cWordS_ok, List.forall_mem_cons.2 ⟨cWord_ok, List.forall_mem_cons.2 ⟨cLeft_ok, List.forall_mem_cons.2 ⟨cAt_ok, List.forall_mem_cons.2 ⟨cNew_ok, List.forall_mem_cons.2 ⟨cClone_ok, List.forall_mem_cons.2 ⟨hk, fun _ h => by cases h⟩⟩⟩⟩⟩⟩⟩⟩⟩⟩⟩⟩⟩⟩⟩⟩⟩⟩
theorem con_br {E : Nat → Option Value} {c : Con} (e : SX) (h1 : ConGood E tb Tryz.prog I { c with facts := (e, true) :: c.facts }) (h2 : ConGood E tb Tryz.prog I { c with facts := (e, false) :: c.facts }) : ConGood E tb Tryz.prog I c := fun v hv => by
  cases he : (@SX.ev (I.at v) e).tr with
  | true => exact h1 v (List.forall_mem_cons.2 ⟨he, hv⟩)
  | false => exact h2 v (List.forall_mem_cons.2 ⟨he, hv⟩)
noncomputable def tGet2 : ST := .br magicE (.br (.a2 .lt hn (.lit 8)) .leaf (.lem 0 (.br (okH p8) (.br (bigH p8) .leaf (.lem 1 (.br (okH pN) (.br (bigH pN) .leaf .leaf) (.lem 3 .leaf)))) (.lem 2 .leaf)))) .leaf
noncomputable def sh : SX := .a2 .lt hn (.lit 4)
theorem sa1 [VarI I] [PutI I] (hk : ConGood (fun _ => none) tb Tryz.prog I cKw) : ConGood (fun _ => none) tb Tryz.prog I { cH ((sh, true) :: (o1, true) :: hF) with args := [.si .u32 (.var 3), .si .i64 (.var 4), .si .i64 (.var 5), .slv 0 (.var 2) hn (some (.str [])) 1] } :=
  con_casesM (d := 60) (l := kH) (L := lemL hL) (t := .leaf) tb_ok (kH_ok hk) (fun v => lemL_ok hL_ok v) (by kernel_rfl)
theorem sa2 [VarI I] [PutI I] (hk : ConGood (fun _ => none) tb Tryz.prog I cKw) : ConGood (fun _ => none) tb Tryz.prog I { cH ((.a2 .eq hn (.lit 0), true) :: (sh, true) :: (o1, true) :: hF) with args := [.si .u32 (.var 3), .si .i64 (.var 4), .si .i64 (.var 5), .lit (.slice none 0 0)] } :=
  con_casesM (d := 60) (l := kH) (L := lemL hL) (t := .leaf) tb_ok (kH_ok hk) (fun v => lemL_ok hL_ok v) (by kernel_rfl)
theorem la [VarI I] [PutI I] (hk : ConGood (fun _ => none) tb Tryz.prog I cKw) : ConGood (fun _ => none) tb Tryz.prog I (cH ((sh, false) :: (o1, true) :: hF)) :=
  con_casesM (d := 60) (l := kH) (L := lemL hL) (t := tGet2) tb_ok (kH_ok hk) (fun v => lemL_ok hL_ok v) (by kernel_rfl)
theorem wa [VarI I] [PutI I] (hk : ConGood (fun _ => none) tb Tryz.prog I cKw) : ConGood (fun _ => none) tb Tryz.prog I (cH ((o1, true) :: hF)) :=
  con_br sh (con_nil (p := 3) (i := 0) (o := .var 2) (l := hn) (z := 1) rfl (sa1 hk) (sa2 hk)) (la hk)
theorem sb1 [VarI I] [PutI I] (hk : ConGood (fun _ => none) tb Tryz.prog I cKw) : ConGood (fun _ => none) tb Tryz.prog I { cH ((sh, true) :: (o2, true) :: (o1, false) :: hF) with args := [.si .u32 (.var 3), .si .i64 (.var 4), .si .i64 (.var 5), .slv 0 (.var 2) hn (some (.str [])) 1] } :=
  con_casesM (d := 60) (l := kH) (L := lemL hL) (t := .leaf) tb_ok (kH_ok hk) (fun v => lemL_ok hL_ok v) (by kernel_rfl)
theorem sb2 [VarI I] [PutI I] (hk : ConGood (fun _ => none) tb Tryz.prog I cKw) : ConGood (fun _ => none) tb Tryz.prog I { cH ((.a2 .eq hn (.lit 0), true) :: (sh, true) :: (o2, true) :: (o1, false) :: hF) with args := [.si .u32 (.var 3), .si .i64 (.var 4), .si .i64 (.var 5), .lit (.slice none 0 0)] } :=
  con_casesM (d := 60) (l := kH) (L := lemL hL) (t := .leaf) tb_ok (kH_ok hk) (fun v => lemL_ok hL_ok v) (by kernel_rfl)
theorem lb [VarI I] [PutI I] (hk : ConGood (fun _ => none) tb Tryz.prog I cKw) : ConGood (fun _ => none) tb Tryz.prog I (cH ((sh, false) :: (o2, true) :: (o1, false) :: hF)) :=
  con_casesM (d := 60) (l := kH) (L := lemL hL) (t := tGet2) tb_ok (kH_ok hk) (fun v => lemL_ok hL_ok v) (by kernel_rfl)
theorem wb [VarI I] [PutI I] (hk : ConGood (fun _ => none) tb Tryz.prog I cKw) : ConGood (fun _ => none) tb Tryz.prog I (cH ((o2, true) :: (o1, false) :: hF)) :=
  con_br sh (con_nil (p := 3) (i := 0) (o := .var 2) (l := hn) (z := 1) rfl (sb1 hk) (sb2 hk)) (lb hk)
theorem sc1 [VarI I] [PutI I] (hk : ConGood (fun _ => none) tb Tryz.prog I cKw) : ConGood (fun _ => none) tb Tryz.prog I { cH ((sh, true) :: (o3, true) :: (o2, false) :: (o1, false) :: hF) with args := [.si .u32 (.var 3), .si .i64 (.var 4), .si .i64 (.var 5), .slv 0 (.var 2) hn (some (.str [])) 1] } :=
  con_casesM (d := 60) (l := kH) (L := lemL hL) (t := .leaf) tb_ok (kH_ok hk) (fun v => lemL_ok hL_ok v) (by kernel_rfl)
theorem sc2 [VarI I] [PutI I] (hk : ConGood (fun _ => none) tb Tryz.prog I cKw) : ConGood (fun _ => none) tb Tryz.prog I { cH ((.a2 .eq hn (.lit 0), true) :: (sh, true) :: (o3, true) :: (o2, false) :: (o1, false) :: hF) with args := [.si .u32 (.var 3), .si .i64 (.var 4), .si .i64 (.var 5), .lit (.slice none 0 0)] } :=
  con_casesM (d := 60) (l := kH) (L := lemL hL) (t := .leaf) tb_ok (kH_ok hk) (fun v => lemL_ok hL_ok v) (by kernel_rfl)
theorem lc [VarI I] [PutI I] (hk : ConGood (fun _ => none) tb Tryz.prog I cKw) : ConGood (fun _ => none) tb Tryz.prog I (cH ((sh, false) :: (o3, true) :: (o2, false) :: (o1, false) :: hF)) :=
  con_casesM (d := 60) (l := kH) (L := lemL hL) (t := tGet2) tb_ok (kH_ok hk) (fun v => lemL_ok hL_ok v) (by kernel_rfl)
theorem wc [VarI I] [PutI I] (hk : ConGood (fun _ => none) tb Tryz.prog I cKw) : ConGood (fun _ => none) tb Tryz.prog I (cH ((o3, true) :: (o2, false) :: (o1, false) :: hF)) :=
  con_br sh (con_nil (p := 3) (i := 0) (o := .var 2) (l := hn) (z := 1) rfl (sc1 hk) (sc2 hk)) (lc hk)
theorem sd1 [VarI I] [PutI I] (hk : ConGood (fun _ => none) tb Tryz.prog I cKw) : ConGood (fun _ => none) tb Tryz.prog I { cH ((sh, true) :: (o4, true) :: (o3, false) :: (o2, false) :: (o1, false) :: hF) with args := [.si .u32 (.var 3), .si .i64 (.var 4), .si .i64 (.var 5), .slv 0 (.var 2) hn (some (.str [])) 1] } :=
  con_casesM (d := 60) (l := kH) (L := lemL hL) (t := .leaf) tb_ok (kH_ok hk) (fun v => lemL_ok hL_ok v) (by kernel_rfl)
theorem sd2 [VarI I] [PutI I] (hk : ConGood (fun _ => none) tb Tryz.prog I cKw) : ConGood (fun _ => none) tb Tryz.prog I { cH ((.a2 .eq hn (.lit 0), true) :: (sh, true) :: (o4, true) :: (o3, false) :: (o2, false) :: (o1, false) :: hF) with args := [.si .u32 (.var 3), .si .i64 (.var 4), .si .i64 (.var 5), .lit (.slice none 0 0)] } :=
  con_casesM (d := 60) (l := kH) (L := lemL hL) (t := .leaf) tb_ok (kH_ok hk) (fun v => lemL_ok hL_ok v) (by kernel_rfl)
theorem ld [VarI I] [PutI I] (hk : ConGood (fun _ => none) tb Tryz.prog I cKw) : ConGood (fun _ => none) tb Tryz.prog I (cH ((sh, false) :: (o4, true) :: (o3, false) :: (o2, false) :: (o1, false) :: hF)) :=
  con_casesM (d := 60) (l := kH) (L := lemL hL) (t := tGet2) tb_ok (kH_ok hk) (fun v => lemL_ok hL_ok v) (by kernel_rfl)
theorem wd' [VarI I] [PutI I] (hk : ConGood (fun _ => none) tb Tryz.prog I cKw) : ConGood (fun _ => none) tb Tryz.prog I (cH ((o4, true) :: (o3, false) :: (o2, false) :: (o1, false) :: hF)) :=
  con_br sh (con_nil (p := 3) (i := 0) (o := .var 2) (l := hn) (z := 1) rfl (sd1 hk) (sd2 hk)) (ld hk)
theorem se1 [VarI I] [PutI I] (hk : ConGood (fun _ => none) tb Tryz.prog I cKw) : ConGood (fun _ => none) tb Tryz.prog I { cH ((sh, true) :: hAll) with args := [.si .u32 (.var 3), .si .i64 (.var 4), .si .i64 (.var 5), .slv 0 (.var 2) hn (some (.str [])) 1] } :=
  con_casesM (d := 60) (l := kH) (L := lemL hL) (t := .lem 4 (.lem 5 (.leaf))) tb_ok (kH_ok hk) (fun v => lemL_ok hL_ok v) (by kernel_rfl)
theorem se2 [VarI I] [PutI I] (hk : ConGood (fun _ => none) tb Tryz.prog I cKw) : ConGood (fun _ => none) tb Tryz.prog I { cH ((.a2 .eq hn (.lit 0), true) :: (sh, true) :: hAll) with args := [.si .u32 (.var 3), .si .i64 (.var 4), .si .i64 (.var 5), .lit (.slice none 0 0)] } :=
  con_casesM (d := 60) (l := kH) (L := lemL hL) (t := .lem 4 (.lem 5 (.leaf))) tb_ok (kH_ok hk) (fun v => lemL_ok hL_ok v) (by kernel_rfl)
theorem le [VarI I] [PutI I] (hk : ConGood (fun _ => none) tb Tryz.prog I cKw) : ConGood (fun _ => none) tb Tryz.prog I (cH ((sh, false) :: hAll)) :=
  con_casesM (d := 60) (l := kH) (L := lemL hL) (t := .lem 4 (.lem 5 (tGet2))) tb_ok (kH_ok hk) (fun v => lemL_ok hL_ok v) (by kernel_rfl)
theorem we [VarI I] [PutI I] (hk : ConGood (fun _ => none) tb Tryz.prog I cKw) : ConGood (fun _ => none) tb Tryz.prog I (cH (hAll)) :=
  con_br sh (con_nil (p := 3) (i := 0) (o := .var 2) (l := hn) (z := 1) rfl (se1 hk) (se2 hk)) (le hk)
theorem law_heads [VarI I] [PutI I] (hk : ConGood (fun _ => none) tb Tryz.prog I cKw) : ConGood (fun _ => none) tb Tryz.prog I (cH hF) :=
  con_br o1 (wa hk) (con_br o2 (wb hk) (con_br o3 (wc hk) (con_br o4 (wd' hk) (we hk))))
theorem law_big [VarI I] [PutI I] (hk : ConGood (fun _ => none) tb Tryz.prog I cKw) : ConGood (fun _ => none) tb Tryz.prog I (cH [(.a2 .lt (.lit 100) hn, true)]) :=
  con_casesM (d := 60) (l := kH) (L := lemL hL) (t := .leaf) tb_ok (kH_ok hk) (fun v => lemL_ok hL_ok v) (by kernel_rfl)
end
@[reducible] noncomputable def meaningH (v : Nat → D) : Interp := ⟨v, fun n x => if n = 30 then .l (enc 8 x.int) else varT.fn (n - 10) x, fun _ _ _ => .i 0, fun _ _ _ _ => .i 0⟩
instance (v : Nat → D) : PutI (meaningH v) := ⟨fun _ => rfl⟩
instance (v : Nat → D) : VarI (meaningH v) := ⟨fun n hn x => by match n, hn with | 0, _ => rfl | 1, _ => rfl | 2, _ => rfl⟩
noncomputable def headV (l : List Int) (lo s a b : Int) : Nat → D
  | 0 => .l l
  | 2 => .i lo
  | 3 => .i s
  | 4 => .i a
  | _ => .i b
theorem heads_any (hk : ∀ I : Interp, ConGood (fun _ => none) tb Tryz.prog I cKw) (s a b : Int) (hs : 0 ≤ s ∧ s ≤ 4294967295) (a0 : Option Addr) (len0 cap0 : Nat) (z0 : List Int) (w : World)
    (h : (a0 = none ∧ len0 = 0 ∧ cap0 = 0 ∧ z0 = []) ∨ ∃ x, a0 = some x ∧ len0 ≤ cap0 ∧ cap0 ≤ maxLen ∧ z0.length = cap0 ∧ (∀ i, i < z0.length → w.cell? (x.add i) = some (.int .u8 (z0.getD i 0))) ∧ ∀ n ∈ z0, (Lit.int .u8 n).wf = true) :
    Calls Tryz.prog 3 #[.int .u32 s, .int .i64 a, .int .i64 b, .slice a0 len0 cap0] w fun e w' => e = .returned (.bool true) ∧ RowKit.Below w.heap.size w w' := by
  obtain ⟨⟨κ, hE, hV, hR⟩, hb, hl⟩ := bytes_arg (J := meaningH (headV (z0.take len0) (loOf a0) s a b)) (iA := 0) (iL := 2) (fun _ => none) rfl rfl h
  have hlo : ¬ loOf a0 < 0 := by cases a0 <;> simp [loOf]
  generalize z0.take len0 = l at hV hR hl hb
  have go : ∀ fs : Facts, ConGood (fun _ => none) tb Tryz.prog (meaningH (headV l (loOf a0) s a b)) (cH fs) → @Holds (meaningH (headV l (loOf a0) s a b)) fs →
      Calls Tryz.prog 3 #[.int .u32 s, .int .i64 a, .int .i64 b, .slice a0 len0 cap0] w fun e w' => e = .returned (.bool true) ∧ RowKit.Below w.heap.size w w' := fun fs hc hf => by
    refine law_con (vs := [.int .u32 s, .int .i64 a, .int .i64 b, .slice a0 len0 cap0]) (c := cH fs) tb_ok hc rfl hf
      (@VL.cons (meaningH (headV l (loOf a0) s a b)) κ _ _ _ _ (@V.si (meaningH (headV l (loOf a0) s a b)) κ .u32 (.var 3)) (@VL.cons (meaningH (headV l (loOf a0) s a b)) κ _ _ _ _ (@V.si (meaningH (headV l (loOf a0) s a b)) κ .i64 (.var 4))
        (@VL.cons (meaningH (headV l (loOf a0) s a b)) κ _ _ _ _ (@V.si (meaningH (headV l (loOf a0) s a b)) κ .i64 (.var 5)) (@VL.cons (meaningH (headV l (loOf a0) s a b)) κ _ _ _ _ hV (@VL.nil (meaningH (headV l (loOf a0) s a b)) κ))))) hR (fun i v hi => ?_) (by simp [cH]) rfl
    cases hi
  by_cases hbig : 100 < len0
  · refine go _ (law_big (hk _)) ?_
    simp only [holds_cons, holds_nil, and_true, fact_lt]
    exact decide_eq_true (show (100 : Int) < (l.length : Int) by omega)
  · refine go hF (law_heads (hk _)) ?_
    simp only [hF, holds_cons, holds_nil, and_true, fact_lt]
    refine ⟨?_, decide_eq_false ?_, decide_eq_false ?_, decide_eq_false ?_, decide_eq_false ?_⟩
    · change (D.ofB (bytB l)).tr = true
      rw [D.tr_ofB]; exact hb
    · change ¬ (100 : Int) < (l.length : Int); omega
    · change ¬ loOf a0 < 0; exact hlo
    · change ¬ s < 0; omega
    · change ¬ (4294967295 : Int) < s; omega
end Go.Proofs.YtgmhnjicaihmmaaGreat.Sy
