/- SeekTables on symbols: the law in its three cases. -/
import Derived.Test.YtempojknmnmffaaGreatLawTab
set_option linter.unusedVariables false
set_option maxRecDepth 100000
namespace Go.Proofs.YtempojknmnmffaaGreat.Sy
open Go Go.Proofs.YtempojknmnmffaaGreat.Eng Go.Proofs
section
variable {I : Interp}
noncomputable def cKn : Con := ⟨6, [], [], [], .lit (.bool true), [], 1⟩
noncomputable def okLs : List Lem := [⟨all0, [(okT (.lit 1) (.lit 0), true)]⟩, ⟨some0, [(okT (.lit 1) (.lit 0), false)]⟩]
theorem okLs_ok : ∀ l ∈ okLs, l.Valid I := by
  intro l hl
  simp only [okLs, List.mem_cons, List.not_mem_nil, or_false] at hl
  rcases hl with rfl | rfl
  · intro v h
    simp only [all0, holds_cons, holds_nil, and_true, c2, tr_lt, tr_eq, decide_eq_true_eq, decide_eq_false_iff_not] at h ⊢
    obtain ⟨_, _, _, _, h3⟩ := h
    change ((@SX.ev (I.at v) (okT (.lit 1) (.lit 0))).int != 0) = true
    rw [okT_ev, h3]; rfl
  · intro v h
    simp only [some0, holds_cons, holds_nil, and_true, c2, tr_lt, tr_eq, decide_eq_true_eq, decide_eq_false_iff_not] at h ⊢
    obtain ⟨_, _, _, _, h3⟩ := h
    change ((@SX.ev (I.at v) (okT (.lit 1) (.lit 0))).int != 0) = false
    rw [okT_ev, h3]; rfl
noncomputable def cLaw (fs : Facts) : Con := ⟨3, [.slv 0 (.var 1) (.var 2) none 2], [.win .i64 (.var 1) (.var 0)], fs, .lit (.bool true), [(0, .win .i64 (.var 1) (.var 0))], 1⟩
noncomputable def kLaw : List Con := [cTable, cTableX, cRefTab, cKn]
theorem kLaw_ok [PutI I] [TabI I] [SumI I] [BadI I] (hk : ConGood (fun _ => none) tb Tryz.prog I cKn) : ∀ c ∈ kLaw, ConGood (fun _ => none) tb Tryz.prog I c := List.forall_mem_cons.2 ⟨cTable_ok, List.forall_mem_cons.2 ⟨cTableX_ok, List.forall_mem_cons.2 ⟨cRefTab_ok, List.forall_mem_cons.2 ⟨hk, fun _ h => by cases h⟩⟩⟩⟩
theorem lawAll_ok [PutI I] [TabI I] [SumI I] [BadI I] (hk : ConGood (fun _ => none) tb Tryz.prog I cKn) : ConGood (fun _ => none) tb Tryz.prog I (cLaw all0) :=
  con_loopsM (d := 60) (l := kLaw) (lps := [lYes]) (L := lemL okLs) (t := .lem 0 .leaf) tb_ok (kLaw_ok hk) (List.forall_mem_cons.2 ⟨lYes_ok, fun _ h => by cases h⟩) (fun v => lemL_ok okLs_ok v) (by kernel_rfl)
theorem lawSome_ok [PutI I] [TabI I] [SumI I] [BadI I] (hk : ConGood (fun _ => none) tb Tryz.prog I cKn) : ConGood (fun _ => none) tb Tryz.prog I (cLaw some0) :=
  con_loopsM (d := 60) (l := kLaw) (lps := [lYes]) (L := lemL okLs) (t := .lem 1 .leaf) tb_ok (kLaw_ok hk) (List.forall_mem_cons.2 ⟨lYes_ok, fun _ h => by cases h⟩) (fun v => lemL_ok okLs_ok v) (by kernel_rfl)
noncomputable def big0 : Facts := [(.a2 .lt (.lit 200) (.var 2), true)]
theorem lawBig_ok [PutI I] [TabI I] [SumI I] [BadI I] (hk : ConGood (fun _ => none) tb Tryz.prog I cKn) : ConGood (fun _ => none) tb Tryz.prog I (cLaw big0) :=
  con_goodM (d := 60) (l := kLaw) tb_ok (kLaw_ok hk) (by kernel_rfl)
end
end Go.Proofs.YtempojknmnmffaaGreat.Sy
