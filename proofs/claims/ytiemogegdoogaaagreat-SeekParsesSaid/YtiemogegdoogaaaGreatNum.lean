/- What the functions of layer 1 do on symbols: copies, cursors, numbers in bytes. No condition beyond those that each contract lists. -/
import Derived.Test.YtiemogegdoogaaaGreatTabs
set_option linter.unusedVariables false
set_option maxRecDepth 100000
namespace Go.Proofs.YtiemogegdoogaaaGreat.Sy
open Go Go.Proofs.YtiemogegdoogaaaGreat.Eng Go.Proofs
/-- slices.Clone at bytes -/
noncomputable def cloneF : Facts := [(.a2 .lt (.var 1) (.lit 0), false), (.a2 .lt (.var 2) (.lit 0), false), (.a2 .lt (.a1 .len (.var 0)) (.a2 .add (.var 1) (.var 2)), false), (.a2 .lt (.lit 100000000) (.a1 .len (.var 0)), false)]
noncomputable def cClone : Con := ⟨34, [.slv 0 (.var 1) (.var 2) none 1], [.seq .u8 (.var 0) 5], cloneF, .slv 6 (.lit 0) (.var 2) none 1, [(0, .seq .u8 (.var 0) 5), (6, .seq .u8 (.a3 .cut (.var 0) (.var 1) (.a2 .add (.var 1) (.var 2))) 5)], 8⟩
section
variable {E : Nat → Option Value} {I : Interp}
theorem cClone_ok : ConGood E tb Tryz.prog I cClone :=
  con_nil (p := 0) (i := 0) (o := .var 1) (l := .var 2) (z := 1) rfl (con_goodR (l := []) (d := 60) tb_ok (fun _ h => by cases h) (by kernel_rfl)) (con_goodR (l := []) (d := 60) tb_ok (fun _ h => by cases h) (by kernel_rfl))
noncomputable def k1 : List Con := [cClone]
theorem k1_ok : ∀ c ∈ k1, ConGood E tb Tryz.prog I c := List.forall_mem_cons.2 ⟨cClone_ok, fun _ h => by cases h⟩
/-! a cursor over the bytes of variable 0, at variable 1 -/
noncomputable def cur (p : SX) : PObj := .row [.slv 1 (.lit 0) (.a1 .len (.var 0)) none 1, .si .i64 p] 136 false
noncomputable def bts : PObj := .seq .u8 (.var 0) 5
noncomputable def left : SX := .a2 .sub (.a1 .len (.var 0)) (.var 1)
noncomputable def curF : Facts := [(.a1 .byt (.var 0), true), (.a2 .lt (.lit 1000000) (.var 1), false), (.a2 .lt (.lit 1000000) (.a1 .len (.var 0)), false), (.a2 .lt (.var 1) (.lit 0), false), (.a2 .lt (.a1 .len (.var 0)) (.var 1), false)]
noncomputable def onCur (f : Nat) (args : List AVal) (more : Facts) (ret : AVal) (p : SX) (objs : List (Nat × PObj)) (next : Nat) : Con := ⟨f, .ptr 0 0 :: args, [cur (.var 1), bts], more ++ curF, ret, [(0, cur p), (1, bts)] ++ objs, next⟩
noncomputable def cLeft : Con := onCur 46 [] [] (.si .i64 left) (.var 1) [] 20
theorem cLeft_ok : ConGood E tb Tryz.prog I cLeft := con_goodR (d := 60) tb_ok k1_ok (by kernel_rfl)
noncomputable def cAt : Con := onCur 135 [] [] (.si .i64 (.var 1)) (.var 1) [] 20
theorem cAt_ok : ConGood E tb Tryz.prog I cAt := con_goodR (d := 60) tb_ok k1_ok (by kernel_rfl)
noncomputable def cByteS : Con := onCur 119 [] [(.a2 .lt (.var 1) (.a1 .len (.var 0)), false)] (.tup [.lit (.int .u8 0), .lit (.int .i64 3)]) (.var 1) [] 80
theorem cByteS_ok : ConGood E tb Tryz.prog I cByteS := con_goodR (d := 60) tb_ok k1_ok (by kernel_rfl)
noncomputable def cByte : Con := onCur 119 [] [(.a2 .lt (.var 1) (.a1 .len (.var 0)), true)] (.tup [.si .u8 (.a2 .rd (.var 0) (.var 1)), .lit (.int .i64 0)]) (.a2 .add (.var 1) (.lit 1)) [] 80
theorem cByte_ok : ConGood E tb Tryz.prog I cByte := con_goodR (d := 60) tb_ok k1_ok (by kernel_rfl)
noncomputable def cBytesN : Con := onCur 78 [.si .i64 (.var 2)] [(.a2 .lt (.var 2) (.lit 0), true)] (.tup [.lit (.slice none 0 0), .lit (.int .i64 2)]) (.var 1) [] 120
theorem cBytesN_ok : ConGood E tb Tryz.prog I cBytesN := con_goodR (d := 60) tb_ok k1_ok (by kernel_rfl)
noncomputable def cBytesS : Con := onCur 78 [.si .i64 (.var 2)] [(.a2 .lt (.var 2) (.lit 0), false), (.a2 .lt left (.var 2), true)] (.tup [.lit (.slice none 0 0), .lit (.int .i64 3)]) (.var 1) [] 120
theorem cBytesS_ok : ConGood E tb Tryz.prog I cBytesS := con_goodR (d := 60) tb_ok k1_ok (by kernel_rfl)
noncomputable def cBytes : Con := onCur 78 [.si .i64 (.var 2)] [(.a2 .lt (.var 2) (.lit 0), false), (.a2 .lt left (.var 2), false)] (.tup [.slv 78 (.lit 0) (.var 2) none 1, .lit (.int .i64 0)]) (.a2 .add (.var 1) (.var 2)) [(78, .seq .u8 (.a3 .cut (.var 0) (.var 1) (.a2 .add (.var 1) (.var 2))) 5)] 120
theorem cBytes_ok : ConGood E tb Tryz.prog I cBytes := con_goodR (d := 60) tb_ok k1_ok (by kernel_rfl)
noncomputable def word (a p : SX) : SX := .a2 .add (.a2 .rd a p) (.a2 .add (.a2 .mul (.a2 .rd a (mkAdd p (.lit 1))) (.lit 256)) (.a2 .add (.a2 .mul (.a2 .rd a (mkAdd p (.lit 2))) (.lit 65536)) (.a2 .mul (.a2 .rd a (mkAdd p (.lit 3))) (.lit 16777216))))
noncomputable def cWordS : Con := onCur 42 [] [(.a2 .lt left (.lit 4), true)] (.tup [.lit (.int .u32 0), .lit (.int .i64 3)]) (.var 1) [] 240
theorem cWordS_ok : ConGood E tb Tryz.prog I cWordS := con_goodR (d := 60) tb_ok k1_ok (by kernel_rfl)
noncomputable def cWord : Con := onCur 42 [] [(.a2 .lt left (.lit 4), false)] (.tup [.si .u32 (word (.var 0) (.var 1)), .lit (.int .i64 0)]) (.a2 .add (.var 1) (.lit 4)) [] 240
theorem cWord_ok : ConGood E tb Tryz.prog I cWord := con_goodR (d := 60) tb_ok k1_ok (by kernel_rfl)
noncomputable def cRest : Con := onCur 43 [] [] (.slv 22 (.lit 0) left none 1) (.var 1) [(22, .seq .u8 (.a3 .cut (.var 0) (.var 1) (.a1 .len (.var 0))) 5)] 40
theorem cRest_ok : ConGood E tb Tryz.prog I cRest := con_goodR (d := 60) tb_ok k1_ok (by kernel_rfl)
noncomputable def cPeek : Con := onCur 80 [.si .i64 (.var 2)] [(.a2 .lt (.var 2) (.lit 0), false), (.a2 .lt left (.var 2), false)] (.slv 47 (.lit 0) (.var 2) none 1) (.var 1) [(47, .seq .u8 (.a3 .cut (.var 0) (.var 1) (.a2 .add (.var 1) (.var 2))) 5)] 60
theorem cPeek_ok : ConGood E tb Tryz.prog I cPeek := con_goodR (d := 60) tb_ok k1_ok (by kernel_rfl)
noncomputable def cPeekS : Con := onCur 80 [.si .i64 (.var 2)] [(.a2 .lt (.var 2) (.lit 0), false), (.a2 .lt left (.var 2), true)] (.slv 47 (.lit 0) left none 1) (.var 1) [(47, .seq .u8 (.a3 .cut (.var 0) (.var 1) (.a1 .len (.var 0))) 5)] 60
theorem cPeekS_ok : ConGood E tb Tryz.prog I cPeekS := con_goodR (d := 60) tb_ok k1_ok (by kernel_rfl)
noncomputable def cNew : Con := ⟨40, [.slv 0 (.var 1) (.var 2) none 1], [.seq .u8 (.var 0) 5], cloneF, .ptr 12 0, [(0, .seq .u8 (.var 0) 5), (9, .seq .u8 (.a3 .cut (.var 0) (.var 1) (.a2 .add (.var 1) (.var 2))) 5), (12, .row [.slv 9 (.lit 0) (.var 2) none 1, .lit (.int .i64 0)] 136 false)], 20⟩
theorem cNew_ok : ConGood E tb Tryz.prog I cNew := con_goodR (d := 60) tb_ok k1_ok (by kernel_rfl)
noncomputable def k2 : List Con := [cClone, cByteS, cByte, cWordS, cWord, cLeft, cAt]
theorem k2_ok : ∀ c ∈ k2, ConGood E tb Tryz.prog I c := List.forall_mem_cons.2 ⟨cClone_ok, List.forall_mem_cons.2 ⟨cByteS_ok, List.forall_mem_cons.2 ⟨cByte_ok, List.forall_mem_cons.2 ⟨cWordS_ok, List.forall_mem_cons.2 ⟨cWord_ok, List.forall_mem_cons.2 ⟨cLeft_ok, List.forall_mem_cons.2 ⟨cAt_ok, fun _ h => by cases h⟩⟩⟩⟩⟩⟩⟩
/-! numbers in bytes: the value, the error, the place behind, by cases -/
noncomputable def varT : VT :=
  (.br (.a2 .lt (.lit 0) (.a2 .sub (.a1 .len (.var 0)) (.var 1))) (.br (.a2 .lt (.a2 .rd (.var 0) (.var 1)) (.lit 128)) (.br (.a2 .lt (.lit 0) (.a2 .rd
  (.var 0) (.var 1))) (.leaf [(.a2 .rd (.var 0) (.var 1)), (.lit 0), (.a2 .add (.var 1) (.lit 1))]) (.leaf [(.a2 .rd (.var 0) (.var 1)), (.lit 0), (.a2
  .add (.var 1) (.lit 1))])) (.br (.a2 .lt (.lit 0) (.a2 .sub (.a2 .sub (.a1 .len (.var 0)) (.var 1)) (.lit 1))) (.br (.a2 .lt (.a2 .rd (.var 0) (.a2
  .add (.var 1) (.lit 1))) (.lit 128)) (.br (.a2 .lt (.lit 0) (.a2 .rd (.var 0) (.a2 .add (.var 1) (.lit 1)))) (.leaf [(.a2 .sub (.a2 .add (.a2 .mul
  (.a2 .rd (.var 0) (.a2 .add (.var 1) (.lit 1))) (.lit 128)) (.a2 .rd (.var 0) (.var 1))) (.lit 128)), (.lit 0), (.a2 .add (.var 1) (.lit 2))]) (.leaf
  [(.lit 0), (.lit 5), (.var 1)])) (.br (.a2 .lt (.lit 0) (.a2 .sub (.a2 .sub (.a1 .len (.var 0)) (.var 1)) (.lit 2))) (.br (.a2 .lt (.a2 .rd (.var 0)
  (.a2 .add (.var 1) (.lit 2))) (.lit 128)) (.br (.a2 .lt (.lit 0) (.a2 .rd (.var 0) (.a2 .add (.var 1) (.lit 2)))) (.leaf [(.a2 .sub (.a2 .add (.a2
  .add (.a2 .mul (.a2 .rd (.var 0) (.a2 .add (.var 1) (.lit 2))) (.lit 16384)) (.a2 .rd (.var 0) (.var 1))) (.a2 .mul (.a2 .rd (.var 0) (.a2 .add (.var
  1) (.lit 1))) (.lit 128))) (.lit 16512)), (.lit 0), (.a2 .add (.var 1) (.lit 3))]) (.leaf [(.lit 0), (.lit 5), (.var 1)])) (.br (.a2 .lt (.lit 0) (.a2
  .sub (.a2 .sub (.a1 .len (.var 0)) (.var 1)) (.lit 3))) (.br (.a2 .lt (.a2 .rd (.var 0) (.a2 .add (.var 1) (.lit 3))) (.lit 128)) (.br (.a2 .lt (.lit
  0) (.a2 .rd (.var 0) (.a2 .add (.var 1) (.lit 3)))) (.leaf [(.a2 .sub (.a2 .add (.a2 .add (.a2 .add (.a2 .mul (.a2 .rd (.var 0) (.a2 .add (.var 1)
  (.lit 3))) (.lit 2097152)) (.a2 .mul (.a2 .rd (.var 0) (.a2 .add (.var 1) (.lit 1))) (.lit 128))) (.a2 .rd (.var 0) (.var 1))) (.a2 .mul (.a2 .rd
  (.var 0) (.a2 .add (.var 1) (.lit 2))) (.lit 16384))) (.lit 2113664)), (.lit 0), (.a2 .add (.var 1) (.lit 4))]) (.leaf [(.lit 0), (.lit 5), (.var
  1)])) (.br (.a2 .lt (.lit 0) (.a2 .sub (.a2 .sub (.a1 .len (.var 0)) (.var 1)) (.lit 4))) (.br (.a2 .lt (.a2 .rd (.var 0) (.a2 .add (.var 1) (.lit
  4))) (.lit 128)) (.br (.a2 .lt (.lit 0) (.a2 .rd (.var 0) (.a2 .add (.var 1) (.lit 4)))) (.leaf [(.a2 .sub (.a2 .add (.a2 .add (.a2 .add (.a2 .add
  (.a2 .mul (.a2 .rd (.var 0) (.a2 .add (.var 1) (.lit 4))) (.lit 268435456)) (.a2 .mul (.a2 .rd (.var 0) (.a2 .add (.var 1) (.lit 2))) (.lit 16384)))
  (.a2 .rd (.var 0) (.var 1))) (.a2 .mul (.a2 .rd (.var 0) (.a2 .add (.var 1) (.lit 1))) (.lit 128))) (.a2 .mul (.a2 .rd (.var 0) (.a2 .add (.var 1)
  (.lit 3))) (.lit 2097152))) (.lit 270549120)), (.lit 0), (.a2 .add (.var 1) (.lit 5))]) (.leaf [(.lit 0), (.lit 5), (.var 1)])) (.br (.a2 .lt (.lit 0)
  (.a2 .sub (.a2 .sub (.a1 .len (.var 0)) (.var 1)) (.lit 5))) (.br (.a2 .lt (.a2 .rd (.var 0) (.a2 .add (.var 1) (.lit 5))) (.lit 128)) (.br (.a2 .lt
  (.lit 0) (.a2 .rd (.var 0) (.a2 .add (.var 1) (.lit 5)))) (.leaf [(.a2 .sub (.a2 .add (.a2 .add (.a2 .add (.a2 .add (.a2 .add (.a2 .mul (.a2 .rd (.var
  0) (.a2 .add (.var 1) (.lit 5))) (.lit 34359738368)) (.a2 .mul (.a2 .rd (.var 0) (.a2 .add (.var 1) (.lit 3))) (.lit 2097152))) (.a2 .mul (.a2 .rd
  (.var 0) (.a2 .add (.var 1) (.lit 1))) (.lit 128))) (.a2 .rd (.var 0) (.var 1))) (.a2 .mul (.a2 .rd (.var 0) (.a2 .add (.var 1) (.lit 2))) (.lit
  16384))) (.a2 .mul (.a2 .rd (.var 0) (.a2 .add (.var 1) (.lit 4))) (.lit 268435456))) (.lit 34630287488)), (.lit 0), (.a2 .add (.var 1) (.lit 6))])
  (.leaf [(.lit 0), (.lit 5), (.var 1)])) (.br (.a2 .lt (.lit 0) (.a2 .sub (.a2 .sub (.a1 .len (.var 0)) (.var 1)) (.lit 6))) (.br (.a2 .lt (.a2 .rd
  (.var 0) (.a2 .add (.var 1) (.lit 6))) (.lit 128)) (.br (.a2 .lt (.lit 0) (.a2 .rd (.var 0) (.a2 .add (.var 1) (.lit 6)))) (.leaf [(.a2 .sub (.a2 .add
  (.a2 .add (.a2 .add (.a2 .add (.a2 .add (.a2 .add (.a2 .mul (.a2 .rd (.var 0) (.a2 .add (.var 1) (.lit 6))) (.lit 4398046511104)) (.a2 .mul (.a2 .rd
  (.var 0) (.a2 .add (.var 1) (.lit 4))) (.lit 268435456))) (.a2 .mul (.a2 .rd (.var 0) (.a2 .add (.var 1) (.lit 2))) (.lit 16384))) (.a2 .rd (.var 0)
  (.var 1))) (.a2 .mul (.a2 .rd (.var 0) (.a2 .add (.var 1) (.lit 1))) (.lit 128))) (.a2 .mul (.a2 .rd (.var 0) (.a2 .add (.var 1) (.lit 3))) (.lit
  2097152))) (.a2 .mul (.a2 .rd (.var 0) (.a2 .add (.var 1) (.lit 5))) (.lit 34359738368))) (.lit 4432676798592)), (.lit 0), (.a2 .add (.var 1) (.lit
  7))]) (.leaf [(.lit 0), (.lit 5), (.var 1)])) (.br (.a2 .lt (.lit 0) (.a2 .sub (.a2 .sub (.a1 .len (.var 0)) (.var 1)) (.lit 7))) (.br (.a2 .lt (.a2
  .rd (.var 0) (.a2 .add (.var 1) (.lit 7))) (.lit 128)) (.br (.a2 .lt (.lit 0) (.a2 .rd (.var 0) (.a2 .add (.var 1) (.lit 7)))) (.leaf [(.a2 .sub (.a2
  .add (.a2 .add (.a2 .add (.a2 .add (.a2 .add (.a2 .add (.a2 .add (.a2 .mul (.a2 .rd (.var 0) (.a2 .add (.var 1) (.lit 7))) (.lit 562949953421312))
  (.a2 .mul (.a2 .rd (.var 0) (.a2 .add (.var 1) (.lit 5))) (.lit 34359738368))) (.a2 .mul (.a2 .rd (.var 0) (.a2 .add (.var 1) (.lit 3))) (.lit
  2097152))) (.a2 .mul (.a2 .rd (.var 0) (.a2 .add (.var 1) (.lit 1))) (.lit 128))) (.a2 .rd (.var 0) (.var 1))) (.a2 .mul (.a2 .rd (.var 0) (.a2 .add
  (.var 1) (.lit 2))) (.lit 16384))) (.a2 .mul (.a2 .rd (.var 0) (.a2 .add (.var 1) (.lit 4))) (.lit 268435456))) (.a2 .mul (.a2 .rd (.var 0) (.a2 .add
  (.var 1) (.lit 6))) (.lit 4398046511104))) (.lit 567382630219904)), (.lit 0), (.a2 .add (.var 1) (.lit 8))]) (.leaf [(.lit 0), (.lit 5), (.var 1)]))
  (.br (.a2 .lt (.lit 0) (.a2 .sub (.a2 .sub (.a1 .len (.var 0)) (.var 1)) (.lit 8))) (.br (.a2 .lt (.a2 .rd (.var 0) (.a2 .add (.var 1) (.lit 8)))
  (.lit 128)) (.br (.a2 .lt (.lit 0) (.a2 .rd (.var 0) (.a2 .add (.var 1) (.lit 8)))) (.br (.a2 .lt (.lit 4611686018427387903) (.a2 .sub (.a2 .add (.a2
  .add (.a2 .add (.a2 .add (.a2 .add (.a2 .add (.a2 .add (.a2 .add (.a2 .mul (.a2 .rd (.var 0) (.a2 .add (.var 1) (.lit 8))) (.lit 72057594037927936))
  (.a2 .mul (.a2 .rd (.var 0) (.a2 .add (.var 1) (.lit 6))) (.lit 4398046511104))) (.a2 .mul (.a2 .rd (.var 0) (.a2 .add (.var 1) (.lit 4))) (.lit
  268435456))) (.a2 .mul (.a2 .rd (.var 0) (.a2 .add (.var 1) (.lit 2))) (.lit 16384))) (.a2 .rd (.var 0) (.var 1))) (.a2 .mul (.a2 .rd (.var 0) (.a2
  .add (.var 1) (.lit 1))) (.lit 128))) (.a2 .mul (.a2 .rd (.var 0) (.a2 .add (.var 1) (.lit 3))) (.lit 2097152))) (.a2 .mul (.a2 .rd (.var 0) (.a2 .add
  (.var 1) (.lit 5))) (.lit 34359738368))) (.a2 .mul (.a2 .rd (.var 0) (.a2 .add (.var 1) (.lit 7))) (.lit 562949953421312))) (.lit 72624976668147840)))
  (.leaf [(.lit 0), (.lit 18), (.var 1)]) (.leaf [(.a2 .sub (.a2 .add (.a2 .add (.a2 .add (.a2 .add (.a2 .add (.a2 .add (.a2 .add (.a2 .add (.a2 .mul
  (.a2 .rd (.var 0) (.a2 .add (.var 1) (.lit 8))) (.lit 72057594037927936)) (.a2 .mul (.a2 .rd (.var 0) (.a2 .add (.var 1) (.lit 6))) (.lit
  4398046511104))) (.a2 .mul (.a2 .rd (.var 0) (.a2 .add (.var 1) (.lit 4))) (.lit 268435456))) (.a2 .mul (.a2 .rd (.var 0) (.a2 .add (.var 1) (.lit
  2))) (.lit 16384))) (.a2 .rd (.var 0) (.var 1))) (.a2 .mul (.a2 .rd (.var 0) (.a2 .add (.var 1) (.lit 1))) (.lit 128))) (.a2 .mul (.a2 .rd (.var 0)
  (.a2 .add (.var 1) (.lit 3))) (.lit 2097152))) (.a2 .mul (.a2 .rd (.var 0) (.a2 .add (.var 1) (.lit 5))) (.lit 34359738368))) (.a2 .mul (.a2 .rd (.var
  0) (.a2 .add (.var 1) (.lit 7))) (.lit 562949953421312))) (.lit 72624976668147840)), (.lit 0), (.a2 .add (.var 1) (.lit 9))])) (.leaf [(.lit 0), (.lit
  5), (.var 1)])) (.leaf [(.lit 0), (.lit 18), (.var 1)])) (.leaf [(.lit 0), (.lit 3), (.var 1)]))) (.leaf [(.lit 0), (.lit 3), (.var 1)]))) (.leaf
  [(.lit 0), (.lit 3), (.var 1)]))) (.leaf [(.lit 0), (.lit 3), (.var 1)]))) (.leaf [(.lit 0), (.lit 3), (.var 1)]))) (.leaf [(.lit 0), (.lit 3), (.var
  1)]))) (.leaf [(.lit 0), (.lit 3), (.var 1)]))) (.leaf [(.lit 0), (.lit 3), (.var 1)]))) (.leaf [(.lit 0), (.lit 3), (.var 1)]))
theorem varT_few : varT.few 2 = true := by kernel_rfl
theorem varT_wide : varT.wide 3 = true := by kernel_rfl
end
/-- the meaning of the functions 10, 11, 12 -/
class VarI (I : Interp) : Prop where
  h : ∀ n, n < 3 → ∀ x, I.f1 (10 + n) x = varT.fn n x
section
variable {E : Nat → Option Value} {I : Interp}
noncomputable def cVarint : Con := onCur 83 [] [] (.tup [.si .u64 (vtU 10 2 0), .si .i64 (vtU 10 2 1)]) (vtU 10 2 2) [] 2000
theorem cVarint_ok [h : VarI I] : ConGood E tb Tryz.prog I cVarint :=
  con_vt (T := varT) (k := 10) (m := 2) (w := 3) (d := 60) tb_ok k1_ok varT_few varT_wide h.h (by kernel_rfl)
end
end Go.Proofs.YtiemogegdoogaaaGreat.Sy
