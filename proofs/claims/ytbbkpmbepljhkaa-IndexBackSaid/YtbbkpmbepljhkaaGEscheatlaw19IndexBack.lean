/- Escheatlaw19IndexBack: the Go functions of this package as the abstract evaluator computes them: printed by a program, checked by Lean. -/
import Derived.Test.YtbbkpmbepljhkaaEscS
import Derived.Test.YtbbkpmbepljhkaaChecked
import Derived.KernelRfl
import Derived.Test.YtbbkpmbepljhkaaGEscheatlaw19
import Derived.Test.YtbbkpmbepljhkaaGIndex
namespace Go.Proofs.Ytbbkpmbepljhkaa
open Go Go.Esc
set_option maxRecDepth 100000
set_option linter.all false
def escheatlaw19_IndexBack_o0 : List AOper := [{ dst := some 2, op := .box (.t 0) }, { dst := some 4, op := .mv (.v (.c (.b false))) }]
def escheatlaw19_IndexBack_c0 : ACode := .ops escheatlaw19_IndexBack_o0
def escheatlaw19_IndexBack_o1 : List AOper := [{ dst := some 14, op := .loadN 33 (.t 2) }, { dst := some 5, op := .alloc ([.i .i64 0] ++ List.replicate 32 (.i .i64 0)) }, { dst := none, op := .storeN 33 (.t 5) (.t 14) }]
def escheatlaw19_IndexBack_c1 : ACode := .ops escheatlaw19_IndexBack_o1
def escheatlaw19_IndexBack_o2 : List AOper := [{ dst := some 15, op := .loadN 33 (.t 5) }, { dst := some 16, op := .call 109 [(.t 15)] }, { dst := some 17, op := .un .not (.t 16) }]
def escheatlaw19_IndexBack_c2 : ACode := .ops escheatlaw19_IndexBack_o2
def escheatlaw19_IndexBack_o3 : List AOper := [{ dst := some 18, op := .call 110 [] }, { dst := some 4, op := .mv (.t 18) }]
def escheatlaw19_IndexBack_c3 : ACode := .ops escheatlaw19_IndexBack_o3
def escheatlaw19_IndexBack_c4 : ACode := .seq [4] escheatlaw19_IndexBack_c3 .ret
def escheatlaw19_IndexBack_c5 : ACode := .cond (.t 17) escheatlaw19_IndexBack_c4 .skip
def escheatlaw19_IndexBack_c6 : ACode := .seq [1, 5, 17] escheatlaw19_IndexBack_c2 escheatlaw19_IndexBack_c5
def escheatlaw19_IndexBack_o4 : List AOper := [{ dst := some 20, op := .loadN 33 (.t 5) }, { dst := some 21, op := .call 140 [(.t 20)] }, { dst := some 19, op := .mv (.t 21) }, { dst := some 22, op := .ext (.t 19) 0 }, { dst := some 23, op := .ext (.t 19) 1 }, { dst := some 6, op := .alloc (List.replicate 256 (.i .u8 0)) }, { dst := none, op := .storeN 256 (.t 6) (.t 22) }, { dst := some 7, op := .mv (.t 23) }]
def escheatlaw19_IndexBack_c7 : ACode := .ops escheatlaw19_IndexBack_o4
def escheatlaw19_IndexBack_o5 : List AOper := [{ dst := some 25, op := .loadN 256 (.t 6) }, { dst := some 26, op := .call 143 [(.t 25)] }, { dst := some 24, op := .mv (.t 26) }, { dst := some 27, op := .ext (.t 24) 0 }, { dst := some 28, op := .ext (.t 24) 1 }, { dst := some 8, op := .alloc ([.i .i64 0] ++ List.replicate 32 (.i .i64 0)) }, { dst := none, op := .storeN 33 (.t 8) (.t 27) }, { dst := some 9, op := .mv (.t 28) }]
def escheatlaw19_IndexBack_c8 : ACode := .ops escheatlaw19_IndexBack_o5
def escheatlaw19_IndexBack_o6 : List AOper := [{ dst := some 29, op := .mv (.t 7) }, { dst := some 30, op := .bin .neq (.t 29) (.v (.c (.i .i64 0))) }, { dst := some 31, op := .mv (.t 30) }, { dst := some 32, op := .mv (.t 9), guard := some (31, false) }, { dst := some 33, op := .bin .neq (.t 32) (.v (.c (.i .i64 0))), guard := some (31, false) }, { dst := some 34, op := .pick (.t 31) (.v (.c (.b true))) (.t 33) }, { dst := some 35, op := .mv (.t 34) }, { dst := some 36, op := .loadN 33 (.t 8), guard := some (35, false) }, { dst := some 37, op := .loadN 33 (.t 5), guard := some (35, false) }, { dst := some 38, op := .eqA true ([.i .i64] ++ List.replicate 32 (.i .i64)) (.t 36) (.t 37), guard := some (35, false) }, { dst := some 39, op := .pick (.t 35) (.v (.c (.b true))) (.t 38) }]
def escheatlaw19_IndexBack_c9 : ACode := .ops escheatlaw19_IndexBack_o6
def escheatlaw19_IndexBack_o7 : List AOper := [{ dst := some 4, op := .mv (.v (.c (.b false))) }]
def escheatlaw19_IndexBack_c10 : ACode := .ops escheatlaw19_IndexBack_o7
def escheatlaw19_IndexBack_c11 : ACode := .seq [4] escheatlaw19_IndexBack_c10 .ret
def escheatlaw19_IndexBack_c12 : ACode := .cond (.t 39) escheatlaw19_IndexBack_c11 .skip
def escheatlaw19_IndexBack_c13 : ACode := .seq [1, 5, 39] escheatlaw19_IndexBack_c9 escheatlaw19_IndexBack_c12
def escheatlaw19_IndexBack_o8 : List AOper := [{ dst := some 41, op := .loadN 33 (.t 5) }, { dst := some 42, op := .call 145 [(.t 41)] }, { dst := some 40, op := .mv (.t 42) }, { dst := some 43, op := .ext (.t 40) 0 }, { dst := some 44, op := .ext (.t 40) 1 }, { dst := some 10, op := .alloc ([.i .i64 0] ++ List.replicate 32 (.i .i64 0)) }, { dst := none, op := .storeN 33 (.t 10) (.t 43) }, { dst := some 11, op := .mv (.t 44) }]
def escheatlaw19_IndexBack_c14 : ACode := .ops escheatlaw19_IndexBack_o8
def escheatlaw19_IndexBack_o9 : List AOper := [{ dst := some 45, op := .mv (.t 11) }, { dst := some 46, op := .bin .eql (.t 45) (.v (.c (.i .i64 0))) }, { dst := some 47, op := .fAddr (.t 5) 0 }, { dst := some 48, op := .load1 (.t 47) }, { dst := some 49, op := .bin .lss (.t 48) (.v (.c (.i .i64 5))) }, { dst := some 50, op := .eqB true (.t 46) (.t 49) }]
def escheatlaw19_IndexBack_c15 : ACode := .ops escheatlaw19_IndexBack_o9
def escheatlaw19_IndexBack_o10 : List AOper := [{ dst := some 4, op := .mv (.v (.c (.b false))) }]
def escheatlaw19_IndexBack_c16 : ACode := .ops escheatlaw19_IndexBack_o10
def escheatlaw19_IndexBack_c17 : ACode := .seq [4] escheatlaw19_IndexBack_c16 .ret
def escheatlaw19_IndexBack_c18 : ACode := .cond (.t 50) escheatlaw19_IndexBack_c17 .skip
def escheatlaw19_IndexBack_c19 : ACode := .seq [1, 5, 10, 50] escheatlaw19_IndexBack_c15 escheatlaw19_IndexBack_c18
def escheatlaw19_IndexBack_o11 : List AOper := [{ dst := some 51, op := .loadN 33 (.t 5) }, { dst := some 52, op := .mv (.t 1) }, { dst := some 53, op := .call 124 [(.t 51), (.t 52)] }, { dst := some 54, op := .loadN 33 (.t 10) }, { dst := some 55, op := .mv (.t 1) }]
def escheatlaw19_IndexBack_o12 : List AOper := [{ dst := some 56, op := .call 124 [(.t 54), (.t 55)] }, { dst := some 12, op := .mv (.t 53) }, { dst := some 13, op := .mv (.t 56) }]
def escheatlaw19_IndexBack_c20 : ACode := .draw 0 escheatlaw19_IndexBack_o11 escheatlaw19_IndexBack_o12
def escheatlaw19_IndexBack_o13 : List AOper := [{ dst := some 57, op := .mv (.t 12) }, { dst := some 58, op := .bin .lss (.t 57) (.v (.c (.i .i64 0))) }, { dst := some 59, op := .mv (.t 58) }, { dst := some 60, op := .mv (.t 12), guard := some (59, false) }, { dst := some 61, op := .bin .gtr (.t 60) (.v (.c (.i .i64 31))), guard := some (59, false) }, { dst := some 62, op := .pick (.t 59) (.v (.c (.b true))) (.t 61) }, { dst := some 63, op := .mv (.t 62) }, { dst := some 64, op := .mv (.t 13), guard := some (63, false) }, { dst := some 65, op := .bin .lss (.t 64) (.v (.c (.i .i64 0))), guard := some (63, false) }, { dst := some 66, op := .pick (.t 63) (.v (.c (.b true))) (.t 65) }, { dst := some 67, op := .mv (.t 66) }, { dst := some 68, op := .mv (.t 13), guard := some (67, false) }, { dst := some 69, op := .bin .gtr (.t 68) (.v (.c (.i .i64 31))), guard := some (67, false) }, { dst := some 70, op := .pick (.t 67) (.v (.c (.b true))) (.t 69) }]
def escheatlaw19_IndexBack_c21 : ACode := .ops escheatlaw19_IndexBack_o13
def escheatlaw19_IndexBack_o14 : List AOper := [{ dst := some 4, op := .mv (.v (.c (.b false))) }]
def escheatlaw19_IndexBack_c22 : ACode := .ops escheatlaw19_IndexBack_o14
def escheatlaw19_IndexBack_c23 : ACode := .seq [4] escheatlaw19_IndexBack_c22 .ret
def escheatlaw19_IndexBack_c24 : ACode := .cond (.t 70) escheatlaw19_IndexBack_c23 .skip
def escheatlaw19_IndexBack_c25 : ACode := .seq [5, 10, 12, 13, 70] escheatlaw19_IndexBack_c21 escheatlaw19_IndexBack_c24
def escheatlaw19_IndexBack_o15 : List AOper := [{ dst := some 71, op := .mv (.t 12) }, { dst := some 72, op := .fAddr (.t 5) 1 }, { dst := some 73, op := .iAddrA 32 1 (.t 72) (.t 71) }, { dst := some 74, op := .load1 (.t 73) }, { dst := some 75, op := .mv (.t 13) }, { dst := some 76, op := .fAddr (.t 10) 1 }, { dst := some 77, op := .iAddrA 32 1 (.t 76) (.t 75) }, { dst := some 78, op := .load1 (.t 77) }]
def escheatlaw19_IndexBack_o16 : List AOper := [{ dst := some 79, op := .bin .eql (.t 74) (.t 78) }, { dst := some 80, op := .mv (.t 79) }, { dst := some 81, op := .loadN 33 (.t 10), guard := some (80, true) }, { dst := some 82, op := .call 109 [(.t 81)], guard := some (80, true) }, { dst := some 83, op := .pick (.t 80) (.t 82) (.v (.c (.b false))) }, { dst := some 84, op := .mv (.t 83) }, { dst := some 85, op := .call 110 [], guard := some (84, true) }, { dst := some 86, op := .pick (.t 84) (.t 85) (.v (.c (.b false))) }, { dst := some 4, op := .mv (.t 86) }]
def escheatlaw19_IndexBack_c26 : ACode := .draw 0 escheatlaw19_IndexBack_o15 escheatlaw19_IndexBack_o16
def escheatlaw19_IndexBack_c27 : ACode := .seq [4] escheatlaw19_IndexBack_c26 .ret
def escheatlaw19_IndexBack_c28 : ACode := .seq [5, 10, 12, 13] escheatlaw19_IndexBack_c25 escheatlaw19_IndexBack_c27
def escheatlaw19_IndexBack_c29 : ACode := .seq [5, 10, 12, 13] escheatlaw19_IndexBack_c20 escheatlaw19_IndexBack_c28
def escheatlaw19_IndexBack_c30 : ACode := .seq [1, 5, 10] escheatlaw19_IndexBack_c19 escheatlaw19_IndexBack_c29
def escheatlaw19_IndexBack_c31 : ACode := .seq [1, 5, 10, 11] escheatlaw19_IndexBack_c14 escheatlaw19_IndexBack_c30
def escheatlaw19_IndexBack_c32 : ACode := .seq [1, 5] escheatlaw19_IndexBack_c13 escheatlaw19_IndexBack_c31
def escheatlaw19_IndexBack_c33 : ACode := .seq [1, 5, 7, 8, 9] escheatlaw19_IndexBack_c8 escheatlaw19_IndexBack_c32
def escheatlaw19_IndexBack_c34 : ACode := .seq [1, 5, 6, 7] escheatlaw19_IndexBack_c7 escheatlaw19_IndexBack_c33
def escheatlaw19_IndexBack_c35 : ACode := .seq [1, 5] escheatlaw19_IndexBack_c6 escheatlaw19_IndexBack_c34
def escheatlaw19_IndexBack_c36 : ACode := .seq [1, 5] escheatlaw19_IndexBack_c1 escheatlaw19_IndexBack_c35
def escheatlaw19_IndexBack_c37 : ACode := .seq [1, 2] escheatlaw19_IndexBack_c0 escheatlaw19_IndexBack_c36
def A_escheatlaw19_IndexBack : AFn := ⟨escheatlaw19_IndexBack_c37, [.tmp 4]⟩
noncomputable def E_escheatlaw19_IndexBack : Sums := disp 109 S_index_Right (disp 110 S_escheatlaw19_works (disp 140 S_index_Put (disp 143 S_index_Get (disp 145 S_index_Double (disp 124 S_index_Place disp0)))))
noncomputable def escheatlaw19_IndexBack_c0_d (n : Nat) : SmV := smOps E_escheatlaw19_IndexBack escheatlaw19_IndexBack_o0
noncomputable def escheatlaw19_IndexBack_c1_d (n : Nat) : SmV := smOps E_escheatlaw19_IndexBack escheatlaw19_IndexBack_o1
noncomputable def escheatlaw19_IndexBack_c2_d (n : Nat) : SmV := smOps E_escheatlaw19_IndexBack escheatlaw19_IndexBack_o2
noncomputable def escheatlaw19_IndexBack_c3_d (n : Nat) : SmV := smOps E_escheatlaw19_IndexBack escheatlaw19_IndexBack_o3
noncomputable def escheatlaw19_IndexBack_c4_d (n : Nat) : SmV := smSeq [4] (escheatlaw19_IndexBack_c3_d n) smRet
noncomputable def escheatlaw19_IndexBack_c5_d (n : Nat) : SmV := smCond (.t 17) (escheatlaw19_IndexBack_c4_d n) smSkip
noncomputable def escheatlaw19_IndexBack_c6_d (n : Nat) : SmV := smSeq [1, 5, 17] (escheatlaw19_IndexBack_c2_d n) (escheatlaw19_IndexBack_c5_d n)
noncomputable def escheatlaw19_IndexBack_c7_d (n : Nat) : SmV := smOps E_escheatlaw19_IndexBack escheatlaw19_IndexBack_o4
noncomputable def escheatlaw19_IndexBack_c8_d (n : Nat) : SmV := smOps E_escheatlaw19_IndexBack escheatlaw19_IndexBack_o5
noncomputable def escheatlaw19_IndexBack_c9_d (n : Nat) : SmV := smOps E_escheatlaw19_IndexBack escheatlaw19_IndexBack_o6
noncomputable def escheatlaw19_IndexBack_c10_d (n : Nat) : SmV := smOps E_escheatlaw19_IndexBack escheatlaw19_IndexBack_o7
noncomputable def escheatlaw19_IndexBack_c11_d (n : Nat) : SmV := smSeq [4] (escheatlaw19_IndexBack_c10_d n) smRet
noncomputable def escheatlaw19_IndexBack_c12_d (n : Nat) : SmV := smCond (.t 39) (escheatlaw19_IndexBack_c11_d n) smSkip
noncomputable def escheatlaw19_IndexBack_c13_d (n : Nat) : SmV := smSeq [1, 5, 39] (escheatlaw19_IndexBack_c9_d n) (escheatlaw19_IndexBack_c12_d n)
noncomputable def escheatlaw19_IndexBack_c14_d (n : Nat) : SmV := smOps E_escheatlaw19_IndexBack escheatlaw19_IndexBack_o8
noncomputable def escheatlaw19_IndexBack_c15_d (n : Nat) : SmV := smOps E_escheatlaw19_IndexBack escheatlaw19_IndexBack_o9
noncomputable def escheatlaw19_IndexBack_c16_d (n : Nat) : SmV := smOps E_escheatlaw19_IndexBack escheatlaw19_IndexBack_o10
noncomputable def escheatlaw19_IndexBack_c17_d (n : Nat) : SmV := smSeq [4] (escheatlaw19_IndexBack_c16_d n) smRet
noncomputable def escheatlaw19_IndexBack_c18_d (n : Nat) : SmV := smCond (.t 50) (escheatlaw19_IndexBack_c17_d n) smSkip
noncomputable def escheatlaw19_IndexBack_c19_d (n : Nat) : SmV := smSeq [1, 5, 10, 50] (escheatlaw19_IndexBack_c15_d n) (escheatlaw19_IndexBack_c18_d n)
noncomputable def escheatlaw19_IndexBack_c20_d (n : Nat) : SmV := smDraw E_escheatlaw19_IndexBack 0 escheatlaw19_IndexBack_o11 escheatlaw19_IndexBack_o12
noncomputable def escheatlaw19_IndexBack_c21_d (n : Nat) : SmV := smOps E_escheatlaw19_IndexBack escheatlaw19_IndexBack_o13
noncomputable def escheatlaw19_IndexBack_c22_d (n : Nat) : SmV := smOps E_escheatlaw19_IndexBack escheatlaw19_IndexBack_o14
noncomputable def escheatlaw19_IndexBack_c23_d (n : Nat) : SmV := smSeq [4] (escheatlaw19_IndexBack_c22_d n) smRet
noncomputable def escheatlaw19_IndexBack_c24_d (n : Nat) : SmV := smCond (.t 70) (escheatlaw19_IndexBack_c23_d n) smSkip
noncomputable def escheatlaw19_IndexBack_c25_d (n : Nat) : SmV := smSeq [5, 10, 12, 13, 70] (escheatlaw19_IndexBack_c21_d n) (escheatlaw19_IndexBack_c24_d n)
noncomputable def escheatlaw19_IndexBack_c26_d (n : Nat) : SmV := smDraw E_escheatlaw19_IndexBack 0 escheatlaw19_IndexBack_o15 escheatlaw19_IndexBack_o16
noncomputable def escheatlaw19_IndexBack_c27_d (n : Nat) : SmV := smSeq [4] (escheatlaw19_IndexBack_c26_d n) smRet
noncomputable def escheatlaw19_IndexBack_c28_d (n : Nat) : SmV := smSeq [5, 10, 12, 13] (escheatlaw19_IndexBack_c25_d n) (escheatlaw19_IndexBack_c27_d n)
noncomputable def escheatlaw19_IndexBack_c29_d (n : Nat) : SmV := smSeq [5, 10, 12, 13] (escheatlaw19_IndexBack_c20_d n) (escheatlaw19_IndexBack_c28_d n)
noncomputable def escheatlaw19_IndexBack_c30_d (n : Nat) : SmV := smSeq [1, 5, 10] (escheatlaw19_IndexBack_c19_d n) (escheatlaw19_IndexBack_c29_d n)
noncomputable def escheatlaw19_IndexBack_c31_d (n : Nat) : SmV := smSeq [1, 5, 10, 11] (escheatlaw19_IndexBack_c14_d n) (escheatlaw19_IndexBack_c30_d n)
noncomputable def escheatlaw19_IndexBack_c32_d (n : Nat) : SmV := smSeq [1, 5] (escheatlaw19_IndexBack_c13_d n) (escheatlaw19_IndexBack_c31_d n)
noncomputable def escheatlaw19_IndexBack_c33_d (n : Nat) : SmV := smSeq [1, 5, 7, 8, 9] (escheatlaw19_IndexBack_c8_d n) (escheatlaw19_IndexBack_c32_d n)
noncomputable def escheatlaw19_IndexBack_c34_d (n : Nat) : SmV := smSeq [1, 5, 6, 7] (escheatlaw19_IndexBack_c7_d n) (escheatlaw19_IndexBack_c33_d n)
noncomputable def escheatlaw19_IndexBack_c35_d (n : Nat) : SmV := smSeq [1, 5] (escheatlaw19_IndexBack_c6_d n) (escheatlaw19_IndexBack_c34_d n)
noncomputable def escheatlaw19_IndexBack_c36_d (n : Nat) : SmV := smSeq [1, 5] (escheatlaw19_IndexBack_c1_d n) (escheatlaw19_IndexBack_c35_d n)
noncomputable def escheatlaw19_IndexBack_c37_d (n : Nat) : SmV := smSeq [1, 2] (escheatlaw19_IndexBack_c0_d n) (escheatlaw19_IndexBack_c36_d n)
noncomputable def R_escheatlaw19_IndexBack (n : Nat) (args : List Val) (h : Heap) : OptV := (escheatlaw19_IndexBack_c37_d n) A_escheatlaw19_IndexBack.fin (params 0 args) h
theorem R_escheatlaw19_IndexBack_eq (n : Nat) (a0 a1 : Val) (h : Heap) : R_escheatlaw19_IndexBack n [a0, a1] h = bnd (cells? a0) fun c1 => bnd (aloadN ((h ++ [some (Row.mk (c1) true)])) 33 ((.c (.p h.length 0)))) fun v2 => bnd (astoreN (((h ++ [some (Row.mk (c1) true)]) ++ [some (Row.mk ([.i .i64 0] ++ List.replicate 32 (.i .i64 0)) true)])) 33 ((.c (.p ((h ++ [some (Row.mk (c1) true)])).length 0))) v2) fun h3 => bnd (aloadN h3 33 ((.c (.p ((h ++ [some (Row.mk (c1) true)])).length 0)))) fun v4 => bnd (S_index_Right [v4] h3) fun p5 => bnd (aun .not p5.1) fun v6 => cnd v6 (bnd (S_escheatlaw19_works [] p5.2) fun p7 => some (p7.1, p7.2)) (bnd (aloadN p5.2 33 ((.c (.p ((h ++ [some (Row.mk (c1) true)])).length 0)))) fun v8 => bnd (S_index_Put [v8] p5.2) fun p9 => bnd (aext p9.1 0) fun v10 => bnd (aext p9.1 1) fun v11 => bnd (astoreN ((p9.2 ++ [some (Row.mk (List.replicate 256 (.i .u8 0)) true)])) 256 ((.c (.p p9.2.length 0))) v10) fun h12 => bnd (aloadN h12 256 ((.c (.p p9.2.length 0)))) fun v13 => bnd (S_index_Get [v13] h12) fun p14 => bnd (aext p14.1 0) fun v15 => bnd (aext p14.1 1) fun v16 => bnd (astoreN ((p14.2 ++ [some (Row.mk ([.i .i64 0] ++ List.replicate 32 (.i .i64 0)) true)])) 33 ((.c (.p p14.2.length 0))) v15) fun h17 => bnd (abin .neq v11 (.c (.i .i64 0))) fun v18 => bnd (gd v18 false (some (v16, h17)) (some (.no, h17))) fun p19 => bnd (gd v18 false (bnd (abin .neq p19.1 (.c (.i .i64 0))) fun v20 => some (v20, p19.2)) (some (.no, p19.2))) fun p21 => bnd (apick v18 (.c (.b true)) p21.1) fun v22 => bnd (gd v22 false (bnd (aloadN p21.2 33 ((.c (.p p14.2.length 0)))) fun v23 => some (v23, p21.2)) (some (.no, p21.2))) fun p24 => bnd (gd v22 false (bnd (aloadN p24.2 33 ((.c (.p ((h ++ [some (Row.mk (c1) true)])).length 0)))) fun v25 => some (v25, p24.2)) (some (.no, p24.2))) fun p26 => bnd (gd v22 false (bnd (aeq true ([.i .i64] ++ List.replicate 32 (.i .i64)) p24.1 p26.1) fun v27 => some (v27, p26.2)) (some (.no, p26.2))) fun p28 => bnd (apick v22 (.c (.b true)) p28.1) fun v29 => cnd v29 (some ((.c (.b false)), p28.2)) (bnd (aloadN p28.2 33 ((.c (.p ((h ++ [some (Row.mk (c1) true)])).length 0)))) fun v30 => bnd (S_index_Double [v30] p28.2) fun p31 => bnd (aext p31.1 0) fun v32 => bnd (aext p31.1 1) fun v33 => bnd (astoreN ((p31.2 ++ [some (Row.mk ([.i .i64 0] ++ List.replicate 32 (.i .i64 0)) true)])) 33 ((.c (.p p31.2.length 0))) v32) fun h34 => bnd (abin .eql v33 (.c (.i .i64 0))) fun v35 => bnd (afAddr ((.c (.p ((h ++ [some (Row.mk (c1) true)])).length 0))) 0) fun v36 => bnd (aload1 h34 v36) fun v37 => bnd (abin .lss v37 (.c (.i .i64 5))) fun v38 => bnd (aeqB true v35 v38) fun v39 => cnd v39 (some ((.c (.b false)), h34)) (bnd (aloadN h34 33 ((.c (.p ((h ++ [some (Row.mk (c1) true)])).length 0)))) fun v40 => bnd (quiet ((h34 ++ [])) (S_index_Place [v40, a1] ((h34 ++ [])))) fun p41 => bnd (aloadN h34 33 ((.c (.p p31.2.length 0)))) fun v42 => bnd (S_index_Place [v42, a1] p41.2) fun p43 => bnd (abin .lss p41.1 (.c (.i .i64 0))) fun v44 => bnd (gd v44 false (some (p41.1, p43.2)) (some (.no, p43.2))) fun p45 => bnd (gd v44 false (bnd (abin .gtr p45.1 (.c (.i .i64 31))) fun v46 => some (v46, p45.2)) (some (.no, p45.2))) fun p47 => bnd (apick v44 (.c (.b true)) p47.1) fun v48 => bnd (gd v48 false (some (p43.1, p47.2)) (some (.no, p47.2))) fun p49 => bnd (gd v48 false (bnd (abin .lss p49.1 (.c (.i .i64 0))) fun v50 => some (v50, p49.2)) (some (.no, p49.2))) fun p51 => bnd (apick v48 (.c (.b true)) p51.1) fun v52 => bnd (gd v52 false (some (p43.1, p51.2)) (some (.no, p51.2))) fun p53 => bnd (gd v52 false (bnd (abin .gtr p53.1 (.c (.i .i64 31))) fun v54 => some (v54, p53.2)) (some (.no, p53.2))) fun p55 => bnd (apick v52 (.c (.b true)) p55.1) fun v56 => cnd v56 (some ((.c (.b false)), p55.2)) (bnd (afAddr ((.c (.p ((h ++ [some (Row.mk (c1) true)])).length 0))) 1) fun v57 => bnd (aiAddrA 32 1 v57 p41.1) fun v58 => bnd (aload1 p55.2 v58) fun v59 => bnd (afAddr ((.c (.p p31.2.length 0))) 1) fun v60 => bnd (aiAddrA 32 1 v60 p43.1) fun v61 => bnd (aload1 p55.2 v61) fun v62 => bnd (abin .eql v59 v62) fun v63 => bnd (gd v63 true (bnd (aloadN ((p55.2 ++ [])) 33 ((.c (.p p31.2.length 0)))) fun v64 => some (v64, (p55.2 ++ []))) (some (.no, (p55.2 ++ [])))) fun p65 => bnd (gd v63 true (bnd (S_index_Right [p65.1] p65.2) fun p66 => some (p66.1, p66.2)) (some (.no, p65.2))) fun p67 => bnd (apick v63 p67.1 (.c (.b false))) fun v68 => bnd (gd v68 true (bnd (S_escheatlaw19_works [] p67.2) fun p69 => some (p69.1, p69.2)) (some (.no, p67.2))) fun p70 => bnd (apick v68 p70.1 (.c (.b false))) fun v71 => some (v71, p70.2))))) := by kernel_rfl
theorem K_escheatlaw19_IndexBack : FnK Try.prog 32 A_escheatlaw19_IndexBack E_escheatlaw19_IndexBack R_escheatlaw19_IndexBack := .mk' (sound1 S_index_Right_ok (sound1 S_escheatlaw19_works_ok (sound1 S_index_Put_ok (sound1 S_index_Get_ok (sound1 S_index_Double_ok (sound1 S_index_Place_ok sound0)))))) Try.func32 (by kernel_rfl) (by intro n args h; kernel_rfl)
noncomputable def S_escheatlaw19_IndexBack : Fun := tidy (Lim A_escheatlaw19_IndexBack E_escheatlaw19_IndexBack)
theorem S_escheatlaw19_IndexBack_ok : SOk Try.prog 32 S_escheatlaw19_IndexBack := K_escheatlaw19_IndexBack.sok
theorem S_escheatlaw19_IndexBack_flat {n : Nat} {args : List Val} {h h2 : Heap} {v : Val} (he : R_escheatlaw19_IndexBack n args (ro h) = some (v, h2)) (hf : v.flat = true) : S_escheatlaw19_IndexBack args h = some (v, h) := K_escheatlaw19_IndexBack.flat he hf
end Go.Proofs.Ytbbkpmbepljhkaa
