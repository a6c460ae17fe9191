/- Escheatlaw20PointsKeeps: the Go functions of this package as the abstract evaluator computes them: printed by a program, checked by Lean. -/
import Derived.Test.YtbbkpmbepljhkaaEscS
import Derived.Test.YtbbkpmbepljhkaaChecked
import Derived.KernelRfl
import Derived.Test.YtbbkpmbepljhkaaGEscheatlaw20
import Derived.Test.YtbbkpmbepljhkaaGPatch
import Derived.Test.YtbbkpmbepljhkaaGPoints
namespace Go.Proofs.Ytbbkpmbepljhkaa
open Go Go.Esc
set_option maxRecDepth 100000
set_option linter.all false
def escheatlaw20_PointsKeeps_o0 : List AOper := [{ dst := some 3, op := .box (.t 0) }, { dst := some 4, op := .box (.t 1) }, { dst := some 6, op := .mv (.v (.c (.b false))) }]
def escheatlaw20_PointsKeeps_c0 : ACode := .ops escheatlaw20_PointsKeeps_o0
def escheatlaw20_PointsKeeps_o1 : List AOper := [{ dst := some 18, op := .loadN 256 (.t 3) }, { dst := some 7, op := .alloc (List.replicate 256 (.i .u8 0)) }, { dst := none, op := .storeN 256 (.t 7) (.t 18) }]
def escheatlaw20_PointsKeeps_c1 : ACode := .ops escheatlaw20_PointsKeeps_o1
def escheatlaw20_PointsKeeps_o2 : List AOper := [{ dst := some 19, op := .iAddrA 2 1 (.t 4) (.v (.c (.i .i64 0))) }, { dst := some 20, op := .load1 (.t 19) }, { dst := some 21, op := .bin .rem (.t 20) (.v (.c (.i .u8 128))) }, { dst := some 22, op := .conv .i64 (.t 21) }, { dst := some 23, op := .iAddrA 2 1 (.t 4) (.v (.c (.i .i64 1))) }, { dst := some 24, op := .load1 (.t 23) }, { dst := some 25, op := .conv .i64 (.t 24) }, { dst := some 26, op := .bin .mul (.v (.c (.i .i64 256))) (.t 25) }, { dst := some 27, op := .iAddrA 2 1 (.t 4) (.v (.c (.i .i64 0))) }, { dst := some 28, op := .load1 (.t 27) }, { dst := some 29, op := .conv .i64 (.t 28) }, { dst := some 30, op := .bin .add (.t 26) (.t 29) }, { dst := some 8, op := .mv (.t 22) }]
def escheatlaw20_PointsKeeps_o3 : List AOper := [{ dst := some 9, op := .mv (.t 30) }]
def escheatlaw20_PointsKeeps_c2 : ACode := .draw 0 escheatlaw20_PointsKeeps_o2 escheatlaw20_PointsKeeps_o3
def escheatlaw20_PointsKeeps_o4 : List AOper := [{ dst := some 32, op := .mv (.t 8) }, { dst := some 33, op := .mv (.t 9) }, { dst := some 34, op := .call 104 [(.t 32), (.t 33)] }, { dst := some 31, op := .mv (.t 34) }, { dst := some 35, op := .ext (.t 31) 0 }, { dst := some 36, op := .ext (.t 31) 1 }, { dst := some 10, op := .alloc ([.i .i64 0, .ns]) }, { dst := none, op := .storeN 2 (.t 10) (.t 35) }, { dst := some 11, op := .mv (.t 36) }]
def escheatlaw20_PointsKeeps_c3 : ACode := .ops escheatlaw20_PointsKeeps_o4
def escheatlaw20_PointsKeeps_o5 : List AOper := [{ dst := some 37, op := .loadN 256 (.t 7) }, { dst := some 38, op := .loadN 2 (.t 10) }, { dst := some 39, op := .call 111 [(.t 37), (.t 38)] }, { dst := some 12, op := .alloc (List.replicate 256 (.i .u8 0)) }, { dst := none, op := .storeN 256 (.t 12) (.t 39) }]
def escheatlaw20_PointsKeeps_c4 : ACode := .ops escheatlaw20_PointsKeeps_o5
def escheatlaw20_PointsKeeps_o6 : List AOper := [{ dst := some 40, op := .mv (.t 11) }, { dst := some 41, op := .bin .neq (.t 40) (.v (.c (.i .i64 0))) }]
def escheatlaw20_PointsKeeps_c5 : ACode := .ops escheatlaw20_PointsKeeps_o6
def escheatlaw20_PointsKeeps_o7 : List AOper := [{ dst := some 6, op := .mv (.v (.c (.b false))) }]
def escheatlaw20_PointsKeeps_c6 : ACode := .ops escheatlaw20_PointsKeeps_o7
def escheatlaw20_PointsKeeps_c7 : ACode := .seq [6] escheatlaw20_PointsKeeps_c6 .ret
def escheatlaw20_PointsKeeps_c8 : ACode := .cond (.t 41) escheatlaw20_PointsKeeps_c7 .skip
def escheatlaw20_PointsKeeps_c9 : ACode := .seq [2, 7, 8, 9, 12, 41] escheatlaw20_PointsKeeps_c5 escheatlaw20_PointsKeeps_c8
def escheatlaw20_PointsKeeps_o8 : List AOper := [{ dst := some 13, op := .mv (.v (.c (.i .i64 0))) }]
def escheatlaw20_PointsKeeps_c10 : ACode := .ops escheatlaw20_PointsKeeps_o8
def escheatlaw20_PointsKeeps_o9 : List AOper := [{ dst := some 42, op := .mv (.t 13) }, { dst := some 43, op := .bin .lss (.t 42) (.v (.c (.i .i64 128))) }]
def escheatlaw20_PointsKeeps_c11 : ACode := .ops escheatlaw20_PointsKeeps_o9
def escheatlaw20_PointsKeeps_c12 : ACode := .cond (.t 43) .skip (.exit 0)
def escheatlaw20_PointsKeeps_c13 : ACode := .seq [2, 7, 8, 9, 12, 13, 43] escheatlaw20_PointsKeeps_c11 escheatlaw20_PointsKeeps_c12
def escheatlaw20_PointsKeeps_o10 : List AOper := [{ dst := some 46, op := .loadN 256 (.t 7) }, { dst := some 47, op := .mv (.t 13) }, { dst := some 48, op := .call 87 [(.t 46), (.t 47)] }, { dst := some 14, op := .mv (.t 48) }]
def escheatlaw20_PointsKeeps_c14 : ACode := .ops escheatlaw20_PointsKeeps_o10
def escheatlaw20_PointsKeeps_o11 : List AOper := [{ dst := some 49, op := .mv (.t 13) }, { dst := some 50, op := .mv (.t 8) }, { dst := some 51, op := .bin .eql (.t 49) (.t 50) }]
def escheatlaw20_PointsKeeps_c15 : ACode := .ops escheatlaw20_PointsKeeps_o11
def escheatlaw20_PointsKeeps_o12 : List AOper := [{ dst := some 52, op := .mv (.t 9) }, { dst := some 14, op := .mv (.t 52) }]
def escheatlaw20_PointsKeeps_c16 : ACode := .ops escheatlaw20_PointsKeeps_o12
def escheatlaw20_PointsKeeps_c17 : ACode := .cond (.t 51) escheatlaw20_PointsKeeps_c16 .skip
def escheatlaw20_PointsKeeps_c18 : ACode := .seq [2, 7, 8, 9, 12, 13, 14, 51] escheatlaw20_PointsKeeps_c15 escheatlaw20_PointsKeeps_c17
def escheatlaw20_PointsKeeps_o13 : List AOper := [{ dst := some 53, op := .loadN 256 (.t 12) }, { dst := some 54, op := .mv (.t 13) }, { dst := some 55, op := .call 87 [(.t 53), (.t 54)] }, { dst := some 56, op := .mv (.t 14) }, { dst := some 57, op := .bin .neq (.t 55) (.t 56) }]
def escheatlaw20_PointsKeeps_c19 : ACode := .ops escheatlaw20_PointsKeeps_o13
def escheatlaw20_PointsKeeps_o14 : List AOper := [{ dst := some 6, op := .mv (.v (.c (.b false))) }]
def escheatlaw20_PointsKeeps_c20 : ACode := .ops escheatlaw20_PointsKeeps_o14
def escheatlaw20_PointsKeeps_c21 : ACode := .seq [6] escheatlaw20_PointsKeeps_c20 .ret
def escheatlaw20_PointsKeeps_c22 : ACode := .cond (.t 57) escheatlaw20_PointsKeeps_c21 .skip
def escheatlaw20_PointsKeeps_c23 : ACode := .seq [2, 7, 8, 9, 12, 13, 57] escheatlaw20_PointsKeeps_c19 escheatlaw20_PointsKeeps_c22
def escheatlaw20_PointsKeeps_c24 : ACode := .seq [2, 7, 8, 9, 12, 13, 14] escheatlaw20_PointsKeeps_c18 escheatlaw20_PointsKeeps_c23
def escheatlaw20_PointsKeeps_c25 : ACode := .seq [2, 7, 8, 9, 12, 13, 14] escheatlaw20_PointsKeeps_c14 escheatlaw20_PointsKeeps_c24
def escheatlaw20_PointsKeeps_c26 : ACode := .block 1 escheatlaw20_PointsKeeps_c25
def escheatlaw20_PointsKeeps_o15 : List AOper := [{ dst := some 44, op := .mv (.t 13) }, { dst := some 45, op := .bin .add (.t 44) (.v (.c (.i .i64 1))) }, { dst := some 13, op := .mv (.t 45) }]
def escheatlaw20_PointsKeeps_c27 : ACode := .ops escheatlaw20_PointsKeeps_o15
def escheatlaw20_PointsKeeps_c28 : ACode := .seq [2, 7, 8, 9, 12, 13] escheatlaw20_PointsKeeps_c26 escheatlaw20_PointsKeeps_c27
def escheatlaw20_PointsKeeps_c29 : ACode := .seq [2, 7, 8, 9, 12, 13] escheatlaw20_PointsKeeps_c13 escheatlaw20_PointsKeeps_c28
def escheatlaw20_PointsKeeps_c30 : ACode := .loop [2, 7, 8, 9, 12, 13] escheatlaw20_PointsKeeps_c29
def escheatlaw20_PointsKeeps_c31 : ACode := .block 0 escheatlaw20_PointsKeeps_c30
def escheatlaw20_PointsKeeps_c32 : ACode := .seq [2, 7, 8, 9, 12, 13] escheatlaw20_PointsKeeps_c10 escheatlaw20_PointsKeeps_c31
def escheatlaw20_PointsKeeps_o16 : List AOper := [{ dst := some 58, op := .loadN 256 (.t 12) }, { dst := some 59, op := .mv (.t 2) }, { dst := some 60, op := .conv .i64 (.t 59) }, { dst := some 61, op := .call 101 [(.t 60)] }, { dst := some 62, op := .call 100 [(.t 58), (.t 61)] }, { dst := some 15, op := .alloc (List.replicate 256 (.i .u8 0)), slot := some 0 }]
def escheatlaw20_PointsKeeps_o17 : List AOper := [{ dst := none, op := .storeN 256 (.t 15) (.t 62) }]
def escheatlaw20_PointsKeeps_c33 : ACode := .draw 1 escheatlaw20_PointsKeeps_o16 escheatlaw20_PointsKeeps_o17
def escheatlaw20_PointsKeeps_o18 : List AOper := [{ dst := some 63, op := .loadN 256 (.t 15) }, { dst := some 64, op := .call 89 [(.t 63)] }, { dst := some 16, op := .mv (.t 64) }]
def escheatlaw20_PointsKeeps_c34 : ACode := .ops escheatlaw20_PointsKeeps_o18
def escheatlaw20_PointsKeeps_o19 : List AOper := [{ dst := some 17, op := .mv (.v (.c (.i .i64 0))) }]
def escheatlaw20_PointsKeeps_c35 : ACode := .ops escheatlaw20_PointsKeeps_o19
def escheatlaw20_PointsKeeps_o20 : List AOper := [{ dst := some 65, op := .mv (.t 17) }, { dst := some 66, op := .mv (.t 16) }, { dst := some 67, op := .len (.t 66) }, { dst := some 68, op := .bin .lss (.t 65) (.t 67) }]
def escheatlaw20_PointsKeeps_c36 : ACode := .ops escheatlaw20_PointsKeeps_o20
def escheatlaw20_PointsKeeps_c37 : ACode := .cond (.t 68) .skip (.exit 2)
def escheatlaw20_PointsKeeps_c38 : ACode := .seq [2, 12, 15, 16, 17, 68] escheatlaw20_PointsKeeps_c36 escheatlaw20_PointsKeeps_c37
def escheatlaw20_PointsKeeps_o21 : List AOper := [{ dst := some 71, op := .mv (.t 16) }, { dst := some 72, op := .mv (.t 17) }, { dst := some 73, op := .iAddrL 1 (.t 71) (.t 72) }, { dst := some 74, op := .load1 (.t 73) }, { dst := some 75, op := .mv (.t 2) }, { dst := some 76, op := .conv .i64 (.t 75) }, { dst := some 77, op := .bin .geq (.t 74) (.t 76) }]
def escheatlaw20_PointsKeeps_c39 : ACode := .ops escheatlaw20_PointsKeeps_o21
def escheatlaw20_PointsKeeps_o22 : List AOper := [{ dst := some 6, op := .mv (.v (.c (.b false))) }]
def escheatlaw20_PointsKeeps_c40 : ACode := .ops escheatlaw20_PointsKeeps_o22
def escheatlaw20_PointsKeeps_c41 : ACode := .seq [6] escheatlaw20_PointsKeeps_c40 .ret
def escheatlaw20_PointsKeeps_c42 : ACode := .cond (.t 77) escheatlaw20_PointsKeeps_c41 .skip
def escheatlaw20_PointsKeeps_c43 : ACode := .seq [2, 12, 15, 16, 17, 77] escheatlaw20_PointsKeeps_c39 escheatlaw20_PointsKeeps_c42
def escheatlaw20_PointsKeeps_c44 : ACode := .block 3 escheatlaw20_PointsKeeps_c43
def escheatlaw20_PointsKeeps_o23 : List AOper := [{ dst := some 69, op := .mv (.t 17) }, { dst := some 70, op := .bin .add (.t 69) (.v (.c (.i .i64 1))) }, { dst := some 17, op := .mv (.t 70) }]
def escheatlaw20_PointsKeeps_c45 : ACode := .ops escheatlaw20_PointsKeeps_o23
def escheatlaw20_PointsKeeps_c46 : ACode := .seq [2, 12, 15, 16, 17] escheatlaw20_PointsKeeps_c44 escheatlaw20_PointsKeeps_c45
def escheatlaw20_PointsKeeps_c47 : ACode := .seq [2, 12, 15, 16, 17] escheatlaw20_PointsKeeps_c38 escheatlaw20_PointsKeeps_c46
def escheatlaw20_PointsKeeps_c48 : ACode := .loop [2, 12, 15, 16, 17] escheatlaw20_PointsKeeps_c47
def escheatlaw20_PointsKeeps_c49 : ACode := .block 2 escheatlaw20_PointsKeeps_c48
def escheatlaw20_PointsKeeps_c50 : ACode := .seq [2, 12, 15, 16, 17] escheatlaw20_PointsKeeps_c35 escheatlaw20_PointsKeeps_c49
def escheatlaw20_PointsKeeps_o24 : List AOper := [{ dst := some 78, op := .loadN 256 (.t 15) }, { dst := some 79, op := .mv (.t 2) }, { dst := some 80, op := .conv .i64 (.t 79) }, { dst := some 81, op := .call 101 [(.t 80)] }, { dst := some 82, op := .call 100 [(.t 78), (.t 81)] }, { dst := some 83, op := .loadN 256 (.t 15) }, { dst := some 84, op := .eqA false (List.replicate 256 (.i .u8)) (.t 82) (.t 83) }, { dst := some 85, op := .mv (.t 84) }, { dst := some 86, op := .loadN 256 (.t 15), guard := some (85, true) }, { dst := some 87, op := .call 90 [(.t 86)], guard := some (85, true) }, { dst := some 88, op := .loadN 256 (.t 12), guard := some (85, true) }]
def escheatlaw20_PointsKeeps_o25 : List AOper := [{ dst := some 89, op := .call 90 [(.t 88)], guard := some (85, true) }, { dst := some 90, op := .bin .leq (.t 87) (.t 89), guard := some (85, true) }, { dst := some 91, op := .pick (.t 85) (.t 90) (.v (.c (.b false))) }, { dst := some 92, op := .mv (.t 91) }, { dst := some 93, op := .call 91 [], guard := some (92, true) }, { dst := some 94, op := .pick (.t 92) (.t 93) (.v (.c (.b false))) }, { dst := some 6, op := .mv (.t 94) }]
def escheatlaw20_PointsKeeps_c51 : ACode := .draw 0 escheatlaw20_PointsKeeps_o24 escheatlaw20_PointsKeeps_o25
def escheatlaw20_PointsKeeps_c52 : ACode := .seq [6] escheatlaw20_PointsKeeps_c51 .ret
def escheatlaw20_PointsKeeps_c53 : ACode := .seq [2, 12, 15] escheatlaw20_PointsKeeps_c50 escheatlaw20_PointsKeeps_c52
def escheatlaw20_PointsKeeps_c54 : ACode := .seq [2, 12, 15, 16] escheatlaw20_PointsKeeps_c34 escheatlaw20_PointsKeeps_c53
def escheatlaw20_PointsKeeps_c55 : ACode := .seq [2, 12, 15] escheatlaw20_PointsKeeps_c33 escheatlaw20_PointsKeeps_c54
def escheatlaw20_PointsKeeps_c56 : ACode := .seq [2, 12] escheatlaw20_PointsKeeps_c32 escheatlaw20_PointsKeeps_c55
def escheatlaw20_PointsKeeps_c57 : ACode := .seq [2, 7, 8, 9, 12] escheatlaw20_PointsKeeps_c9 escheatlaw20_PointsKeeps_c56
def escheatlaw20_PointsKeeps_c58 : ACode := .seq [2, 7, 8, 9, 11, 12] escheatlaw20_PointsKeeps_c4 escheatlaw20_PointsKeeps_c57
def escheatlaw20_PointsKeeps_c59 : ACode := .seq [2, 7, 8, 9, 10, 11] escheatlaw20_PointsKeeps_c3 escheatlaw20_PointsKeeps_c58
def escheatlaw20_PointsKeeps_c60 : ACode := .seq [2, 7, 8, 9] escheatlaw20_PointsKeeps_c2 escheatlaw20_PointsKeeps_c59
def escheatlaw20_PointsKeeps_c61 : ACode := .seq [2, 4, 7] escheatlaw20_PointsKeeps_c1 escheatlaw20_PointsKeeps_c60
def escheatlaw20_PointsKeeps_c62 : ACode := .seq [2, 3, 4] escheatlaw20_PointsKeeps_c0 escheatlaw20_PointsKeeps_c61
def A_escheatlaw20_PointsKeeps : AFn := ⟨escheatlaw20_PointsKeeps_c62, [.tmp 6]⟩
noncomputable def E_escheatlaw20_PointsKeeps : Sums := disp 104 S_points_Patch (disp 111 S_patch_Lay (disp 87 S_points_Get (disp 101 S_escheatlaw20_below (disp 100 S_points_Keep__below_1 (disp 89 S_points_List (disp 90 S_points_Last (disp 91 S_escheatlaw20_works disp0)))))))
noncomputable def escheatlaw20_PointsKeeps_c0_d (n : Nat) : SmV := smOps E_escheatlaw20_PointsKeeps escheatlaw20_PointsKeeps_o0
noncomputable def escheatlaw20_PointsKeeps_c1_d (n : Nat) : SmV := smOps E_escheatlaw20_PointsKeeps escheatlaw20_PointsKeeps_o1
noncomputable def escheatlaw20_PointsKeeps_c2_d (n : Nat) : SmV := smDraw E_escheatlaw20_PointsKeeps 0 escheatlaw20_PointsKeeps_o2 escheatlaw20_PointsKeeps_o3
noncomputable def escheatlaw20_PointsKeeps_c3_d (n : Nat) : SmV := smOps E_escheatlaw20_PointsKeeps escheatlaw20_PointsKeeps_o4
noncomputable def escheatlaw20_PointsKeeps_c4_d (n : Nat) : SmV := smOps E_escheatlaw20_PointsKeeps escheatlaw20_PointsKeeps_o5
noncomputable def escheatlaw20_PointsKeeps_c5_d (n : Nat) : SmV := smOps E_escheatlaw20_PointsKeeps escheatlaw20_PointsKeeps_o6
noncomputable def escheatlaw20_PointsKeeps_c6_d (n : Nat) : SmV := smOps E_escheatlaw20_PointsKeeps escheatlaw20_PointsKeeps_o7
noncomputable def escheatlaw20_PointsKeeps_c7_d (n : Nat) : SmV := smSeq [6] (escheatlaw20_PointsKeeps_c6_d n) smRet
noncomputable def escheatlaw20_PointsKeeps_c8_d (n : Nat) : SmV := smCond (.t 41) (escheatlaw20_PointsKeeps_c7_d n) smSkip
noncomputable def escheatlaw20_PointsKeeps_c9_d (n : Nat) : SmV := smSeq [2, 7, 8, 9, 12, 41] (escheatlaw20_PointsKeeps_c5_d n) (escheatlaw20_PointsKeeps_c8_d n)
noncomputable def escheatlaw20_PointsKeeps_c10_d (n : Nat) : SmV := smOps E_escheatlaw20_PointsKeeps escheatlaw20_PointsKeeps_o8
noncomputable def escheatlaw20_PointsKeeps_c11_d (n : Nat) : SmV := smOps E_escheatlaw20_PointsKeeps escheatlaw20_PointsKeeps_o9
noncomputable def escheatlaw20_PointsKeeps_c12_d (n : Nat) : SmV := smCond (.t 43) smSkip (smExit 0)
noncomputable def escheatlaw20_PointsKeeps_c13_d (n : Nat) : SmV := smSeq [2, 7, 8, 9, 12, 13, 43] (escheatlaw20_PointsKeeps_c11_d n) (escheatlaw20_PointsKeeps_c12_d n)
noncomputable def escheatlaw20_PointsKeeps_c14_d (n : Nat) : SmV := smOps E_escheatlaw20_PointsKeeps escheatlaw20_PointsKeeps_o10
noncomputable def escheatlaw20_PointsKeeps_c15_d (n : Nat) : SmV := smOps E_escheatlaw20_PointsKeeps escheatlaw20_PointsKeeps_o11
noncomputable def escheatlaw20_PointsKeeps_c16_d (n : Nat) : SmV := smOps E_escheatlaw20_PointsKeeps escheatlaw20_PointsKeeps_o12
noncomputable def escheatlaw20_PointsKeeps_c17_d (n : Nat) : SmV := smCond (.t 51) (escheatlaw20_PointsKeeps_c16_d n) smSkip
noncomputable def escheatlaw20_PointsKeeps_c18_d (n : Nat) : SmV := smSeq [2, 7, 8, 9, 12, 13, 14, 51] (escheatlaw20_PointsKeeps_c15_d n) (escheatlaw20_PointsKeeps_c17_d n)
noncomputable def escheatlaw20_PointsKeeps_c19_d (n : Nat) : SmV := smOps E_escheatlaw20_PointsKeeps escheatlaw20_PointsKeeps_o13
noncomputable def escheatlaw20_PointsKeeps_c20_d (n : Nat) : SmV := smOps E_escheatlaw20_PointsKeeps escheatlaw20_PointsKeeps_o14
noncomputable def escheatlaw20_PointsKeeps_c21_d (n : Nat) : SmV := smSeq [6] (escheatlaw20_PointsKeeps_c20_d n) smRet
noncomputable def escheatlaw20_PointsKeeps_c22_d (n : Nat) : SmV := smCond (.t 57) (escheatlaw20_PointsKeeps_c21_d n) smSkip
noncomputable def escheatlaw20_PointsKeeps_c23_d (n : Nat) : SmV := smSeq [2, 7, 8, 9, 12, 13, 57] (escheatlaw20_PointsKeeps_c19_d n) (escheatlaw20_PointsKeeps_c22_d n)
noncomputable def escheatlaw20_PointsKeeps_c24_d (n : Nat) : SmV := smSeq [2, 7, 8, 9, 12, 13, 14] (escheatlaw20_PointsKeeps_c18_d n) (escheatlaw20_PointsKeeps_c23_d n)
noncomputable def escheatlaw20_PointsKeeps_c25_d (n : Nat) : SmV := smSeq [2, 7, 8, 9, 12, 13, 14] (escheatlaw20_PointsKeeps_c14_d n) (escheatlaw20_PointsKeeps_c24_d n)
noncomputable def escheatlaw20_PointsKeeps_c26_d (n : Nat) : SmV := smBlock 1 (escheatlaw20_PointsKeeps_c25_d n)
noncomputable def escheatlaw20_PointsKeeps_c27_d (n : Nat) : SmV := smOps E_escheatlaw20_PointsKeeps escheatlaw20_PointsKeeps_o15
noncomputable def escheatlaw20_PointsKeeps_c28_d (n : Nat) : SmV := smSeq [2, 7, 8, 9, 12, 13] (escheatlaw20_PointsKeeps_c26_d n) (escheatlaw20_PointsKeeps_c27_d n)
noncomputable def escheatlaw20_PointsKeeps_c29_d (n : Nat) : SmV := smSeq [2, 7, 8, 9, 12, 13] (escheatlaw20_PointsKeeps_c13_d n) (escheatlaw20_PointsKeeps_c28_d n)
noncomputable def escheatlaw20_PointsKeeps_c30_d (n : Nat) : SmV := smLoop n [2, 7, 8, 9, 12, 13] (escheatlaw20_PointsKeeps_c29_d n)
noncomputable def escheatlaw20_PointsKeeps_c31_d (n : Nat) : SmV := smBlock 0 (escheatlaw20_PointsKeeps_c30_d n)
noncomputable def escheatlaw20_PointsKeeps_c32_d (n : Nat) : SmV := smSeq [2, 7, 8, 9, 12, 13] (escheatlaw20_PointsKeeps_c10_d n) (escheatlaw20_PointsKeeps_c31_d n)
noncomputable def escheatlaw20_PointsKeeps_c33_d (n : Nat) : SmV := smDraw E_escheatlaw20_PointsKeeps 1 escheatlaw20_PointsKeeps_o16 escheatlaw20_PointsKeeps_o17
noncomputable def escheatlaw20_PointsKeeps_c34_d (n : Nat) : SmV := smOps E_escheatlaw20_PointsKeeps escheatlaw20_PointsKeeps_o18
noncomputable def escheatlaw20_PointsKeeps_c35_d (n : Nat) : SmV := smOps E_escheatlaw20_PointsKeeps escheatlaw20_PointsKeeps_o19
noncomputable def escheatlaw20_PointsKeeps_c36_d (n : Nat) : SmV := smOps E_escheatlaw20_PointsKeeps escheatlaw20_PointsKeeps_o20
noncomputable def escheatlaw20_PointsKeeps_c37_d (n : Nat) : SmV := smCond (.t 68) smSkip (smExit 2)
noncomputable def escheatlaw20_PointsKeeps_c38_d (n : Nat) : SmV := smSeq [2, 12, 15, 16, 17, 68] (escheatlaw20_PointsKeeps_c36_d n) (escheatlaw20_PointsKeeps_c37_d n)
noncomputable def escheatlaw20_PointsKeeps_c39_d (n : Nat) : SmV := smOps E_escheatlaw20_PointsKeeps escheatlaw20_PointsKeeps_o21
noncomputable def escheatlaw20_PointsKeeps_c40_d (n : Nat) : SmV := smOps E_escheatlaw20_PointsKeeps escheatlaw20_PointsKeeps_o22
noncomputable def escheatlaw20_PointsKeeps_c41_d (n : Nat) : SmV := smSeq [6] (escheatlaw20_PointsKeeps_c40_d n) smRet
noncomputable def escheatlaw20_PointsKeeps_c42_d (n : Nat) : SmV := smCond (.t 77) (escheatlaw20_PointsKeeps_c41_d n) smSkip
noncomputable def escheatlaw20_PointsKeeps_c43_d (n : Nat) : SmV := smSeq [2, 12, 15, 16, 17, 77] (escheatlaw20_PointsKeeps_c39_d n) (escheatlaw20_PointsKeeps_c42_d n)
noncomputable def escheatlaw20_PointsKeeps_c44_d (n : Nat) : SmV := smBlock 3 (escheatlaw20_PointsKeeps_c43_d n)
noncomputable def escheatlaw20_PointsKeeps_c45_d (n : Nat) : SmV := smOps E_escheatlaw20_PointsKeeps escheatlaw20_PointsKeeps_o23
noncomputable def escheatlaw20_PointsKeeps_c46_d (n : Nat) : SmV := smSeq [2, 12, 15, 16, 17] (escheatlaw20_PointsKeeps_c44_d n) (escheatlaw20_PointsKeeps_c45_d n)
noncomputable def escheatlaw20_PointsKeeps_c47_d (n : Nat) : SmV := smSeq [2, 12, 15, 16, 17] (escheatlaw20_PointsKeeps_c38_d n) (escheatlaw20_PointsKeeps_c46_d n)
noncomputable def escheatlaw20_PointsKeeps_c48_d (n : Nat) : SmV := smLoop n [2, 12, 15, 16, 17] (escheatlaw20_PointsKeeps_c47_d n)
noncomputable def escheatlaw20_PointsKeeps_c49_d (n : Nat) : SmV := smBlock 2 (escheatlaw20_PointsKeeps_c48_d n)
noncomputable def escheatlaw20_PointsKeeps_c50_d (n : Nat) : SmV := smSeq [2, 12, 15, 16, 17] (escheatlaw20_PointsKeeps_c35_d n) (escheatlaw20_PointsKeeps_c49_d n)
noncomputable def escheatlaw20_PointsKeeps_c51_d (n : Nat) : SmV := smDraw E_escheatlaw20_PointsKeeps 0 escheatlaw20_PointsKeeps_o24 escheatlaw20_PointsKeeps_o25
noncomputable def escheatlaw20_PointsKeeps_c52_d (n : Nat) : SmV := smSeq [6] (escheatlaw20_PointsKeeps_c51_d n) smRet
noncomputable def escheatlaw20_PointsKeeps_c53_d (n : Nat) : SmV := smSeq [2, 12, 15] (escheatlaw20_PointsKeeps_c50_d n) (escheatlaw20_PointsKeeps_c52_d n)
noncomputable def escheatlaw20_PointsKeeps_c54_d (n : Nat) : SmV := smSeq [2, 12, 15, 16] (escheatlaw20_PointsKeeps_c34_d n) (escheatlaw20_PointsKeeps_c53_d n)
noncomputable def escheatlaw20_PointsKeeps_c55_d (n : Nat) : SmV := smSeq [2, 12, 15] (escheatlaw20_PointsKeeps_c33_d n) (escheatlaw20_PointsKeeps_c54_d n)
noncomputable def escheatlaw20_PointsKeeps_c56_d (n : Nat) : SmV := smSeq [2, 12] (escheatlaw20_PointsKeeps_c32_d n) (escheatlaw20_PointsKeeps_c55_d n)
noncomputable def escheatlaw20_PointsKeeps_c57_d (n : Nat) : SmV := smSeq [2, 7, 8, 9, 12] (escheatlaw20_PointsKeeps_c9_d n) (escheatlaw20_PointsKeeps_c56_d n)
noncomputable def escheatlaw20_PointsKeeps_c58_d (n : Nat) : SmV := smSeq [2, 7, 8, 9, 11, 12] (escheatlaw20_PointsKeeps_c4_d n) (escheatlaw20_PointsKeeps_c57_d n)
noncomputable def escheatlaw20_PointsKeeps_c59_d (n : Nat) : SmV := smSeq [2, 7, 8, 9, 10, 11] (escheatlaw20_PointsKeeps_c3_d n) (escheatlaw20_PointsKeeps_c58_d n)
noncomputable def escheatlaw20_PointsKeeps_c60_d (n : Nat) : SmV := smSeq [2, 7, 8, 9] (escheatlaw20_PointsKeeps_c2_d n) (escheatlaw20_PointsKeeps_c59_d n)
noncomputable def escheatlaw20_PointsKeeps_c61_d (n : Nat) : SmV := smSeq [2, 4, 7] (escheatlaw20_PointsKeeps_c1_d n) (escheatlaw20_PointsKeeps_c60_d n)
noncomputable def escheatlaw20_PointsKeeps_c62_d (n : Nat) : SmV := smSeq [2, 3, 4] (escheatlaw20_PointsKeeps_c0_d n) (escheatlaw20_PointsKeeps_c61_d n)
noncomputable def escheatlaw20_PointsKeeps_k0 (n : Nat) : AExit → Env → Heap → OptV := fun x e h => match x with | .normal => hold ((escheatlaw20_PointsKeeps_c55_d n) A_escheatlaw20_PointsKeeps.fin (e.keep [2, 12]) h) | .exit id => A_escheatlaw20_PointsKeeps.fin (.exit id) e h | .ret => A_escheatlaw20_PointsKeeps.fin .ret e h
noncomputable def escheatlaw20_PointsKeeps_k1 (n : Nat) : AExit → Env → Heap → OptV := fun x e h => match x with | .exit i => bif Nat.beq i 0 then (escheatlaw20_PointsKeeps_k0 n) .normal e h else (escheatlaw20_PointsKeeps_k0 n) (.exit i) e h | .normal => (escheatlaw20_PointsKeeps_k0 n) .normal e h | .ret => (escheatlaw20_PointsKeeps_k0 n) .ret e h
noncomputable def escheatlaw20_PointsKeeps_l0 (n m : Nat) (x2 x7 x8 x9 x12 x13 : Val) (h : Heap) : OptV := around (escheatlaw20_PointsKeeps_c29_d n) [2, 7, 8, 9, 12, 13] (escheatlaw20_PointsKeeps_k1 n) m [(2, x2), (7, x7), (8, x8), (9, x9), (12, x12), (13, x13)] h
noncomputable def R_escheatlaw20_PointsKeeps (n : Nat) (args : List Val) (h : Heap) : OptV := (escheatlaw20_PointsKeeps_c62_d n) A_escheatlaw20_PointsKeeps.fin (params 0 args) h
noncomputable def escheatlaw20_PointsKeeps_k2 (n m : Nat) : AExit → Env → Heap → OptV := fun x e h => match x with | .normal => around (escheatlaw20_PointsKeeps_c29_d n) [2, 7, 8, 9, 12, 13] (escheatlaw20_PointsKeeps_k1 n) m (e.keep [2, 7, 8, 9, 12, 13]) h | .exit id => (escheatlaw20_PointsKeeps_k1 n) (.exit id) e h | .ret => (escheatlaw20_PointsKeeps_k1 n) .ret e h
noncomputable def escheatlaw20_PointsKeeps_k3 (n m : Nat) : AExit → Env → Heap → OptV := fun x e h => match x with | .normal => hold ((escheatlaw20_PointsKeeps_c27_d n) (escheatlaw20_PointsKeeps_k2 n m) (e.keep [2, 7, 8, 9, 12, 13]) h) | .exit id => (escheatlaw20_PointsKeeps_k2 n m) (.exit id) e h | .ret => (escheatlaw20_PointsKeeps_k2 n m) .ret e h
noncomputable def escheatlaw20_PointsKeeps_k4 (n m : Nat) : AExit → Env → Heap → OptV := fun x e h => match x with | .exit i => bif Nat.beq i 1 then (escheatlaw20_PointsKeeps_k3 n m) .normal e h else (escheatlaw20_PointsKeeps_k3 n m) (.exit i) e h | .normal => (escheatlaw20_PointsKeeps_k3 n m) .normal e h | .ret => (escheatlaw20_PointsKeeps_k3 n m) .ret e h
noncomputable def escheatlaw20_PointsKeeps_j0 (n m : Nat) (x2 x7 x8 x9 x12 x13 x14 : Val) (h : Heap) : OptV := hold ((escheatlaw20_PointsKeeps_c23_d n) (escheatlaw20_PointsKeeps_k4 n m) [(2, x2), (7, x7), (8, x8), (9, x9), (12, x12), (13, x13), (14, x14)] h)
noncomputable def escheatlaw20_PointsKeeps_k5 (n : Nat) : AExit → Env → Heap → OptV := fun x e h => match x with | .normal => hold ((escheatlaw20_PointsKeeps_c52_d n) A_escheatlaw20_PointsKeeps.fin (e.keep [2, 12, 15]) h) | .exit id => A_escheatlaw20_PointsKeeps.fin (.exit id) e h | .ret => A_escheatlaw20_PointsKeeps.fin .ret e h
noncomputable def escheatlaw20_PointsKeeps_k6 (n : Nat) : AExit → Env → Heap → OptV := fun x e h => match x with | .exit i => bif Nat.beq i 2 then (escheatlaw20_PointsKeeps_k5 n) .normal e h else (escheatlaw20_PointsKeeps_k5 n) (.exit i) e h | .normal => (escheatlaw20_PointsKeeps_k5 n) .normal e h | .ret => (escheatlaw20_PointsKeeps_k5 n) .ret e h
noncomputable def escheatlaw20_PointsKeeps_l1 (n m : Nat) (x2 x12 x15 x16 x17 : Val) (h : Heap) : OptV := around (escheatlaw20_PointsKeeps_c47_d n) [2, 12, 15, 16, 17] (escheatlaw20_PointsKeeps_k6 n) m [(2, x2), (12, x12), (15, x15), (16, x16), (17, x17)] h
theorem R_escheatlaw20_PointsKeeps_eq (n : Nat) (a0 a1 a2 : Val) (h : Heap) : R_escheatlaw20_PointsKeeps n [a0, a1, a2] h = bnd (cells? a0) fun c1 => bnd (cells? a1) fun c2 => bnd (aloadN (((h ++ [some (Row.mk (c1) true)]) ++ [some (Row.mk (c2) true)])) 256 ((.c (.p h.length 0)))) fun v3 => bnd (astoreN ((((h ++ [some (Row.mk (c1) true)]) ++ [some (Row.mk (c2) true)]) ++ [some (Row.mk (List.replicate 256 (.i .u8 0)) true)])) 256 ((.c (.p (((h ++ [some (Row.mk (c1) true)]) ++ [some (Row.mk (c2) true)])).length 0))) v3) fun h4 => bnd (aiAddrA 2 1 ((.c (.p ((h ++ [some (Row.mk (c1) true)])).length 0))) (.c (.i .i64 0))) fun v5 => bnd (aload1 h4 v5) fun v6 => bnd (abin .rem v6 (.c (.i .u8 128))) fun v7 => bnd (aconv .i64 v7) fun v8 => bnd (aiAddrA 2 1 ((.c (.p ((h ++ [some (Row.mk (c1) true)])).length 0))) (.c (.i .i64 1))) fun v9 => bnd (aload1 h4 v9) fun v10 => bnd (aconv .i64 v10) fun v11 => bnd (abin .mul (.c (.i .i64 256)) v11) fun v12 => bnd (aiAddrA 2 1 ((.c (.p ((h ++ [some (Row.mk (c1) true)])).length 0))) (.c (.i .i64 0))) fun v13 => bnd (aload1 h4 v13) fun v14 => bnd (aconv .i64 v14) fun v15 => bnd (abin .add v12 v15) fun v16 => bnd (S_points_Patch [v8, v16] ((h4 ++ []))) fun p17 => bnd (aext p17.1 0) fun v18 => bnd (aext p17.1 1) fun v19 => bnd (astoreN ((p17.2 ++ [some (Row.mk ([.i .i64 0, .ns]) true)])) 2 ((.c (.p p17.2.length 0))) v18) fun h20 => bnd (aloadN h20 256 ((.c (.p (((h ++ [some (Row.mk (c1) true)]) ++ [some (Row.mk (c2) true)])).length 0)))) fun v21 => bnd (aloadN h20 2 ((.c (.p p17.2.length 0)))) fun v22 => bnd (S_patch_Lay [v21, v22] h20) fun p23 => bnd (astoreN ((p23.2 ++ [some (Row.mk (List.replicate 256 (.i .u8 0)) true)])) 256 ((.c (.p p23.2.length 0))) p23.1) fun h24 => bnd (abin .neq v19 (.c (.i .i64 0))) fun v25 => cnd v25 (some ((.c (.b false)), h24)) (escheatlaw20_PointsKeeps_l0 n n a2 ((.c (.p (((h ++ [some (Row.mk (c1) true)]) ++ [some (Row.mk (c2) true)])).length 0))) v8 v16 ((.c (.p p23.2.length 0))) (.c (.i .i64 0)) h24) := by kernel_rfl
theorem escheatlaw20_PointsKeeps_l0_eq (n m : Nat) (x2 x7 x8 x9 x12 x13 : Val) (h : Heap) : escheatlaw20_PointsKeeps_l0 n (m + 1) x2 x7 x8 x9 x12 x13 h = bnd (abin .lss x13 (.c (.i .i64 128))) fun v26 => cnd v26 (bnd (aloadN h 256 x7) fun v27 => bnd (S_points_Get [v27, x13] h) fun p28 => bnd (abin .eql x13 x8) fun v29 => cnd v29 (escheatlaw20_PointsKeeps_j0 n m x2 x7 x8 x9 x12 x13 x9 p28.2) (escheatlaw20_PointsKeeps_j0 n m x2 x7 x8 x9 x12 x13 p28.1 p28.2)) (bnd (aloadN h 256 x12) fun v30 => bnd (aconv .i64 x2) fun v31 => bnd (quiet ((h ++ [none])) (S_escheatlaw20_below [v31] ((h ++ [none])))) fun p32 => bnd (quiet p32.2 (S_points_Keep__below_1 [v30, p32.1] p32.2)) fun p33 => bnd (astoreN ((p33.2.set (h.length + 0) (some (Row.mk (List.replicate 256 (.i .u8 0)) true)))) 256 ((.c (.p (h.length + 0) 0))) p33.1) fun h34 => bnd (aloadN h34 256 ((.c (.p (h.length + 0) 0)))) fun v35 => bnd (S_points_List [v35] h34) fun p36 => escheatlaw20_PointsKeeps_l1 n n x2 x12 ((.c (.p (h.length + 0) 0))) p36.1 (.c (.i .i64 0)) p36.2) := by kernel_rfl
theorem escheatlaw20_PointsKeeps_j0_eq (n m : Nat) (x2 x7 x8 x9 x12 x13 x14 : Val) (h : Heap) : escheatlaw20_PointsKeeps_j0 n m x2 x7 x8 x9 x12 x13 x14 h = bnd (aloadN h 256 x12) fun v37 => bnd (S_points_Get [v37, x13] h) fun p38 => bnd (abin .neq p38.1 x14) fun v39 => cnd v39 (some ((.c (.b false)), p38.2)) (bnd (abin .add x13 (.c (.i .i64 1))) fun v40 => escheatlaw20_PointsKeeps_l0 n m x2 x7 x8 x9 x12 v40 p38.2) := by kernel_rfl
theorem escheatlaw20_PointsKeeps_l1_eq (n m : Nat) (x2 x12 x15 x16 x17 : Val) (h : Heap) : escheatlaw20_PointsKeeps_l1 n (m + 1) x2 x12 x15 x16 x17 h = bnd (alen x16) fun v41 => bnd (abin .lss x17 v41) fun v42 => cnd v42 (bnd (aiAddrL 1 x16 x17) fun v43 => bnd (aload1 h v43) fun v44 => bnd (aconv .i64 x2) fun v45 => bnd (abin .geq v44 v45) fun v46 => cnd v46 (some ((.c (.b false)), h)) (bnd (abin .add x17 (.c (.i .i64 1))) fun v47 => escheatlaw20_PointsKeeps_l1 n m x2 x12 x15 x16 v47 h)) (bnd (aloadN h 256 x15) fun v48 => bnd (aconv .i64 x2) fun v49 => bnd (quiet ((h ++ [])) (S_escheatlaw20_below [v49] ((h ++ [])))) fun p50 => bnd (quiet p50.2 (S_points_Keep__below_1 [v48, p50.1] p50.2)) fun p51 => bnd (aloadN h 256 x15) fun v52 => bnd (aeq false (List.replicate 256 (.i .u8)) p51.1 v52) fun v53 => bnd (gd v53 true (bnd (aloadN h 256 x15) fun v54 => some (v54, p51.2)) (some (.no, p51.2))) fun p55 => bnd (gd v53 true (bnd (quiet p55.2 (S_points_Last [p55.1] p55.2)) fun p56 => some (p56.1, p56.2)) (some (.no, p55.2))) fun p57 => bnd (gd v53 true (bnd (aloadN h 256 x12) fun v58 => some (v58, p57.2)) (some (.no, p57.2))) fun p59 => bnd (gd v53 true (bnd (S_points_Last [p59.1] p59.2) fun p60 => some (p60.1, p60.2)) (some (.no, p59.2))) fun p61 => bnd (gd v53 true (bnd (abin .leq p57.1 p61.1) fun v62 => some (v62, p61.2)) (some (.no, p61.2))) fun p63 => bnd (apick v53 p63.1 (.c (.b false))) fun v64 => bnd (gd v64 true (bnd (S_escheatlaw20_works [] p63.2) fun p65 => some (p65.1, p65.2)) (some (.no, p63.2))) fun p66 => bnd (apick v64 p66.1 (.c (.b false))) fun v67 => some (v67, p66.2)) := by kernel_rfl
theorem K_escheatlaw20_PointsKeeps : FnK Try.prog 21 A_escheatlaw20_PointsKeeps E_escheatlaw20_PointsKeeps R_escheatlaw20_PointsKeeps := .mk' (sound1 S_points_Patch_ok (sound1 S_patch_Lay_ok (sound1 S_points_Get_ok (sound1 S_escheatlaw20_below_ok (sound1 S_points_Keep__below_1_ok (sound1 S_points_List_ok (sound1 S_points_Last_ok (sound1 S_escheatlaw20_works_ok sound0)))))))) Try.func21 (by kernel_rfl) (by intro n args h; kernel_rfl)
noncomputable def S_escheatlaw20_PointsKeeps : Fun := tidy (Lim A_escheatlaw20_PointsKeeps E_escheatlaw20_PointsKeeps)
theorem S_escheatlaw20_PointsKeeps_ok : SOk Try.prog 21 S_escheatlaw20_PointsKeeps := K_escheatlaw20_PointsKeeps.sok
theorem S_escheatlaw20_PointsKeeps_flat {n : Nat} {args : List Val} {h h2 : Heap} {v : Val} (he : R_escheatlaw20_PointsKeeps n args (ro h) = some (v, h2)) (hf : v.flat = true) : S_escheatlaw20_PointsKeeps args h = some (v, h) := K_escheatlaw20_PointsKeeps.flat he hf
end Go.Proofs.Ytbbkpmbepljhkaa
