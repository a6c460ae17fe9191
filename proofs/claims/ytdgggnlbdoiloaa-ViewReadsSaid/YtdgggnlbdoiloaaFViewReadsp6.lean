/- What the proof of this claim leans on, part 6. -/
import Derived.Test.YtdgggnlbdoiloaaFViewReadsp5
set_option linter.all false
section
namespace Go.Proofs.Ytdgggnlbdoiloaa
open Go Go.Esc
set_option maxRecDepth 100000
def escheatlaw21_ViewReads_o0 : List AOper := [{ dst := some 6, op := .mv (.v (.c (.b false))) }]
def escheatlaw21_ViewReads_c0 : ACode := .ops escheatlaw21_ViewReads_o0
def escheatlaw21_ViewReads_o1 : List AOper := [{ dst := some 14, op := .mv (.t 0) }, { dst := some 15, op := .len (.t 14) }, { dst := some 16, op := .bin .gtr (.t 15) (.v (.c (.i .i64 60))) }]
def escheatlaw21_ViewReads_c1 : ACode := .ops escheatlaw21_ViewReads_o1
def escheatlaw21_ViewReads_o2 : List AOper := [{ dst := some 17, op := .call 29 [] }, { dst := some 6, op := .mv (.t 17) }]
def escheatlaw21_ViewReads_c2 : ACode := .ops escheatlaw21_ViewReads_o2
def escheatlaw21_ViewReads_c3 : ACode := .seq [6] escheatlaw21_ViewReads_c2 .ret
def escheatlaw21_ViewReads_c4 : ACode := .cond (.t 16) escheatlaw21_ViewReads_c3 .skip
def escheatlaw21_ViewReads_c5 : ACode := .seq [0, 1, 2, 16] escheatlaw21_ViewReads_c1 escheatlaw21_ViewReads_c4
def escheatlaw21_ViewReads_o3 : List AOper := [{ dst := some 19, op := .mv (.t 0) }, { dst := some 20, op := .call 16 [(.t 19)] }, { dst := some 21, op := .call 15 [(.t 20)] }, { dst := some 18, op := .mv (.t 21) }, { dst := some 22, op := .ext (.t 18) 0 }, { dst := some 23, op := .ext (.t 18) 1 }, { dst := some 7, op := .alloc ([.i .i64 0, .i .i64 0, .i .u64 0, .nf]) }, { dst := none, op := .storeN 4 (.t 7) (.t 22) }, { dst := some 8, op := .mv (.t 23) }]
def escheatlaw21_ViewReads_c6 : ACode := .ops escheatlaw21_ViewReads_o3
def escheatlaw21_ViewReads_o4 : List AOper := [{ dst := some 25, op := .mv (.t 0) }, { dst := some 26, op := .call 30 [(.t 25)] }, { dst := some 24, op := .mv (.t 26) }, { dst := some 27, op := .ext (.t 24) 0 }, { dst := some 28, op := .ext (.t 24) 1 }, { dst := some 9, op := .alloc ([.i .i64 0, .i .i64 0, .i .u64 0]) }, { dst := none, op := .storeN 3 (.t 9) (.t 27) }, { dst := some 10, op := .mv (.t 28) }]
def escheatlaw21_ViewReads_c7 : ACode := .ops escheatlaw21_ViewReads_o4
def escheatlaw21_ViewReads_o5 : List AOper := [{ dst := some 29, op := .mv (.t 10) }, { dst := some 30, op := .un .not (.t 29) }]
def escheatlaw21_ViewReads_c8 : ACode := .ops escheatlaw21_ViewReads_o5
def escheatlaw21_ViewReads_o6 : List AOper := [{ dst := some 31, op := .mv (.t 8) }, { dst := some 32, op := .bin .eql (.t 31) (.v (.c (.i .i64 13))) }, { dst := some 33, op := .mv (.t 32) }, { dst := some 34, op := .fAddr (.t 7) 0, guard := some (33, true) }, { dst := some 35, op := .loadN 3 (.t 34), guard := some (33, true) }, { dst := some 36, op := .build ([.i .i64 0, .i .i64 0, .i .u64 0]) [], guard := some (33, true) }, { dst := some 37, op := .eqA false ([.i .i64, .i .i64, .i .u64]) (.t 35) (.t 36), guard := some (33, true) }, { dst := some 38, op := .pick (.t 33) (.t 37) (.v (.c (.b false))) }, { dst := some 39, op := .mv (.t 38) }, { dst := some 40, op := .loadN 4 (.t 7), guard := some (39, true) }, { dst := some 41, op := .call 31 [(.t 40)], guard := some (39, true) }, { dst := some 42, op := .len (.t 41), guard := some (39, true) }, { dst := some 43, op := .loadN 4 (.t 7), guard := some (39, true) }, { dst := some 44, op := .call 32 [(.t 43)], guard := some (39, true) }, { dst := some 45, op := .len (.t 44), guard := some (39, true) }, { dst := some 46, op := .bin .add (.t 42) (.t 45), guard := some (39, true) }, { dst := some 47, op := .bin .eql (.t 46) (.v (.c (.i .i64 0))), guard := some (39, true) }, { dst := some 48, op := .pick (.t 39) (.t 47) (.v (.c (.b false))) }, { dst := some 49, op := .mv (.t 48) }, { dst := some 50, op := .loadN 4 (.t 7), guard := some (49, true) }, { dst := some 51, op := .mv (.t 2), guard := some (49, true) }]
def escheatlaw21_ViewReads_o7 : List AOper := [{ dst := some 52, op := .call 33 [(.t 50), (.t 51)], guard := some (49, true) }, { dst := some 53, op := .un .not (.t 52), guard := some (49, true) }, { dst := some 54, op := .pick (.t 49) (.t 53) (.v (.c (.b false))) }, { dst := some 55, op := .mv (.t 54) }, { dst := some 56, op := .call 29 [], guard := some (55, true) }, { dst := some 57, op := .pick (.t 55) (.t 56) (.v (.c (.b false))) }, { dst := some 6, op := .mv (.t 57) }]
def escheatlaw21_ViewReads_c9 : ACode := .draw 0 escheatlaw21_ViewReads_o6 escheatlaw21_ViewReads_o7
def escheatlaw21_ViewReads_c10 : ACode := .seq [6] escheatlaw21_ViewReads_c9 .ret
def escheatlaw21_ViewReads_c11 : ACode := .cond (.t 30) escheatlaw21_ViewReads_c10 .skip
def escheatlaw21_ViewReads_c12 : ACode := .seq [0, 1, 2, 7, 8, 9, 30] escheatlaw21_ViewReads_c8 escheatlaw21_ViewReads_c11
def escheatlaw21_ViewReads_o8 : List AOper := [{ dst := some 58, op := .mv (.t 8) }, { dst := some 59, op := .bin .neq (.t 58) (.v (.c (.i .i64 0))) }, { dst := some 60, op := .mv (.t 59) }, { dst := some 61, op := .fAddr (.t 7) 0, guard := some (60, false) }, { dst := some 62, op := .loadN 3 (.t 61), guard := some (60, false) }, { dst := some 63, op := .loadN 3 (.t 9), guard := some (60, false) }, { dst := some 64, op := .eqA true ([.i .i64, .i .i64, .i .u64]) (.t 62) (.t 63), guard := some (60, false) }, { dst := some 65, op := .pick (.t 60) (.v (.c (.b true))) (.t 64) }, { dst := some 66, op := .mv (.t 65) }, { dst := some 67, op := .loadN 4 (.t 7), guard := some (66, false) }, { dst := some 68, op := .mv (.t 1), guard := some (66, false) }, { dst := some 69, op := .call 17 [(.t 67), (.t 68)], guard := some (66, false) }, { dst := some 70, op := .mv (.t 0), guard := some (66, false) }, { dst := some 71, op := .loadN 3 (.t 9), guard := some (66, false) }, { dst := some 72, op := .mv (.t 1), guard := some (66, false) }, { dst := some 73, op := .call 34 [(.t 70), (.t 71), (.t 72)], guard := some (66, false) }, { dst := some 74, op := .eqA true ([.i .i64, .i .i64, .i .i64, .i .i64, .i .i64, .i .i64, .i .i64, .i .i64, .i .i64, .i .i64, .i .i64]) (.t 69) (.t 73), guard := some (66, false) }, { dst := some 75, op := .pick (.t 66) (.v (.c (.b true))) (.t 74) }, { dst := some 76, op := .mv (.t 75) }, { dst := some 77, op := .loadN 4 (.t 7), guard := some (76, false) }, { dst := some 78, op := .mv (.t 2), guard := some (76, false) }, { dst := some 79, op := .call 33 [(.t 77), (.t 78)], guard := some (76, false) }, { dst := some 80, op := .mv (.t 0), guard := some (76, false) }, { dst := some 81, op := .mv (.t 2), guard := some (76, false) }, { dst := some 82, op := .call 35 [(.t 80), (.t 81)], guard := some (76, false) }, { dst := some 83, op := .eqB true (.t 79) (.t 82), guard := some (76, false) }, { dst := some 84, op := .pick (.t 76) (.v (.c (.b true))) (.t 83) }, { dst := some 85, op := .mv (.t 84) }, { dst := some 86, op := .loadN 4 (.t 7), guard := some (85, false) }, { dst := some 87, op := .call 32 [(.t 86)], guard := some (85, false) }, { dst := some 88, op := .mv (.t 0), guard := some (85, false) }]
def escheatlaw21_ViewReads_o9 : List AOper := [{ dst := some 89, op := .call 36 [(.t 87), (.t 88)], guard := some (85, false) }, { dst := some 90, op := .un .not (.t 89), guard := some (85, false) }, { dst := some 91, op := .pick (.t 85) (.v (.c (.b true))) (.t 90) }]
def escheatlaw21_ViewReads_c13 : ACode := .draw 0 escheatlaw21_ViewReads_o8 escheatlaw21_ViewReads_o9
def escheatlaw21_ViewReads_o10 : List AOper := [{ dst := some 6, op := .mv (.v (.c (.b false))) }]
def escheatlaw21_ViewReads_c14 : ACode := .ops escheatlaw21_ViewReads_o10
def escheatlaw21_ViewReads_c15 : ACode := .seq [6] escheatlaw21_ViewReads_c14 .ret
def escheatlaw21_ViewReads_c16 : ACode := .cond (.t 91) escheatlaw21_ViewReads_c15 .skip
def escheatlaw21_ViewReads_c17 : ACode := .seq [0, 2, 7, 9, 91] escheatlaw21_ViewReads_c13 escheatlaw21_ViewReads_c16
def escheatlaw21_ViewReads_o11 : List AOper := [{ dst := some 11, op := .nilrow 1 }]
def escheatlaw21_ViewReads_c18 : ACode := .ops escheatlaw21_ViewReads_o11
def escheatlaw21_ViewReads_o12 : List AOper := [{ dst := some 12, op := .mv (.v (.c (.i .i64 1))) }]
def escheatlaw21_ViewReads_c19 : ACode := .ops escheatlaw21_ViewReads_o12
def escheatlaw21_ViewReads_o13 : List AOper := [{ dst := some 92, op := .mv (.t 12) }, { dst := some 93, op := .fAddr (.t 9) 1 }, { dst := some 94, op := .load1 (.t 93) }, { dst := some 95, op := .bin .leq (.t 92) (.t 94) }]
def escheatlaw21_ViewReads_c20 : ACode := .ops escheatlaw21_ViewReads_o13
def escheatlaw21_ViewReads_c21 : ACode := .cond (.t 95) .skip (.exit 0)
def escheatlaw21_ViewReads_c22 : ACode := .seq [0, 2, 7, 9, 11, 12, 95] escheatlaw21_ViewReads_c20 escheatlaw21_ViewReads_c21
def escheatlaw21_ViewReads_o14 : List AOper := [{ dst := some 98, op := .mv (.t 0) }, { dst := some 99, op := .loadN 3 (.t 9) }, { dst := some 100, op := .mv (.t 12) }, { dst := some 101, op := .call 34 [(.t 98), (.t 99), (.t 100)] }, { dst := some 102, op := .fld1 (.t 101) 0 }, { dst := some 103, op := .bin .neq (.t 102) (.v (.c (.i .i64 0))) }]
def escheatlaw21_ViewReads_c23 : ACode := .ops escheatlaw21_ViewReads_o14
def escheatlaw21_ViewReads_o15 : List AOper := [{ dst := some 104, op := .mv (.t 11) }, { dst := some 105, op := .mv (.t 12) }, { dst := some 106, op := .buildSl 1 1 ([.i .i64 0]) [(0, 1, (.t 105))] }, { dst := some 107, op := .app 1 (.t 104) (.t 106) }, { dst := some 11, op := .mv (.t 107) }]
def escheatlaw21_ViewReads_c24 : ACode := .ops escheatlaw21_ViewReads_o15
def escheatlaw21_ViewReads_c25 : ACode := .cond (.t 103) escheatlaw21_ViewReads_c24 .skip
def escheatlaw21_ViewReads_c26 : ACode := .seq [0, 2, 7, 9, 11, 12, 103] escheatlaw21_ViewReads_c23 escheatlaw21_ViewReads_c25
def escheatlaw21_ViewReads_c27 : ACode := .block 1 escheatlaw21_ViewReads_c26
def escheatlaw21_ViewReads_o16 : List AOper := [{ dst := some 96, op := .mv (.t 12) }, { dst := some 97, op := .bin .add (.t 96) (.v (.c (.i .i64 1))) }, { dst := some 12, op := .mv (.t 97) }]
def escheatlaw21_ViewReads_c28 : ACode := .ops escheatlaw21_ViewReads_o16
def escheatlaw21_ViewReads_c29 : ACode := .seq [0, 2, 7, 9, 11, 12] escheatlaw21_ViewReads_c27 escheatlaw21_ViewReads_c28
def escheatlaw21_ViewReads_c30 : ACode := .seq [0, 2, 7, 9, 11, 12] escheatlaw21_ViewReads_c22 escheatlaw21_ViewReads_c29
def escheatlaw21_ViewReads_c31 : ACode := .loop [0, 2, 7, 9, 11, 12] escheatlaw21_ViewReads_c30
def escheatlaw21_ViewReads_c32 : ACode := .block 0 escheatlaw21_ViewReads_c31
def escheatlaw21_ViewReads_c33 : ACode := .seq [0, 2, 7, 9, 11, 12] escheatlaw21_ViewReads_c19 escheatlaw21_ViewReads_c32
def escheatlaw21_ViewReads_o17 : List AOper := [{ dst := some 108, op := .build (List.replicate 256 (.i .u8 0)) [] }, { dst := some 13, op := .alloc (List.replicate 256 (.i .u8 0)) }, { dst := none, op := .storeN 256 (.t 13) (.t 108) }]
def escheatlaw21_ViewReads_c34 : ACode := .ops escheatlaw21_ViewReads_o17
def escheatlaw21_ViewReads_o18 : List AOper := [{ dst := some 109, op := .mv (.t 2) }, { dst := some 110, op := .bin .geq (.t 109) (.v (.c (.i .i64 0))) }, { dst := some 111, op := .mv (.t 110) }, { dst := some 112, op := .mv (.t 2), guard := some (111, true) }, { dst := some 113, op := .mv (.t 0), guard := some (111, true) }, { dst := some 114, op := .len (.t 113), guard := some (111, true) }, { dst := some 115, op := .bin .lss (.t 112) (.t 114), guard := some (111, true) }, { dst := some 116, op := .pick (.t 111) (.t 115) (.v (.c (.b false))) }]
def escheatlaw21_ViewReads_c35 : ACode := .ops escheatlaw21_ViewReads_o18
def escheatlaw21_ViewReads_o19 : List AOper := [{ dst := some 117, op := .mv (.t 0) }, { dst := some 118, op := .mv (.t 2) }, { dst := some 119, op := .iAddrL 256 (.t 117) (.t 118) }, { dst := some 120, op := .loadN 256 (.t 119) }, { dst := none, op := .storeN 256 (.t 13) (.t 120) }]
def escheatlaw21_ViewReads_c36 : ACode := .ops escheatlaw21_ViewReads_o19
def escheatlaw21_ViewReads_c37 : ACode := .cond (.t 116) escheatlaw21_ViewReads_c36 .skip
def escheatlaw21_ViewReads_c38 : ACode := .seq [0, 2, 7, 11, 13, 116] escheatlaw21_ViewReads_c35 escheatlaw21_ViewReads_c37
def escheatlaw21_ViewReads_o20 : List AOper := [{ dst := some 121, op := .loadN 4 (.t 7) }, { dst := some 122, op := .call 31 [(.t 121)] }, { dst := some 123, op := .mv (.t 11) }, { dst := some 124, op := .call 37 [(.t 122), (.t 123)] }, { dst := some 125, op := .mv (.t 124) }, { dst := some 126, op := .loadN 4 (.t 7), guard := some (125, true) }, { dst := some 127, op := .mv (.t 2), guard := some (125, true) }, { dst := some 128, op := .call 38 [(.t 126), (.t 127)], guard := some (125, true) }, { dst := some 129, op := .loadN 256 (.t 13), guard := some (125, true) }]
def escheatlaw21_ViewReads_o21 : List AOper := [{ dst := some 130, op := .eqA false (List.replicate 256 (.i .u8)) (.t 128) (.t 129), guard := some (125, true) }, { dst := some 131, op := .pick (.t 125) (.t 130) (.v (.c (.b false))) }, { dst := some 132, op := .mv (.t 131) }, { dst := some 133, op := .call 29 [], guard := some (132, true) }, { dst := some 134, op := .pick (.t 132) (.t 133) (.v (.c (.b false))) }, { dst := some 6, op := .mv (.t 134) }]
def escheatlaw21_ViewReads_c39 : ACode := .draw 0 escheatlaw21_ViewReads_o20 escheatlaw21_ViewReads_o21
def escheatlaw21_ViewReads_c40 : ACode := .seq [6] escheatlaw21_ViewReads_c39 .ret
def escheatlaw21_ViewReads_c41 : ACode := .seq [2, 7, 11, 13] escheatlaw21_ViewReads_c38 escheatlaw21_ViewReads_c40
def escheatlaw21_ViewReads_c42 : ACode := .seq [0, 2, 7, 11, 13] escheatlaw21_ViewReads_c34 escheatlaw21_ViewReads_c41
def escheatlaw21_ViewReads_c43 : ACode := .seq [0, 2, 7, 11] escheatlaw21_ViewReads_c33 escheatlaw21_ViewReads_c42
def escheatlaw21_ViewReads_c44 : ACode := .seq [0, 2, 7, 9, 11] escheatlaw21_ViewReads_c18 escheatlaw21_ViewReads_c43
def escheatlaw21_ViewReads_c45 : ACode := .seq [0, 2, 7, 9] escheatlaw21_ViewReads_c17 escheatlaw21_ViewReads_c44
def escheatlaw21_ViewReads_c46 : ACode := .seq [0, 1, 2, 7, 8, 9] escheatlaw21_ViewReads_c12 escheatlaw21_ViewReads_c45
def escheatlaw21_ViewReads_c47 : ACode := .seq [0, 1, 2, 7, 8, 9, 10] escheatlaw21_ViewReads_c7 escheatlaw21_ViewReads_c46
def escheatlaw21_ViewReads_c48 : ACode := .seq [0, 1, 2, 7, 8] escheatlaw21_ViewReads_c6 escheatlaw21_ViewReads_c47
def escheatlaw21_ViewReads_c49 : ACode := .seq [0, 1, 2] escheatlaw21_ViewReads_c5 escheatlaw21_ViewReads_c48
def escheatlaw21_ViewReads_c50 : ACode := .seq [0, 1, 2] escheatlaw21_ViewReads_c0 escheatlaw21_ViewReads_c49
def A_escheatlaw21_ViewReads : AFn := ⟨escheatlaw21_ViewReads_c50, [.tmp 6]⟩
noncomputable def E_escheatlaw21_ViewReads : Sums := disp 29 S_escheatlaw21_works (disp 16 S_escheatlaw21_To (disp 15 S_view_Of (disp 30 S_escheatref21_Layout (disp 31 S_view_View_Inodes (disp 32 S_view_View_Image (disp 33 S_view_View_Used (disp 17 S_view_View_Inode (disp 34 S_escheatref21_Inode (disp 35 S_escheatref21_Used (disp 36 S_escheatlaw21_Same (disp 37 S_escheatref04_Ints (disp 38 S_view_View_Block__Of_1 disp0))))))))))))
noncomputable def escheatlaw21_ViewReads_c0_d (n : Nat) : SmV := smOps E_escheatlaw21_ViewReads escheatlaw21_ViewReads_o0
noncomputable def escheatlaw21_ViewReads_c1_d (n : Nat) : SmV := smOps E_escheatlaw21_ViewReads escheatlaw21_ViewReads_o1
noncomputable def escheatlaw21_ViewReads_c2_d (n : Nat) : SmV := smOps E_escheatlaw21_ViewReads escheatlaw21_ViewReads_o2
noncomputable def escheatlaw21_ViewReads_c3_d (n : Nat) : SmV := smSeq [6] (escheatlaw21_ViewReads_c2_d n) smRet
noncomputable def escheatlaw21_ViewReads_c4_d (n : Nat) : SmV := smCond (.t 16) (escheatlaw21_ViewReads_c3_d n) smSkip
noncomputable def escheatlaw21_ViewReads_c5_d (n : Nat) : SmV := smSeq [0, 1, 2, 16] (escheatlaw21_ViewReads_c1_d n) (escheatlaw21_ViewReads_c4_d n)
noncomputable def escheatlaw21_ViewReads_c6_d (n : Nat) : SmV := smOps E_escheatlaw21_ViewReads escheatlaw21_ViewReads_o3
noncomputable def escheatlaw21_ViewReads_c7_d (n : Nat) : SmV := smOps E_escheatlaw21_ViewReads escheatlaw21_ViewReads_o4
noncomputable def escheatlaw21_ViewReads_c8_d (n : Nat) : SmV := smOps E_escheatlaw21_ViewReads escheatlaw21_ViewReads_o5
noncomputable def escheatlaw21_ViewReads_c9_d (n : Nat) : SmV := smDraw E_escheatlaw21_ViewReads 0 escheatlaw21_ViewReads_o6 escheatlaw21_ViewReads_o7
noncomputable def escheatlaw21_ViewReads_c10_d (n : Nat) : SmV := smSeq [6] (escheatlaw21_ViewReads_c9_d n) smRet
noncomputable def escheatlaw21_ViewReads_c11_d (n : Nat) : SmV := smCond (.t 30) (escheatlaw21_ViewReads_c10_d n) smSkip
noncomputable def escheatlaw21_ViewReads_c12_d (n : Nat) : SmV := smSeq [0, 1, 2, 7, 8, 9, 30] (escheatlaw21_ViewReads_c8_d n) (escheatlaw21_ViewReads_c11_d n)
noncomputable def escheatlaw21_ViewReads_c13_d (n : Nat) : SmV := smDraw E_escheatlaw21_ViewReads 0 escheatlaw21_ViewReads_o8 escheatlaw21_ViewReads_o9
noncomputable def escheatlaw21_ViewReads_c14_d (n : Nat) : SmV := smOps E_escheatlaw21_ViewReads escheatlaw21_ViewReads_o10
noncomputable def escheatlaw21_ViewReads_c15_d (n : Nat) : SmV := smSeq [6] (escheatlaw21_ViewReads_c14_d n) smRet
noncomputable def escheatlaw21_ViewReads_c16_d (n : Nat) : SmV := smCond (.t 91) (escheatlaw21_ViewReads_c15_d n) smSkip
noncomputable def escheatlaw21_ViewReads_c17_d (n : Nat) : SmV := smSeq [0, 2, 7, 9, 91] (escheatlaw21_ViewReads_c13_d n) (escheatlaw21_ViewReads_c16_d n)
noncomputable def escheatlaw21_ViewReads_c18_d (n : Nat) : SmV := smOps E_escheatlaw21_ViewReads escheatlaw21_ViewReads_o11
noncomputable def escheatlaw21_ViewReads_c19_d (n : Nat) : SmV := smOps E_escheatlaw21_ViewReads escheatlaw21_ViewReads_o12
noncomputable def escheatlaw21_ViewReads_c20_d (n : Nat) : SmV := smOps E_escheatlaw21_ViewReads escheatlaw21_ViewReads_o13
noncomputable def escheatlaw21_ViewReads_c21_d (n : Nat) : SmV := smCond (.t 95) smSkip (smExit 0)
noncomputable def escheatlaw21_ViewReads_c22_d (n : Nat) : SmV := smSeq [0, 2, 7, 9, 11, 12, 95] (escheatlaw21_ViewReads_c20_d n) (escheatlaw21_ViewReads_c21_d n)
noncomputable def escheatlaw21_ViewReads_c23_d (n : Nat) : SmV := smOps E_escheatlaw21_ViewReads escheatlaw21_ViewReads_o14
noncomputable def escheatlaw21_ViewReads_c24_d (n : Nat) : SmV := smOps E_escheatlaw21_ViewReads escheatlaw21_ViewReads_o15
noncomputable def escheatlaw21_ViewReads_c25_d (n : Nat) : SmV := smCond (.t 103) (escheatlaw21_ViewReads_c24_d n) smSkip
noncomputable def escheatlaw21_ViewReads_c26_d (n : Nat) : SmV := smSeq [0, 2, 7, 9, 11, 12, 103] (escheatlaw21_ViewReads_c23_d n) (escheatlaw21_ViewReads_c25_d n)
noncomputable def escheatlaw21_ViewReads_c27_d (n : Nat) : SmV := smBlock 1 (escheatlaw21_ViewReads_c26_d n)
noncomputable def escheatlaw21_ViewReads_c28_d (n : Nat) : SmV := smOps E_escheatlaw21_ViewReads escheatlaw21_ViewReads_o16
noncomputable def escheatlaw21_ViewReads_c29_d (n : Nat) : SmV := smSeq [0, 2, 7, 9, 11, 12] (escheatlaw21_ViewReads_c27_d n) (escheatlaw21_ViewReads_c28_d n)
noncomputable def escheatlaw21_ViewReads_c30_d (n : Nat) : SmV := smSeq [0, 2, 7, 9, 11, 12] (escheatlaw21_ViewReads_c22_d n) (escheatlaw21_ViewReads_c29_d n)
noncomputable def escheatlaw21_ViewReads_c31_d (n : Nat) : SmV := smLoop n [0, 2, 7, 9, 11, 12] (escheatlaw21_ViewReads_c30_d n)
noncomputable def escheatlaw21_ViewReads_c32_d (n : Nat) : SmV := smBlock 0 (escheatlaw21_ViewReads_c31_d n)
noncomputable def escheatlaw21_ViewReads_c33_d (n : Nat) : SmV := smSeq [0, 2, 7, 9, 11, 12] (escheatlaw21_ViewReads_c19_d n) (escheatlaw21_ViewReads_c32_d n)
noncomputable def escheatlaw21_ViewReads_c34_d (n : Nat) : SmV := smOps E_escheatlaw21_ViewReads escheatlaw21_ViewReads_o17
noncomputable def escheatlaw21_ViewReads_c35_d (n : Nat) : SmV := smOps E_escheatlaw21_ViewReads escheatlaw21_ViewReads_o18
noncomputable def escheatlaw21_ViewReads_c36_d (n : Nat) : SmV := smOps E_escheatlaw21_ViewReads escheatlaw21_ViewReads_o19
noncomputable def escheatlaw21_ViewReads_c37_d (n : Nat) : SmV := smCond (.t 116) (escheatlaw21_ViewReads_c36_d n) smSkip
noncomputable def escheatlaw21_ViewReads_c38_d (n : Nat) : SmV := smSeq [0, 2, 7, 11, 13, 116] (escheatlaw21_ViewReads_c35_d n) (escheatlaw21_ViewReads_c37_d n)
noncomputable def escheatlaw21_ViewReads_c39_d (n : Nat) : SmV := smDraw E_escheatlaw21_ViewReads 0 escheatlaw21_ViewReads_o20 escheatlaw21_ViewReads_o21
noncomputable def escheatlaw21_ViewReads_c40_d (n : Nat) : SmV := smSeq [6] (escheatlaw21_ViewReads_c39_d n) smRet
noncomputable def escheatlaw21_ViewReads_c41_d (n : Nat) : SmV := smSeq [2, 7, 11, 13] (escheatlaw21_ViewReads_c38_d n) (escheatlaw21_ViewReads_c40_d n)
noncomputable def escheatlaw21_ViewReads_c42_d (n : Nat) : SmV := smSeq [0, 2, 7, 11, 13] (escheatlaw21_ViewReads_c34_d n) (escheatlaw21_ViewReads_c41_d n)
noncomputable def escheatlaw21_ViewReads_c43_d (n : Nat) : SmV := smSeq [0, 2, 7, 11] (escheatlaw21_ViewReads_c33_d n) (escheatlaw21_ViewReads_c42_d n)
noncomputable def escheatlaw21_ViewReads_c44_d (n : Nat) : SmV := smSeq [0, 2, 7, 9, 11] (escheatlaw21_ViewReads_c18_d n) (escheatlaw21_ViewReads_c43_d n)
noncomputable def escheatlaw21_ViewReads_c45_d (n : Nat) : SmV := smSeq [0, 2, 7, 9] (escheatlaw21_ViewReads_c17_d n) (escheatlaw21_ViewReads_c44_d n)
noncomputable def escheatlaw21_ViewReads_c46_d (n : Nat) : SmV := smSeq [0, 1, 2, 7, 8, 9] (escheatlaw21_ViewReads_c12_d n) (escheatlaw21_ViewReads_c45_d n)
noncomputable def escheatlaw21_ViewReads_c47_d (n : Nat) : SmV := smSeq [0, 1, 2, 7, 8, 9, 10] (escheatlaw21_ViewReads_c7_d n) (escheatlaw21_ViewReads_c46_d n)
noncomputable def escheatlaw21_ViewReads_c48_d (n : Nat) : SmV := smSeq [0, 1, 2, 7, 8] (escheatlaw21_ViewReads_c6_d n) (escheatlaw21_ViewReads_c47_d n)
noncomputable def escheatlaw21_ViewReads_c49_d (n : Nat) : SmV := smSeq [0, 1, 2] (escheatlaw21_ViewReads_c5_d n) (escheatlaw21_ViewReads_c48_d n)
noncomputable def escheatlaw21_ViewReads_c50_d (n : Nat) : SmV := smSeq [0, 1, 2] (escheatlaw21_ViewReads_c0_d n) (escheatlaw21_ViewReads_c49_d n)
noncomputable def escheatlaw21_ViewReads_k0 (n : Nat) : AExit → Env → Heap → OptV := fun x e h => match x with | .normal => hold ((escheatlaw21_ViewReads_c42_d n) A_escheatlaw21_ViewReads.fin (e.keep [0, 2, 7, 11]) h) | .exit id => A_escheatlaw21_ViewReads.fin (.exit id) e h | .ret => A_escheatlaw21_ViewReads.fin .ret e h
noncomputable def escheatlaw21_ViewReads_k1 (n : Nat) : AExit → Env → Heap → OptV := fun x e h => match x with | .exit i => bif Nat.beq i 0 then (escheatlaw21_ViewReads_k0 n) .normal e h else (escheatlaw21_ViewReads_k0 n) (.exit i) e h | .normal => (escheatlaw21_ViewReads_k0 n) .normal e h | .ret => (escheatlaw21_ViewReads_k0 n) .ret e h
noncomputable def escheatlaw21_ViewReads_l0 (n m : Nat) (x0 x2 x7 x9 x11 x12 : Val) (h : Heap) : OptV := around (escheatlaw21_ViewReads_c30_d n) [0, 2, 7, 9, 11, 12] (escheatlaw21_ViewReads_k1 n) m [(0, x0), (2, x2), (7, x7), (9, x9), (11, x11), (12, x12)] h
noncomputable def R_escheatlaw21_ViewReads (n : Nat) (args : List Val) (h : Heap) : OptV := (escheatlaw21_ViewReads_c50_d n) A_escheatlaw21_ViewReads.fin (params 0 args) h
noncomputable def escheatlaw21_ViewReads_k2 (n m : Nat) : AExit → Env → Heap → OptV := fun x e h => match x with | .normal => around (escheatlaw21_ViewReads_c30_d n) [0, 2, 7, 9, 11, 12] (escheatlaw21_ViewReads_k1 n) m (e.keep [0, 2, 7, 9, 11, 12]) h | .exit id => (escheatlaw21_ViewReads_k1 n) (.exit id) e h | .ret => (escheatlaw21_ViewReads_k1 n) .ret e h
noncomputable def escheatlaw21_ViewReads_j0 (n m : Nat) (x0 x2 x7 x9 x11 x12 : Val) (h : Heap) : OptV := hold ((escheatlaw21_ViewReads_c28_d n) (escheatlaw21_ViewReads_k2 n m) [(0, x0), (2, x2), (7, x7), (9, x9), (11, x11), (12, x12)] h)
noncomputable def escheatlaw21_ViewReads_j1 (n : Nat) (x2 x7 x11 x13 : Val) (h : Heap) : OptV := hold ((escheatlaw21_ViewReads_c40_d n) A_escheatlaw21_ViewReads.fin [(2, x2), (7, x7), (11, x11), (13, x13)] h)
theorem R_escheatlaw21_ViewReads_eq (n : Nat) (a0 a1 a2 : Val) (h : Heap) : R_escheatlaw21_ViewReads n [a0, a1, a2] h = bnd (alen a0) fun v1 => bnd (abin .gtr v1 (.c (.i .i64 60))) fun v2 => cnd v2 (bnd (S_escheatlaw21_works [] h) fun p3 => some (p3.1, p3.2)) (bnd (S_escheatlaw21_To [a0] h) fun p4 => bnd (S_view_Of [p4.1] p4.2) fun p5 => bnd (aext p5.1 0) fun v6 => bnd (aext p5.1 1) fun v7 => bnd (astoreN ((p5.2 ++ [some (Row.mk ([.i .i64 0, .i .i64 0, .i .u64 0, .nf]) true)])) 4 ((.c (.p p5.2.length 0))) v6) fun h8 => bnd (S_escheatref21_Layout [a0] h8) fun p9 => bnd (aext p9.1 0) fun v10 => bnd (aext p9.1 1) fun v11 => bnd (astoreN ((p9.2 ++ [some (Row.mk ([.i .i64 0, .i .i64 0, .i .u64 0]) true)])) 3 ((.c (.p p9.2.length 0))) v10) fun h12 => bnd (aun .not v11) fun v13 => cnd v13 (bnd (abin .eql v7 (.c (.i .i64 13))) fun v14 => bnd (gd v14 true (bnd (afAddr ((.c (.p p5.2.length 0))) 0) fun v15 => some (v15, (h12 ++ []))) (some (.no, (h12 ++ [])))) fun p16 => bnd (gd v14 true (bnd (aloadN h12 3 p16.1) fun v17 => some (v17, p16.2)) (some (.no, p16.2))) fun p18 => bnd (gd v14 true (bnd (afill ([.i .i64 0, .i .i64 0, .i .u64 0]) []) fun c19 => some ((.a c19), p18.2)) (some (.no, p18.2))) fun p20 => bnd (gd v14 true (bnd (aeq false ([.i .i64, .i .i64, .i .u64]) p18.1 p20.1) fun v21 => some (v21, p20.2)) (some (.no, p20.2))) fun p22 => bnd (apick v14 p22.1 (.c (.b false))) fun v23 => bnd (gd v23 true (bnd (aloadN h12 4 ((.c (.p p5.2.length 0)))) fun v24 => some (v24, p22.2)) (some (.no, p22.2))) fun p25 => bnd (gd v23 true (bnd (quiet p25.2 (S_view_View_Inodes [p25.1] p25.2)) fun p26 => some (p26.1, p26.2)) (some (.no, p25.2))) fun p27 => bnd (gd v23 true (bnd (alen p27.1) fun v28 => some (v28, p27.2)) (some (.no, p27.2))) fun p29 => bnd (gd v23 true (bnd (aloadN h12 4 ((.c (.p p5.2.length 0)))) fun v30 => some (v30, p29.2)) (some (.no, p29.2))) fun p31 => bnd (gd v23 true (bnd (quiet p31.2 (S_view_View_Image [p31.1] p31.2)) fun p32 => some (p32.1, p32.2)) (some (.no, p31.2))) fun p33 => bnd (gd v23 true (bnd (alen p33.1) fun v34 => some (v34, p33.2)) (some (.no, p33.2))) fun p35 => bnd (gd v23 true (bnd (abin .add p29.1 p35.1) fun v36 => some (v36, p35.2)) (some (.no, p35.2))) fun p37 => bnd (gd v23 true (bnd (abin .eql p37.1 (.c (.i .i64 0))) fun v38 => some (v38, p37.2)) (some (.no, p37.2))) fun p39 => bnd (apick v23 p39.1 (.c (.b false))) fun v40 => bnd (gd v40 true (bnd (aloadN h12 4 ((.c (.p p5.2.length 0)))) fun v41 => some (v41, p39.2)) (some (.no, p39.2))) fun p42 => bnd (gd v40 true (some (a2, p42.2)) (some (.no, p42.2))) fun p43 => bnd (gd v40 true (bnd (S_view_View_Used [p42.1, p43.1] p43.2) fun p44 => some (p44.1, p44.2)) (some (.no, p43.2))) fun p45 => bnd (gd v40 true (bnd (aun .not p45.1) fun v46 => some (v46, p45.2)) (some (.no, p45.2))) fun p47 => bnd (apick v40 p47.1 (.c (.b false))) fun v48 => bnd (gd v48 true (bnd (S_escheatlaw21_works [] p47.2) fun p49 => some (p49.1, p49.2)) (some (.no, p47.2))) fun p50 => bnd (apick v48 p50.1 (.c (.b false))) fun v51 => some (v51, p50.2)) (bnd (abin .neq v7 (.c (.i .i64 0))) fun v52 => bnd (gd v52 false (bnd (afAddr ((.c (.p p5.2.length 0))) 0) fun v53 => some (v53, (h12 ++ []))) (some (.no, (h12 ++ [])))) fun p54 => bnd (gd v52 false (bnd (aloadN h12 3 p54.1) fun v55 => some (v55, p54.2)) (some (.no, p54.2))) fun p56 => bnd (gd v52 false (bnd (aloadN h12 3 ((.c (.p p9.2.length 0)))) fun v57 => some (v57, p56.2)) (some (.no, p56.2))) fun p58 => bnd (gd v52 false (bnd (aeq true ([.i .i64, .i .i64, .i .u64]) p56.1 p58.1) fun v59 => some (v59, p58.2)) (some (.no, p58.2))) fun p60 => bnd (apick v52 (.c (.b true)) p60.1) fun v61 => bnd (gd v61 false (bnd (aloadN h12 4 ((.c (.p p5.2.length 0)))) fun v62 => some (v62, p60.2)) (some (.no, p60.2))) fun p63 => bnd (gd v61 false (some (a1, p63.2)) (some (.no, p63.2))) fun p64 => bnd (gd v61 false (bnd (quiet p64.2 (S_view_View_Inode [p63.1, p64.1] p64.2)) fun p65 => some (p65.1, p65.2)) (some (.no, p64.2))) fun p66 => bnd (gd v61 false (some (a0, p66.2)) (some (.no, p66.2))) fun p67 => bnd (gd v61 false (bnd (aloadN h12 3 ((.c (.p p9.2.length 0)))) fun v68 => some (v68, p67.2)) (some (.no, p67.2))) fun p69 => bnd (gd v61 false (some (a1, p69.2)) (some (.no, p69.2))) fun p70 => bnd (gd v61 false (bnd (quiet p70.2 (S_escheatref21_Inode [p67.1, p69.1, p70.1] p70.2)) fun p71 => some (p71.1, p71.2)) (some (.no, p70.2))) fun p72 => bnd (gd v61 false (bnd (aeq true ([.i .i64, .i .i64, .i .i64, .i .i64, .i .i64, .i .i64, .i .i64, .i .i64, .i .i64, .i .i64, .i .i64]) p66.1 p72.1) fun v73 => some (v73, p72.2)) (some (.no, p72.2))) fun p74 => bnd (apick v61 (.c (.b true)) p74.1) fun v75 => bnd (gd v75 false (bnd (aloadN h12 4 ((.c (.p p5.2.length 0)))) fun v76 => some (v76, p74.2)) (some (.no, p74.2))) fun p77 => bnd (gd v75 false (some (a2, p77.2)) (some (.no, p77.2))) fun p78 => bnd (gd v75 false (bnd (quiet p78.2 (S_view_View_Used [p77.1, p78.1] p78.2)) fun p79 => some (p79.1, p79.2)) (some (.no, p78.2))) fun p80 => bnd (gd v75 false (some (a0, p80.2)) (some (.no, p80.2))) fun p81 => bnd (gd v75 false (some (a2, p81.2)) (some (.no, p81.2))) fun p82 => bnd (gd v75 false (bnd (quiet p82.2 (S_escheatref21_Used [p81.1, p82.1] p82.2)) fun p83 => some (p83.1, p83.2)) (some (.no, p82.2))) fun p84 => bnd (gd v75 false (bnd (aeqB true p80.1 p84.1) fun v85 => some (v85, p84.2)) (some (.no, p84.2))) fun p86 => bnd (apick v75 (.c (.b true)) p86.1) fun v87 => bnd (gd v87 false (bnd (aloadN h12 4 ((.c (.p p5.2.length 0)))) fun v88 => some (v88, p86.2)) (some (.no, p86.2))) fun p89 => bnd (gd v87 false (bnd (quiet p89.2 (S_view_View_Image [p89.1] p89.2)) fun p90 => some (p90.1, p90.2)) (some (.no, p89.2))) fun p91 => bnd (gd v87 false (some (a0, p91.2)) (some (.no, p91.2))) fun p92 => bnd (gd v87 false (bnd (S_escheatlaw21_Same [p91.1, p92.1] p92.2) fun p93 => some (p93.1, p93.2)) (some (.no, p92.2))) fun p94 => bnd (gd v87 false (bnd (aun .not p94.1) fun v95 => some (v95, p94.2)) (some (.no, p94.2))) fun p96 => bnd (apick v87 (.c (.b true)) p96.1) fun v97 => cnd v97 (some ((.c (.b false)), p96.2)) (escheatlaw21_ViewReads_l0 n n a0 a2 ((.c (.p p5.2.length 0))) ((.c (.p p9.2.length 0))) ((.c (.sl p96.2.length 0 0 1))) (.c (.i .i64 1)) ((p96.2 ++ [some (Row.mk ([]) true)]))))) := by kernel_rfl
theorem escheatlaw21_ViewReads_l0_eq (n m : Nat) (x0 x2 x7 x9 x11 x12 : Val) (h : Heap) : escheatlaw21_ViewReads_l0 n (m + 1) x0 x2 x7 x9 x11 x12 h = bnd (afAddr x9 1) fun v98 => bnd (aload1 h v98) fun v99 => bnd (abin .leq x12 v99) fun v100 => cnd v100 (bnd (aloadN h 3 x9) fun v101 => bnd (S_escheatref21_Inode [x0, v101, x12] h) fun p102 => bnd (afld1 p102.1 0) fun v103 => bnd (abin .neq v103 (.c (.i .i64 0))) fun v104 => cnd v104 (bnd (afill ([.i .i64 0]) [(0, 1, x12)]) fun c105 => bnd (aapp ((p102.2 ++ [some (Row.mk (c105) true)])) 1 x11 ((.c (.sl p102.2.length 0 1 1)))) fun p106 => escheatlaw21_ViewReads_j0 n m x0 x2 x7 x9 p106.1 x12 p106.2) (escheatlaw21_ViewReads_j0 n m x0 x2 x7 x9 x11 x12 p102.2)) (bnd (afill (List.replicate 256 (.i .u8 0)) []) fun c107 => bnd (astoreN ((h ++ [some (Row.mk (List.replicate 256 (.i .u8 0)) true)])) 256 ((.c (.p h.length 0))) ((.a c107))) fun h108 => bnd (abin .geq x2 (.c (.i .i64 0))) fun v109 => bnd (gd v109 true (some (x2, h108)) (some (.no, h108))) fun p110 => bnd (gd v109 true (some (x0, p110.2)) (some (.no, p110.2))) fun p111 => bnd (gd v109 true (bnd (alen p111.1) fun v112 => some (v112, p111.2)) (some (.no, p111.2))) fun p113 => bnd (gd v109 true (bnd (abin .lss p110.1 p113.1) fun v114 => some (v114, p113.2)) (some (.no, p113.2))) fun p115 => bnd (apick v109 p115.1 (.c (.b false))) fun v116 => cnd v116 (bnd (aiAddrL 256 x0 x2) fun v117 => bnd (aloadN p115.2 256 v117) fun v118 => bnd (astoreN p115.2 256 ((.c (.p h.length 0))) v118) fun h119 => escheatlaw21_ViewReads_j1 n x2 x7 x11 ((.c (.p h.length 0))) h119) (escheatlaw21_ViewReads_j1 n x2 x7 x11 ((.c (.p h.length 0))) p115.2)) := by kernel_rfl
theorem escheatlaw21_ViewReads_j0_eq (n m : Nat) (x0 x2 x7 x9 x11 x12 : Val) (h : Heap) : escheatlaw21_ViewReads_j0 n m x0 x2 x7 x9 x11 x12 h = bnd (abin .add x12 (.c (.i .i64 1))) fun v120 => escheatlaw21_ViewReads_l0 n m x0 x2 x7 x9 x11 v120 h := by kernel_rfl
theorem escheatlaw21_ViewReads_j1_eq (n : Nat) (x2 x7 x11 x13 : Val) (h : Heap) : escheatlaw21_ViewReads_j1 n x2 x7 x11 x13 h = bnd (aloadN h 4 x7) fun v121 => bnd (quiet ((h ++ [])) (S_view_View_Inodes [v121] ((h ++ [])))) fun p122 => bnd (quiet p122.2 (S_escheatref04_Ints [p122.1, x11] p122.2)) fun p123 => bnd (gd p123.1 true (bnd (aloadN h 4 x7) fun v124 => some (v124, p123.2)) (some (.no, p123.2))) fun p125 => bnd (gd p123.1 true (some (x2, p125.2)) (some (.no, p125.2))) fun p126 => bnd (gd p123.1 true (bnd (quiet p126.2 (S_view_View_Block__Of_1 [p125.1, p126.1] p126.2)) fun p127 => some (p127.1, p127.2)) (some (.no, p126.2))) fun p128 => bnd (gd p123.1 true (bnd (aloadN h 256 x13) fun v129 => some (v129, p128.2)) (some (.no, p128.2))) fun p130 => bnd (gd p123.1 true (bnd (aeq false (List.replicate 256 (.i .u8)) p128.1 p130.1) fun v131 => some (v131, p130.2)) (some (.no, p130.2))) fun p132 => bnd (apick p123.1 p132.1 (.c (.b false))) fun v133 => bnd (gd v133 true (bnd (S_escheatlaw21_works [] p132.2) fun p134 => some (p134.1, p134.2)) (some (.no, p132.2))) fun p135 => bnd (apick v133 p135.1 (.c (.b false))) fun v136 => some (v136, p135.2) := by kernel_rfl
theorem K_escheatlaw21_ViewReads : FnK Try.prog 7 A_escheatlaw21_ViewReads E_escheatlaw21_ViewReads R_escheatlaw21_ViewReads := .mk' (sound1 S_escheatlaw21_works_ok (sound1 S_escheatlaw21_To_ok (sound1 S_view_Of_ok (sound1 S_escheatref21_Layout_ok (sound1 S_view_View_Inodes_ok (sound1 S_view_View_Image_ok (sound1 S_view_View_Used_ok (sound1 S_view_View_Inode_ok (sound1 S_escheatref21_Inode_ok (sound1 S_escheatref21_Used_ok (sound1 S_escheatlaw21_Same_ok (sound1 S_escheatref04_Ints_ok (sound1 S_view_View_Block__Of_1_ok sound0))))))))))))) Try.func7 (by kernel_rfl) (by intro n args h; kernel_rfl)
noncomputable def S_escheatlaw21_ViewReads : Fun := tidy (Lim A_escheatlaw21_ViewReads E_escheatlaw21_ViewReads)
theorem S_escheatlaw21_ViewReads_ok : SOk Try.prog 7 S_escheatlaw21_ViewReads := K_escheatlaw21_ViewReads.sok
theorem S_escheatlaw21_ViewReads_flat {n : Nat} {args : List Val} {h h2 : Heap} {v : Val} (he : R_escheatlaw21_ViewReads n args (ro h) = some (v, h2)) (hf : v.flat = true) : S_escheatlaw21_ViewReads args h = some (v, h) := K_escheatlaw21_ViewReads.flat he hf
end Go.Proofs.Ytdgggnlbdoiloaa
end
section
namespace Go.Proofs.Ytdgggnlbdoiloaa
open Go Go.Esc

theorem inosF_more {kd : Int → Int} {N : Nat} (hk : ∀ i : Int, (N : Int) < i → kd i = 0) (x : Nat) : ∀ e k, k + e = N → inosF kd (e + x) k = inosF kd e k
  | 0, k, h => by
    have : ∀ x k, N ≤ k → inosF kd x k = [] := by
      intro x
      induction x with
      | zero => intro k _; rfl
      | succ x ih => intro k hk2; rw [inosF, if_pos (hk _ (by omega)), ih _ (by omega)]
    rw [Nat.zero_add, this x k (by omega)]; rfl
  | e + 1, k, h => by
    rw [show e + 1 + x = (e + x) + 1 by omega, inosF, inosF, inosF_more hk x e (k + 1) (by omega)]

theorem reads_j1 {D : Dev} {n m no : Int} {f : Cell} {q p7 p13 id : Nat} {h : Heap} (hD : okD D) (hv : IsView h f D) (h7 : rd h p7 = some ⟨vwC D.length n m f, true⟩) (h13 : rd h p13 = some ⟨encB (blk D no), true⟩) (hr : rd h id = some ⟨encI (inosF (kdV D n) 128 0), true⟩) :
    ∃ h', escheatlaw21_ViewReads_j1 q (.c (.i .i64 no)) (.c (.p p7 0)) (.c (.sl id 0 (inosF (kdV D n) 128 0).length 1)) (.c (.p p13 0)) h = some (.c (.b true), h') := by
  have l4 := loadAll (n := 4) h7 rfl
  have hB : (encB (blk D no)).length = 256 := by rw [encB_length, blk_length hD]
  have l13 := loadAll (n := 256) h13 hB
  have hN := view_Inodes_eq (n := n) (m := m) (h := h) hD hv
  have hle := inosF_length (kdV D n) 128 0
  have q1 := quiet_grows (h := h) (v := .c (.sl h.length 0 (inosF (kdV D n) 128 0).length 1)) (Grows.rfl'.new (encI (inosF (kdV D n) 128 0)))
  have hQ := ref04_Ints_eq (h := h ++ [some (Row.mk (encI (inosF (kdV D n) 128 0)) true)]) (v := .c (.sl h.length 0 (inosF (kdV D n) 128 0).length 1)) (nv := (inosF (kdV D n) 128 0).length) (u := .c (.sl id 0 (inosF (kdV D n) 128 0).length 1)) (nu := (inosF (kdV D n) 128 0).length) (l := inosF (kdV D n) 128 0) (r := inosF (kdV D n) 128 0)
    (Has.tr (by simp) (by rw [encI_length, Nat.mul_one]) (noX_encI _)) (Has.tr (rd_append hr) (by rw [encI_length, Nat.mul_one]) (noX_encI _)) (by omega)
  rw [decide_eq_true rfl] at hQ
  have hBl := view_Block_eq (n := n) (m := m) (no := no) (h := h ++ [some (Row.mk (encI (inosF (kdV D n) 128 0)) true)]) hD (hv.more _)
  have q2 := aeq_f (l := blk D no) (m := blk D no) (n := 256) (blk_length hD) (blk_length hD)
  rw [decide_eq_true rfl] at q2
  rw [escheatlaw21_ViewReads_j1_eq]
  generalize inosF (kdV D n) 128 0 = li at *
  generalize encI li = yi at *
  generalize encB (blk D no) = b at *
  generalize vwC D.length n m f = V at *
  generalize List.replicate 256 (Sh.i .u8) = z at *
  exact ⟨_, by simp only [esc, eq_self, l4, hN, q1, hQ, hBl, l13, q2, works21_eq] <;> rfl⟩

theorem reads_loop {v : Val} {D : Dev} {n m no : Int} {f : Cell} {g : Heap} {q p7 p9 N : Nat} (hD : okD D) (h60 : D.length ≤ 60) (hn : n = N) (hN : N ≤ 128) (hno : no < 9223372036854775808) (hvD : Has g v 256 D.length (cellsD D)) (hv : IsView g f D) (h7 : rd g p7 = some ⟨vwC D.length n m f, true⟩) (h9 : rd g p9 = some ⟨layC D.length n m, true⟩) :
    ∀ (e k M id : Nat) (h : Heap) (l : List Int), k + e = N → e < M → l.length ≤ k → l ++ inosF (kdV D n) e k = inosF (kdV D n) 128 0 → Low g.length g h → g.length ≤ id → rd h id = some ⟨encI l, true⟩ →
    ∃ h', escheatlaw21_ViewReads_l0 q M v (.c (.i .i64 no)) (.c (.p p7 0)) (.c (.p p9 0)) (.c (.sl id 0 l.length 1)) (.c (.i .i64 ((k : Int) + 1))) h = some (.c (.b true), h')
  | e, k, 0, id, h, l, _, hm, _, _, _, _, _ => by omega
  | 0, k, M + 1, id, h, l, hk, hm, hl, hli, hlow, hid, hr => by
    have g7 := hlow.rd h7
    have g9 := hlow.rd h9
    have hvh := hv.since hlow
    have hDh := hvD.since hlow
    have hlen := hDh.len
    have c0 : ¬ (k : Int) + 1 ≤ n := by omega
    have f9 : afAddr (.c (.p p9 0)) 1 = some (.c (.p p9 1)) := rfl
    have l9 : aload1 h (.c (.p p9 1)) = some (.c (.i .i64 n)) := load1_of g9 rfl rfl
    have hz : (encB (zeros 256)).length = 256 := by rw [encB_length]; exact zeros_length
    have efz : afill (encB (zeros 256)) [] = some (encB (zeros 256)) := rfl
    have lt7 := rd_lt g7
    have ltid := rd_lt hr
    rw [inosF, List.append_nil] at hli
    rw [escheatlaw21_ViewReads_l0_eq, zeros_enc]
    obtain ⟨J, hJ⟩ : ∃ J, J = h ++ [some (Row.mk (encB (zeros 256)) true)] := ⟨_, rfl⟩
    have s1 : astoreN (h ++ [some (Row.mk (encB (zeros 256)) true)]) 256 (.c (.p h.length 0)) (.a (encB (zeros 256))) = some J := by rw [storeAll (cs := encB (zeros 256)) rd_new hz hz, hJ]; simp
    have j7 : rd J p7 = some ⟨vwC D.length n m f, true⟩ := by rw [hJ]; exact rd_append g7
    have jr : rd J id = some ⟨encI l, true⟩ := by rw [hJ]; exact rd_append hr
    have jz : rd J h.length = some ⟨encB (zeros 256), true⟩ := by rw [hJ]; exact rd_new
    have jv : IsView J f D := by rw [hJ]; exact hvh.more _
    have jD : Has J v 256 D.length (cellsD D) := by rw [hJ]; exact hDh.more _
    by_cases c1 : 0 ≤ no
    · by_cases c2 : no < D.length
      · obtain ⟨i, rfl⟩ : ∃ i : Nat, no = i := ⟨no.toNat, by omega⟩
        have hil : i < D.length := by omega
        obtain ⟨jd, off, e1, _, a1, l1⟩ := has_blk jD hD hil
        have hBl : (encB D[i]).length = 256 := by rw [encB_length, hD.at hil]
        have s2 := storeAll (xs := encB D[i]) jz hz hBl
        have eb : blk D (i : Int) = D[i] := blk_at hil
        have lowJ : Low J.length J (J.set h.length (some ⟨encB D[i], true⟩)) ∨ True := .inr trivial
        have hne7 : h.length ≠ p7 := by omega
        have hneid : h.length ≠ id := by omega
        have jv2 : IsView (J.set h.length (some ⟨encB D[i], true⟩)) f D := by
          obtain ⟨r, qq, rw1, rw2, e, u1, u2⟩ := hvh
          refine ⟨r, qq, rw1, rw2, e, ?_, ?_⟩
          · rw [rd_set_other (by have := rd_lt u1; omega), hJ]; exact rd_append u1
          · rw [rd_set_other (by have := rd_lt u2; omega), hJ]; exact rd_append u2
        obtain ⟨h', hf⟩ := reads_j1 (n := n) (m := m) (no := (i : Int)) (q := q) (p7 := p7) (p13 := h.length) (id := id) (h := J.set h.length (some ⟨encB D[i], true⟩)) hD jv2 (by rw [rd_set_other hne7]; exact j7) (by rw [eb]; exact rd_set_same (rd_lt jz)) (by rw [rd_set_other hneid, ← hli]; exact jr)
        rw [← hli] at hf
        refine ⟨h', ?_⟩
        generalize encB (zeros 256) = z at *
        generalize encB D[i] = y at *
        simp only [bnd_some, f9, l9, abin_leq, c0, decide_false, cnd_f, efz, s1, abin_geq, c1, decide_true, gd_tt, hlen, jD.len, abin_lss, c2, apick_b, cond_true, cnd_t, a1, l1, s2]
        exact hf
      · have eb : blk D no = zeros 256 := blk_none (by omega)
        obtain ⟨h', hf⟩ := reads_j1 (n := n) (m := m) (no := no) (q := q) (p7 := p7) (p13 := h.length) (id := id) (h := J) hD jv j7 (by rw [eb]; exact jz) (by rw [← hli]; exact jr)
        rw [← hli] at hf
        refine ⟨h', ?_⟩
        generalize encB (zeros 256) = z at *
        simp only [bnd_some, f9, l9, abin_leq, c0, decide_false, cnd_f, efz, s1, abin_geq, c1, decide_true, gd_tt, hlen, jD.len, abin_lss, c2, apick_b, cond_true, cond_false]
        exact hf
    · have eb : blk D no = zeros 256 := blk_none (by omega)
      obtain ⟨h', hf⟩ := reads_j1 (n := n) (m := m) (no := no) (q := q) (p7 := p7) (p13 := h.length) (id := id) (h := J) hD jv j7 (by rw [eb]; exact jz) (by rw [← hli]; exact jr)
      rw [← hli] at hf
      refine ⟨h', ?_⟩
      generalize encB (zeros 256) = z at *
      simp only [bnd_some, f9, l9, abin_leq, c0, decide_false, cnd_f, efz, s1, abin_geq, c1, gd_ft, apick_b, cond_false]
      exact hf
  | e + 1, k, M + 1, id, h, l, hk, hm, hl, hli, hlow, hid, hr => by
    have g9 := hlow.rd h9
    have hvh := hv.since hlow
    have hDh := hvD.since hlow
    have c0 : (k : Int) + 1 ≤ n := by omega
    have f9 : afAddr (.c (.p p9 0)) 1 = some (.c (.p p9 1)) := rfl
    have l9 : aload1 h (.c (.p p9 1)) = some (.c (.i .i64 n)) := load1_of g9 rfl rfl
    have l93 := loadAll (n := 3) g9 rfl
    have hI := ref21_Inode_eq (n := n) (m := m) (i := (k : Int) + 1) hDh hD
    obtain ⟨l', s', p', d', ei, hd⟩ := inoV_form D n ((k : Int) + 1)
    rw [ei] at hI
    have f1 : afld1 (.a (inoC (kdV D n ((k : Int) + 1)) l' s' p' d')) 0 = some (.c (.i .i64 (kdV D n ((k : Int) + 1)))) := rfl
    have w1 : IntKind.wrap .i64 ((k : Int) + 1 + 1) = ((k + 1 : Nat) : Int) + 1 := by rw [wrap_i64 (by omega) (by omega)]; omega
    rw [inosF] at hli
    rw [escheatlaw21_ViewReads_l0_eq]
    by_cases c : kdV D n ((k : Int) + 1) = 0
    · rw [if_pos c] at hli
      obtain ⟨h', hf⟩ := reads_loop (q := q) hD h60 hn hN hno hvD hv h7 h9 e (k + 1) M id h l (by omega) (by omega) (by omega) hli hlow hid hr
      refine ⟨h', ?_⟩
      simp only [bnd_some, f9, l9, abin_leq, c0, decide_true, cnd_t, l93, hI, f1, abin_neq, c, ne_eq, eq_self, not_true_eq_false, decide_false, cnd_f, escheatlaw21_ViewReads_j0_eq, abin_add, w1]
      exact hf
    · rw [if_neg c] at hli
      have ef : afill [Cell.i .i64 0] [(0, 1, .c (.i .i64 ((k : Int) + 1)))] = some (encI [(k : Int) + 1]) := rfl
      obtain ⟨h2, a1, a2, a3, a4, a5⟩ := push (n := l.length) (sz := 1) (ys := encI [(k : Int) + 1]) hlow hr (by rw [encI_length, Nat.mul_one]) hid rfl (by omega) (by omega)
      rw [← encI_append] at a2
      have el : (l ++ [(k : Int) + 1]).length = l.length + 1 := by simp
      obtain ⟨h', hf⟩ := reads_loop (q := q) hD h60 hn hN hno hvD hv h7 h9 e (k + 1) M (h.length + 1) h2 (l ++ [(k : Int) + 1]) (by omega) (by omega) (by rw [el]; omega) (by rw [List.append_assoc, List.singleton_append]; exact hli) a3 a4 a2
      rw [el] at hf
      refine ⟨h', ?_⟩
      simp only [bnd_some, f9, l9, abin_leq, c0, decide_true, cnd_t, l93, hI, f1, abin_neq, c, ne_eq, not_false_eq_true, ef, a1, escheatlaw21_ViewReads_j0_eq, abin_add, w1]
      exact hf

theorem inosF_all {D : Dev} {n : Int} {N : Nat} (hn : n = N) (hN : N ≤ 128) : inosF (kdV D n) N 0 = inosF (kdV D n) 128 0 := by
  have h := inosF_more (kd := kdV D n) (N := N) (fun i hi => by
    unfold kdV
    have : isInoL D.length n i = false := by
      unfold isInoL
      rw [decide_eq_false (by omega : ¬ i ≤ n), Bool.and_false]
    rw [this]; rfl) (128 - N) N 0 (by omega)
  rw [← h]
  congr 1
  omega

set_option maxHeartbeats 2000000 in
theorem viewReads_eq {v : Val} {D : Dev} {ino no : Int} {h : Heap} (hv : Has h v 256 D.length (cellsD D)) (hD : okD D) (hno : no < 9223372036854775808) : S_escheatlaw21_ViewReads [v, .c (.i .i64 ino), .c (.i .i64 no)] h = some (.c (.b true), h) := by
  have key : ∀ g, Has g v 256 D.length (cellsD D) → ∃ g', R_escheatlaw21_ViewReads 129 [v, .c (.i .i64 ino), .c (.i .i64 no)] g = some (.c (.b true), g') := by
    intro g hv
    have hl := hv.len
    rw [R_escheatlaw21_ViewReads_eq]
    by_cases c0 : (60 : Int) < (D.length : Nat)
    · exact ⟨_, by simp only [esc, hl, c0, works21_eq] <;> rfl⟩
    · have hT := to_eq hv hD (by omega)
      have hH : Has (g ++ [some ⟨cellsD D, true⟩]) (.c (.sl g.length 0 D.length 256)) 256 D.length (cellsD D) := Has.tr (by simp) (cellsD_length hD) (noX_cellsD D)
      cases cd : devL D with
      | false =>
        obtain ⟨t, hO⟩ := view_Of_bad hH hD cd
        obtain ⟨H, hHe⟩ : ∃ H, H = g ++ [some (Row.mk (cellsD D) true)] ++ t := ⟨_, rfl⟩
        have hvH : Has H v 256 D.length (cellsD D) := by rw [hHe]; exact (hv.more _).more _
        rw [← hHe] at hO
        have hS5 : astoreN (H ++ [some (Row.mk [.i .i64 0, .i .i64 0, .i .u64 0, .nf] true)]) 4 (.c (.p H.length 0)) (.a (vwC 0 0 0 .nf)) = some (H ++ [some (Row.mk (vwC 0 0 0 .nf) true)]) := by rw [astoreN_at0]; rfl
        have hLy := ref21_Layout_eq (h := H ++ [some (Row.mk (vwC 0 0 0 .nf) true)]) (hvH.more _) hD
        rw [cd, cond_false] at hLy
        have l3 := vw_l3 (b := 0) (n := 0) (m := 0) (f := .nf)
        have l4 := vw_l4 (b := 0) (n := 0) (m := 0) (f := .nf)
        have ef : afill [Cell.i .i64 0, .i .i64 0, .i .u64 0] [] = some (layC 0 0 0) := rfl
        have hLl : (layC 0 0 0).length = 3 := rfl
        have z3 : [Cell.i .i64 0, .i .i64 0, .i .u64 0].length = 3 := rfl
        have q1 := aeq_layC (b := 0) (n := 0) (m := 0)
        have i1 := view_Inodes_zero (f := .nf) (h := H ++ [some (Row.mk (vwC 0 0 0 .nf) true), some (Row.mk (layC 0 0 0) true)])
        have i2 := view_Image_zero (f := .nf) (h := H ++ [some (Row.mk (vwC 0 0 0 .nf) true), some (Row.mk (layC 0 0 0) true), some (Row.mk [] true)])
        have i3 := fun h => view_Used_zero (i := no) (f := .nf) (h := h)
        have w0 : IntKind.wrap .i64 (((0 : Nat) : Int) + ((0 : Nat) : Int)) = 0 := by decide
        simp only [esc] at i1 i2
        generalize vwC 0 0 0 .nf = V at *
        generalize hL0 : layC 0 0 0 = L at *
        exact ⟨_, by simp only [esc, esh, Nat.reduceAdd, Nat.reduceMul, Nat.reduceLT, eq_self, hl, c0, hT, hO, hS5, hLy, hLl, z3, l3, l4, ef, q1, i1, i2, i3, w0, works21_eq] <;> rfl⟩
      | true =>
        obtain ⟨f, t, hO, hV⟩ := view_Of_ok hH hD cd (by omega)
        obtain ⟨H, hHe⟩ : ∃ H, H = g ++ [some (Row.mk (cellsD D) true)] ++ t := ⟨_, rfl⟩
        have hvH : Has H v 256 D.length (cellsD D) := by rw [hHe]; exact (hv.more _).more _
        rw [← hHe] at hO hV
        have hmay := devL_may cd
        have hLy := ref21_Layout_eq (h := H ++ [some (Row.mk (vwC D.length (devN D) (devM D) f) true)]) (hvH.more _) hD
        rw [cd, cond_true] at hLy
        generalize hn : devN D = n at *
        generalize hm : devM D = m at *
        have hn2 := hmay
        unfold mayL at hn2
        simp only [Bool.and_eq_true, decide_eq_true_eq] at hn2
        obtain ⟨N, hN⟩ : ∃ N : Nat, n = N := ⟨n.toNat, by omega⟩
        have hS5 : astoreN (H ++ [some (Row.mk [.i .i64 0, .i .i64 0, .i .u64 0, .nf] true)]) 4 (.c (.p H.length 0)) (.a (vwC D.length n m f)) = some (H ++ [some (Row.mk (vwC D.length n m f) true)]) := by rw [astoreN_at0]; rfl
        have l3 := vw_l3 (b := D.length) (n := n) (m := m) (f := f)
        have l4 := vw_l4 (b := D.length) (n := n) (m := m) (f := f)
        have hLl : (layC D.length n m).length = 3 := rfl
        have z3 : [Cell.i .i64 0, .i .i64 0, .i .u64 0].length = 3 := rfl
        have q1 := aeqt_layC (b := D.length) (n := n) (m := m)
        have n00 : ¬ ¬ (0 : Int) = 0 := by decide
        have i1 := view_Inode_eq (n := n) (m := m) (i := ino) (h := H ++ [some (Row.mk (vwC D.length n m f) true), some (Row.mk (layC D.length n m) true)]) hD (hV.more _)
        have i2 := ref21_Inode_eq (n := n) (m := m) (i := ino) (h := H ++ [some (Row.mk (vwC D.length n m f) true), some (Row.mk (layC D.length n m) true)]) (hvH.more _) hD
        have q2 := aeqt_inoV (D := D) (n := n) (i := ino)
        have i3 := view_Used_eq (n := n) (m := m) (i := no) (h := H ++ [some (Row.mk (vwC D.length n m f) true), some (Row.mk (layC D.length n m) true)]) hD (hV.more _)
        have i4 := ref21_Used_eq (n := n) (i := no) (h := H ++ [some (Row.mk (vwC D.length n m f) true), some (Row.mk (layC D.length n m) true)]) (hvH.more _) hD hmay
        have i5 := view_Image_eq (n := n) (m := m) (h := H ++ [some (Row.mk (vwC D.length n m f) true), some (Row.mk (layC D.length n m) true)]) hD (hV.more _) hmay
        have i6 := same_eq (h := H ++ [some (Row.mk (vwC D.length n m f) true), some (Row.mk (layC D.length n m) true), some (Row.mk (cellsD D) true)]) hD (by omega) (Has.tr (id := H.length + 2) (by simp) (cellsD_length hD) (noX_cellsD D)) (hvH.more _)
        obtain ⟨h', hf⟩ := reads_loop (v := v) (D := D) (n := n) (m := m) (no := no) (f := f) (g := H ++ [some (Row.mk (vwC D.length n m f) true), some (Row.mk (layC D.length n m) true), some (Row.mk (cellsD D) true)]) (q := 129) (p7 := H.length) (p9 := H.length + 1) (N := N) hD (by omega) hN (by omega) hno (hvH.more _) (hV.more _) (by simp) (by simp) N 0 129 (H.length + 3)
          (H ++ [some (Row.mk (vwC D.length n m f) true), some (Row.mk (layC D.length n m) true), some (Row.mk (cellsD D) true), some (Row.mk [] true)]) [] (by omega) (by omega) (by simp) (by rw [List.nil_append]; exact inosF_all hN (by omega))
          (by
            have := (Low.refl (h := H ++ [some (Row.mk (vwC D.length n m f) true), some (Row.mk (layC D.length n m) true), some (Row.mk (cellsD D) true)]) (Nat.le_refl _)).new [some (Row.mk [] true)]
            simpa using this) (by simp) (by simp [encI])
        rw [List.length_nil] at hf
        have z01 : ((0 : Nat) : Int) + 1 = 1 := rfl
        rw [z01] at hf
        simp only [esc] at i5
        generalize cellsD D = C at *
        generalize inoV D n ino = I at *
        generalize usedV D n no = U at *
        generalize vwC D.length n m f = V at *
        generalize layC D.length n m = L at *
        refine ⟨h', ?_⟩
        simp only [esc, esh, Nat.reduceAdd, Nat.reduceMul, Nat.reduceLT, eq_self, hl, c0, hT, hO, hS5, hLy, hLl, z3, l3, l4, q1, i1, i2, q2, i3, i4, beq_self_eq_true, i5, i6]
        exact hf
  obtain ⟨g', e⟩ := key (ro h) hv.ro
  exact S_escheatlaw21_ViewReads_flat e rfl

end Go.Proofs.Ytdgggnlbdoiloaa
end
section
namespace Go.Proofs.Ytdgggnlbdoiloaa
open Go

def startWords : List Char := (([104, 97, 114, 110, 101, 115, 115, 32, 102, 53, 49, 98, 54, 51, 100, 100, 54, 97, 57, 49, 52, 55, 49, 97, 52, 49, 55, 51, 48, 53, 98, 100, 50, 53, 100, 51, 52, 98, 48, 51, 50, 50, 54, 51, 53, 54, 57, 49, 49, 101, 54, 51, 100, 55, 55, 98, 99, 101, 98, 51, 101, 49, 50, 56, 100, 100, 49, 50, 49, 55, 53, 51, 32, 99, 117, 116, 32, 97, 116, 32, 101, 115, 99, 104, 101, 97, 116, 47, 101, 115, 99, 104, 101, 97, 116, 108, 97, 119, 50, 51, 46, 70, 114, 101, 97, 100, 83, 112, 97, 110, 115, 32, 101, 115, 99, 104, 101, 97, 116, 47, 101, 115, 99, 104, 101, 97, 116, 108, 97, 119, 50, 51, 46, 70, 114, 101, 97, 100, 79, 110, 99, 101, 32, 101, 115, 99, 104, 101, 97, 116, 47, 101, 115, 99, 104, 101, 97, 116, 108, 97, 119, 50, 51, 46, 70, 114, 101, 97, 100, 80, 97, 114, 116, 115, 32, 101, 115, 99, 104, 101, 97, 116, 47, 101, 115, 99, 104, 101, 97, 116, 108, 97, 119, 50, 50, 46, 70, 109, 97, 112, 79, 119, 110, 115, 32, 101, 115, 99, 104, 101, 97, 116, 47, 101, 115, 99, 104, 101, 97, 116, 108, 97, 119, 50, 49, 46, 86, 105, 101, 119, 82, 101, 97, 100, 115, 32, 101, 115, 99, 104, 101, 97, 116, 47, 101, 115, 99, 104, 101, 97, 116, 108, 97, 119, 50, 49, 46, 86, 105, 101, 119, 66, 97, 99, 107, 32, 101, 115, 99, 104, 101, 97, 116, 47, 101, 115, 99, 104, 101, 97, 116, 108, 97, 119, 50, 49, 46, 86, 105, 101, 119, 79, 110, 32, 101, 115, 99, 104, 101, 97, 116, 47, 101, 115, 99, 104, 101, 97, 116, 108, 97, 119, 50, 50, 46, 70, 109, 97, 112, 68, 105, 114, 115, 32, 101, 115, 99, 104, 101, 97, 116, 47, 101, 115, 99, 104, 101, 97, 116, 108, 97, 119, 50, 52, 46, 68, 114, 101, 97, 100, 79, 110, 99, 101] : List Nat).map Char.ofNat)
set_option maxRecDepth 100000
theorem own_ok : ownKnob Try.prog.godebug = none := by kernel_rfl
theorem laid_ok : laidOutB Try.prog = true := by kernel_rfl
theorem start_eq : Try.prog.initOrder = String.ofList startWords := by kernel_rfl
theorem start_list : Try.prog.initOrder.toList = startWords := by rw [start_eq, String.toList_ofList]
def startRest : List (List Char) := (([[99, 117, 116], [97, 116], [101, 115, 99, 104, 101, 97, 116, 47, 101, 115, 99, 104, 101, 97, 116, 108, 97, 119, 50, 51, 46, 70, 114, 101, 97, 100, 83, 112, 97, 110, 115], [101, 115, 99, 104, 101, 97, 116, 47, 101, 115, 99, 104, 101, 97, 116, 108, 97, 119, 50, 51, 46, 70, 114, 101, 97, 100, 79, 110, 99, 101], [101, 115, 99, 104, 101, 97, 116, 47, 101, 115, 99, 104, 101, 97, 116, 108, 97, 119, 50, 51, 46, 70, 114, 101, 97, 100, 80, 97, 114, 116, 115], [101, 115, 99, 104, 101, 97, 116, 47, 101, 115, 99, 104, 101, 97, 116, 108, 97, 119, 50, 50, 46, 70, 109, 97, 112, 79, 119, 110, 115], [101, 115, 99, 104, 101, 97, 116, 47, 101, 115, 99, 104, 101, 97, 116, 108, 97, 119, 50, 49, 46, 86, 105, 101, 119, 82, 101, 97, 100, 115], [101, 115, 99, 104, 101, 97, 116, 47, 101, 115, 99, 104, 101, 97, 116, 108, 97, 119, 50, 49, 46, 86, 105, 101, 119, 66, 97, 99, 107], [101, 115, 99, 104, 101, 97, 116, 47, 101, 115, 99, 104, 101, 97, 116, 108, 97, 119, 50, 49, 46, 86, 105, 101, 119, 79, 110], [101, 115, 99, 104, 101, 97, 116, 47, 101, 115, 99, 104, 101, 97, 116, 108, 97, 119, 50, 50, 46, 70, 109, 97, 112, 68, 105, 114, 115], [101, 115, 99, 104, 101, 97, 116, 47, 101, 115, 99, 104, 101, 97, 116, 108, 97, 119, 50, 52, 46, 68, 114, 101, 97, 100, 79, 110, 99, 101]] : List (List Nat)).map (fun l => l.map Char.ofNat))
theorem split_eq : wordsSigns startWords = (([104, 97, 114, 110, 101, 115, 115] : List Nat).map Char.ofNat) :: (([102, 53, 49, 98, 54, 51, 100, 100, 54, 97, 57, 49, 52, 55, 49, 97, 52, 49, 55, 51, 48, 53, 98, 100, 50, 53, 100, 51, 52, 98, 48, 51, 50, 50, 54, 51, 53, 54, 57, 49, 49, 101, 54, 51, 100, 55, 55, 98, 99, 101, 98, 51, 101, 49, 50, 56, 100, 100, 49, 50, 49, 55, 53, 51] : List Nat).map Char.ofNat) :: startRest := by kernel_rfl
theorem sum_ok : isSumSigns ((([102, 53, 49, 98, 54, 51, 100, 100, 54, 97, 57, 49, 52, 55, 49, 97, 52, 49, 55, 51, 48, 53, 98, 100, 50, 53, 100, 51, 52, 98, 48, 51, 50, 50, 54, 51, 53, 54, 57, 49, 49, 101, 54, 51, 100, 55, 55, 98, 99, 101, 98, 51, 101, 49, 50, 56, 100, 100, 49, 50, 49, 55, 53, 51] : List Nat).map Char.ofNat)) = true := by decide +kernel
theorem harness_ok : ((([104, 97, 114, 110, 101, 115, 115] : List Nat).map Char.ofNat) == "harness".toList) = true := by decide +kernel
theorem behind_gen (h s : List Char) (r : List (List Char)) (h1 : (h == "harness".toList) = true) (h2 : isSumSigns s = true) : behindMainWord (h :: s :: r) = r := by
  unfold behindMainWord
  simp only [h1, h2, Bool.true_or, Bool.true_and, if_true]
theorem behind_eq : behindMainWord (wordsSigns startWords) = startRest := by rw [split_eq]; exact behind_gen _ _ _ harness_ok sum_ok
theorem start_words : behindMainWord (wordsSigns Try.prog.initOrder.toList) = startRest := by rw [start_list]; exact behind_eq
def startTail : List (List Char) := startRest.drop 1
theorem rest_eq : startRest = "cut".toList :: startTail := by decide +kernel
theorem make_gen {P : Program} {rest : List (List Char)} (h : behindMainWord (wordsSigns P.initOrder.toList) = "cut".toList :: rest) : P.make = some .cut := by
  have e1 : ("cut".toList == "gc".toList) = false := by decide +kernel
  have e2 : ("cut".toList == "spec".toList) = false := by decide +kernel
  have e3 : ("cut".toList == "cut".toList) = true := by decide +kernel
  unfold Program.make
  rw [h]
  simp only [e1, e2, e3, Bool.or_self, Bool.true_or, Bool.false_eq_true, if_false, if_true]
theorem make_ok : Try.prog.make = some .cut := make_gen (start_words.trans rest_eq)
theorem strip_none {w : List Char} {ws : List (List Char)} : ∀ os : List String, (os.all fun o => !(w == o.toList)) = true → stripLifts os (w :: ws) = ([], w :: ws)
  | [], _ => rfl
  | o :: os, h => by
    simp only [List.all_cons, Bool.and_eq_true, Bool.not_eq_true'] at h
    unfold stripLifts
    rw [h.1, if_neg (by simp)]
    exact strip_none os h.2
theorem strip_cut (rest : List (List Char)) : stripLifts liftWords ("cut".toList :: rest) = ([], "cut".toList :: rest) := strip_none _ (by decide +kernel)
theorem later_ok : Try.prog.laysLater = false := by kernel_rfl
theorem reflect_ok : Try.prog.bearsReflect = false := by kernel_rfl
theorem door_ok : Try.prog.doorFits [] = true := by kernel_rfl
theorem enter_gen {P : Program} {rest : List (List Char)} (h : behindMainWord (wordsSigns P.initOrder.toList) = "cut".toList :: rest) (h1 : P.laysLater = false) (h2 : P.bearsReflect = false) (h3 : P.doorFits [] = true) : P.mayEnter = true := by
  unfold Program.mayEnter
  rw [h]
  simp only [strip_cut, h1, h2, h3]
  simp
theorem mayEnter_ok : Try.prog.mayEnter = true := enter_gen (start_words.trans rest_eq) later_ok reflect_ok door_ok
theorem lifts_gen {P : Program} {rest : List (List Char)} (h : behindMainWord (wordsSigns P.initOrder.toList) = "cut".toList :: rest) : P.liftsFinal = false := by
  unfold Program.liftsFinal Program.headLifts
  rw [h]
  simp only [strip_cut]
  simp
theorem lifts_ok : Try.prog.liftsFinal = false := lifts_gen (start_words.trans rest_eq)
end Go.Proofs.Ytdgggnlbdoiloaa
end
