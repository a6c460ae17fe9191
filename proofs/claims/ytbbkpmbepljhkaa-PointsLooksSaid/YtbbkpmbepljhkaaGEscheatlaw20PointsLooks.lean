/- Escheatlaw20PointsLooks: the Go functions of this package as the abstract evaluator computes them: printed by a program, checked by Lean. -/
import Derived.Test.YtbbkpmbepljhkaaEscS
import Derived.Test.YtbbkpmbepljhkaaChecked
import Derived.KernelRfl
import Derived.Test.YtbbkpmbepljhkaaGEscheatlaw20
import Derived.Test.YtbbkpmbepljhkaaGEscheatref01
import Derived.Test.YtbbkpmbepljhkaaGEscheatref04
import Derived.Test.YtbbkpmbepljhkaaGEscheatref20
import Derived.Test.YtbbkpmbepljhkaaGPoints
namespace Go.Proofs.Ytbbkpmbepljhkaa
open Go Go.Esc
set_option maxRecDepth 100000
set_option linter.all false
def escheatlaw20_PointsLooks_o0 : List AOper := [{ dst := some 3, op := .box (.t 0) }, { dst := some 6, op := .mv (.v (.c (.b false))) }]
def escheatlaw20_PointsLooks_c0 : ACode := .ops escheatlaw20_PointsLooks_o0
def escheatlaw20_PointsLooks_o1 : List AOper := [{ dst := some 14, op := .loadN 256 (.t 3) }, { dst := some 7, op := .alloc (List.replicate 256 (.i .u8 0)) }, { dst := none, op := .storeN 256 (.t 7) (.t 14) }]
def escheatlaw20_PointsLooks_c1 : ACode := .ops escheatlaw20_PointsLooks_o1
def escheatlaw20_PointsLooks_o2 : List AOper := [{ dst := some 15, op := .slA 256 1 (.t 3) none none }, { dst := some 16, op := .call 99 [(.t 15)] }, { dst := some 8, op := .mv (.t 16) }]
def escheatlaw20_PointsLooks_c2 : ACode := .ops escheatlaw20_PointsLooks_o2
def escheatlaw20_PointsLooks_o3 : List AOper := [{ dst := some 9, op := .mv (.v (.c (.i .i64 0))) }]
def escheatlaw20_PointsLooks_c3 : ACode := .ops escheatlaw20_PointsLooks_o3
def escheatlaw20_PointsLooks_o4 : List AOper := [{ dst := some 17, op := .mv (.t 1) }, { dst := some 18, op := .bin .geq (.t 17) (.v (.c (.i .i64 0))) }, { dst := some 19, op := .mv (.t 18) }, { dst := some 20, op := .mv (.t 1), guard := some (19, true) }, { dst := some 21, op := .bin .lss (.t 20) (.v (.c (.i .i64 128))), guard := some (19, true) }, { dst := some 22, op := .pick (.t 19) (.t 21) (.v (.c (.b false))) }]
def escheatlaw20_PointsLooks_c4 : ACode := .ops escheatlaw20_PointsLooks_o4
def escheatlaw20_PointsLooks_o5 : List AOper := [{ dst := some 23, op := .mv (.t 8) }, { dst := some 24, op := .mv (.t 1) }, { dst := some 25, op := .iAddrL 1 (.t 23) (.t 24) }, { dst := some 26, op := .load1 (.t 25) }, { dst := some 9, op := .mv (.t 26) }]
def escheatlaw20_PointsLooks_c5 : ACode := .ops escheatlaw20_PointsLooks_o5
def escheatlaw20_PointsLooks_c6 : ACode := .cond (.t 22) escheatlaw20_PointsLooks_c5 .skip
def escheatlaw20_PointsLooks_c7 : ACode := .seq [1, 2, 3, 7, 8, 9, 22] escheatlaw20_PointsLooks_c4 escheatlaw20_PointsLooks_c6
def escheatlaw20_PointsLooks_o6 : List AOper := [{ dst := some 10, op := .nilrow 1 }]
def escheatlaw20_PointsLooks_c8 : ACode := .ops escheatlaw20_PointsLooks_o6
def escheatlaw20_PointsLooks_o7 : List AOper := [{ dst := some 11, op := .mv (.v (.c (.i .i64 0))) }]
def escheatlaw20_PointsLooks_c9 : ACode := .ops escheatlaw20_PointsLooks_o7
def escheatlaw20_PointsLooks_o8 : List AOper := [{ dst := some 12, op := .mv (.v (.c (.i .i64 0))) }]
def escheatlaw20_PointsLooks_c10 : ACode := .ops escheatlaw20_PointsLooks_o8
def escheatlaw20_PointsLooks_o9 : List AOper := [{ dst := some 27, op := .mv (.t 12) }, { dst := some 28, op := .bin .lss (.t 27) (.v (.c (.i .i64 128))) }]
def escheatlaw20_PointsLooks_c11 : ACode := .ops escheatlaw20_PointsLooks_o9
def escheatlaw20_PointsLooks_c12 : ACode := .cond (.t 28) .skip (.exit 0)
def escheatlaw20_PointsLooks_c13 : ACode := .seq [1, 2, 3, 7, 8, 9, 10, 11, 12, 28] escheatlaw20_PointsLooks_c11 escheatlaw20_PointsLooks_c12
def escheatlaw20_PointsLooks_o10 : List AOper := [{ dst := some 31, op := .mv (.t 8) }, { dst := some 32, op := .mv (.t 12) }, { dst := some 33, op := .iAddrL 1 (.t 31) (.t 32) }, { dst := some 34, op := .load1 (.t 33) }, { dst := some 35, op := .bin .neq (.t 34) (.v (.c (.i .i64 0))) }]
def escheatlaw20_PointsLooks_c14 : ACode := .ops escheatlaw20_PointsLooks_o10
def escheatlaw20_PointsLooks_o11 : List AOper := [{ dst := some 36, op := .mv (.t 10) }, { dst := some 37, op := .mv (.t 8) }, { dst := some 38, op := .mv (.t 12) }, { dst := some 39, op := .iAddrL 1 (.t 37) (.t 38) }, { dst := some 40, op := .load1 (.t 39) }, { dst := some 41, op := .buildSl 1 1 ([.i .i64 0]) [(0, 1, (.t 40))] }, { dst := some 42, op := .app 1 (.t 36) (.t 41) }, { dst := some 10, op := .mv (.t 42) }]
def escheatlaw20_PointsLooks_c15 : ACode := .ops escheatlaw20_PointsLooks_o11
def escheatlaw20_PointsLooks_o12 : List AOper := [{ dst := some 43, op := .mv (.t 12) }, { dst := some 44, op := .bin .add (.t 43) (.v (.c (.i .i64 1))) }, { dst := some 11, op := .mv (.t 44) }]
def escheatlaw20_PointsLooks_c16 : ACode := .ops escheatlaw20_PointsLooks_o12
def escheatlaw20_PointsLooks_c17 : ACode := .seq [1, 2, 3, 7, 8, 9, 10, 12] escheatlaw20_PointsLooks_c15 escheatlaw20_PointsLooks_c16
def escheatlaw20_PointsLooks_c18 : ACode := .cond (.t 35) escheatlaw20_PointsLooks_c17 .skip
def escheatlaw20_PointsLooks_c19 : ACode := .seq [1, 2, 3, 7, 8, 9, 10, 11, 12, 35] escheatlaw20_PointsLooks_c14 escheatlaw20_PointsLooks_c18
def escheatlaw20_PointsLooks_c20 : ACode := .block 1 escheatlaw20_PointsLooks_c19
def escheatlaw20_PointsLooks_o13 : List AOper := [{ dst := some 29, op := .mv (.t 12) }, { dst := some 30, op := .bin .add (.t 29) (.v (.c (.i .i64 1))) }, { dst := some 12, op := .mv (.t 30) }]
def escheatlaw20_PointsLooks_c21 : ACode := .ops escheatlaw20_PointsLooks_o13
def escheatlaw20_PointsLooks_c22 : ACode := .seq [1, 2, 3, 7, 8, 9, 10, 11, 12] escheatlaw20_PointsLooks_c20 escheatlaw20_PointsLooks_c21
def escheatlaw20_PointsLooks_c23 : ACode := .seq [1, 2, 3, 7, 8, 9, 10, 11, 12] escheatlaw20_PointsLooks_c13 escheatlaw20_PointsLooks_c22
def escheatlaw20_PointsLooks_c24 : ACode := .loop [1, 2, 3, 7, 8, 9, 10, 11, 12] escheatlaw20_PointsLooks_c23
def escheatlaw20_PointsLooks_c25 : ACode := .block 0 escheatlaw20_PointsLooks_c24
def escheatlaw20_PointsLooks_c26 : ACode := .seq [1, 2, 3, 7, 8, 9, 10, 11, 12] escheatlaw20_PointsLooks_c10 escheatlaw20_PointsLooks_c25
def escheatlaw20_PointsLooks_o14 : List AOper := [{ dst := some 45, op := .loadN 256 (.t 7) }, { dst := some 46, op := .mv (.t 2) }, { dst := some 47, op := .call 101 [(.t 46)] }, { dst := some 48, op := .call 100 [(.t 45), (.t 47)] }, { dst := some 13, op := .alloc (List.replicate 256 (.i .u8 0)), slot := some 0 }]
def escheatlaw20_PointsLooks_o15 : List AOper := [{ dst := none, op := .storeN 256 (.t 13) (.t 48) }]
def escheatlaw20_PointsLooks_c27 : ACode := .draw 1 escheatlaw20_PointsLooks_o14 escheatlaw20_PointsLooks_o15
def escheatlaw20_PointsLooks_o16 : List AOper := [{ dst := some 49, op := .loadN 256 (.t 7) }, { dst := some 50, op := .mv (.t 1) }, { dst := some 51, op := .call 87 [(.t 49), (.t 50)] }, { dst := some 52, op := .mv (.t 9) }, { dst := some 53, op := .bin .eql (.t 51) (.t 52) }, { dst := some 54, op := .mv (.t 53) }, { dst := some 55, op := .loadN 256 (.t 7), guard := some (54, true) }, { dst := some 56, op := .call 89 [(.t 55)], guard := some (54, true) }, { dst := some 57, op := .mv (.t 10), guard := some (54, true) }, { dst := some 58, op := .call 102 [(.t 56), (.t 57)], guard := some (54, true) }, { dst := some 59, op := .pick (.t 54) (.t 58) (.v (.c (.b false))) }, { dst := some 60, op := .mv (.t 59) }, { dst := some 61, op := .loadN 256 (.t 7), guard := some (60, true) }, { dst := some 62, op := .call 90 [(.t 61)], guard := some (60, true) }, { dst := some 63, op := .mv (.t 11), guard := some (60, true) }, { dst := some 64, op := .bin .eql (.t 62) (.t 63), guard := some (60, true) }, { dst := some 65, op := .pick (.t 60) (.t 64) (.v (.c (.b false))) }, { dst := some 66, op := .mv (.t 65) }, { dst := some 67, op := .mv (.t 2), guard := some (66, true) }, { dst := some 68, op := .bin .lss (.t 67) (.v (.c (.i .i64 1))), guard := some (66, true) }, { dst := some 69, op := .mv (.t 68), guard := some (66, true) }, { dst := some 70, op := .slA 256 1 (.t 13) none none, guard := some (69, false) }, { dst := some 71, op := .slA 256 1 (.t 3) none none, guard := some (69, false) }, { dst := some 72, op := .mv (.t 2), guard := some (69, false) }, { dst := some 73, op := .call 103 [(.t 71), (.t 72)], guard := some (69, false) }]
def escheatlaw20_PointsLooks_o17 : List AOper := [{ dst := some 74, op := .call 47 [(.t 70), (.t 73)], guard := some (69, false) }, { dst := some 75, op := .pick (.t 69) (.v (.c (.b true))) (.t 74), guard := some (66, true) }, { dst := some 76, op := .pick (.t 66) (.t 75) (.v (.c (.b false))) }, { dst := some 77, op := .mv (.t 76) }, { dst := some 78, op := .call 91 [], guard := some (77, true) }, { dst := some 79, op := .pick (.t 77) (.t 78) (.v (.c (.b false))) }, { dst := some 6, op := .mv (.t 79) }]
def escheatlaw20_PointsLooks_c28 : ACode := .draw 0 escheatlaw20_PointsLooks_o16 escheatlaw20_PointsLooks_o17
def escheatlaw20_PointsLooks_c29 : ACode := .seq [6] escheatlaw20_PointsLooks_c28 .ret
def escheatlaw20_PointsLooks_c30 : ACode := .seq [1, 2, 3, 7, 9, 10, 11, 13] escheatlaw20_PointsLooks_c27 escheatlaw20_PointsLooks_c29
def escheatlaw20_PointsLooks_c31 : ACode := .seq [1, 2, 3, 7, 9, 10, 11] escheatlaw20_PointsLooks_c26 escheatlaw20_PointsLooks_c30
def escheatlaw20_PointsLooks_c32 : ACode := .seq [1, 2, 3, 7, 8, 9, 10, 11] escheatlaw20_PointsLooks_c9 escheatlaw20_PointsLooks_c31
def escheatlaw20_PointsLooks_c33 : ACode := .seq [1, 2, 3, 7, 8, 9, 10] escheatlaw20_PointsLooks_c8 escheatlaw20_PointsLooks_c32
def escheatlaw20_PointsLooks_c34 : ACode := .seq [1, 2, 3, 7, 8, 9] escheatlaw20_PointsLooks_c7 escheatlaw20_PointsLooks_c33
def escheatlaw20_PointsLooks_c35 : ACode := .seq [1, 2, 3, 7, 8, 9] escheatlaw20_PointsLooks_c3 escheatlaw20_PointsLooks_c34
def escheatlaw20_PointsLooks_c36 : ACode := .seq [1, 2, 3, 7, 8] escheatlaw20_PointsLooks_c2 escheatlaw20_PointsLooks_c35
def escheatlaw20_PointsLooks_c37 : ACode := .seq [1, 2, 3, 7] escheatlaw20_PointsLooks_c1 escheatlaw20_PointsLooks_c36
def escheatlaw20_PointsLooks_c38 : ACode := .seq [1, 2, 3] escheatlaw20_PointsLooks_c0 escheatlaw20_PointsLooks_c37
def A_escheatlaw20_PointsLooks : AFn := ⟨escheatlaw20_PointsLooks_c38, [.tmp 6]⟩
noncomputable def E_escheatlaw20_PointsLooks : Sums := disp 99 S_escheatref20_Numbers (disp 101 S_escheatlaw20_below (disp 100 S_points_Keep__below_1 (disp 87 S_points_Get (disp 89 S_points_List (disp 102 S_escheatref04_Ints (disp 90 S_points_Last (disp 103 S_escheatref20_Below (disp 47 S_escheatref01_Same (disp 91 S_escheatlaw20_works disp0)))))))))
noncomputable def escheatlaw20_PointsLooks_c0_d (n : Nat) : SmV := smOps E_escheatlaw20_PointsLooks escheatlaw20_PointsLooks_o0
noncomputable def escheatlaw20_PointsLooks_c1_d (n : Nat) : SmV := smOps E_escheatlaw20_PointsLooks escheatlaw20_PointsLooks_o1
noncomputable def escheatlaw20_PointsLooks_c2_d (n : Nat) : SmV := smOps E_escheatlaw20_PointsLooks escheatlaw20_PointsLooks_o2
noncomputable def escheatlaw20_PointsLooks_c3_d (n : Nat) : SmV := smOps E_escheatlaw20_PointsLooks escheatlaw20_PointsLooks_o3
noncomputable def escheatlaw20_PointsLooks_c4_d (n : Nat) : SmV := smOps E_escheatlaw20_PointsLooks escheatlaw20_PointsLooks_o4
noncomputable def escheatlaw20_PointsLooks_c5_d (n : Nat) : SmV := smOps E_escheatlaw20_PointsLooks escheatlaw20_PointsLooks_o5
noncomputable def escheatlaw20_PointsLooks_c6_d (n : Nat) : SmV := smCond (.t 22) (escheatlaw20_PointsLooks_c5_d n) smSkip
noncomputable def escheatlaw20_PointsLooks_c7_d (n : Nat) : SmV := smSeq [1, 2, 3, 7, 8, 9, 22] (escheatlaw20_PointsLooks_c4_d n) (escheatlaw20_PointsLooks_c6_d n)
noncomputable def escheatlaw20_PointsLooks_c8_d (n : Nat) : SmV := smOps E_escheatlaw20_PointsLooks escheatlaw20_PointsLooks_o6
noncomputable def escheatlaw20_PointsLooks_c9_d (n : Nat) : SmV := smOps E_escheatlaw20_PointsLooks escheatlaw20_PointsLooks_o7
noncomputable def escheatlaw20_PointsLooks_c10_d (n : Nat) : SmV := smOps E_escheatlaw20_PointsLooks escheatlaw20_PointsLooks_o8
noncomputable def escheatlaw20_PointsLooks_c11_d (n : Nat) : SmV := smOps E_escheatlaw20_PointsLooks escheatlaw20_PointsLooks_o9
noncomputable def escheatlaw20_PointsLooks_c12_d (n : Nat) : SmV := smCond (.t 28) smSkip (smExit 0)
noncomputable def escheatlaw20_PointsLooks_c13_d (n : Nat) : SmV := smSeq [1, 2, 3, 7, 8, 9, 10, 11, 12, 28] (escheatlaw20_PointsLooks_c11_d n) (escheatlaw20_PointsLooks_c12_d n)
noncomputable def escheatlaw20_PointsLooks_c14_d (n : Nat) : SmV := smOps E_escheatlaw20_PointsLooks escheatlaw20_PointsLooks_o10
noncomputable def escheatlaw20_PointsLooks_c15_d (n : Nat) : SmV := smOps E_escheatlaw20_PointsLooks escheatlaw20_PointsLooks_o11
noncomputable def escheatlaw20_PointsLooks_c16_d (n : Nat) : SmV := smOps E_escheatlaw20_PointsLooks escheatlaw20_PointsLooks_o12
noncomputable def escheatlaw20_PointsLooks_c17_d (n : Nat) : SmV := smSeq [1, 2, 3, 7, 8, 9, 10, 12] (escheatlaw20_PointsLooks_c15_d n) (escheatlaw20_PointsLooks_c16_d n)
noncomputable def escheatlaw20_PointsLooks_c18_d (n : Nat) : SmV := smCond (.t 35) (escheatlaw20_PointsLooks_c17_d n) smSkip
noncomputable def escheatlaw20_PointsLooks_c19_d (n : Nat) : SmV := smSeq [1, 2, 3, 7, 8, 9, 10, 11, 12, 35] (escheatlaw20_PointsLooks_c14_d n) (escheatlaw20_PointsLooks_c18_d n)
noncomputable def escheatlaw20_PointsLooks_c20_d (n : Nat) : SmV := smBlock 1 (escheatlaw20_PointsLooks_c19_d n)
noncomputable def escheatlaw20_PointsLooks_c21_d (n : Nat) : SmV := smOps E_escheatlaw20_PointsLooks escheatlaw20_PointsLooks_o13
noncomputable def escheatlaw20_PointsLooks_c22_d (n : Nat) : SmV := smSeq [1, 2, 3, 7, 8, 9, 10, 11, 12] (escheatlaw20_PointsLooks_c20_d n) (escheatlaw20_PointsLooks_c21_d n)
noncomputable def escheatlaw20_PointsLooks_c23_d (n : Nat) : SmV := smSeq [1, 2, 3, 7, 8, 9, 10, 11, 12] (escheatlaw20_PointsLooks_c13_d n) (escheatlaw20_PointsLooks_c22_d n)
noncomputable def escheatlaw20_PointsLooks_c24_d (n : Nat) : SmV := smLoop n [1, 2, 3, 7, 8, 9, 10, 11, 12] (escheatlaw20_PointsLooks_c23_d n)
noncomputable def escheatlaw20_PointsLooks_c25_d (n : Nat) : SmV := smBlock 0 (escheatlaw20_PointsLooks_c24_d n)
noncomputable def escheatlaw20_PointsLooks_c26_d (n : Nat) : SmV := smSeq [1, 2, 3, 7, 8, 9, 10, 11, 12] (escheatlaw20_PointsLooks_c10_d n) (escheatlaw20_PointsLooks_c25_d n)
noncomputable def escheatlaw20_PointsLooks_c27_d (n : Nat) : SmV := smDraw E_escheatlaw20_PointsLooks 1 escheatlaw20_PointsLooks_o14 escheatlaw20_PointsLooks_o15
noncomputable def escheatlaw20_PointsLooks_c28_d (n : Nat) : SmV := smDraw E_escheatlaw20_PointsLooks 0 escheatlaw20_PointsLooks_o16 escheatlaw20_PointsLooks_o17
noncomputable def escheatlaw20_PointsLooks_c29_d (n : Nat) : SmV := smSeq [6] (escheatlaw20_PointsLooks_c28_d n) smRet
noncomputable def escheatlaw20_PointsLooks_c30_d (n : Nat) : SmV := smSeq [1, 2, 3, 7, 9, 10, 11, 13] (escheatlaw20_PointsLooks_c27_d n) (escheatlaw20_PointsLooks_c29_d n)
noncomputable def escheatlaw20_PointsLooks_c31_d (n : Nat) : SmV := smSeq [1, 2, 3, 7, 9, 10, 11] (escheatlaw20_PointsLooks_c26_d n) (escheatlaw20_PointsLooks_c30_d n)
noncomputable def escheatlaw20_PointsLooks_c32_d (n : Nat) : SmV := smSeq [1, 2, 3, 7, 8, 9, 10, 11] (escheatlaw20_PointsLooks_c9_d n) (escheatlaw20_PointsLooks_c31_d n)
noncomputable def escheatlaw20_PointsLooks_c33_d (n : Nat) : SmV := smSeq [1, 2, 3, 7, 8, 9, 10] (escheatlaw20_PointsLooks_c8_d n) (escheatlaw20_PointsLooks_c32_d n)
noncomputable def escheatlaw20_PointsLooks_c34_d (n : Nat) : SmV := smSeq [1, 2, 3, 7, 8, 9] (escheatlaw20_PointsLooks_c7_d n) (escheatlaw20_PointsLooks_c33_d n)
noncomputable def escheatlaw20_PointsLooks_c35_d (n : Nat) : SmV := smSeq [1, 2, 3, 7, 8, 9] (escheatlaw20_PointsLooks_c3_d n) (escheatlaw20_PointsLooks_c34_d n)
noncomputable def escheatlaw20_PointsLooks_c36_d (n : Nat) : SmV := smSeq [1, 2, 3, 7, 8] (escheatlaw20_PointsLooks_c2_d n) (escheatlaw20_PointsLooks_c35_d n)
noncomputable def escheatlaw20_PointsLooks_c37_d (n : Nat) : SmV := smSeq [1, 2, 3, 7] (escheatlaw20_PointsLooks_c1_d n) (escheatlaw20_PointsLooks_c36_d n)
noncomputable def escheatlaw20_PointsLooks_c38_d (n : Nat) : SmV := smSeq [1, 2, 3] (escheatlaw20_PointsLooks_c0_d n) (escheatlaw20_PointsLooks_c37_d n)
noncomputable def escheatlaw20_PointsLooks_j0 (n : Nat) (x1 x2 x3 x7 x8 x9 : Val) (h : Heap) : OptV := hold ((escheatlaw20_PointsLooks_c33_d n) A_escheatlaw20_PointsLooks.fin [(1, x1), (2, x2), (3, x3), (7, x7), (8, x8), (9, x9)] h)
noncomputable def R_escheatlaw20_PointsLooks (n : Nat) (args : List Val) (h : Heap) : OptV := (escheatlaw20_PointsLooks_c38_d n) A_escheatlaw20_PointsLooks.fin (params 0 args) h
noncomputable def escheatlaw20_PointsLooks_k0 (n : Nat) : AExit → Env → Heap → OptV := fun x e h => match x with | .normal => hold ((escheatlaw20_PointsLooks_c30_d n) A_escheatlaw20_PointsLooks.fin (e.keep [1, 2, 3, 7, 9, 10, 11]) h) | .exit id => A_escheatlaw20_PointsLooks.fin (.exit id) e h | .ret => A_escheatlaw20_PointsLooks.fin .ret e h
noncomputable def escheatlaw20_PointsLooks_k1 (n : Nat) : AExit → Env → Heap → OptV := fun x e h => match x with | .exit i => bif Nat.beq i 0 then (escheatlaw20_PointsLooks_k0 n) .normal e h else (escheatlaw20_PointsLooks_k0 n) (.exit i) e h | .normal => (escheatlaw20_PointsLooks_k0 n) .normal e h | .ret => (escheatlaw20_PointsLooks_k0 n) .ret e h
noncomputable def escheatlaw20_PointsLooks_l0 (n m : Nat) (x1 x2 x3 x7 x8 x9 x10 x11 x12 : Val) (h : Heap) : OptV := around (escheatlaw20_PointsLooks_c23_d n) [1, 2, 3, 7, 8, 9, 10, 11, 12] (escheatlaw20_PointsLooks_k1 n) m [(1, x1), (2, x2), (3, x3), (7, x7), (8, x8), (9, x9), (10, x10), (11, x11), (12, x12)] h
noncomputable def escheatlaw20_PointsLooks_k2 (n m : Nat) : AExit → Env → Heap → OptV := fun x e h => match x with | .normal => around (escheatlaw20_PointsLooks_c23_d n) [1, 2, 3, 7, 8, 9, 10, 11, 12] (escheatlaw20_PointsLooks_k1 n) m (e.keep [1, 2, 3, 7, 8, 9, 10, 11, 12]) h | .exit id => (escheatlaw20_PointsLooks_k1 n) (.exit id) e h | .ret => (escheatlaw20_PointsLooks_k1 n) .ret e h
noncomputable def escheatlaw20_PointsLooks_j1 (n m : Nat) (x1 x2 x3 x7 x8 x9 x10 x11 x12 : Val) (h : Heap) : OptV := hold ((escheatlaw20_PointsLooks_c21_d n) (escheatlaw20_PointsLooks_k2 n m) [(1, x1), (2, x2), (3, x3), (7, x7), (8, x8), (9, x9), (10, x10), (11, x11), (12, x12)] h)
theorem R_escheatlaw20_PointsLooks_eq (n : Nat) (a0 a1 a2 : Val) (h : Heap) : R_escheatlaw20_PointsLooks n [a0, a1, a2] h = bnd (cells? a0) fun c1 => bnd (aloadN ((h ++ [some (Row.mk (c1) true)])) 256 ((.c (.p h.length 0)))) fun v2 => bnd (astoreN (((h ++ [some (Row.mk (c1) true)]) ++ [some (Row.mk (List.replicate 256 (.i .u8 0)) true)])) 256 ((.c (.p ((h ++ [some (Row.mk (c1) true)])).length 0))) v2) fun h3 => bnd (aslA h3 256 1 ((.c (.p h.length 0))) none none) fun v4 => bnd (S_escheatref20_Numbers [v4] h3) fun p5 => bnd (abin .geq a1 (.c (.i .i64 0))) fun v6 => bnd (gd v6 true (some (a1, p5.2)) (some (.no, p5.2))) fun p7 => bnd (gd v6 true (bnd (abin .lss p7.1 (.c (.i .i64 128))) fun v8 => some (v8, p7.2)) (some (.no, p7.2))) fun p9 => bnd (apick v6 p9.1 (.c (.b false))) fun v10 => cnd v10 (bnd (aiAddrL 1 p5.1 a1) fun v11 => bnd (aload1 p9.2 v11) fun v12 => escheatlaw20_PointsLooks_j0 n a1 a2 ((.c (.p h.length 0))) ((.c (.p ((h ++ [some (Row.mk (c1) true)])).length 0))) p5.1 v12 p9.2) (escheatlaw20_PointsLooks_j0 n a1 a2 ((.c (.p h.length 0))) ((.c (.p ((h ++ [some (Row.mk (c1) true)])).length 0))) p5.1 (.c (.i .i64 0)) p9.2) := by kernel_rfl
theorem escheatlaw20_PointsLooks_j0_eq (n : Nat) (x1 x2 x3 x7 x8 x9 : Val) (h : Heap) : escheatlaw20_PointsLooks_j0 n x1 x2 x3 x7 x8 x9 h = escheatlaw20_PointsLooks_l0 n n x1 x2 x3 x7 x8 x9 ((.c (.sl h.length 0 0 1))) (.c (.i .i64 0)) (.c (.i .i64 0)) ((h ++ [some (Row.mk ([]) true)])) := by kernel_rfl
theorem escheatlaw20_PointsLooks_l0_eq (n m : Nat) (x1 x2 x3 x7 x8 x9 x10 x11 x12 : Val) (h : Heap) : escheatlaw20_PointsLooks_l0 n (m + 1) x1 x2 x3 x7 x8 x9 x10 x11 x12 h = bnd (abin .lss x12 (.c (.i .i64 128))) fun v13 => cnd v13 (bnd (aiAddrL 1 x8 x12) fun v14 => bnd (aload1 h v14) fun v15 => bnd (abin .neq v15 (.c (.i .i64 0))) fun v16 => cnd v16 (bnd (aiAddrL 1 x8 x12) fun v17 => bnd (aload1 h v17) fun v18 => bnd (afill ([.i .i64 0]) [(0, 1, v18)]) fun c19 => bnd (aapp ((h ++ [some (Row.mk (c19) true)])) 1 x10 ((.c (.sl h.length 0 1 1)))) fun p20 => bnd (abin .add x12 (.c (.i .i64 1))) fun v21 => escheatlaw20_PointsLooks_j1 n m x1 x2 x3 x7 x8 x9 p20.1 v21 x12 p20.2) (escheatlaw20_PointsLooks_j1 n m x1 x2 x3 x7 x8 x9 x10 x11 x12 h)) (bnd (aloadN h 256 x7) fun v22 => bnd (quiet ((h ++ [none])) (S_escheatlaw20_below [x2] ((h ++ [none])))) fun p23 => bnd (quiet p23.2 (S_points_Keep__below_1 [v22, p23.1] p23.2)) fun p24 => bnd (astoreN ((p24.2.set (h.length + 0) (some (Row.mk (List.replicate 256 (.i .u8 0)) true)))) 256 ((.c (.p (h.length + 0) 0))) p24.1) fun h25 => bnd (aloadN h25 256 x7) fun v26 => bnd (quiet ((h25 ++ [])) (S_points_Get [v26, x1] ((h25 ++ [])))) fun p27 => bnd (abin .eql p27.1 x9) fun v28 => bnd (gd v28 true (bnd (aloadN h25 256 x7) fun v29 => some (v29, p27.2)) (some (.no, p27.2))) fun p30 => bnd (gd v28 true (bnd (quiet p30.2 (S_points_List [p30.1] p30.2)) fun p31 => some (p31.1, p31.2)) (some (.no, p30.2))) fun p32 => bnd (gd v28 true (some (x10, p32.2)) (some (.no, p32.2))) fun p33 => bnd (gd v28 true (bnd (quiet p33.2 (S_escheatref04_Ints [p32.1, p33.1] p33.2)) fun p34 => some (p34.1, p34.2)) (some (.no, p33.2))) fun p35 => bnd (apick v28 p35.1 (.c (.b false))) fun v36 => bnd (gd v36 true (bnd (aloadN h25 256 x7) fun v37 => some (v37, p35.2)) (some (.no, p35.2))) fun p38 => bnd (gd v36 true (bnd (quiet p38.2 (S_points_Last [p38.1] p38.2)) fun p39 => some (p39.1, p39.2)) (some (.no, p38.2))) fun p40 => bnd (gd v36 true (some (x11, p40.2)) (some (.no, p40.2))) fun p41 => bnd (gd v36 true (bnd (abin .eql p40.1 p41.1) fun v42 => some (v42, p41.2)) (some (.no, p41.2))) fun p43 => bnd (apick v36 p43.1 (.c (.b false))) fun v44 => bnd (gd v44 true (some (x2, p43.2)) (some (.no, p43.2))) fun p45 => bnd (gd v44 true (bnd (abin .lss p45.1 (.c (.i .i64 1))) fun v46 => some (v46, p45.2)) (some (.no, p45.2))) fun p47 => bnd (gd v44 true (some (p47.1, p47.2)) (some (.no, p47.2))) fun p48 => bnd (gd p48.1 false (bnd (aslA h25 256 1 ((.c (.p (h.length + 0) 0))) none none) fun v49 => some (v49, p48.2)) (some (.no, p48.2))) fun p50 => bnd (gd p48.1 false (bnd (aslA h25 256 1 x3 none none) fun v51 => some (v51, p50.2)) (some (.no, p50.2))) fun p52 => bnd (gd p48.1 false (some (x2, p52.2)) (some (.no, p52.2))) fun p53 => bnd (gd p48.1 false (bnd (quiet p53.2 (S_escheatref20_Below [p52.1, p53.1] p53.2)) fun p54 => some (p54.1, p54.2)) (some (.no, p53.2))) fun p55 => bnd (gd p48.1 false (bnd (S_escheatref01_Same [p50.1, p55.1] p55.2) fun p56 => some (p56.1, p56.2)) (some (.no, p55.2))) fun p57 => bnd (gd v44 true (bnd (apick p48.1 (.c (.b true)) p57.1) fun v58 => some (v58, p57.2)) (some (.no, p57.2))) fun p59 => bnd (apick v44 p59.1 (.c (.b false))) fun v60 => bnd (gd v60 true (bnd (S_escheatlaw20_works [] p59.2) fun p61 => some (p61.1, p61.2)) (some (.no, p59.2))) fun p62 => bnd (apick v60 p62.1 (.c (.b false))) fun v63 => some (v63, p62.2)) := by kernel_rfl
theorem escheatlaw20_PointsLooks_j1_eq (n m : Nat) (x1 x2 x3 x7 x8 x9 x10 x11 x12 : Val) (h : Heap) : escheatlaw20_PointsLooks_j1 n m x1 x2 x3 x7 x8 x9 x10 x11 x12 h = bnd (abin .add x12 (.c (.i .i64 1))) fun v64 => escheatlaw20_PointsLooks_l0 n m x1 x2 x3 x7 x8 x9 x10 x11 v64 h := by kernel_rfl
theorem K_escheatlaw20_PointsLooks : FnK Try.prog 18 A_escheatlaw20_PointsLooks E_escheatlaw20_PointsLooks R_escheatlaw20_PointsLooks := .mk' (sound1 S_escheatref20_Numbers_ok (sound1 S_escheatlaw20_below_ok (sound1 S_points_Keep__below_1_ok (sound1 S_points_Get_ok (sound1 S_points_List_ok (sound1 S_escheatref04_Ints_ok (sound1 S_points_Last_ok (sound1 S_escheatref20_Below_ok (sound1 S_escheatref01_Same_ok (sound1 S_escheatlaw20_works_ok sound0)))))))))) Try.func18 (by kernel_rfl) (by intro n args h; kernel_rfl)
noncomputable def S_escheatlaw20_PointsLooks : Fun := tidy (Lim A_escheatlaw20_PointsLooks E_escheatlaw20_PointsLooks)
theorem S_escheatlaw20_PointsLooks_ok : SOk Try.prog 18 S_escheatlaw20_PointsLooks := K_escheatlaw20_PointsLooks.sok
theorem S_escheatlaw20_PointsLooks_flat {n : Nat} {args : List Val} {h h2 : Heap} {v : Val} (he : R_escheatlaw20_PointsLooks n args (ro h) = some (v, h2)) (hf : v.flat = true) : S_escheatlaw20_PointsLooks args h = some (v, h) := K_escheatlaw20_PointsLooks.flat he hf
end Go.Proofs.Ytbbkpmbepljhkaa
