/- Escheatlaw16InodePuts: the Go functions of this package as the abstract evaluator computes them: printed by a program, checked by Lean. -/
import Derived.Test.YtbbkpmbepljhkaaEscS
import Derived.Test.YtbbkpmbepljhkaaChecked
import Derived.KernelRfl
import Derived.Test.YtbbkpmbepljhkaaGEscheatlaw16
import Derived.Test.YtbbkpmbepljhkaaGEscheatref01
import Derived.Test.YtbbkpmbepljhkaaGEscheatref16
import Derived.Test.YtbbkpmbepljhkaaGInode
namespace Go.Proofs.Ytbbkpmbepljhkaa
open Go Go.Esc
set_option maxRecDepth 100000
set_option linter.all false
def escheatlaw16_InodePuts_c0 : ACode := .ops [{ dst := some 1, op := .box (.t 0) }, { dst := some 2, op := .mv (.v (.c (.b false))) }]
def escheatlaw16_InodePuts_c1 : ACode := .ops [{ dst := some 8, op := .loadN 11 (.t 1) }, { dst := some 9, op := .call 92 [(.t 8)] }, { dst := some 7, op := .mv (.t 9) }, { dst := some 10, op := .ext (.t 7) 0 }, { dst := some 11, op := .ext (.t 7) 1 }, { dst := some 3, op := .alloc (List.replicate 32 (.i .u8 0)) }, { dst := none, op := .storeN 32 (.t 3) (.t 10) }, { dst := some 4, op := .mv (.t 11) }]
def escheatlaw16_InodePuts_c2 : ACode := .ops [{ dst := some 12, op := .loadN 11 (.t 1) }, { dst := some 13, op := .call 93 [(.t 12)] }, { dst := some 14, op := .mv (.t 4) }, { dst := some 15, op := .bin .neq (.t 13) (.t 14) }]
def escheatlaw16_InodePuts_c3 : ACode := .ops [{ dst := some 2, op := .mv (.v (.c (.b false))) }]
def escheatlaw16_InodePuts_c4 : ACode := .seq [2] escheatlaw16_InodePuts_c3 .ret
def escheatlaw16_InodePuts_c5 : ACode := .cond (.t 15) escheatlaw16_InodePuts_c4 .skip
def escheatlaw16_InodePuts_c6 : ACode := .seq [1, 3, 4, 15] escheatlaw16_InodePuts_c2 escheatlaw16_InodePuts_c5
def escheatlaw16_InodePuts_c7 : ACode := .ops [{ dst := some 16, op := .loadN 11 (.t 1) }, { dst := some 17, op := .call 94 [(.t 16)] }, { dst := some 5, op := .alloc ([.i .i64 0, .i .i64 0, .i .i64 0, .i .i64 0, .i .i64 0, .i .i64 0, .i .i64 0]) }, { dst := none, op := .storeN 7 (.t 5) (.t 17) }]
def escheatlaw16_InodePuts_c8 : ACode := .ops [{ dst := some 6, op := .mv (.v (.c (.i .i64 0))) }]
def escheatlaw16_InodePuts_c9 : ACode := .ops [{ dst := some 18, op := .mv (.t 6) }, { dst := some 19, op := .bin .lss (.t 18) (.v (.c (.i .i64 6))) }]
def escheatlaw16_InodePuts_c10 : ACode := .cond (.t 19) .skip (.exit 0)
def escheatlaw16_InodePuts_c11 : ACode := .seq [1, 3, 4, 5, 6, 19] escheatlaw16_InodePuts_c9 escheatlaw16_InodePuts_c10
def escheatlaw16_InodePuts_c12 : ACode := .draw 0 [{ dst := some 22, op := .mv (.t 6) }, { dst := some 23, op := .iAddrA 7 1 (.t 5) (.t 22) }, { dst := some 24, op := .load1 (.t 23) }, { dst := some 25, op := .mv (.t 6) }, { dst := some 26, op := .fAddr (.t 1) 4 }, { dst := some 27, op := .iAddrA 6 1 (.t 26) (.t 25) }, { dst := some 28, op := .load1 (.t 27) }] [{ dst := some 29, op := .bin .neq (.t 24) (.t 28) }]
def escheatlaw16_InodePuts_c13 : ACode := .ops [{ dst := some 2, op := .mv (.v (.c (.b false))) }]
def escheatlaw16_InodePuts_c14 : ACode := .seq [2] escheatlaw16_InodePuts_c13 .ret
def escheatlaw16_InodePuts_c15 : ACode := .cond (.t 29) escheatlaw16_InodePuts_c14 .skip
def escheatlaw16_InodePuts_c16 : ACode := .seq [1, 3, 4, 5, 6, 29] escheatlaw16_InodePuts_c12 escheatlaw16_InodePuts_c15
def escheatlaw16_InodePuts_c17 : ACode := .block 1 escheatlaw16_InodePuts_c16
def escheatlaw16_InodePuts_c18 : ACode := .ops [{ dst := some 20, op := .mv (.t 6) }, { dst := some 21, op := .bin .add (.t 20) (.v (.c (.i .i64 1))) }, { dst := some 6, op := .mv (.t 21) }]
def escheatlaw16_InodePuts_c19 : ACode := .seq [1, 3, 4, 5, 6] escheatlaw16_InodePuts_c17 escheatlaw16_InodePuts_c18
def escheatlaw16_InodePuts_c20 : ACode := .seq [1, 3, 4, 5, 6] escheatlaw16_InodePuts_c11 escheatlaw16_InodePuts_c19
def escheatlaw16_InodePuts_c21 : ACode := .loop [1, 3, 4, 5, 6] escheatlaw16_InodePuts_c20
def escheatlaw16_InodePuts_c22 : ACode := .block 0 escheatlaw16_InodePuts_c21
def escheatlaw16_InodePuts_c23 : ACode := .seq [1, 3, 4, 5, 6] escheatlaw16_InodePuts_c8 escheatlaw16_InodePuts_c22
def escheatlaw16_InodePuts_c24 : ACode := .ops [{ dst := some 30, op := .iAddrA 7 1 (.t 5) (.v (.c (.i .i64 6))) }, { dst := some 31, op := .load1 (.t 30) }, { dst := some 32, op := .fAddr (.t 1) 10 }, { dst := some 33, op := .load1 (.t 32) }, { dst := some 34, op := .bin .neq (.t 31) (.t 33) }]
def escheatlaw16_InodePuts_c25 : ACode := .ops [{ dst := some 2, op := .mv (.v (.c (.b false))) }]
def escheatlaw16_InodePuts_c26 : ACode := .seq [2] escheatlaw16_InodePuts_c25 .ret
def escheatlaw16_InodePuts_c27 : ACode := .cond (.t 34) escheatlaw16_InodePuts_c26 .skip
def escheatlaw16_InodePuts_c28 : ACode := .seq [1, 3, 4, 34] escheatlaw16_InodePuts_c24 escheatlaw16_InodePuts_c27
def escheatlaw16_InodePuts_c29 : ACode := .ops [{ dst := some 35, op := .loadN 11 (.t 1) }, { dst := some 36, op := .call 95 [(.t 35)] }, { dst := some 37, op := .un .not (.t 36) }]
def escheatlaw16_InodePuts_c30 : ACode := .ops [{ dst := some 38, op := .mv (.t 4) }, { dst := some 39, op := .bin .eql (.t 38) (.v (.c (.i .i64 1))) }, { dst := some 40, op := .mv (.t 39) }, { dst := some 41, op := .loadN 32 (.t 3), guard := some (40, true) }, { dst := some 42, op := .build (List.replicate 32 (.i .u8 0)) [], guard := some (40, true) }, { dst := some 43, op := .eqA false (List.replicate 32 (.i .u8)) (.t 41) (.t 42), guard := some (40, true) }, { dst := some 44, op := .pick (.t 40) (.t 43) (.v (.c (.b false))) }, { dst := some 45, op := .mv (.t 44) }, { dst := some 46, op := .call 96 [], guard := some (45, true) }, { dst := some 47, op := .pick (.t 45) (.t 46) (.v (.c (.b false))) }, { dst := some 2, op := .mv (.t 47) }]
def escheatlaw16_InodePuts_c31 : ACode := .seq [2] escheatlaw16_InodePuts_c30 .ret
def escheatlaw16_InodePuts_c32 : ACode := .cond (.t 37) escheatlaw16_InodePuts_c31 .skip
def escheatlaw16_InodePuts_c33 : ACode := .seq [1, 3, 4, 37] escheatlaw16_InodePuts_c29 escheatlaw16_InodePuts_c32
def escheatlaw16_InodePuts_c34 : ACode := .draw 0 [{ dst := some 48, op := .mv (.t 4) }, { dst := some 49, op := .bin .eql (.t 48) (.v (.c (.i .i64 0))) }, { dst := some 50, op := .mv (.t 49) }, { dst := some 51, op := .slA 32 1 (.t 3) none none, guard := some (50, true) }, { dst := some 52, op := .loadN 11 (.t 1), guard := some (50, true) }, { dst := some 53, op := .call 97 [(.t 52)], guard := some (50, true) }] [{ dst := some 54, op := .call 47 [(.t 51), (.t 53)], guard := some (50, true) }, { dst := some 55, op := .pick (.t 50) (.t 54) (.v (.c (.b false))) }, { dst := some 56, op := .mv (.t 55) }, { dst := some 57, op := .call 96 [], guard := some (56, true) }, { dst := some 58, op := .pick (.t 56) (.t 57) (.v (.c (.b false))) }, { dst := some 2, op := .mv (.t 58) }]
def escheatlaw16_InodePuts_c35 : ACode := .seq [2] escheatlaw16_InodePuts_c34 .ret
def escheatlaw16_InodePuts_c36 : ACode := .seq [1, 3, 4] escheatlaw16_InodePuts_c33 escheatlaw16_InodePuts_c35
def escheatlaw16_InodePuts_c37 : ACode := .seq [1, 3, 4] escheatlaw16_InodePuts_c28 escheatlaw16_InodePuts_c36
def escheatlaw16_InodePuts_c38 : ACode := .seq [1, 3, 4, 5] escheatlaw16_InodePuts_c23 escheatlaw16_InodePuts_c37
def escheatlaw16_InodePuts_c39 : ACode := .seq [1, 3, 4, 5] escheatlaw16_InodePuts_c7 escheatlaw16_InodePuts_c38
def escheatlaw16_InodePuts_c40 : ACode := .seq [1, 3, 4] escheatlaw16_InodePuts_c6 escheatlaw16_InodePuts_c39
def escheatlaw16_InodePuts_c41 : ACode := .seq [1, 3, 4] escheatlaw16_InodePuts_c1 escheatlaw16_InodePuts_c40
def escheatlaw16_InodePuts_c42 : ACode := .seq [1] escheatlaw16_InodePuts_c0 escheatlaw16_InodePuts_c41
def A_escheatlaw16_InodePuts : AFn := ⟨escheatlaw16_InodePuts_c42, [.tmp 2]⟩
noncomputable def E_escheatlaw16_InodePuts : Sums := fun f args h => bif Nat.beq f 92 then S_inode_Put args h else bif Nat.beq f 93 then S_inode_Check args h else bif Nat.beq f 94 then S_inode_Numbers args h else bif Nat.beq f 95 then S_escheatref16_May args h else bif Nat.beq f 96 then S_escheatlaw16_works args h else bif Nat.beq f 97 then S_escheatref16_Put args h else bif Nat.beq f 47 then S_escheatref01_Same args h else none
noncomputable def escheatlaw16_InodePuts_c0_d (n : Nat) : Sm (Val × Heap) := smOps E_escheatlaw16_InodePuts [{ dst := some 1, op := .box (.t 0) }, { dst := some 2, op := .mv (.v (.c (.b false))) }]
noncomputable def escheatlaw16_InodePuts_c1_d (n : Nat) : Sm (Val × Heap) := smOps E_escheatlaw16_InodePuts [{ dst := some 8, op := .loadN 11 (.t 1) }, { dst := some 9, op := .call 92 [(.t 8)] }, { dst := some 7, op := .mv (.t 9) }, { dst := some 10, op := .ext (.t 7) 0 }, { dst := some 11, op := .ext (.t 7) 1 }, { dst := some 3, op := .alloc (List.replicate 32 (.i .u8 0)) }, { dst := none, op := .storeN 32 (.t 3) (.t 10) }, { dst := some 4, op := .mv (.t 11) }]
noncomputable def escheatlaw16_InodePuts_c2_d (n : Nat) : Sm (Val × Heap) := smOps E_escheatlaw16_InodePuts [{ dst := some 12, op := .loadN 11 (.t 1) }, { dst := some 13, op := .call 93 [(.t 12)] }, { dst := some 14, op := .mv (.t 4) }, { dst := some 15, op := .bin .neq (.t 13) (.t 14) }]
noncomputable def escheatlaw16_InodePuts_c3_d (n : Nat) : Sm (Val × Heap) := smOps E_escheatlaw16_InodePuts [{ dst := some 2, op := .mv (.v (.c (.b false))) }]
noncomputable def escheatlaw16_InodePuts_c4_d (n : Nat) : Sm (Val × Heap) := smSeq [2] (escheatlaw16_InodePuts_c3_d n) smRet
noncomputable def escheatlaw16_InodePuts_c5_d (n : Nat) : Sm (Val × Heap) := smCond (.t 15) (escheatlaw16_InodePuts_c4_d n) smSkip
noncomputable def escheatlaw16_InodePuts_c6_d (n : Nat) : Sm (Val × Heap) := smSeq [1, 3, 4, 15] (escheatlaw16_InodePuts_c2_d n) (escheatlaw16_InodePuts_c5_d n)
noncomputable def escheatlaw16_InodePuts_c7_d (n : Nat) : Sm (Val × Heap) := smOps E_escheatlaw16_InodePuts [{ dst := some 16, op := .loadN 11 (.t 1) }, { dst := some 17, op := .call 94 [(.t 16)] }, { dst := some 5, op := .alloc ([.i .i64 0, .i .i64 0, .i .i64 0, .i .i64 0, .i .i64 0, .i .i64 0, .i .i64 0]) }, { dst := none, op := .storeN 7 (.t 5) (.t 17) }]
noncomputable def escheatlaw16_InodePuts_c8_d (n : Nat) : Sm (Val × Heap) := smOps E_escheatlaw16_InodePuts [{ dst := some 6, op := .mv (.v (.c (.i .i64 0))) }]
noncomputable def escheatlaw16_InodePuts_c9_d (n : Nat) : Sm (Val × Heap) := smOps E_escheatlaw16_InodePuts [{ dst := some 18, op := .mv (.t 6) }, { dst := some 19, op := .bin .lss (.t 18) (.v (.c (.i .i64 6))) }]
noncomputable def escheatlaw16_InodePuts_c10_d (n : Nat) : Sm (Val × Heap) := smCond (.t 19) smSkip (smExit 0)
noncomputable def escheatlaw16_InodePuts_c11_d (n : Nat) : Sm (Val × Heap) := smSeq [1, 3, 4, 5, 6, 19] (escheatlaw16_InodePuts_c9_d n) (escheatlaw16_InodePuts_c10_d n)
noncomputable def escheatlaw16_InodePuts_c12_d (n : Nat) : Sm (Val × Heap) := smDraw E_escheatlaw16_InodePuts 0 [{ dst := some 22, op := .mv (.t 6) }, { dst := some 23, op := .iAddrA 7 1 (.t 5) (.t 22) }, { dst := some 24, op := .load1 (.t 23) }, { dst := some 25, op := .mv (.t 6) }, { dst := some 26, op := .fAddr (.t 1) 4 }, { dst := some 27, op := .iAddrA 6 1 (.t 26) (.t 25) }, { dst := some 28, op := .load1 (.t 27) }] [{ dst := some 29, op := .bin .neq (.t 24) (.t 28) }]
noncomputable def escheatlaw16_InodePuts_c13_d (n : Nat) : Sm (Val × Heap) := smOps E_escheatlaw16_InodePuts [{ dst := some 2, op := .mv (.v (.c (.b false))) }]
noncomputable def escheatlaw16_InodePuts_c14_d (n : Nat) : Sm (Val × Heap) := smSeq [2] (escheatlaw16_InodePuts_c13_d n) smRet
noncomputable def escheatlaw16_InodePuts_c15_d (n : Nat) : Sm (Val × Heap) := smCond (.t 29) (escheatlaw16_InodePuts_c14_d n) smSkip
noncomputable def escheatlaw16_InodePuts_c16_d (n : Nat) : Sm (Val × Heap) := smSeq [1, 3, 4, 5, 6, 29] (escheatlaw16_InodePuts_c12_d n) (escheatlaw16_InodePuts_c15_d n)
noncomputable def escheatlaw16_InodePuts_c17_d (n : Nat) : Sm (Val × Heap) := smBlock 1 (escheatlaw16_InodePuts_c16_d n)
noncomputable def escheatlaw16_InodePuts_c18_d (n : Nat) : Sm (Val × Heap) := smOps E_escheatlaw16_InodePuts [{ dst := some 20, op := .mv (.t 6) }, { dst := some 21, op := .bin .add (.t 20) (.v (.c (.i .i64 1))) }, { dst := some 6, op := .mv (.t 21) }]
noncomputable def escheatlaw16_InodePuts_c19_d (n : Nat) : Sm (Val × Heap) := smSeq [1, 3, 4, 5, 6] (escheatlaw16_InodePuts_c17_d n) (escheatlaw16_InodePuts_c18_d n)
noncomputable def escheatlaw16_InodePuts_c20_d (n : Nat) : Sm (Val × Heap) := smSeq [1, 3, 4, 5, 6] (escheatlaw16_InodePuts_c11_d n) (escheatlaw16_InodePuts_c19_d n)
noncomputable def escheatlaw16_InodePuts_c21_d (n : Nat) : Sm (Val × Heap) := smLoop n [1, 3, 4, 5, 6] (escheatlaw16_InodePuts_c20_d n)
noncomputable def escheatlaw16_InodePuts_c22_d (n : Nat) : Sm (Val × Heap) := smBlock 0 (escheatlaw16_InodePuts_c21_d n)
noncomputable def escheatlaw16_InodePuts_c23_d (n : Nat) : Sm (Val × Heap) := smSeq [1, 3, 4, 5, 6] (escheatlaw16_InodePuts_c8_d n) (escheatlaw16_InodePuts_c22_d n)
noncomputable def escheatlaw16_InodePuts_c24_d (n : Nat) : Sm (Val × Heap) := smOps E_escheatlaw16_InodePuts [{ dst := some 30, op := .iAddrA 7 1 (.t 5) (.v (.c (.i .i64 6))) }, { dst := some 31, op := .load1 (.t 30) }, { dst := some 32, op := .fAddr (.t 1) 10 }, { dst := some 33, op := .load1 (.t 32) }, { dst := some 34, op := .bin .neq (.t 31) (.t 33) }]
noncomputable def escheatlaw16_InodePuts_c25_d (n : Nat) : Sm (Val × Heap) := smOps E_escheatlaw16_InodePuts [{ dst := some 2, op := .mv (.v (.c (.b false))) }]
noncomputable def escheatlaw16_InodePuts_c26_d (n : Nat) : Sm (Val × Heap) := smSeq [2] (escheatlaw16_InodePuts_c25_d n) smRet
noncomputable def escheatlaw16_InodePuts_c27_d (n : Nat) : Sm (Val × Heap) := smCond (.t 34) (escheatlaw16_InodePuts_c26_d n) smSkip
noncomputable def escheatlaw16_InodePuts_c28_d (n : Nat) : Sm (Val × Heap) := smSeq [1, 3, 4, 34] (escheatlaw16_InodePuts_c24_d n) (escheatlaw16_InodePuts_c27_d n)
noncomputable def escheatlaw16_InodePuts_c29_d (n : Nat) : Sm (Val × Heap) := smOps E_escheatlaw16_InodePuts [{ dst := some 35, op := .loadN 11 (.t 1) }, { dst := some 36, op := .call 95 [(.t 35)] }, { dst := some 37, op := .un .not (.t 36) }]
noncomputable def escheatlaw16_InodePuts_c30_d (n : Nat) : Sm (Val × Heap) := smOps E_escheatlaw16_InodePuts [{ dst := some 38, op := .mv (.t 4) }, { dst := some 39, op := .bin .eql (.t 38) (.v (.c (.i .i64 1))) }, { dst := some 40, op := .mv (.t 39) }, { dst := some 41, op := .loadN 32 (.t 3), guard := some (40, true) }, { dst := some 42, op := .build (List.replicate 32 (.i .u8 0)) [], guard := some (40, true) }, { dst := some 43, op := .eqA false (List.replicate 32 (.i .u8)) (.t 41) (.t 42), guard := some (40, true) }, { dst := some 44, op := .pick (.t 40) (.t 43) (.v (.c (.b false))) }, { dst := some 45, op := .mv (.t 44) }, { dst := some 46, op := .call 96 [], guard := some (45, true) }, { dst := some 47, op := .pick (.t 45) (.t 46) (.v (.c (.b false))) }, { dst := some 2, op := .mv (.t 47) }]
noncomputable def escheatlaw16_InodePuts_c31_d (n : Nat) : Sm (Val × Heap) := smSeq [2] (escheatlaw16_InodePuts_c30_d n) smRet
noncomputable def escheatlaw16_InodePuts_c32_d (n : Nat) : Sm (Val × Heap) := smCond (.t 37) (escheatlaw16_InodePuts_c31_d n) smSkip
noncomputable def escheatlaw16_InodePuts_c33_d (n : Nat) : Sm (Val × Heap) := smSeq [1, 3, 4, 37] (escheatlaw16_InodePuts_c29_d n) (escheatlaw16_InodePuts_c32_d n)
noncomputable def escheatlaw16_InodePuts_c34_d (n : Nat) : Sm (Val × Heap) := smDraw E_escheatlaw16_InodePuts 0 [{ dst := some 48, op := .mv (.t 4) }, { dst := some 49, op := .bin .eql (.t 48) (.v (.c (.i .i64 0))) }, { dst := some 50, op := .mv (.t 49) }, { dst := some 51, op := .slA 32 1 (.t 3) none none, guard := some (50, true) }, { dst := some 52, op := .loadN 11 (.t 1), guard := some (50, true) }, { dst := some 53, op := .call 97 [(.t 52)], guard := some (50, true) }] [{ dst := some 54, op := .call 47 [(.t 51), (.t 53)], guard := some (50, true) }, { dst := some 55, op := .pick (.t 50) (.t 54) (.v (.c (.b false))) }, { dst := some 56, op := .mv (.t 55) }, { dst := some 57, op := .call 96 [], guard := some (56, true) }, { dst := some 58, op := .pick (.t 56) (.t 57) (.v (.c (.b false))) }, { dst := some 2, op := .mv (.t 58) }]
noncomputable def escheatlaw16_InodePuts_c35_d (n : Nat) : Sm (Val × Heap) := smSeq [2] (escheatlaw16_InodePuts_c34_d n) smRet
noncomputable def escheatlaw16_InodePuts_c36_d (n : Nat) : Sm (Val × Heap) := smSeq [1, 3, 4] (escheatlaw16_InodePuts_c33_d n) (escheatlaw16_InodePuts_c35_d n)
noncomputable def escheatlaw16_InodePuts_c37_d (n : Nat) : Sm (Val × Heap) := smSeq [1, 3, 4] (escheatlaw16_InodePuts_c28_d n) (escheatlaw16_InodePuts_c36_d n)
noncomputable def escheatlaw16_InodePuts_c38_d (n : Nat) : Sm (Val × Heap) := smSeq [1, 3, 4, 5] (escheatlaw16_InodePuts_c23_d n) (escheatlaw16_InodePuts_c37_d n)
noncomputable def escheatlaw16_InodePuts_c39_d (n : Nat) : Sm (Val × Heap) := smSeq [1, 3, 4, 5] (escheatlaw16_InodePuts_c7_d n) (escheatlaw16_InodePuts_c38_d n)
noncomputable def escheatlaw16_InodePuts_c40_d (n : Nat) : Sm (Val × Heap) := smSeq [1, 3, 4] (escheatlaw16_InodePuts_c6_d n) (escheatlaw16_InodePuts_c39_d n)
noncomputable def escheatlaw16_InodePuts_c41_d (n : Nat) : Sm (Val × Heap) := smSeq [1, 3, 4] (escheatlaw16_InodePuts_c1_d n) (escheatlaw16_InodePuts_c40_d n)
noncomputable def escheatlaw16_InodePuts_c42_d (n : Nat) : Sm (Val × Heap) := smSeq [1] (escheatlaw16_InodePuts_c0_d n) (escheatlaw16_InodePuts_c41_d n)
noncomputable def escheatlaw16_InodePuts_k0 (n : Nat) : AExit → Env → Heap → Option (Val × Heap) := fun x e h => match x with | .normal => hold ((escheatlaw16_InodePuts_c37_d n) A_escheatlaw16_InodePuts.fin (e.keep [1, 3, 4, 5]) h) | .exit id => A_escheatlaw16_InodePuts.fin (.exit id) e h | .ret => A_escheatlaw16_InodePuts.fin .ret e h
noncomputable def escheatlaw16_InodePuts_k1 (n : Nat) : AExit → Env → Heap → Option (Val × Heap) := fun x e h => match x with | .exit i => bif Nat.beq i 0 then (escheatlaw16_InodePuts_k0 n) .normal e h else (escheatlaw16_InodePuts_k0 n) (.exit i) e h | .normal => (escheatlaw16_InodePuts_k0 n) .normal e h | .ret => (escheatlaw16_InodePuts_k0 n) .ret e h
noncomputable def escheatlaw16_InodePuts_l0 (n m : Nat) (x1 x3 x4 x5 x6 : Val) (h : Heap) : Option (Val × Heap) := around (escheatlaw16_InodePuts_c20_d n) [1, 3, 4, 5, 6] (escheatlaw16_InodePuts_k1 n) m [(1, x1), (3, x3), (4, x4), (5, x5), (6, x6)] h
noncomputable def R_escheatlaw16_InodePuts (n : Nat) (args : List Val) (h : Heap) : Option (Val × Heap) := (escheatlaw16_InodePuts_c42_d n) A_escheatlaw16_InodePuts.fin (params 0 args) h
theorem R_escheatlaw16_InodePuts_run (n : Nat) (args : List Val) (h : Heap) : A_escheatlaw16_InodePuts.run E_escheatlaw16_InodePuts n args h = R_escheatlaw16_InodePuts n args h := by kernel_rfl
theorem R_escheatlaw16_InodePuts_eq (n : Nat) (a0 : Val) (h : Heap) : R_escheatlaw16_InodePuts n [a0] h = bnd (cells? a0) fun c1 => bnd (aloadN ((h ++ [some (Row.mk (c1) true)])) 11 ((.c (.p h.length 0)))) fun v2 => bnd (S_inode_Put [v2] ((h ++ [some (Row.mk (c1) true)]))) fun p3 => bnd (aext p3.1 0) fun v4 => bnd (aext p3.1 1) fun v5 => bnd (astoreN ((p3.2 ++ [some (Row.mk (List.replicate 32 (.i .u8 0)) true)])) 32 ((.c (.p p3.2.length 0))) v4) fun h6 => bnd (aloadN h6 11 ((.c (.p h.length 0)))) fun v7 => bnd (S_inode_Check [v7] h6) fun p8 => bnd (abin .neq p8.1 v5) fun v9 => cnd v9 (some ((.c (.b false)), p8.2)) (bnd (aloadN p8.2 11 ((.c (.p h.length 0)))) fun v10 => bnd (S_inode_Numbers [v10] p8.2) fun p11 => bnd (astoreN ((p11.2 ++ [some (Row.mk ([.i .i64 0, .i .i64 0, .i .i64 0, .i .i64 0, .i .i64 0, .i .i64 0, .i .i64 0]) true)])) 7 ((.c (.p p11.2.length 0))) p11.1) fun h12 => escheatlaw16_InodePuts_l0 n n ((.c (.p h.length 0))) ((.c (.p p3.2.length 0))) v5 ((.c (.p p11.2.length 0))) (.c (.i .i64 0)) h12) := by kernel_rfl
theorem escheatlaw16_InodePuts_l0_eq (n m : Nat) (x1 x3 x4 x5 x6 : Val) (h : Heap) : escheatlaw16_InodePuts_l0 n (m + 1) x1 x3 x4 x5 x6 h = bnd (abin .lss x6 (.c (.i .i64 6))) fun v13 => cnd v13 (bnd (aiAddrA 7 1 x5 x6) fun v14 => bnd (aload1 h v14) fun v15 => bnd (afAddr x1 4) fun v16 => bnd (aiAddrA 6 1 v16 x6) fun v17 => bnd (aload1 h v17) fun v18 => bnd (abin .neq v15 v18) fun v19 => cnd v19 (some ((.c (.b false)), (h ++ []))) (bnd (abin .add x6 (.c (.i .i64 1))) fun v20 => escheatlaw16_InodePuts_l0 n m x1 x3 x4 x5 v20 ((h ++ [])))) (bnd (aiAddrA 7 1 x5 (.c (.i .i64 6))) fun v21 => bnd (aload1 h v21) fun v22 => bnd (afAddr x1 10) fun v23 => bnd (aload1 h v23) fun v24 => bnd (abin .neq v22 v24) fun v25 => cnd v25 (some ((.c (.b false)), h)) (bnd (aloadN h 11 x1) fun v26 => bnd (S_escheatref16_May [v26] h) fun p27 => bnd (aun .not p27.1) fun v28 => cnd v28 (bnd (abin .eql x4 (.c (.i .i64 1))) fun v29 => bnd (gd v29 true (bnd (aloadN p27.2 32 x3) fun v30 => some (v30, p27.2)) (some (.no, p27.2))) fun p31 => bnd (gd v29 true (bnd (afill (List.replicate 32 (.i .u8 0)) []) fun c32 => some ((.a c32), p31.2)) (some (.no, p31.2))) fun p33 => bnd (gd v29 true (bnd (aeq false (List.replicate 32 (.i .u8)) p31.1 p33.1) fun v34 => some (v34, p33.2)) (some (.no, p33.2))) fun p35 => bnd (apick v29 p35.1 (.c (.b false))) fun v36 => bnd (gd v36 true (bnd (S_escheatlaw16_works [] p35.2) fun p37 => some (p37.1, p37.2)) (some (.no, p35.2))) fun p38 => bnd (apick v36 p38.1 (.c (.b false))) fun v39 => some (v39, p38.2)) (bnd (abin .eql x4 (.c (.i .i64 0))) fun v40 => bnd (gd v40 true (bnd (aslA p27.2 32 1 x3 none none) fun v41 => some (v41, (p27.2 ++ []))) (some (.no, (p27.2 ++ [])))) fun p42 => bnd (gd v40 true (bnd (aloadN p27.2 11 x1) fun v43 => some (v43, p42.2)) (some (.no, p42.2))) fun p44 => bnd (gd v40 true (bnd (quiet p44.2 (S_escheatref16_Put [p44.1] p44.2)) fun p45 => some (p45.1, p45.2)) (some (.no, p44.2))) fun p46 => bnd (gd v40 true (bnd (S_escheatref01_Same [p42.1, p46.1] p46.2) fun p47 => some (p47.1, p47.2)) (some (.no, p46.2))) fun p48 => bnd (apick v40 p48.1 (.c (.b false))) fun v49 => bnd (gd v49 true (bnd (S_escheatlaw16_works [] p48.2) fun p50 => some (p50.1, p50.2)) (some (.no, p48.2))) fun p51 => bnd (apick v49 p51.1 (.c (.b false))) fun v52 => some (v52, p51.2)))) := by kernel_rfl
theorem chk_escheatlaw16_InodePuts : chkFn Try.prog Try.f16 A_escheatlaw16_InodePuts = true := by kernel_rfl
theorem E_escheatlaw16_InodePuts_sound : Sound Try.prog E_escheatlaw16_InodePuts := by
  intro f args h v h2 he
  unfold E_escheatlaw16_InodePuts at he
  cases hb0 : Nat.beq f 92 with
  | true => rw [hb0] at he; have e := Nat.eq_of_beq_eq_true hb0; subst e; exact S_inode_Put_ok args h v h2 he
  | false =>
    rw [hb0] at he; simp only [cond_false] at he
    cases hb1 : Nat.beq f 93 with
    | true => rw [hb1] at he; have e := Nat.eq_of_beq_eq_true hb1; subst e; exact S_inode_Check_ok args h v h2 he
    | false =>
      rw [hb1] at he; simp only [cond_false] at he
      cases hb2 : Nat.beq f 94 with
      | true => rw [hb2] at he; have e := Nat.eq_of_beq_eq_true hb2; subst e; exact S_inode_Numbers_ok args h v h2 he
      | false =>
        rw [hb2] at he; simp only [cond_false] at he
        cases hb3 : Nat.beq f 95 with
        | true => rw [hb3] at he; have e := Nat.eq_of_beq_eq_true hb3; subst e; exact S_escheatref16_May_ok args h v h2 he
        | false =>
          rw [hb3] at he; simp only [cond_false] at he
          cases hb4 : Nat.beq f 96 with
          | true => rw [hb4] at he; have e := Nat.eq_of_beq_eq_true hb4; subst e; exact S_escheatlaw16_works_ok args h v h2 he
          | false =>
            rw [hb4] at he; simp only [cond_false] at he
            cases hb5 : Nat.beq f 97 with
            | true => rw [hb5] at he; have e := Nat.eq_of_beq_eq_true hb5; subst e; exact S_escheatref16_Put_ok args h v h2 he
            | false =>
              rw [hb5] at he; simp only [cond_false] at he
              cases hb6 : Nat.beq f 47 with
              | true => rw [hb6] at he; have e := Nat.eq_of_beq_eq_true hb6; subst e; exact S_escheatref01_Same_ok args h v h2 he
              | false =>
                rw [hb6] at he; simp only [cond_false] at he
                cases he

theorem R_escheatlaw16_InodePuts_ok {n : Nat} {args : List Val} {h h2 : Heap} {v : Val} (he : R_escheatlaw16_InodePuts n args h = some (v, h2)) : Callable Try.prog 16 ∧ CallOk Try.prog 16 args h v h2 ∧ h.length ≤ h2.length := fn_ok E_escheatlaw16_InodePuts_sound Try.func16 chk_escheatlaw16_InodePuts ((R_escheatlaw16_InodePuts_run ..).trans he)
theorem L_escheatlaw16_InodePuts_ok (args : List Val) (h : Heap) (v : Val) (h2 : Heap) (he : Lim A_escheatlaw16_InodePuts E_escheatlaw16_InodePuts args h = some (v, h2)) : Callable Try.prog 16 ∧ CallOk Try.prog 16 args h v h2 ∧ h.length ≤ h2.length := (Lim_run he).elim fun _ e => R_escheatlaw16_InodePuts_ok ((R_escheatlaw16_InodePuts_run ..).symm.trans e)
theorem L_escheatlaw16_InodePuts_of {n : Nat} {args : List Val} {h : Heap} {p : Val × Heap} (he : R_escheatlaw16_InodePuts n args h = some p) : Lim A_escheatlaw16_InodePuts E_escheatlaw16_InodePuts args h = some p := Lim_of ((R_escheatlaw16_InodePuts_run ..).trans he)
noncomputable def S_escheatlaw16_InodePuts : List Val → Heap → Option (Val × Heap) := tidy (Lim A_escheatlaw16_InodePuts E_escheatlaw16_InodePuts)
theorem S_escheatlaw16_InodePuts_ok (args : List Val) (h : Heap) (v : Val) (h2 : Heap) (he : S_escheatlaw16_InodePuts args h = some (v, h2)) : Callable Try.prog 16 ∧ CallOk Try.prog 16 args h v h2 ∧ h.length ≤ h2.length := tidy_ok L_escheatlaw16_InodePuts_ok args h v h2 he
theorem S_escheatlaw16_InodePuts_flat {n : Nat} {args : List Val} {h h2 : Heap} {v : Val} (he : R_escheatlaw16_InodePuts n args (ro h) = some (v, h2)) (hf : v.flat = true) : S_escheatlaw16_InodePuts args h = some (v, h) := tidy_flat (L_escheatlaw16_InodePuts_of he) hf
theorem S_escheatlaw16_InodePuts_low {n : Nat} {args : List Val} {h h2 : Heap} {v : Val} (he : R_escheatlaw16_InodePuts n args (ro h) = some (v, h2)) (hf : v.low h.length = true) : S_escheatlaw16_InodePuts args h = some (v, h) := tidy_low (L_escheatlaw16_InodePuts_of he) hf
theorem S_escheatlaw16_InodePuts_out {n : Nat} {args : List Val} {h h2 : Heap} {v : Val} {sz k : Nat} {cs : List Cell} (he : R_escheatlaw16_InodePuts n args (ro h) = some (v, h2)) (ho : Out h.length h2 v sz k cs) (hf : flats cs = true) : S_escheatlaw16_InodePuts args h = some (.c (.sl h.length 0 k sz), h ++ [some ⟨cs, true⟩]) := tidy_out (L_escheatlaw16_InodePuts_of he) ho hf
theorem S_escheatlaw16_InodePuts_tidy {n : Nat} {args : List Val} {h h2 : Heap} {v v2 : Val} {ids : List Nat} (he : R_escheatlaw16_InodePuts n args (ro h) = some (v, h2)) (hc : canonV h2 h.length v = some (v2, ids)) : S_escheatlaw16_InodePuts args h = some (v2, h ++ ids.map (rd h2)) := tidy_of (L_escheatlaw16_InodePuts_of he) hc
end Go.Proofs.Ytbbkpmbepljhkaa
