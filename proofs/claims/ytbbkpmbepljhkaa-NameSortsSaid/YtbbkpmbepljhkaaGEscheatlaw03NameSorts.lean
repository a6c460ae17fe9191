/- Escheatlaw03NameSorts: the Go functions of this package as the abstract evaluator computes them: printed by a program, checked by Lean. -/
import Derived.Test.YtbbkpmbepljhkaaEscS
import Derived.Test.YtbbkpmbepljhkaaChecked
import Derived.KernelRfl
import Derived.Test.YtbbkpmbepljhkaaGEscheatlaw03
import Derived.Test.YtbbkpmbepljhkaaGEscheatref02
import Derived.Test.YtbbkpmbepljhkaaGEscheatref03
import Derived.Test.YtbbkpmbepljhkaaGName
namespace Go.Proofs.Ytbbkpmbepljhkaa
open Go Go.Esc
set_option maxRecDepth 100000
set_option linter.all false
def escheatlaw03_NameSorts_c0 : ACode := .ops [{ dst := some 4, op := .mv (.v (.c (.b false))) }]
def escheatlaw03_NameSorts_c1 : ACode := .ops [{ dst := some 15, op := .mv (.t 0) }, { dst := some 16, op := .call 73 [(.t 15), (.v (.c (.i .i64 40))), (.v (.c (.i .i64 60)))] }, { dst := some 17, op := .mv (.t 16) }, { dst := some 18, op := .mv (.t 1), guard := some (17, false) }, { dst := some 19, op := .lenS (.t 18), guard := some (17, false) }, { dst := some 20, op := .bin .gtr (.t 19) (.v (.c (.i .i64 60))), guard := some (17, false) }, { dst := some 21, op := .pick (.t 17) (.v (.c (.b true))) (.t 20) }]
def escheatlaw03_NameSorts_c2 : ACode := .ops [{ dst := some 22, op := .call 40 [] }, { dst := some 4, op := .mv (.t 22) }]
def escheatlaw03_NameSorts_c3 : ACode := .seq [4] escheatlaw03_NameSorts_c2 .ret
def escheatlaw03_NameSorts_c4 : ACode := .cond (.t 21) escheatlaw03_NameSorts_c3 .skip
def escheatlaw03_NameSorts_c5 : ACode := .seq [0, 1, 21] escheatlaw03_NameSorts_c1 escheatlaw03_NameSorts_c4
def escheatlaw03_NameSorts_c6 : ACode := .ops [{ dst := some 23, op := .mv (.t 0) }, { dst := some 24, op := .call 74 [(.t 23)] }, { dst := some 5, op := .mv (.t 24) }]
def escheatlaw03_NameSorts_c7 : ACode := .ops [{ dst := some 25, op := .mv (.t 0) }, { dst := some 26, op := .call 75 [(.t 25)] }, { dst := some 6, op := .mv (.t 26) }]
def escheatlaw03_NameSorts_c8 : ACode := .ops [{ dst := some 28, op := .mv (.t 0) }, { dst := some 29, op := .mv (.t 1) }, { dst := some 30, op := .call 76 [(.t 28), (.t 29)] }, { dst := some 27, op := .mv (.t 30) }, { dst := some 31, op := .ext (.t 27) 0 }, { dst := some 32, op := .ext (.t 27) 1 }, { dst := some 7, op := .mv (.t 31) }, { dst := some 8, op := .mv (.t 32) }]
def escheatlaw03_NameSorts_c9 : ACode := .ops [{ dst := some 33, op := .mv (.t 7) }, { dst := some 34, op := .bin .lss (.t 33) (.v (.c (.i .i64 0))) }, { dst := some 35, op := .mv (.t 34) }, { dst := some 36, op := .mv (.t 7), guard := some (35, false) }, { dst := some 37, op := .mv (.t 0), guard := some (35, false) }, { dst := some 38, op := .len (.t 37), guard := some (35, false) }, { dst := some 39, op := .bin .gtr (.t 36) (.t 38), guard := some (35, false) }, { dst := some 40, op := .pick (.t 35) (.v (.c (.b true))) (.t 39) }]
def escheatlaw03_NameSorts_c10 : ACode := .ops [{ dst := some 4, op := .mv (.v (.c (.b false))) }]
def escheatlaw03_NameSorts_c11 : ACode := .seq [4] escheatlaw03_NameSorts_c10 .ret
def escheatlaw03_NameSorts_c12 : ACode := .cond (.t 40) escheatlaw03_NameSorts_c11 .skip
def escheatlaw03_NameSorts_c13 : ACode := .seq [0, 1, 5, 6, 7, 8, 40] escheatlaw03_NameSorts_c9 escheatlaw03_NameSorts_c12
def escheatlaw03_NameSorts_c14 : ACode := .ops [{ dst := some 42, op := .mv (.t 0) }, { dst := some 43, op := .mv (.t 1) }, { dst := some 44, op := .call 77 [(.t 42), (.t 43)] }, { dst := some 41, op := .mv (.t 44) }, { dst := some 45, op := .ext (.t 41) 0 }, { dst := some 46, op := .ext (.t 41) 1 }, { dst := some 9, op := .mv (.t 45) }, { dst := some 10, op := .mv (.t 46) }]
def escheatlaw03_NameSorts_c15 : ACode := .ops [{ dst := some 47, op := .mv (.t 0) }, { dst := some 48, op := .call 78 [(.t 47)] }, { dst := some 49, op := .mv (.t 48) }, { dst := some 50, op := .mv (.t 7), guard := some (49, true) }, { dst := some 51, op := .mv (.t 9), guard := some (49, true) }, { dst := some 52, op := .bin .neq (.t 50) (.t 51), guard := some (49, true) }, { dst := some 53, op := .mv (.t 52), guard := some (49, true) }, { dst := some 54, op := .mv (.t 8), guard := some (53, false) }, { dst := some 55, op := .mv (.t 10), guard := some (53, false) }, { dst := some 56, op := .eqB true (.t 54) (.t 55), guard := some (53, false) }, { dst := some 57, op := .pick (.t 53) (.v (.c (.b true))) (.t 56), guard := some (49, true) }, { dst := some 58, op := .pick (.t 49) (.t 57) (.v (.c (.b false))) }]
def escheatlaw03_NameSorts_c16 : ACode := .ops [{ dst := some 4, op := .mv (.v (.c (.b false))) }]
def escheatlaw03_NameSorts_c17 : ACode := .seq [4] escheatlaw03_NameSorts_c16 .ret
def escheatlaw03_NameSorts_c18 : ACode := .cond (.t 58) escheatlaw03_NameSorts_c17 .skip
def escheatlaw03_NameSorts_c19 : ACode := .seq [1, 5, 6, 58] escheatlaw03_NameSorts_c15 escheatlaw03_NameSorts_c18
def escheatlaw03_NameSorts_c20 : ACode := .ops [{ dst := some 60, op := .mv (.t 5) }, { dst := some 61, op := .mv (.t 1) }, { dst := some 62, op := .call 76 [(.t 60), (.t 61)] }, { dst := some 59, op := .mv (.t 62) }, { dst := some 63, op := .ext (.t 59) 0 }, { dst := some 64, op := .ext (.t 59) 1 }, { dst := some 11, op := .mv (.t 63) }, { dst := some 12, op := .mv (.t 64) }]
def escheatlaw03_NameSorts_c21 : ACode := .ops [{ dst := some 66, op := .mv (.t 5) }, { dst := some 67, op := .mv (.t 1) }, { dst := some 68, op := .call 77 [(.t 66), (.t 67)] }, { dst := some 65, op := .mv (.t 68) }, { dst := some 69, op := .ext (.t 65) 0 }, { dst := some 70, op := .ext (.t 65) 1 }, { dst := some 13, op := .mv (.t 69) }, { dst := some 14, op := .mv (.t 70) }]
def escheatlaw03_NameSorts_c22 : ACode := .ops [{ dst := some 71, op := .mv (.t 6) }, { dst := some 72, op := .mv (.t 5) }, { dst := some 73, op := .call 79 [(.t 71), (.t 72)] }, { dst := some 74, op := .mv (.t 73) }, { dst := some 75, op := .mv (.t 11), guard := some (74, true) }, { dst := some 76, op := .mv (.t 13), guard := some (74, true) }, { dst := some 77, op := .bin .eql (.t 75) (.t 76), guard := some (74, true) }, { dst := some 78, op := .pick (.t 74) (.t 77) (.v (.c (.b false))) }, { dst := some 79, op := .mv (.t 78) }, { dst := some 80, op := .mv (.t 12), guard := some (79, true) }, { dst := some 81, op := .mv (.t 14), guard := some (79, true) }, { dst := some 82, op := .eqB false (.t 80) (.t 81), guard := some (79, true) }, { dst := some 83, op := .pick (.t 79) (.t 82) (.v (.c (.b false))) }, { dst := some 84, op := .mv (.t 83) }, { dst := some 85, op := .call 40 [], guard := some (84, true) }, { dst := some 86, op := .pick (.t 84) (.t 85) (.v (.c (.b false))) }, { dst := some 4, op := .mv (.t 86) }]
def escheatlaw03_NameSorts_c23 : ACode := .seq [4] escheatlaw03_NameSorts_c22 .ret
def escheatlaw03_NameSorts_c24 : ACode := .seq [5, 6, 11, 12, 13, 14] escheatlaw03_NameSorts_c21 escheatlaw03_NameSorts_c23
def escheatlaw03_NameSorts_c25 : ACode := .seq [1, 5, 6, 11, 12] escheatlaw03_NameSorts_c20 escheatlaw03_NameSorts_c24
def escheatlaw03_NameSorts_c26 : ACode := .seq [1, 5, 6] escheatlaw03_NameSorts_c19 escheatlaw03_NameSorts_c25
def escheatlaw03_NameSorts_c27 : ACode := .seq [0, 1, 5, 6, 7, 8, 9, 10] escheatlaw03_NameSorts_c14 escheatlaw03_NameSorts_c26
def escheatlaw03_NameSorts_c28 : ACode := .seq [0, 1, 5, 6, 7, 8] escheatlaw03_NameSorts_c13 escheatlaw03_NameSorts_c27
def escheatlaw03_NameSorts_c29 : ACode := .seq [0, 1, 5, 6, 7, 8] escheatlaw03_NameSorts_c8 escheatlaw03_NameSorts_c28
def escheatlaw03_NameSorts_c30 : ACode := .seq [0, 1, 5, 6] escheatlaw03_NameSorts_c7 escheatlaw03_NameSorts_c29
def escheatlaw03_NameSorts_c31 : ACode := .seq [0, 1, 5] escheatlaw03_NameSorts_c6 escheatlaw03_NameSorts_c30
def escheatlaw03_NameSorts_c32 : ACode := .seq [0, 1] escheatlaw03_NameSorts_c5 escheatlaw03_NameSorts_c31
def escheatlaw03_NameSorts_c33 : ACode := .seq [0, 1] escheatlaw03_NameSorts_c0 escheatlaw03_NameSorts_c32
def A_escheatlaw03_NameSorts : AFn := ⟨escheatlaw03_NameSorts_c33, [.tmp 4]⟩
noncomputable def E_escheatlaw03_NameSorts : Sums := fun f args h => bif Nat.beq f 73 then S_escheatref02_Long args h else bif Nat.beq f 40 then S_escheatlaw03_works args h else bif Nat.beq f 74 then S_escheatref03_Sort args h else bif Nat.beq f 75 then S_name_Sort args h else bif Nat.beq f 76 then S_name_Place args h else bif Nat.beq f 77 then S_escheatref03_Fewer args h else bif Nat.beq f 78 then S_escheatref03_Rise args h else bif Nat.beq f 79 then S_escheatref02_Texts args h else none
noncomputable def escheatlaw03_NameSorts_c0_d (n : Nat) : Sm (Val × Heap) := smOps E_escheatlaw03_NameSorts [{ dst := some 4, op := .mv (.v (.c (.b false))) }]
noncomputable def escheatlaw03_NameSorts_c1_d (n : Nat) : Sm (Val × Heap) := smOps E_escheatlaw03_NameSorts [{ dst := some 15, op := .mv (.t 0) }, { dst := some 16, op := .call 73 [(.t 15), (.v (.c (.i .i64 40))), (.v (.c (.i .i64 60)))] }, { dst := some 17, op := .mv (.t 16) }, { dst := some 18, op := .mv (.t 1), guard := some (17, false) }, { dst := some 19, op := .lenS (.t 18), guard := some (17, false) }, { dst := some 20, op := .bin .gtr (.t 19) (.v (.c (.i .i64 60))), guard := some (17, false) }, { dst := some 21, op := .pick (.t 17) (.v (.c (.b true))) (.t 20) }]
noncomputable def escheatlaw03_NameSorts_c2_d (n : Nat) : Sm (Val × Heap) := smOps E_escheatlaw03_NameSorts [{ dst := some 22, op := .call 40 [] }, { dst := some 4, op := .mv (.t 22) }]
noncomputable def escheatlaw03_NameSorts_c3_d (n : Nat) : Sm (Val × Heap) := smSeq [4] (escheatlaw03_NameSorts_c2_d n) smRet
noncomputable def escheatlaw03_NameSorts_c4_d (n : Nat) : Sm (Val × Heap) := smCond (.t 21) (escheatlaw03_NameSorts_c3_d n) smSkip
noncomputable def escheatlaw03_NameSorts_c5_d (n : Nat) : Sm (Val × Heap) := smSeq [0, 1, 21] (escheatlaw03_NameSorts_c1_d n) (escheatlaw03_NameSorts_c4_d n)
noncomputable def escheatlaw03_NameSorts_c6_d (n : Nat) : Sm (Val × Heap) := smOps E_escheatlaw03_NameSorts [{ dst := some 23, op := .mv (.t 0) }, { dst := some 24, op := .call 74 [(.t 23)] }, { dst := some 5, op := .mv (.t 24) }]
noncomputable def escheatlaw03_NameSorts_c7_d (n : Nat) : Sm (Val × Heap) := smOps E_escheatlaw03_NameSorts [{ dst := some 25, op := .mv (.t 0) }, { dst := some 26, op := .call 75 [(.t 25)] }, { dst := some 6, op := .mv (.t 26) }]
noncomputable def escheatlaw03_NameSorts_c8_d (n : Nat) : Sm (Val × Heap) := smOps E_escheatlaw03_NameSorts [{ dst := some 28, op := .mv (.t 0) }, { dst := some 29, op := .mv (.t 1) }, { dst := some 30, op := .call 76 [(.t 28), (.t 29)] }, { dst := some 27, op := .mv (.t 30) }, { dst := some 31, op := .ext (.t 27) 0 }, { dst := some 32, op := .ext (.t 27) 1 }, { dst := some 7, op := .mv (.t 31) }, { dst := some 8, op := .mv (.t 32) }]
noncomputable def escheatlaw03_NameSorts_c9_d (n : Nat) : Sm (Val × Heap) := smOps E_escheatlaw03_NameSorts [{ dst := some 33, op := .mv (.t 7) }, { dst := some 34, op := .bin .lss (.t 33) (.v (.c (.i .i64 0))) }, { dst := some 35, op := .mv (.t 34) }, { dst := some 36, op := .mv (.t 7), guard := some (35, false) }, { dst := some 37, op := .mv (.t 0), guard := some (35, false) }, { dst := some 38, op := .len (.t 37), guard := some (35, false) }, { dst := some 39, op := .bin .gtr (.t 36) (.t 38), guard := some (35, false) }, { dst := some 40, op := .pick (.t 35) (.v (.c (.b true))) (.t 39) }]
noncomputable def escheatlaw03_NameSorts_c10_d (n : Nat) : Sm (Val × Heap) := smOps E_escheatlaw03_NameSorts [{ dst := some 4, op := .mv (.v (.c (.b false))) }]
noncomputable def escheatlaw03_NameSorts_c11_d (n : Nat) : Sm (Val × Heap) := smSeq [4] (escheatlaw03_NameSorts_c10_d n) smRet
noncomputable def escheatlaw03_NameSorts_c12_d (n : Nat) : Sm (Val × Heap) := smCond (.t 40) (escheatlaw03_NameSorts_c11_d n) smSkip
noncomputable def escheatlaw03_NameSorts_c13_d (n : Nat) : Sm (Val × Heap) := smSeq [0, 1, 5, 6, 7, 8, 40] (escheatlaw03_NameSorts_c9_d n) (escheatlaw03_NameSorts_c12_d n)
noncomputable def escheatlaw03_NameSorts_c14_d (n : Nat) : Sm (Val × Heap) := smOps E_escheatlaw03_NameSorts [{ dst := some 42, op := .mv (.t 0) }, { dst := some 43, op := .mv (.t 1) }, { dst := some 44, op := .call 77 [(.t 42), (.t 43)] }, { dst := some 41, op := .mv (.t 44) }, { dst := some 45, op := .ext (.t 41) 0 }, { dst := some 46, op := .ext (.t 41) 1 }, { dst := some 9, op := .mv (.t 45) }, { dst := some 10, op := .mv (.t 46) }]
noncomputable def escheatlaw03_NameSorts_c15_d (n : Nat) : Sm (Val × Heap) := smOps E_escheatlaw03_NameSorts [{ dst := some 47, op := .mv (.t 0) }, { dst := some 48, op := .call 78 [(.t 47)] }, { dst := some 49, op := .mv (.t 48) }, { dst := some 50, op := .mv (.t 7), guard := some (49, true) }, { dst := some 51, op := .mv (.t 9), guard := some (49, true) }, { dst := some 52, op := .bin .neq (.t 50) (.t 51), guard := some (49, true) }, { dst := some 53, op := .mv (.t 52), guard := some (49, true) }, { dst := some 54, op := .mv (.t 8), guard := some (53, false) }, { dst := some 55, op := .mv (.t 10), guard := some (53, false) }, { dst := some 56, op := .eqB true (.t 54) (.t 55), guard := some (53, false) }, { dst := some 57, op := .pick (.t 53) (.v (.c (.b true))) (.t 56), guard := some (49, true) }, { dst := some 58, op := .pick (.t 49) (.t 57) (.v (.c (.b false))) }]
noncomputable def escheatlaw03_NameSorts_c16_d (n : Nat) : Sm (Val × Heap) := smOps E_escheatlaw03_NameSorts [{ dst := some 4, op := .mv (.v (.c (.b false))) }]
noncomputable def escheatlaw03_NameSorts_c17_d (n : Nat) : Sm (Val × Heap) := smSeq [4] (escheatlaw03_NameSorts_c16_d n) smRet
noncomputable def escheatlaw03_NameSorts_c18_d (n : Nat) : Sm (Val × Heap) := smCond (.t 58) (escheatlaw03_NameSorts_c17_d n) smSkip
noncomputable def escheatlaw03_NameSorts_c19_d (n : Nat) : Sm (Val × Heap) := smSeq [1, 5, 6, 58] (escheatlaw03_NameSorts_c15_d n) (escheatlaw03_NameSorts_c18_d n)
noncomputable def escheatlaw03_NameSorts_c20_d (n : Nat) : Sm (Val × Heap) := smOps E_escheatlaw03_NameSorts [{ dst := some 60, op := .mv (.t 5) }, { dst := some 61, op := .mv (.t 1) }, { dst := some 62, op := .call 76 [(.t 60), (.t 61)] }, { dst := some 59, op := .mv (.t 62) }, { dst := some 63, op := .ext (.t 59) 0 }, { dst := some 64, op := .ext (.t 59) 1 }, { dst := some 11, op := .mv (.t 63) }, { dst := some 12, op := .mv (.t 64) }]
noncomputable def escheatlaw03_NameSorts_c21_d (n : Nat) : Sm (Val × Heap) := smOps E_escheatlaw03_NameSorts [{ dst := some 66, op := .mv (.t 5) }, { dst := some 67, op := .mv (.t 1) }, { dst := some 68, op := .call 77 [(.t 66), (.t 67)] }, { dst := some 65, op := .mv (.t 68) }, { dst := some 69, op := .ext (.t 65) 0 }, { dst := some 70, op := .ext (.t 65) 1 }, { dst := some 13, op := .mv (.t 69) }, { dst := some 14, op := .mv (.t 70) }]
noncomputable def escheatlaw03_NameSorts_c22_d (n : Nat) : Sm (Val × Heap) := smOps E_escheatlaw03_NameSorts [{ dst := some 71, op := .mv (.t 6) }, { dst := some 72, op := .mv (.t 5) }, { dst := some 73, op := .call 79 [(.t 71), (.t 72)] }, { dst := some 74, op := .mv (.t 73) }, { dst := some 75, op := .mv (.t 11), guard := some (74, true) }, { dst := some 76, op := .mv (.t 13), guard := some (74, true) }, { dst := some 77, op := .bin .eql (.t 75) (.t 76), guard := some (74, true) }, { dst := some 78, op := .pick (.t 74) (.t 77) (.v (.c (.b false))) }, { dst := some 79, op := .mv (.t 78) }, { dst := some 80, op := .mv (.t 12), guard := some (79, true) }, { dst := some 81, op := .mv (.t 14), guard := some (79, true) }, { dst := some 82, op := .eqB false (.t 80) (.t 81), guard := some (79, true) }, { dst := some 83, op := .pick (.t 79) (.t 82) (.v (.c (.b false))) }, { dst := some 84, op := .mv (.t 83) }, { dst := some 85, op := .call 40 [], guard := some (84, true) }, { dst := some 86, op := .pick (.t 84) (.t 85) (.v (.c (.b false))) }, { dst := some 4, op := .mv (.t 86) }]
noncomputable def escheatlaw03_NameSorts_c23_d (n : Nat) : Sm (Val × Heap) := smSeq [4] (escheatlaw03_NameSorts_c22_d n) smRet
noncomputable def escheatlaw03_NameSorts_c24_d (n : Nat) : Sm (Val × Heap) := smSeq [5, 6, 11, 12, 13, 14] (escheatlaw03_NameSorts_c21_d n) (escheatlaw03_NameSorts_c23_d n)
noncomputable def escheatlaw03_NameSorts_c25_d (n : Nat) : Sm (Val × Heap) := smSeq [1, 5, 6, 11, 12] (escheatlaw03_NameSorts_c20_d n) (escheatlaw03_NameSorts_c24_d n)
noncomputable def escheatlaw03_NameSorts_c26_d (n : Nat) : Sm (Val × Heap) := smSeq [1, 5, 6] (escheatlaw03_NameSorts_c19_d n) (escheatlaw03_NameSorts_c25_d n)
noncomputable def escheatlaw03_NameSorts_c27_d (n : Nat) : Sm (Val × Heap) := smSeq [0, 1, 5, 6, 7, 8, 9, 10] (escheatlaw03_NameSorts_c14_d n) (escheatlaw03_NameSorts_c26_d n)
noncomputable def escheatlaw03_NameSorts_c28_d (n : Nat) : Sm (Val × Heap) := smSeq [0, 1, 5, 6, 7, 8] (escheatlaw03_NameSorts_c13_d n) (escheatlaw03_NameSorts_c27_d n)
noncomputable def escheatlaw03_NameSorts_c29_d (n : Nat) : Sm (Val × Heap) := smSeq [0, 1, 5, 6, 7, 8] (escheatlaw03_NameSorts_c8_d n) (escheatlaw03_NameSorts_c28_d n)
noncomputable def escheatlaw03_NameSorts_c30_d (n : Nat) : Sm (Val × Heap) := smSeq [0, 1, 5, 6] (escheatlaw03_NameSorts_c7_d n) (escheatlaw03_NameSorts_c29_d n)
noncomputable def escheatlaw03_NameSorts_c31_d (n : Nat) : Sm (Val × Heap) := smSeq [0, 1, 5] (escheatlaw03_NameSorts_c6_d n) (escheatlaw03_NameSorts_c30_d n)
noncomputable def escheatlaw03_NameSorts_c32_d (n : Nat) : Sm (Val × Heap) := smSeq [0, 1] (escheatlaw03_NameSorts_c5_d n) (escheatlaw03_NameSorts_c31_d n)
noncomputable def escheatlaw03_NameSorts_c33_d (n : Nat) : Sm (Val × Heap) := smSeq [0, 1] (escheatlaw03_NameSorts_c0_d n) (escheatlaw03_NameSorts_c32_d n)
noncomputable def R_escheatlaw03_NameSorts (n : Nat) (args : List Val) (h : Heap) : Option (Val × Heap) := (escheatlaw03_NameSorts_c33_d n) A_escheatlaw03_NameSorts.fin (params 0 args) h
theorem R_escheatlaw03_NameSorts_run (n : Nat) (args : List Val) (h : Heap) : A_escheatlaw03_NameSorts.run E_escheatlaw03_NameSorts n args h = R_escheatlaw03_NameSorts n args h := by kernel_rfl
theorem R_escheatlaw03_NameSorts_eq (n : Nat) (a0 a1 : Val) (h : Heap) : R_escheatlaw03_NameSorts n [a0, a1] h = bnd (S_escheatref02_Long [a0, .c (.i .i64 40), .c (.i .i64 60)] h) fun p1 => bnd (gd p1.1 false (some (a1, p1.2)) (some (.no, p1.2))) fun p2 => bnd (gd p1.1 false (bnd (alenS p2.1) fun v3 => some (v3, p2.2)) (some (.no, p2.2))) fun p4 => bnd (gd p1.1 false (bnd (abin .gtr p4.1 (.c (.i .i64 60))) fun v5 => some (v5, p4.2)) (some (.no, p4.2))) fun p6 => bnd (apick p1.1 (.c (.b true)) p6.1) fun v7 => cnd v7 (bnd (S_escheatlaw03_works [] p6.2) fun p8 => some (p8.1, p8.2)) (bnd (S_escheatref03_Sort [a0] p6.2) fun p9 => bnd (S_name_Sort [a0] p9.2) fun p10 => bnd (S_name_Place [a0, a1] p10.2) fun p11 => bnd (aext p11.1 0) fun v12 => bnd (aext p11.1 1) fun v13 => bnd (abin .lss v12 (.c (.i .i64 0))) fun v14 => bnd (gd v14 false (some (v12, p11.2)) (some (.no, p11.2))) fun p15 => bnd (gd v14 false (some (a0, p15.2)) (some (.no, p15.2))) fun p16 => bnd (gd v14 false (bnd (alen p16.1) fun v17 => some (v17, p16.2)) (some (.no, p16.2))) fun p18 => bnd (gd v14 false (bnd (abin .gtr p15.1 p18.1) fun v19 => some (v19, p18.2)) (some (.no, p18.2))) fun p20 => bnd (apick v14 (.c (.b true)) p20.1) fun v21 => cnd v21 (some ((.c (.b false)), p20.2)) (bnd (S_escheatref03_Fewer [a0, a1] p20.2) fun p22 => bnd (aext p22.1 0) fun v23 => bnd (aext p22.1 1) fun v24 => bnd (S_escheatref03_Rise [a0] p22.2) fun p25 => bnd (gd p25.1 true (some (v12, p25.2)) (some (.no, p25.2))) fun p26 => bnd (gd p25.1 true (some (v23, p26.2)) (some (.no, p26.2))) fun p27 => bnd (gd p25.1 true (bnd (abin .neq p26.1 p27.1) fun v28 => some (v28, p27.2)) (some (.no, p27.2))) fun p29 => bnd (gd p25.1 true (some (p29.1, p29.2)) (some (.no, p29.2))) fun p30 => bnd (gd p30.1 false (some (v13, p30.2)) (some (.no, p30.2))) fun p31 => bnd (gd p30.1 false (some (v24, p31.2)) (some (.no, p31.2))) fun p32 => bnd (gd p30.1 false (bnd (aeqB true p31.1 p32.1) fun v33 => some (v33, p32.2)) (some (.no, p32.2))) fun p34 => bnd (gd p25.1 true (bnd (apick p30.1 (.c (.b true)) p34.1) fun v35 => some (v35, p34.2)) (some (.no, p34.2))) fun p36 => bnd (apick p25.1 p36.1 (.c (.b false))) fun v37 => cnd v37 (some ((.c (.b false)), p36.2)) (bnd (S_name_Place [p9.1, a1] p36.2) fun p38 => bnd (aext p38.1 0) fun v39 => bnd (aext p38.1 1) fun v40 => bnd (S_escheatref03_Fewer [p9.1, a1] p38.2) fun p41 => bnd (aext p41.1 0) fun v42 => bnd (aext p41.1 1) fun v43 => bnd (S_escheatref02_Texts [p10.1, p9.1] p41.2) fun p44 => bnd (gd p44.1 true (some (v39, p44.2)) (some (.no, p44.2))) fun p45 => bnd (gd p44.1 true (some (v42, p45.2)) (some (.no, p45.2))) fun p46 => bnd (gd p44.1 true (bnd (abin .eql p45.1 p46.1) fun v47 => some (v47, p46.2)) (some (.no, p46.2))) fun p48 => bnd (apick p44.1 p48.1 (.c (.b false))) fun v49 => bnd (gd v49 true (some (v40, p48.2)) (some (.no, p48.2))) fun p50 => bnd (gd v49 true (some (v43, p50.2)) (some (.no, p50.2))) fun p51 => bnd (gd v49 true (bnd (aeqB false p50.1 p51.1) fun v52 => some (v52, p51.2)) (some (.no, p51.2))) fun p53 => bnd (apick v49 p53.1 (.c (.b false))) fun v54 => bnd (gd v54 true (bnd (S_escheatlaw03_works [] p53.2) fun p55 => some (p55.1, p55.2)) (some (.no, p53.2))) fun p56 => bnd (apick v54 p56.1 (.c (.b false))) fun v57 => some (v57, p56.2)))) := by kernel_rfl
theorem chk_escheatlaw03_NameSorts : chkFn Try.prog Try.f11 A_escheatlaw03_NameSorts = true := by kernel_rfl
theorem E_escheatlaw03_NameSorts_sound : Sound Try.prog E_escheatlaw03_NameSorts := by
  intro f args h v h2 he
  unfold E_escheatlaw03_NameSorts at he
  cases hb0 : Nat.beq f 73 with
  | true => rw [hb0] at he; have e := Nat.eq_of_beq_eq_true hb0; subst e; exact S_escheatref02_Long_ok args h v h2 he
  | false =>
    rw [hb0] at he; simp only [cond_false] at he
    cases hb1 : Nat.beq f 40 with
    | true => rw [hb1] at he; have e := Nat.eq_of_beq_eq_true hb1; subst e; exact S_escheatlaw03_works_ok args h v h2 he
    | false =>
      rw [hb1] at he; simp only [cond_false] at he
      cases hb2 : Nat.beq f 74 with
      | true => rw [hb2] at he; have e := Nat.eq_of_beq_eq_true hb2; subst e; exact S_escheatref03_Sort_ok args h v h2 he
      | false =>
        rw [hb2] at he; simp only [cond_false] at he
        cases hb3 : Nat.beq f 75 with
        | true => rw [hb3] at he; have e := Nat.eq_of_beq_eq_true hb3; subst e; exact S_name_Sort_ok args h v h2 he
        | false =>
          rw [hb3] at he; simp only [cond_false] at he
          cases hb4 : Nat.beq f 76 with
          | true => rw [hb4] at he; have e := Nat.eq_of_beq_eq_true hb4; subst e; exact S_name_Place_ok args h v h2 he
          | false =>
            rw [hb4] at he; simp only [cond_false] at he
            cases hb5 : Nat.beq f 77 with
            | true => rw [hb5] at he; have e := Nat.eq_of_beq_eq_true hb5; subst e; exact S_escheatref03_Fewer_ok args h v h2 he
            | false =>
              rw [hb5] at he; simp only [cond_false] at he
              cases hb6 : Nat.beq f 78 with
              | true => rw [hb6] at he; have e := Nat.eq_of_beq_eq_true hb6; subst e; exact S_escheatref03_Rise_ok args h v h2 he
              | false =>
                rw [hb6] at he; simp only [cond_false] at he
                cases hb7 : Nat.beq f 79 with
                | true => rw [hb7] at he; have e := Nat.eq_of_beq_eq_true hb7; subst e; exact S_escheatref02_Texts_ok args h v h2 he
                | false =>
                  rw [hb7] at he; simp only [cond_false] at he
                  cases he

theorem R_escheatlaw03_NameSorts_ok {n : Nat} {args : List Val} {h h2 : Heap} {v : Val} (he : R_escheatlaw03_NameSorts n args h = some (v, h2)) : Callable Try.prog 11 ∧ CallOk Try.prog 11 args h v h2 ∧ h.length ≤ h2.length := fn_ok E_escheatlaw03_NameSorts_sound Try.func11 chk_escheatlaw03_NameSorts ((R_escheatlaw03_NameSorts_run ..).trans he)
theorem L_escheatlaw03_NameSorts_ok (args : List Val) (h : Heap) (v : Val) (h2 : Heap) (he : Lim A_escheatlaw03_NameSorts E_escheatlaw03_NameSorts args h = some (v, h2)) : Callable Try.prog 11 ∧ CallOk Try.prog 11 args h v h2 ∧ h.length ≤ h2.length := (Lim_run he).elim fun _ e => R_escheatlaw03_NameSorts_ok ((R_escheatlaw03_NameSorts_run ..).symm.trans e)
theorem L_escheatlaw03_NameSorts_of {n : Nat} {args : List Val} {h : Heap} {p : Val × Heap} (he : R_escheatlaw03_NameSorts n args h = some p) : Lim A_escheatlaw03_NameSorts E_escheatlaw03_NameSorts args h = some p := Lim_of ((R_escheatlaw03_NameSorts_run ..).trans he)
noncomputable def S_escheatlaw03_NameSorts : List Val → Heap → Option (Val × Heap) := tidy (Lim A_escheatlaw03_NameSorts E_escheatlaw03_NameSorts)
theorem S_escheatlaw03_NameSorts_ok (args : List Val) (h : Heap) (v : Val) (h2 : Heap) (he : S_escheatlaw03_NameSorts args h = some (v, h2)) : Callable Try.prog 11 ∧ CallOk Try.prog 11 args h v h2 ∧ h.length ≤ h2.length := tidy_ok L_escheatlaw03_NameSorts_ok args h v h2 he
theorem S_escheatlaw03_NameSorts_flat {n : Nat} {args : List Val} {h h2 : Heap} {v : Val} (he : R_escheatlaw03_NameSorts n args (ro h) = some (v, h2)) (hf : v.flat = true) : S_escheatlaw03_NameSorts args h = some (v, h) := tidy_flat (L_escheatlaw03_NameSorts_of he) hf
theorem S_escheatlaw03_NameSorts_low {n : Nat} {args : List Val} {h h2 : Heap} {v : Val} (he : R_escheatlaw03_NameSorts n args (ro h) = some (v, h2)) (hf : v.low h.length = true) : S_escheatlaw03_NameSorts args h = some (v, h) := tidy_low (L_escheatlaw03_NameSorts_of he) hf
theorem S_escheatlaw03_NameSorts_out {n : Nat} {args : List Val} {h h2 : Heap} {v : Val} {sz k : Nat} {cs : List Cell} (he : R_escheatlaw03_NameSorts n args (ro h) = some (v, h2)) (ho : Out h.length h2 v sz k cs) (hf : flats cs = true) : S_escheatlaw03_NameSorts args h = some (.c (.sl h.length 0 k sz), h ++ [some ⟨cs, true⟩]) := tidy_out (L_escheatlaw03_NameSorts_of he) ho hf
theorem S_escheatlaw03_NameSorts_tidy {n : Nat} {args : List Val} {h h2 : Heap} {v v2 : Val} {ids : List Nat} (he : R_escheatlaw03_NameSorts n args (ro h) = some (v, h2)) (hc : canonV h2 h.length v = some (v2, ids)) : S_escheatlaw03_NameSorts args h = some (v2, h ++ ids.map (rd h2)) := tidy_of (L_escheatlaw03_NameSorts_of he) hc
end Go.Proofs.Ytbbkpmbepljhkaa
