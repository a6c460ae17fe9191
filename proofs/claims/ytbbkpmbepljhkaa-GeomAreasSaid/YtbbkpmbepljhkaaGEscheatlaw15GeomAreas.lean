/- Escheatlaw15GeomAreas: the Go functions of this package as the abstract evaluator computes them: printed by a program, checked by Lean. -/
import Derived.Test.YtbbkpmbepljhkaaEscS
import Derived.Test.YtbbkpmbepljhkaaChecked
import Derived.KernelRfl
import Derived.Test.YtbbkpmbepljhkaaGEscheatlaw15
import Derived.Test.YtbbkpmbepljhkaaGEscheatref15
import Derived.Test.YtbbkpmbepljhkaaGGeom
namespace Go.Proofs.Ytbbkpmbepljhkaa
open Go Go.Esc
set_option maxRecDepth 100000
set_option linter.all false
def escheatlaw15_GeomAreas_c0 : ACode := .ops [{ dst := some 2, op := .box (.t 0) }, { dst := some 4, op := .mv (.v (.c (.b false))) }]
def escheatlaw15_GeomAreas_c1 : ACode := .ops [{ dst := some 14, op := .loadN 3 (.t 2) }, { dst := some 15, op := .call 67 [(.t 14), (.v (.c (.i .i64 3)))] }, { dst := some 13, op := .mv (.t 15) }, { dst := some 16, op := .ext (.t 13) 0 }, { dst := some 17, op := .ext (.t 13) 1 }, { dst := some 5, op := .mv (.t 16) }, { dst := some 6, op := .mv (.t 17) }]
def escheatlaw15_GeomAreas_c2 : ACode := .ops [{ dst := some 19, op := .loadN 3 (.t 2) }, { dst := some 20, op := .call 67 [(.t 19), (.v (.c (.i .i64 4)))] }, { dst := some 18, op := .mv (.t 20) }, { dst := some 21, op := .ext (.t 18) 0 }, { dst := some 22, op := .ext (.t 18) 1 }, { dst := some 7, op := .mv (.t 21) }, { dst := some 8, op := .mv (.t 22) }]
def escheatlaw15_GeomAreas_c3 : ACode := .ops [{ dst := some 24, op := .loadN 3 (.t 2) }, { dst := some 25, op := .call 68 [(.t 24)] }, { dst := some 23, op := .mv (.t 25) }, { dst := some 26, op := .ext (.t 23) 0 }, { dst := some 27, op := .ext (.t 23) 1 }, { dst := some 9, op := .mv (.t 26) }, { dst := some 10, op := .mv (.t 27) }]
def escheatlaw15_GeomAreas_c4 : ACode := .ops [{ dst := some 28, op := .loadN 3 (.t 2) }, { dst := some 29, op := .call 69 [(.t 28)] }, { dst := some 11, op := .mv (.t 29) }]
def escheatlaw15_GeomAreas_c5 : ACode := .ops [{ dst := some 30, op := .mv (.t 9) }, { dst := some 31, op := .mv (.t 6) }, { dst := some 32, op := .bin .neq (.t 30) (.t 31) }, { dst := some 33, op := .mv (.t 32) }, { dst := some 34, op := .mv (.t 10), guard := some (33, false) }, { dst := some 35, op := .mv (.t 5), guard := some (33, false) }, { dst := some 36, op := .bin .neq (.t 34) (.t 35), guard := some (33, false) }, { dst := some 37, op := .pick (.t 33) (.v (.c (.b true))) (.t 36) }, { dst := some 38, op := .mv (.t 37) }, { dst := some 39, op := .loadN 3 (.t 2), guard := some (38, false) }, { dst := some 40, op := .call 70 [(.t 39)], guard := some (38, false) }, { dst := some 41, op := .mv (.t 8), guard := some (38, false) }, { dst := some 42, op := .bin .neq (.t 40) (.t 41), guard := some (38, false) }, { dst := some 43, op := .pick (.t 38) (.v (.c (.b true))) (.t 42) }, { dst := some 44, op := .mv (.t 43) }, { dst := some 45, op := .loadN 3 (.t 2), guard := some (44, false) }, { dst := some 46, op := .call 71 [(.t 45)], guard := some (44, false) }, { dst := some 47, op := .mv (.t 7), guard := some (44, false) }, { dst := some 48, op := .bin .neq (.t 46) (.t 47), guard := some (44, false) }, { dst := some 49, op := .pick (.t 44) (.v (.c (.b true))) (.t 48) }, { dst := some 50, op := .mv (.t 49) }, { dst := some 51, op := .mv (.t 11), guard := some (50, false) }, { dst := some 52, op := .len (.t 51), guard := some (50, false) }, { dst := some 53, op := .mv (.t 8), guard := some (50, false) }, { dst := some 54, op := .bin .neq (.t 52) (.t 53), guard := some (50, false) }, { dst := some 55, op := .pick (.t 50) (.v (.c (.b true))) (.t 54) }]
def escheatlaw15_GeomAreas_c6 : ACode := .ops [{ dst := some 4, op := .mv (.v (.c (.b false))) }]
def escheatlaw15_GeomAreas_c7 : ACode := .seq [4] escheatlaw15_GeomAreas_c6 .ret
def escheatlaw15_GeomAreas_c8 : ACode := .cond (.t 55) escheatlaw15_GeomAreas_c7 .skip
def escheatlaw15_GeomAreas_c9 : ACode := .seq [1, 2, 11, 55] escheatlaw15_GeomAreas_c5 escheatlaw15_GeomAreas_c8
def escheatlaw15_GeomAreas_c10 : ACode := .ops [{ dst := some 12, op := .mv (.v (.c (.i .i64 0))) }]
def escheatlaw15_GeomAreas_c11 : ACode := .ops [{ dst := some 56, op := .mv (.t 12) }, { dst := some 57, op := .mv (.t 11) }, { dst := some 58, op := .len (.t 57) }, { dst := some 59, op := .bin .lss (.t 56) (.t 58) }]
def escheatlaw15_GeomAreas_c12 : ACode := .cond (.t 59) .skip (.exit 0)
def escheatlaw15_GeomAreas_c13 : ACode := .seq [1, 2, 11, 12, 59] escheatlaw15_GeomAreas_c11 escheatlaw15_GeomAreas_c12
def escheatlaw15_GeomAreas_c14 : ACode := .ops [{ dst := some 62, op := .mv (.t 11) }, { dst := some 63, op := .mv (.t 12) }, { dst := some 64, op := .iAddrL 1 (.t 62) (.t 63) }, { dst := some 65, op := .load1 (.t 64) }, { dst := some 66, op := .mv (.t 12) }, { dst := some 67, op := .bin .neq (.t 65) (.t 66) }]
def escheatlaw15_GeomAreas_c15 : ACode := .ops [{ dst := some 4, op := .mv (.v (.c (.b false))) }]
def escheatlaw15_GeomAreas_c16 : ACode := .seq [4] escheatlaw15_GeomAreas_c15 .ret
def escheatlaw15_GeomAreas_c17 : ACode := .cond (.t 67) escheatlaw15_GeomAreas_c16 .skip
def escheatlaw15_GeomAreas_c18 : ACode := .seq [1, 2, 11, 12, 67] escheatlaw15_GeomAreas_c14 escheatlaw15_GeomAreas_c17
def escheatlaw15_GeomAreas_c19 : ACode := .block 1 escheatlaw15_GeomAreas_c18
def escheatlaw15_GeomAreas_c20 : ACode := .ops [{ dst := some 60, op := .mv (.t 12) }, { dst := some 61, op := .bin .add (.t 60) (.v (.c (.i .i64 1))) }, { dst := some 12, op := .mv (.t 61) }]
def escheatlaw15_GeomAreas_c21 : ACode := .seq [1, 2, 11, 12] escheatlaw15_GeomAreas_c19 escheatlaw15_GeomAreas_c20
def escheatlaw15_GeomAreas_c22 : ACode := .seq [1, 2, 11, 12] escheatlaw15_GeomAreas_c13 escheatlaw15_GeomAreas_c21
def escheatlaw15_GeomAreas_c23 : ACode := .loop [1, 2, 11, 12] escheatlaw15_GeomAreas_c22
def escheatlaw15_GeomAreas_c24 : ACode := .block 0 escheatlaw15_GeomAreas_c23
def escheatlaw15_GeomAreas_c25 : ACode := .seq [1, 2, 11, 12] escheatlaw15_GeomAreas_c10 escheatlaw15_GeomAreas_c24
def escheatlaw15_GeomAreas_c26 : ACode := .draw 0 [{ dst := some 68, op := .loadN 3 (.t 2) }, { dst := some 69, op := .mv (.t 1) }, { dst := some 70, op := .call 72 [(.t 68), (.t 69)] }, { dst := some 71, op := .loadN 3 (.t 2) }, { dst := some 72, op := .mv (.t 1) }] [{ dst := some 73, op := .call 56 [(.t 71), (.t 72)] }, { dst := some 74, op := .bin .eql (.t 73) (.v (.c (.i .i64 4))) }, { dst := some 75, op := .eqB false (.t 70) (.t 74) }, { dst := some 76, op := .mv (.t 75) }, { dst := some 77, op := .call 57 [], guard := some (76, true) }, { dst := some 78, op := .pick (.t 76) (.t 77) (.v (.c (.b false))) }, { dst := some 4, op := .mv (.t 78) }]
def escheatlaw15_GeomAreas_c27 : ACode := .seq [4] escheatlaw15_GeomAreas_c26 .ret
def escheatlaw15_GeomAreas_c28 : ACode := .seq [1, 2] escheatlaw15_GeomAreas_c25 escheatlaw15_GeomAreas_c27
def escheatlaw15_GeomAreas_c29 : ACode := .seq [1, 2, 11] escheatlaw15_GeomAreas_c9 escheatlaw15_GeomAreas_c28
def escheatlaw15_GeomAreas_c30 : ACode := .seq [1, 2, 5, 6, 7, 8, 9, 10, 11] escheatlaw15_GeomAreas_c4 escheatlaw15_GeomAreas_c29
def escheatlaw15_GeomAreas_c31 : ACode := .seq [1, 2, 5, 6, 7, 8, 9, 10] escheatlaw15_GeomAreas_c3 escheatlaw15_GeomAreas_c30
def escheatlaw15_GeomAreas_c32 : ACode := .seq [1, 2, 5, 6, 7, 8] escheatlaw15_GeomAreas_c2 escheatlaw15_GeomAreas_c31
def escheatlaw15_GeomAreas_c33 : ACode := .seq [1, 2, 5, 6] escheatlaw15_GeomAreas_c1 escheatlaw15_GeomAreas_c32
def escheatlaw15_GeomAreas_c34 : ACode := .seq [1, 2] escheatlaw15_GeomAreas_c0 escheatlaw15_GeomAreas_c33
def A_escheatlaw15_GeomAreas : AFn := ⟨escheatlaw15_GeomAreas_c34, [.tmp 4]⟩
noncomputable def E_escheatlaw15_GeomAreas : Sums := fun f args h => bif Nat.beq f 67 then S_escheatref15_Count args h else bif Nat.beq f 68 then S_geom_Table args h else bif Nat.beq f 69 then S_geom_Own args h else bif Nat.beq f 70 then S_geom_Data args h else bif Nat.beq f 71 then S_geom_Many args h else bif Nat.beq f 72 then S_geom_IsData args h else bif Nat.beq f 56 then S_escheatref15_Area args h else bif Nat.beq f 57 then S_escheatlaw15_works args h else none
noncomputable def escheatlaw15_GeomAreas_c0_d (n : Nat) : Sm (Val × Heap) := smOps E_escheatlaw15_GeomAreas [{ dst := some 2, op := .box (.t 0) }, { dst := some 4, op := .mv (.v (.c (.b false))) }]
noncomputable def escheatlaw15_GeomAreas_c1_d (n : Nat) : Sm (Val × Heap) := smOps E_escheatlaw15_GeomAreas [{ dst := some 14, op := .loadN 3 (.t 2) }, { dst := some 15, op := .call 67 [(.t 14), (.v (.c (.i .i64 3)))] }, { dst := some 13, op := .mv (.t 15) }, { dst := some 16, op := .ext (.t 13) 0 }, { dst := some 17, op := .ext (.t 13) 1 }, { dst := some 5, op := .mv (.t 16) }, { dst := some 6, op := .mv (.t 17) }]
noncomputable def escheatlaw15_GeomAreas_c2_d (n : Nat) : Sm (Val × Heap) := smOps E_escheatlaw15_GeomAreas [{ dst := some 19, op := .loadN 3 (.t 2) }, { dst := some 20, op := .call 67 [(.t 19), (.v (.c (.i .i64 4)))] }, { dst := some 18, op := .mv (.t 20) }, { dst := some 21, op := .ext (.t 18) 0 }, { dst := some 22, op := .ext (.t 18) 1 }, { dst := some 7, op := .mv (.t 21) }, { dst := some 8, op := .mv (.t 22) }]
noncomputable def escheatlaw15_GeomAreas_c3_d (n : Nat) : Sm (Val × Heap) := smOps E_escheatlaw15_GeomAreas [{ dst := some 24, op := .loadN 3 (.t 2) }, { dst := some 25, op := .call 68 [(.t 24)] }, { dst := some 23, op := .mv (.t 25) }, { dst := some 26, op := .ext (.t 23) 0 }, { dst := some 27, op := .ext (.t 23) 1 }, { dst := some 9, op := .mv (.t 26) }, { dst := some 10, op := .mv (.t 27) }]
noncomputable def escheatlaw15_GeomAreas_c4_d (n : Nat) : Sm (Val × Heap) := smOps E_escheatlaw15_GeomAreas [{ dst := some 28, op := .loadN 3 (.t 2) }, { dst := some 29, op := .call 69 [(.t 28)] }, { dst := some 11, op := .mv (.t 29) }]
noncomputable def escheatlaw15_GeomAreas_c5_d (n : Nat) : Sm (Val × Heap) := smOps E_escheatlaw15_GeomAreas [{ dst := some 30, op := .mv (.t 9) }, { dst := some 31, op := .mv (.t 6) }, { dst := some 32, op := .bin .neq (.t 30) (.t 31) }, { dst := some 33, op := .mv (.t 32) }, { dst := some 34, op := .mv (.t 10), guard := some (33, false) }, { dst := some 35, op := .mv (.t 5), guard := some (33, false) }, { dst := some 36, op := .bin .neq (.t 34) (.t 35), guard := some (33, false) }, { dst := some 37, op := .pick (.t 33) (.v (.c (.b true))) (.t 36) }, { dst := some 38, op := .mv (.t 37) }, { dst := some 39, op := .loadN 3 (.t 2), guard := some (38, false) }, { dst := some 40, op := .call 70 [(.t 39)], guard := some (38, false) }, { dst := some 41, op := .mv (.t 8), guard := some (38, false) }, { dst := some 42, op := .bin .neq (.t 40) (.t 41), guard := some (38, false) }, { dst := some 43, op := .pick (.t 38) (.v (.c (.b true))) (.t 42) }, { dst := some 44, op := .mv (.t 43) }, { dst := some 45, op := .loadN 3 (.t 2), guard := some (44, false) }, { dst := some 46, op := .call 71 [(.t 45)], guard := some (44, false) }, { dst := some 47, op := .mv (.t 7), guard := some (44, false) }, { dst := some 48, op := .bin .neq (.t 46) (.t 47), guard := some (44, false) }, { dst := some 49, op := .pick (.t 44) (.v (.c (.b true))) (.t 48) }, { dst := some 50, op := .mv (.t 49) }, { dst := some 51, op := .mv (.t 11), guard := some (50, false) }, { dst := some 52, op := .len (.t 51), guard := some (50, false) }, { dst := some 53, op := .mv (.t 8), guard := some (50, false) }, { dst := some 54, op := .bin .neq (.t 52) (.t 53), guard := some (50, false) }, { dst := some 55, op := .pick (.t 50) (.v (.c (.b true))) (.t 54) }]
noncomputable def escheatlaw15_GeomAreas_c6_d (n : Nat) : Sm (Val × Heap) := smOps E_escheatlaw15_GeomAreas [{ dst := some 4, op := .mv (.v (.c (.b false))) }]
noncomputable def escheatlaw15_GeomAreas_c7_d (n : Nat) : Sm (Val × Heap) := smSeq [4] (escheatlaw15_GeomAreas_c6_d n) smRet
noncomputable def escheatlaw15_GeomAreas_c8_d (n : Nat) : Sm (Val × Heap) := smCond (.t 55) (escheatlaw15_GeomAreas_c7_d n) smSkip
noncomputable def escheatlaw15_GeomAreas_c9_d (n : Nat) : Sm (Val × Heap) := smSeq [1, 2, 11, 55] (escheatlaw15_GeomAreas_c5_d n) (escheatlaw15_GeomAreas_c8_d n)
noncomputable def escheatlaw15_GeomAreas_c10_d (n : Nat) : Sm (Val × Heap) := smOps E_escheatlaw15_GeomAreas [{ dst := some 12, op := .mv (.v (.c (.i .i64 0))) }]
noncomputable def escheatlaw15_GeomAreas_c11_d (n : Nat) : Sm (Val × Heap) := smOps E_escheatlaw15_GeomAreas [{ dst := some 56, op := .mv (.t 12) }, { dst := some 57, op := .mv (.t 11) }, { dst := some 58, op := .len (.t 57) }, { dst := some 59, op := .bin .lss (.t 56) (.t 58) }]
noncomputable def escheatlaw15_GeomAreas_c12_d (n : Nat) : Sm (Val × Heap) := smCond (.t 59) smSkip (smExit 0)
noncomputable def escheatlaw15_GeomAreas_c13_d (n : Nat) : Sm (Val × Heap) := smSeq [1, 2, 11, 12, 59] (escheatlaw15_GeomAreas_c11_d n) (escheatlaw15_GeomAreas_c12_d n)
noncomputable def escheatlaw15_GeomAreas_c14_d (n : Nat) : Sm (Val × Heap) := smOps E_escheatlaw15_GeomAreas [{ dst := some 62, op := .mv (.t 11) }, { dst := some 63, op := .mv (.t 12) }, { dst := some 64, op := .iAddrL 1 (.t 62) (.t 63) }, { dst := some 65, op := .load1 (.t 64) }, { dst := some 66, op := .mv (.t 12) }, { dst := some 67, op := .bin .neq (.t 65) (.t 66) }]
noncomputable def escheatlaw15_GeomAreas_c15_d (n : Nat) : Sm (Val × Heap) := smOps E_escheatlaw15_GeomAreas [{ dst := some 4, op := .mv (.v (.c (.b false))) }]
noncomputable def escheatlaw15_GeomAreas_c16_d (n : Nat) : Sm (Val × Heap) := smSeq [4] (escheatlaw15_GeomAreas_c15_d n) smRet
noncomputable def escheatlaw15_GeomAreas_c17_d (n : Nat) : Sm (Val × Heap) := smCond (.t 67) (escheatlaw15_GeomAreas_c16_d n) smSkip
noncomputable def escheatlaw15_GeomAreas_c18_d (n : Nat) : Sm (Val × Heap) := smSeq [1, 2, 11, 12, 67] (escheatlaw15_GeomAreas_c14_d n) (escheatlaw15_GeomAreas_c17_d n)
noncomputable def escheatlaw15_GeomAreas_c19_d (n : Nat) : Sm (Val × Heap) := smBlock 1 (escheatlaw15_GeomAreas_c18_d n)
noncomputable def escheatlaw15_GeomAreas_c20_d (n : Nat) : Sm (Val × Heap) := smOps E_escheatlaw15_GeomAreas [{ dst := some 60, op := .mv (.t 12) }, { dst := some 61, op := .bin .add (.t 60) (.v (.c (.i .i64 1))) }, { dst := some 12, op := .mv (.t 61) }]
noncomputable def escheatlaw15_GeomAreas_c21_d (n : Nat) : Sm (Val × Heap) := smSeq [1, 2, 11, 12] (escheatlaw15_GeomAreas_c19_d n) (escheatlaw15_GeomAreas_c20_d n)
noncomputable def escheatlaw15_GeomAreas_c22_d (n : Nat) : Sm (Val × Heap) := smSeq [1, 2, 11, 12] (escheatlaw15_GeomAreas_c13_d n) (escheatlaw15_GeomAreas_c21_d n)
noncomputable def escheatlaw15_GeomAreas_c23_d (n : Nat) : Sm (Val × Heap) := smLoop n [1, 2, 11, 12] (escheatlaw15_GeomAreas_c22_d n)
noncomputable def escheatlaw15_GeomAreas_c24_d (n : Nat) : Sm (Val × Heap) := smBlock 0 (escheatlaw15_GeomAreas_c23_d n)
noncomputable def escheatlaw15_GeomAreas_c25_d (n : Nat) : Sm (Val × Heap) := smSeq [1, 2, 11, 12] (escheatlaw15_GeomAreas_c10_d n) (escheatlaw15_GeomAreas_c24_d n)
noncomputable def escheatlaw15_GeomAreas_c26_d (n : Nat) : Sm (Val × Heap) := smDraw E_escheatlaw15_GeomAreas 0 [{ dst := some 68, op := .loadN 3 (.t 2) }, { dst := some 69, op := .mv (.t 1) }, { dst := some 70, op := .call 72 [(.t 68), (.t 69)] }, { dst := some 71, op := .loadN 3 (.t 2) }, { dst := some 72, op := .mv (.t 1) }] [{ dst := some 73, op := .call 56 [(.t 71), (.t 72)] }, { dst := some 74, op := .bin .eql (.t 73) (.v (.c (.i .i64 4))) }, { dst := some 75, op := .eqB false (.t 70) (.t 74) }, { dst := some 76, op := .mv (.t 75) }, { dst := some 77, op := .call 57 [], guard := some (76, true) }, { dst := some 78, op := .pick (.t 76) (.t 77) (.v (.c (.b false))) }, { dst := some 4, op := .mv (.t 78) }]
noncomputable def escheatlaw15_GeomAreas_c27_d (n : Nat) : Sm (Val × Heap) := smSeq [4] (escheatlaw15_GeomAreas_c26_d n) smRet
noncomputable def escheatlaw15_GeomAreas_c28_d (n : Nat) : Sm (Val × Heap) := smSeq [1, 2] (escheatlaw15_GeomAreas_c25_d n) (escheatlaw15_GeomAreas_c27_d n)
noncomputable def escheatlaw15_GeomAreas_c29_d (n : Nat) : Sm (Val × Heap) := smSeq [1, 2, 11] (escheatlaw15_GeomAreas_c9_d n) (escheatlaw15_GeomAreas_c28_d n)
noncomputable def escheatlaw15_GeomAreas_c30_d (n : Nat) : Sm (Val × Heap) := smSeq [1, 2, 5, 6, 7, 8, 9, 10, 11] (escheatlaw15_GeomAreas_c4_d n) (escheatlaw15_GeomAreas_c29_d n)
noncomputable def escheatlaw15_GeomAreas_c31_d (n : Nat) : Sm (Val × Heap) := smSeq [1, 2, 5, 6, 7, 8, 9, 10] (escheatlaw15_GeomAreas_c3_d n) (escheatlaw15_GeomAreas_c30_d n)
noncomputable def escheatlaw15_GeomAreas_c32_d (n : Nat) : Sm (Val × Heap) := smSeq [1, 2, 5, 6, 7, 8] (escheatlaw15_GeomAreas_c2_d n) (escheatlaw15_GeomAreas_c31_d n)
noncomputable def escheatlaw15_GeomAreas_c33_d (n : Nat) : Sm (Val × Heap) := smSeq [1, 2, 5, 6] (escheatlaw15_GeomAreas_c1_d n) (escheatlaw15_GeomAreas_c32_d n)
noncomputable def escheatlaw15_GeomAreas_c34_d (n : Nat) : Sm (Val × Heap) := smSeq [1, 2] (escheatlaw15_GeomAreas_c0_d n) (escheatlaw15_GeomAreas_c33_d n)
noncomputable def escheatlaw15_GeomAreas_k0 (n : Nat) : AExit → Env → Heap → Option (Val × Heap) := fun x e h => match x with | .normal => hold ((escheatlaw15_GeomAreas_c27_d n) A_escheatlaw15_GeomAreas.fin (e.keep [1, 2]) h) | .exit id => A_escheatlaw15_GeomAreas.fin (.exit id) e h | .ret => A_escheatlaw15_GeomAreas.fin .ret e h
noncomputable def escheatlaw15_GeomAreas_k1 (n : Nat) : AExit → Env → Heap → Option (Val × Heap) := fun x e h => match x with | .exit i => bif Nat.beq i 0 then (escheatlaw15_GeomAreas_k0 n) .normal e h else (escheatlaw15_GeomAreas_k0 n) (.exit i) e h | .normal => (escheatlaw15_GeomAreas_k0 n) .normal e h | .ret => (escheatlaw15_GeomAreas_k0 n) .ret e h
noncomputable def escheatlaw15_GeomAreas_l0 (n m : Nat) (x1 x2 x11 x12 : Val) (h : Heap) : Option (Val × Heap) := around (escheatlaw15_GeomAreas_c22_d n) [1, 2, 11, 12] (escheatlaw15_GeomAreas_k1 n) m [(1, x1), (2, x2), (11, x11), (12, x12)] h
noncomputable def R_escheatlaw15_GeomAreas (n : Nat) (args : List Val) (h : Heap) : Option (Val × Heap) := (escheatlaw15_GeomAreas_c34_d n) A_escheatlaw15_GeomAreas.fin (params 0 args) h
theorem R_escheatlaw15_GeomAreas_run (n : Nat) (args : List Val) (h : Heap) : A_escheatlaw15_GeomAreas.run E_escheatlaw15_GeomAreas n args h = R_escheatlaw15_GeomAreas n args h := by kernel_rfl
theorem R_escheatlaw15_GeomAreas_eq (n : Nat) (a0 a1 : Val) (h : Heap) : R_escheatlaw15_GeomAreas n [a0, a1] h = bnd (cells? a0) fun c1 => bnd (aloadN ((h ++ [some (Row.mk (c1) true)])) 3 ((.c (.p h.length 0)))) fun v2 => bnd (S_escheatref15_Count [v2, .c (.i .i64 3)] ((h ++ [some (Row.mk (c1) true)]))) fun p3 => bnd (aext p3.1 0) fun v4 => bnd (aext p3.1 1) fun v5 => bnd (aloadN p3.2 3 ((.c (.p h.length 0)))) fun v6 => bnd (S_escheatref15_Count [v6, .c (.i .i64 4)] p3.2) fun p7 => bnd (aext p7.1 0) fun v8 => bnd (aext p7.1 1) fun v9 => bnd (aloadN p7.2 3 ((.c (.p h.length 0)))) fun v10 => bnd (S_geom_Table [v10] p7.2) fun p11 => bnd (aext p11.1 0) fun v12 => bnd (aext p11.1 1) fun v13 => bnd (aloadN p11.2 3 ((.c (.p h.length 0)))) fun v14 => bnd (S_geom_Own [v14] p11.2) fun p15 => bnd (abin .neq v12 v5) fun v16 => bnd (gd v16 false (some (v13, p15.2)) (some (.no, p15.2))) fun p17 => bnd (gd v16 false (some (v4, p17.2)) (some (.no, p17.2))) fun p18 => bnd (gd v16 false (bnd (abin .neq p17.1 p18.1) fun v19 => some (v19, p18.2)) (some (.no, p18.2))) fun p20 => bnd (apick v16 (.c (.b true)) p20.1) fun v21 => bnd (gd v21 false (bnd (aloadN p20.2 3 ((.c (.p h.length 0)))) fun v22 => some (v22, p20.2)) (some (.no, p20.2))) fun p23 => bnd (gd v21 false (bnd (S_geom_Data [p23.1] p23.2) fun p24 => some (p24.1, p24.2)) (some (.no, p23.2))) fun p25 => bnd (gd v21 false (some (v9, p25.2)) (some (.no, p25.2))) fun p26 => bnd (gd v21 false (bnd (abin .neq p25.1 p26.1) fun v27 => some (v27, p26.2)) (some (.no, p26.2))) fun p28 => bnd (apick v21 (.c (.b true)) p28.1) fun v29 => bnd (gd v29 false (bnd (aloadN p28.2 3 ((.c (.p h.length 0)))) fun v30 => some (v30, p28.2)) (some (.no, p28.2))) fun p31 => bnd (gd v29 false (bnd (S_geom_Many [p31.1] p31.2) fun p32 => some (p32.1, p32.2)) (some (.no, p31.2))) fun p33 => bnd (gd v29 false (some (v8, p33.2)) (some (.no, p33.2))) fun p34 => bnd (gd v29 false (bnd (abin .neq p33.1 p34.1) fun v35 => some (v35, p34.2)) (some (.no, p34.2))) fun p36 => bnd (apick v29 (.c (.b true)) p36.1) fun v37 => bnd (gd v37 false (some (p15.1, p36.2)) (some (.no, p36.2))) fun p38 => bnd (gd v37 false (bnd (alen p38.1) fun v39 => some (v39, p38.2)) (some (.no, p38.2))) fun p40 => bnd (gd v37 false (some (v9, p40.2)) (some (.no, p40.2))) fun p41 => bnd (gd v37 false (bnd (abin .neq p40.1 p41.1) fun v42 => some (v42, p41.2)) (some (.no, p41.2))) fun p43 => bnd (apick v37 (.c (.b true)) p43.1) fun v44 => cnd v44 (some ((.c (.b false)), p43.2)) (escheatlaw15_GeomAreas_l0 n n a1 ((.c (.p h.length 0))) p15.1 (.c (.i .i64 0)) p43.2) := by kernel_rfl
theorem escheatlaw15_GeomAreas_l0_eq (n m : Nat) (x1 x2 x11 x12 : Val) (h : Heap) : escheatlaw15_GeomAreas_l0 n (m + 1) x1 x2 x11 x12 h = bnd (alen x11) fun v45 => bnd (abin .lss x12 v45) fun v46 => cnd v46 (bnd (aiAddrL 1 x11 x12) fun v47 => bnd (aload1 h v47) fun v48 => bnd (abin .neq v48 x12) fun v49 => cnd v49 (some ((.c (.b false)), h)) (bnd (abin .add x12 (.c (.i .i64 1))) fun v50 => escheatlaw15_GeomAreas_l0 n m x1 x2 x11 v50 h)) (bnd (aloadN h 3 x2) fun v51 => bnd (quiet ((h ++ [])) (S_geom_IsData [v51, x1] ((h ++ [])))) fun p52 => bnd (aloadN h 3 x2) fun v53 => bnd (S_escheatref15_Area [v53, x1] p52.2) fun p54 => bnd (abin .eql p54.1 (.c (.i .i64 4))) fun v55 => bnd (aeqB false p52.1 v55) fun v56 => bnd (gd v56 true (bnd (S_escheatlaw15_works [] p54.2) fun p57 => some (p57.1, p57.2)) (some (.no, p54.2))) fun p58 => bnd (apick v56 p58.1 (.c (.b false))) fun v59 => some (v59, p58.2)) := by kernel_rfl
theorem chk_escheatlaw15_GeomAreas : chkFn Try.prog Try.f10 A_escheatlaw15_GeomAreas = true := by kernel_rfl
theorem E_escheatlaw15_GeomAreas_sound : Sound Try.prog E_escheatlaw15_GeomAreas := by
  intro f args h v h2 he
  unfold E_escheatlaw15_GeomAreas at he
  cases hb0 : Nat.beq f 67 with
  | true => rw [hb0] at he; have e := Nat.eq_of_beq_eq_true hb0; subst e; exact S_escheatref15_Count_ok args h v h2 he
  | false =>
    rw [hb0] at he; simp only [cond_false] at he
    cases hb1 : Nat.beq f 68 with
    | true => rw [hb1] at he; have e := Nat.eq_of_beq_eq_true hb1; subst e; exact S_geom_Table_ok args h v h2 he
    | false =>
      rw [hb1] at he; simp only [cond_false] at he
      cases hb2 : Nat.beq f 69 with
      | true => rw [hb2] at he; have e := Nat.eq_of_beq_eq_true hb2; subst e; exact S_geom_Own_ok args h v h2 he
      | false =>
        rw [hb2] at he; simp only [cond_false] at he
        cases hb3 : Nat.beq f 70 with
        | true => rw [hb3] at he; have e := Nat.eq_of_beq_eq_true hb3; subst e; exact S_geom_Data_ok args h v h2 he
        | false =>
          rw [hb3] at he; simp only [cond_false] at he
          cases hb4 : Nat.beq f 71 with
          | true => rw [hb4] at he; have e := Nat.eq_of_beq_eq_true hb4; subst e; exact S_geom_Many_ok args h v h2 he
          | false =>
            rw [hb4] at he; simp only [cond_false] at he
            cases hb5 : Nat.beq f 72 with
            | true => rw [hb5] at he; have e := Nat.eq_of_beq_eq_true hb5; subst e; exact S_geom_IsData_ok args h v h2 he
            | false =>
              rw [hb5] at he; simp only [cond_false] at he
              cases hb6 : Nat.beq f 56 with
              | true => rw [hb6] at he; have e := Nat.eq_of_beq_eq_true hb6; subst e; exact S_escheatref15_Area_ok args h v h2 he
              | false =>
                rw [hb6] at he; simp only [cond_false] at he
                cases hb7 : Nat.beq f 57 with
                | true => rw [hb7] at he; have e := Nat.eq_of_beq_eq_true hb7; subst e; exact S_escheatlaw15_works_ok args h v h2 he
                | false =>
                  rw [hb7] at he; simp only [cond_false] at he
                  cases he

theorem R_escheatlaw15_GeomAreas_ok {n : Nat} {args : List Val} {h h2 : Heap} {v : Val} (he : R_escheatlaw15_GeomAreas n args h = some (v, h2)) : Callable Try.prog 10 ∧ CallOk Try.prog 10 args h v h2 ∧ h.length ≤ h2.length := fn_ok E_escheatlaw15_GeomAreas_sound Try.func10 chk_escheatlaw15_GeomAreas ((R_escheatlaw15_GeomAreas_run ..).trans he)
theorem L_escheatlaw15_GeomAreas_ok (args : List Val) (h : Heap) (v : Val) (h2 : Heap) (he : Lim A_escheatlaw15_GeomAreas E_escheatlaw15_GeomAreas args h = some (v, h2)) : Callable Try.prog 10 ∧ CallOk Try.prog 10 args h v h2 ∧ h.length ≤ h2.length := (Lim_run he).elim fun _ e => R_escheatlaw15_GeomAreas_ok ((R_escheatlaw15_GeomAreas_run ..).symm.trans e)
theorem L_escheatlaw15_GeomAreas_of {n : Nat} {args : List Val} {h : Heap} {p : Val × Heap} (he : R_escheatlaw15_GeomAreas n args h = some p) : Lim A_escheatlaw15_GeomAreas E_escheatlaw15_GeomAreas args h = some p := Lim_of ((R_escheatlaw15_GeomAreas_run ..).trans he)
noncomputable def S_escheatlaw15_GeomAreas : List Val → Heap → Option (Val × Heap) := tidy (Lim A_escheatlaw15_GeomAreas E_escheatlaw15_GeomAreas)
theorem S_escheatlaw15_GeomAreas_ok (args : List Val) (h : Heap) (v : Val) (h2 : Heap) (he : S_escheatlaw15_GeomAreas args h = some (v, h2)) : Callable Try.prog 10 ∧ CallOk Try.prog 10 args h v h2 ∧ h.length ≤ h2.length := tidy_ok L_escheatlaw15_GeomAreas_ok args h v h2 he
theorem S_escheatlaw15_GeomAreas_flat {n : Nat} {args : List Val} {h h2 : Heap} {v : Val} (he : R_escheatlaw15_GeomAreas n args (ro h) = some (v, h2)) (hf : v.flat = true) : S_escheatlaw15_GeomAreas args h = some (v, h) := tidy_flat (L_escheatlaw15_GeomAreas_of he) hf
theorem S_escheatlaw15_GeomAreas_low {n : Nat} {args : List Val} {h h2 : Heap} {v : Val} (he : R_escheatlaw15_GeomAreas n args (ro h) = some (v, h2)) (hf : v.low h.length = true) : S_escheatlaw15_GeomAreas args h = some (v, h) := tidy_low (L_escheatlaw15_GeomAreas_of he) hf
theorem S_escheatlaw15_GeomAreas_out {n : Nat} {args : List Val} {h h2 : Heap} {v : Val} {sz k : Nat} {cs : List Cell} (he : R_escheatlaw15_GeomAreas n args (ro h) = some (v, h2)) (ho : Out h.length h2 v sz k cs) (hf : flats cs = true) : S_escheatlaw15_GeomAreas args h = some (.c (.sl h.length 0 k sz), h ++ [some ⟨cs, true⟩]) := tidy_out (L_escheatlaw15_GeomAreas_of he) ho hf
theorem S_escheatlaw15_GeomAreas_tidy {n : Nat} {args : List Val} {h h2 : Heap} {v v2 : Val} {ids : List Nat} (he : R_escheatlaw15_GeomAreas n args (ro h) = some (v, h2)) (hc : canonV h2 h.length v = some (v2, ids)) : S_escheatlaw15_GeomAreas args h = some (v2, h ++ ids.map (rd h2)) := tidy_of (L_escheatlaw15_GeomAreas_of he) hc
end Go.Proofs.Ytbbkpmbepljhkaa
