/- Escheatref01: the Go functions of this package as the abstract evaluator computes them: printed by a program, checked by Lean. -/
import Derived.Test.YtbbkpmbepljhkaaEscS
import Derived.Test.YtbbkpmbepljhkaaChecked
import Derived.KernelRfl
namespace Go.Proofs.Ytbbkpmbepljhkaa
open Go Go.Esc
set_option maxRecDepth 100000
set_option linter.all false
def escheatref01_Same_o0 : List AOper := [{ dst := some 4, op := .mv (.v (.c (.b false))) }]
def escheatref01_Same_c0 : ACode := .ops escheatref01_Same_o0
def escheatref01_Same_o1 : List AOper := [{ dst := some 6, op := .mv (.t 0) }, { dst := some 7, op := .len (.t 6) }, { dst := some 8, op := .mv (.t 1) }, { dst := some 9, op := .len (.t 8) }, { dst := some 10, op := .bin .neq (.t 7) (.t 9) }]
def escheatref01_Same_c1 : ACode := .ops escheatref01_Same_o1
def escheatref01_Same_o2 : List AOper := [{ dst := some 4, op := .mv (.v (.c (.b false))) }]
def escheatref01_Same_c2 : ACode := .ops escheatref01_Same_o2
def escheatref01_Same_c3 : ACode := .seq [4] escheatref01_Same_c2 .ret
def escheatref01_Same_c4 : ACode := .cond (.t 10) escheatref01_Same_c3 .skip
def escheatref01_Same_c5 : ACode := .seq [0, 1, 10] escheatref01_Same_c1 escheatref01_Same_c4
def escheatref01_Same_o3 : List AOper := [{ dst := some 5, op := .mv (.v (.c (.i .i64 0))) }]
def escheatref01_Same_c6 : ACode := .ops escheatref01_Same_o3
def escheatref01_Same_o4 : List AOper := [{ dst := some 11, op := .mv (.t 5) }, { dst := some 12, op := .mv (.t 0) }, { dst := some 13, op := .len (.t 12) }, { dst := some 14, op := .bin .lss (.t 11) (.t 13) }]
def escheatref01_Same_c7 : ACode := .ops escheatref01_Same_o4
def escheatref01_Same_c8 : ACode := .cond (.t 14) .skip (.exit 0)
def escheatref01_Same_c9 : ACode := .seq [0, 1, 5, 14] escheatref01_Same_c7 escheatref01_Same_c8
def escheatref01_Same_o5 : List AOper := [{ dst := some 17, op := .mv (.t 0) }, { dst := some 18, op := .mv (.t 5) }, { dst := some 19, op := .iAddrL 1 (.t 17) (.t 18) }, { dst := some 20, op := .load1 (.t 19) }, { dst := some 21, op := .mv (.t 1) }, { dst := some 22, op := .mv (.t 5) }, { dst := some 23, op := .iAddrL 1 (.t 21) (.t 22) }, { dst := some 24, op := .load1 (.t 23) }]
def escheatref01_Same_o6 : List AOper := [{ dst := some 25, op := .bin .neq (.t 20) (.t 24) }]
def escheatref01_Same_c10 : ACode := .draw 0 escheatref01_Same_o5 escheatref01_Same_o6
def escheatref01_Same_o7 : List AOper := [{ dst := some 4, op := .mv (.v (.c (.b false))) }]
def escheatref01_Same_c11 : ACode := .ops escheatref01_Same_o7
def escheatref01_Same_c12 : ACode := .seq [4] escheatref01_Same_c11 .ret
def escheatref01_Same_c13 : ACode := .cond (.t 25) escheatref01_Same_c12 .skip
def escheatref01_Same_c14 : ACode := .seq [0, 1, 5, 25] escheatref01_Same_c10 escheatref01_Same_c13
def escheatref01_Same_c15 : ACode := .block 1 escheatref01_Same_c14
def escheatref01_Same_o8 : List AOper := [{ dst := some 15, op := .mv (.t 5) }, { dst := some 16, op := .bin .add (.t 15) (.v (.c (.i .i64 1))) }, { dst := some 5, op := .mv (.t 16) }]
def escheatref01_Same_c16 : ACode := .ops escheatref01_Same_o8
def escheatref01_Same_c17 : ACode := .seq [0, 1, 5] escheatref01_Same_c15 escheatref01_Same_c16
def escheatref01_Same_c18 : ACode := .seq [0, 1, 5] escheatref01_Same_c9 escheatref01_Same_c17
def escheatref01_Same_c19 : ACode := .loop [0, 1, 5] escheatref01_Same_c18
def escheatref01_Same_c20 : ACode := .block 0 escheatref01_Same_c19
def escheatref01_Same_c21 : ACode := .seq [0, 1, 5] escheatref01_Same_c6 escheatref01_Same_c20
def escheatref01_Same_o9 : List AOper := [{ dst := some 4, op := .mv (.v (.c (.b true))) }]
def escheatref01_Same_c22 : ACode := .ops escheatref01_Same_o9
def escheatref01_Same_c23 : ACode := .seq [4] escheatref01_Same_c22 .ret
def escheatref01_Same_c24 : ACode := .seq [] escheatref01_Same_c21 escheatref01_Same_c23
def escheatref01_Same_c25 : ACode := .seq [0, 1] escheatref01_Same_c5 escheatref01_Same_c24
def escheatref01_Same_c26 : ACode := .seq [0, 1] escheatref01_Same_c0 escheatref01_Same_c25
def A_escheatref01_Same : AFn := ⟨escheatref01_Same_c26, [.tmp 4]⟩
noncomputable def E_escheatref01_Same : Sums := disp0
noncomputable def escheatref01_Same_c0_d (n : Nat) : SmV := smOps E_escheatref01_Same escheatref01_Same_o0
noncomputable def escheatref01_Same_c1_d (n : Nat) : SmV := smOps E_escheatref01_Same escheatref01_Same_o1
noncomputable def escheatref01_Same_c2_d (n : Nat) : SmV := smOps E_escheatref01_Same escheatref01_Same_o2
noncomputable def escheatref01_Same_c3_d (n : Nat) : SmV := smSeq [4] (escheatref01_Same_c2_d n) smRet
noncomputable def escheatref01_Same_c4_d (n : Nat) : SmV := smCond (.t 10) (escheatref01_Same_c3_d n) smSkip
noncomputable def escheatref01_Same_c5_d (n : Nat) : SmV := smSeq [0, 1, 10] (escheatref01_Same_c1_d n) (escheatref01_Same_c4_d n)
noncomputable def escheatref01_Same_c6_d (n : Nat) : SmV := smOps E_escheatref01_Same escheatref01_Same_o3
noncomputable def escheatref01_Same_c7_d (n : Nat) : SmV := smOps E_escheatref01_Same escheatref01_Same_o4
noncomputable def escheatref01_Same_c8_d (n : Nat) : SmV := smCond (.t 14) smSkip (smExit 0)
noncomputable def escheatref01_Same_c9_d (n : Nat) : SmV := smSeq [0, 1, 5, 14] (escheatref01_Same_c7_d n) (escheatref01_Same_c8_d n)
noncomputable def escheatref01_Same_c10_d (n : Nat) : SmV := smDraw E_escheatref01_Same 0 escheatref01_Same_o5 escheatref01_Same_o6
noncomputable def escheatref01_Same_c11_d (n : Nat) : SmV := smOps E_escheatref01_Same escheatref01_Same_o7
noncomputable def escheatref01_Same_c12_d (n : Nat) : SmV := smSeq [4] (escheatref01_Same_c11_d n) smRet
noncomputable def escheatref01_Same_c13_d (n : Nat) : SmV := smCond (.t 25) (escheatref01_Same_c12_d n) smSkip
noncomputable def escheatref01_Same_c14_d (n : Nat) : SmV := smSeq [0, 1, 5, 25] (escheatref01_Same_c10_d n) (escheatref01_Same_c13_d n)
noncomputable def escheatref01_Same_c15_d (n : Nat) : SmV := smBlock 1 (escheatref01_Same_c14_d n)
noncomputable def escheatref01_Same_c16_d (n : Nat) : SmV := smOps E_escheatref01_Same escheatref01_Same_o8
noncomputable def escheatref01_Same_c17_d (n : Nat) : SmV := smSeq [0, 1, 5] (escheatref01_Same_c15_d n) (escheatref01_Same_c16_d n)
noncomputable def escheatref01_Same_c18_d (n : Nat) : SmV := smSeq [0, 1, 5] (escheatref01_Same_c9_d n) (escheatref01_Same_c17_d n)
noncomputable def escheatref01_Same_c19_d (n : Nat) : SmV := smLoop n [0, 1, 5] (escheatref01_Same_c18_d n)
noncomputable def escheatref01_Same_c20_d (n : Nat) : SmV := smBlock 0 (escheatref01_Same_c19_d n)
noncomputable def escheatref01_Same_c21_d (n : Nat) : SmV := smSeq [0, 1, 5] (escheatref01_Same_c6_d n) (escheatref01_Same_c20_d n)
noncomputable def escheatref01_Same_c22_d (n : Nat) : SmV := smOps E_escheatref01_Same escheatref01_Same_o9
noncomputable def escheatref01_Same_c23_d (n : Nat) : SmV := smSeq [4] (escheatref01_Same_c22_d n) smRet
noncomputable def escheatref01_Same_c24_d (n : Nat) : SmV := smSeq [] (escheatref01_Same_c21_d n) (escheatref01_Same_c23_d n)
noncomputable def escheatref01_Same_c25_d (n : Nat) : SmV := smSeq [0, 1] (escheatref01_Same_c5_d n) (escheatref01_Same_c24_d n)
noncomputable def escheatref01_Same_c26_d (n : Nat) : SmV := smSeq [0, 1] (escheatref01_Same_c0_d n) (escheatref01_Same_c25_d n)
noncomputable def escheatref01_Same_k0 (n : Nat) : AExit → Env → Heap → OptV := fun x e h => match x with | .normal => hold ((escheatref01_Same_c23_d n) A_escheatref01_Same.fin (e.keep []) h) | .exit id => A_escheatref01_Same.fin (.exit id) e h | .ret => A_escheatref01_Same.fin .ret e h
noncomputable def escheatref01_Same_k1 (n : Nat) : AExit → Env → Heap → OptV := fun x e h => match x with | .exit i => bif Nat.beq i 0 then (escheatref01_Same_k0 n) .normal e h else (escheatref01_Same_k0 n) (.exit i) e h | .normal => (escheatref01_Same_k0 n) .normal e h | .ret => (escheatref01_Same_k0 n) .ret e h
noncomputable def escheatref01_Same_l0 (n m : Nat) (x0 x1 x5 : Val) (h : Heap) : OptV := around (escheatref01_Same_c18_d n) [0, 1, 5] (escheatref01_Same_k1 n) m [(0, x0), (1, x1), (5, x5)] h
noncomputable def R_escheatref01_Same (n : Nat) (args : List Val) (h : Heap) : OptV := (escheatref01_Same_c26_d n) A_escheatref01_Same.fin (params 0 args) h
theorem R_escheatref01_Same_eq (n : Nat) (a0 a1 : Val) (h : Heap) : R_escheatref01_Same n [a0, a1] h = bnd (alen a0) fun v1 => bnd (alen a1) fun v2 => bnd (abin .neq v1 v2) fun v3 => cnd v3 (some ((.c (.b false)), h)) (escheatref01_Same_l0 n n a0 a1 (.c (.i .i64 0)) h) := by kernel_rfl
theorem escheatref01_Same_l0_eq (n m : Nat) (x0 x1 x5 : Val) (h : Heap) : escheatref01_Same_l0 n (m + 1) x0 x1 x5 h = bnd (alen x0) fun v4 => bnd (abin .lss x5 v4) fun v5 => cnd v5 (bnd (aiAddrL 1 x0 x5) fun v6 => bnd (aload1 h v6) fun v7 => bnd (aiAddrL 1 x1 x5) fun v8 => bnd (aload1 h v8) fun v9 => bnd (abin .neq v7 v9) fun v10 => cnd v10 (some ((.c (.b false)), (h ++ []))) (bnd (abin .add x5 (.c (.i .i64 1))) fun v11 => escheatref01_Same_l0 n m x0 x1 v11 ((h ++ [])))) (some ((.c (.b true)), h)) := by kernel_rfl
theorem K_escheatref01_Same : FnK Try.prog 47 A_escheatref01_Same E_escheatref01_Same R_escheatref01_Same := .mk' (sound0) Try.func47 (by kernel_rfl) (by intro n args h; kernel_rfl)
noncomputable def S_escheatref01_Same : Fun := tidy (Lim A_escheatref01_Same E_escheatref01_Same)
theorem S_escheatref01_Same_ok : SOk Try.prog 47 S_escheatref01_Same := K_escheatref01_Same.sok
theorem S_escheatref01_Same_flat {n : Nat} {args : List Val} {h h2 : Heap} {v : Val} (he : R_escheatref01_Same n args (ro h) = some (v, h2)) (hf : v.flat = true) : S_escheatref01_Same args h = some (v, h) := K_escheatref01_Same.flat he hf
def escheatref01_Get_o0 : List AOper := [{ dst := some 6, op := .mv (.v (.c (.i .u64 0))) }, { dst := some 7, op := .mv (.v (.c (.b false))) }]
def escheatref01_Get_c0 : ACode := .ops escheatref01_Get_o0
def escheatref01_Get_o1 : List AOper := [{ dst := some 10, op := .mv (.t 2) }, { dst := some 11, op := .bin .lss (.t 10) (.v (.c (.i .i64 1))) }, { dst := some 12, op := .mv (.t 11) }, { dst := some 13, op := .mv (.t 2), guard := some (12, false) }, { dst := some 14, op := .bin .gtr (.t 13) (.v (.c (.i .i64 8))), guard := some (12, false) }, { dst := some 15, op := .pick (.t 12) (.v (.c (.b true))) (.t 14) }, { dst := some 16, op := .mv (.t 15) }, { dst := some 17, op := .mv (.t 1), guard := some (16, false) }, { dst := some 18, op := .bin .lss (.t 17) (.v (.c (.i .i64 0))), guard := some (16, false) }, { dst := some 19, op := .pick (.t 16) (.v (.c (.b true))) (.t 18) }, { dst := some 20, op := .mv (.t 19) }, { dst := some 21, op := .mv (.t 1), guard := some (20, false) }, { dst := some 22, op := .mv (.t 0), guard := some (20, false) }, { dst := some 23, op := .len (.t 22), guard := some (20, false) }, { dst := some 24, op := .mv (.t 2), guard := some (20, false) }, { dst := some 25, op := .bin .sub (.t 23) (.t 24), guard := some (20, false) }, { dst := some 26, op := .bin .gtr (.t 21) (.t 25), guard := some (20, false) }, { dst := some 27, op := .pick (.t 20) (.v (.c (.b true))) (.t 26) }]
def escheatref01_Get_c1 : ACode := .ops escheatref01_Get_o1
def escheatref01_Get_o2 : List AOper := [{ dst := some 6, op := .mv (.v (.c (.i .u64 0))) }, { dst := some 7, op := .mv (.v (.c (.b false))) }]
def escheatref01_Get_c2 : ACode := .ops escheatref01_Get_o2
def escheatref01_Get_c3 : ACode := .seq [6, 7] escheatref01_Get_c2 .ret
def escheatref01_Get_c4 : ACode := .cond (.t 27) escheatref01_Get_c3 .skip
def escheatref01_Get_c5 : ACode := .seq [0, 1, 2, 27] escheatref01_Get_c1 escheatref01_Get_c4
def escheatref01_Get_o3 : List AOper := [{ dst := some 8, op := .mv (.v (.c (.i .u64 0))) }]
def escheatref01_Get_c6 : ACode := .ops escheatref01_Get_o3
def escheatref01_Get_o4 : List AOper := [{ dst := some 28, op := .mv (.t 2) }, { dst := some 29, op := .bin .sub (.t 28) (.v (.c (.i .i64 1))) }, { dst := some 9, op := .mv (.t 29) }]
def escheatref01_Get_c7 : ACode := .ops escheatref01_Get_o4
def escheatref01_Get_o5 : List AOper := [{ dst := some 30, op := .mv (.t 9) }, { dst := some 31, op := .bin .geq (.t 30) (.v (.c (.i .i64 0))) }]
def escheatref01_Get_c8 : ACode := .ops escheatref01_Get_o5
def escheatref01_Get_c9 : ACode := .cond (.t 31) .skip (.exit 0)
def escheatref01_Get_c10 : ACode := .seq [0, 1, 8, 9, 31] escheatref01_Get_c8 escheatref01_Get_c9
def escheatref01_Get_o6 : List AOper := [{ dst := some 34, op := .mv (.t 8) }, { dst := some 35, op := .bin .mul (.t 34) (.v (.c (.i .u64 256))) }, { dst := some 36, op := .mv (.t 0) }, { dst := some 37, op := .mv (.t 1) }, { dst := some 38, op := .mv (.t 9) }, { dst := some 39, op := .bin .add (.t 37) (.t 38) }, { dst := some 40, op := .iAddrL 1 (.t 36) (.t 39) }, { dst := some 41, op := .load1 (.t 40) }, { dst := some 42, op := .conv .u64 (.t 41) }, { dst := some 43, op := .bin .add (.t 35) (.t 42) }, { dst := some 8, op := .mv (.t 43) }]
def escheatref01_Get_c11 : ACode := .ops escheatref01_Get_o6
def escheatref01_Get_c12 : ACode := .block 1 escheatref01_Get_c11
def escheatref01_Get_o7 : List AOper := [{ dst := some 32, op := .mv (.t 9) }, { dst := some 33, op := .bin .sub (.t 32) (.v (.c (.i .i64 1))) }, { dst := some 9, op := .mv (.t 33) }]
def escheatref01_Get_c13 : ACode := .ops escheatref01_Get_o7
def escheatref01_Get_c14 : ACode := .seq [0, 1, 8, 9] escheatref01_Get_c12 escheatref01_Get_c13
def escheatref01_Get_c15 : ACode := .seq [0, 1, 8, 9] escheatref01_Get_c10 escheatref01_Get_c14
def escheatref01_Get_c16 : ACode := .loop [0, 1, 8, 9] escheatref01_Get_c15
def escheatref01_Get_c17 : ACode := .block 0 escheatref01_Get_c16
def escheatref01_Get_c18 : ACode := .seq [0, 1, 8, 9] escheatref01_Get_c7 escheatref01_Get_c17
def escheatref01_Get_o8 : List AOper := [{ dst := some 44, op := .mv (.t 8) }, { dst := some 6, op := .mv (.t 44) }, { dst := some 7, op := .mv (.v (.c (.b true))) }]
def escheatref01_Get_c19 : ACode := .ops escheatref01_Get_o8
def escheatref01_Get_c20 : ACode := .seq [6, 7] escheatref01_Get_c19 .ret
def escheatref01_Get_c21 : ACode := .seq [8] escheatref01_Get_c18 escheatref01_Get_c20
def escheatref01_Get_c22 : ACode := .seq [0, 1, 2, 8] escheatref01_Get_c6 escheatref01_Get_c21
def escheatref01_Get_c23 : ACode := .seq [0, 1, 2] escheatref01_Get_c5 escheatref01_Get_c22
def escheatref01_Get_c24 : ACode := .seq [0, 1, 2] escheatref01_Get_c0 escheatref01_Get_c23
def A_escheatref01_Get : AFn := ⟨escheatref01_Get_c24, [.tmp 6, .tmp 7]⟩
noncomputable def E_escheatref01_Get : Sums := disp0
noncomputable def escheatref01_Get_c0_d (n : Nat) : SmV := smOps E_escheatref01_Get escheatref01_Get_o0
noncomputable def escheatref01_Get_c1_d (n : Nat) : SmV := smOps E_escheatref01_Get escheatref01_Get_o1
noncomputable def escheatref01_Get_c2_d (n : Nat) : SmV := smOps E_escheatref01_Get escheatref01_Get_o2
noncomputable def escheatref01_Get_c3_d (n : Nat) : SmV := smSeq [6, 7] (escheatref01_Get_c2_d n) smRet
noncomputable def escheatref01_Get_c4_d (n : Nat) : SmV := smCond (.t 27) (escheatref01_Get_c3_d n) smSkip
noncomputable def escheatref01_Get_c5_d (n : Nat) : SmV := smSeq [0, 1, 2, 27] (escheatref01_Get_c1_d n) (escheatref01_Get_c4_d n)
noncomputable def escheatref01_Get_c6_d (n : Nat) : SmV := smOps E_escheatref01_Get escheatref01_Get_o3
noncomputable def escheatref01_Get_c7_d (n : Nat) : SmV := smOps E_escheatref01_Get escheatref01_Get_o4
noncomputable def escheatref01_Get_c8_d (n : Nat) : SmV := smOps E_escheatref01_Get escheatref01_Get_o5
noncomputable def escheatref01_Get_c9_d (n : Nat) : SmV := smCond (.t 31) smSkip (smExit 0)
noncomputable def escheatref01_Get_c10_d (n : Nat) : SmV := smSeq [0, 1, 8, 9, 31] (escheatref01_Get_c8_d n) (escheatref01_Get_c9_d n)
noncomputable def escheatref01_Get_c11_d (n : Nat) : SmV := smOps E_escheatref01_Get escheatref01_Get_o6
noncomputable def escheatref01_Get_c12_d (n : Nat) : SmV := smBlock 1 (escheatref01_Get_c11_d n)
noncomputable def escheatref01_Get_c13_d (n : Nat) : SmV := smOps E_escheatref01_Get escheatref01_Get_o7
noncomputable def escheatref01_Get_c14_d (n : Nat) : SmV := smSeq [0, 1, 8, 9] (escheatref01_Get_c12_d n) (escheatref01_Get_c13_d n)
noncomputable def escheatref01_Get_c15_d (n : Nat) : SmV := smSeq [0, 1, 8, 9] (escheatref01_Get_c10_d n) (escheatref01_Get_c14_d n)
noncomputable def escheatref01_Get_c16_d (n : Nat) : SmV := smLoop n [0, 1, 8, 9] (escheatref01_Get_c15_d n)
noncomputable def escheatref01_Get_c17_d (n : Nat) : SmV := smBlock 0 (escheatref01_Get_c16_d n)
noncomputable def escheatref01_Get_c18_d (n : Nat) : SmV := smSeq [0, 1, 8, 9] (escheatref01_Get_c7_d n) (escheatref01_Get_c17_d n)
noncomputable def escheatref01_Get_c19_d (n : Nat) : SmV := smOps E_escheatref01_Get escheatref01_Get_o8
noncomputable def escheatref01_Get_c20_d (n : Nat) : SmV := smSeq [6, 7] (escheatref01_Get_c19_d n) smRet
noncomputable def escheatref01_Get_c21_d (n : Nat) : SmV := smSeq [8] (escheatref01_Get_c18_d n) (escheatref01_Get_c20_d n)
noncomputable def escheatref01_Get_c22_d (n : Nat) : SmV := smSeq [0, 1, 2, 8] (escheatref01_Get_c6_d n) (escheatref01_Get_c21_d n)
noncomputable def escheatref01_Get_c23_d (n : Nat) : SmV := smSeq [0, 1, 2] (escheatref01_Get_c5_d n) (escheatref01_Get_c22_d n)
noncomputable def escheatref01_Get_c24_d (n : Nat) : SmV := smSeq [0, 1, 2] (escheatref01_Get_c0_d n) (escheatref01_Get_c23_d n)
noncomputable def escheatref01_Get_k0 (n : Nat) : AExit → Env → Heap → OptV := fun x e h => match x with | .normal => hold ((escheatref01_Get_c20_d n) A_escheatref01_Get.fin (e.keep [8]) h) | .exit id => A_escheatref01_Get.fin (.exit id) e h | .ret => A_escheatref01_Get.fin .ret e h
noncomputable def escheatref01_Get_k1 (n : Nat) : AExit → Env → Heap → OptV := fun x e h => match x with | .exit i => bif Nat.beq i 0 then (escheatref01_Get_k0 n) .normal e h else (escheatref01_Get_k0 n) (.exit i) e h | .normal => (escheatref01_Get_k0 n) .normal e h | .ret => (escheatref01_Get_k0 n) .ret e h
noncomputable def escheatref01_Get_l0 (n m : Nat) (x0 x1 x8 x9 : Val) (h : Heap) : OptV := around (escheatref01_Get_c15_d n) [0, 1, 8, 9] (escheatref01_Get_k1 n) m [(0, x0), (1, x1), (8, x8), (9, x9)] h
noncomputable def R_escheatref01_Get (n : Nat) (args : List Val) (h : Heap) : OptV := (escheatref01_Get_c24_d n) A_escheatref01_Get.fin (params 0 args) h
theorem R_escheatref01_Get_eq (n : Nat) (a0 a1 a2 : Val) (h : Heap) : R_escheatref01_Get n [a0, a1, a2] h = bnd (abin .lss a2 (.c (.i .i64 1))) fun v1 => bnd (gd v1 false (some (a2, h)) (some (.no, h))) fun p2 => bnd (gd v1 false (bnd (abin .gtr p2.1 (.c (.i .i64 8))) fun v3 => some (v3, p2.2)) (some (.no, p2.2))) fun p4 => bnd (apick v1 (.c (.b true)) p4.1) fun v5 => bnd (gd v5 false (some (a1, p4.2)) (some (.no, p4.2))) fun p6 => bnd (gd v5 false (bnd (abin .lss p6.1 (.c (.i .i64 0))) fun v7 => some (v7, p6.2)) (some (.no, p6.2))) fun p8 => bnd (apick v5 (.c (.b true)) p8.1) fun v9 => bnd (gd v9 false (some (a1, p8.2)) (some (.no, p8.2))) fun p10 => bnd (gd v9 false (some (a0, p10.2)) (some (.no, p10.2))) fun p11 => bnd (gd v9 false (bnd (alen p11.1) fun v12 => some (v12, p11.2)) (some (.no, p11.2))) fun p13 => bnd (gd v9 false (some (a2, p13.2)) (some (.no, p13.2))) fun p14 => bnd (gd v9 false (bnd (abin .sub p13.1 p14.1) fun v15 => some (v15, p14.2)) (some (.no, p14.2))) fun p16 => bnd (gd v9 false (bnd (abin .gtr p10.1 p16.1) fun v17 => some (v17, p16.2)) (some (.no, p16.2))) fun p18 => bnd (apick v9 (.c (.b true)) p18.1) fun v19 => cnd v19 (tupN [some (.c (.i .u64 0)), some (.c (.b false))] p18.2) (bnd (abin .sub a2 (.c (.i .i64 1))) fun v20 => escheatref01_Get_l0 n n a0 a1 (.c (.i .u64 0)) v20 p18.2) := by kernel_rfl
theorem escheatref01_Get_l0_eq (n m : Nat) (x0 x1 x8 x9 : Val) (h : Heap) : escheatref01_Get_l0 n (m + 1) x0 x1 x8 x9 h = bnd (abin .geq x9 (.c (.i .i64 0))) fun v21 => cnd v21 (bnd (abin .mul x8 (.c (.i .u64 256))) fun v22 => bnd (abin .add x1 x9) fun v23 => bnd (aiAddrL 1 x0 v23) fun v24 => bnd (aload1 h v24) fun v25 => bnd (aconv .u64 v25) fun v26 => bnd (abin .add v22 v26) fun v27 => bnd (abin .sub x9 (.c (.i .i64 1))) fun v28 => escheatref01_Get_l0 n m x0 x1 v27 v28 h) (tupN [some x8, some (.c (.b true))] h) := by kernel_rfl
theorem K_escheatref01_Get : FnK Try.prog 62 A_escheatref01_Get E_escheatref01_Get R_escheatref01_Get := .mk' (sound0) Try.func62 (by kernel_rfl) (by intro n args h; kernel_rfl)
noncomputable def S_escheatref01_Get : Fun := tidy (Lim A_escheatref01_Get E_escheatref01_Get)
theorem S_escheatref01_Get_ok : SOk Try.prog 62 S_escheatref01_Get := K_escheatref01_Get.sok
theorem S_escheatref01_Get_flat {n : Nat} {args : List Val} {h h2 : Heap} {v : Val} (he : R_escheatref01_Get n args (ro h) = some (v, h2)) (hf : v.flat = true) : S_escheatref01_Get args h = some (v, h) := K_escheatref01_Get.flat he hf
def escheatref01_Bytes_o0 : List AOper := [{ dst := some 4, op := .nilrow 1 }]
def escheatref01_Bytes_c0 : ACode := .ops escheatref01_Bytes_o0
def escheatref01_Bytes_o1 : List AOper := [{ dst := some 5, op := .nilrow 1 }]
def escheatref01_Bytes_c1 : ACode := .ops escheatref01_Bytes_o1
def escheatref01_Bytes_o2 : List AOper := [{ dst := some 6, op := .mv (.v (.c (.i .i64 0))) }]
def escheatref01_Bytes_c2 : ACode := .ops escheatref01_Bytes_o2
def escheatref01_Bytes_o3 : List AOper := [{ dst := some 7, op := .mv (.t 6) }, { dst := some 8, op := .mv (.t 0) }, { dst := some 9, op := .bin .lss (.t 7) (.t 8) }]
def escheatref01_Bytes_c3 : ACode := .ops escheatref01_Bytes_o3
def escheatref01_Bytes_c4 : ACode := .cond (.t 9) .skip (.exit 0)
def escheatref01_Bytes_c5 : ACode := .seq [0, 1, 5, 6, 9] escheatref01_Bytes_c3 escheatref01_Bytes_c4
def escheatref01_Bytes_o4 : List AOper := [{ dst := some 12, op := .mv (.t 5) }, { dst := some 13, op := .mv (.t 1) }, { dst := some 14, op := .bin .rem (.t 13) (.v (.c (.i .u64 256))) }, { dst := some 15, op := .conv .u8 (.t 14) }, { dst := some 16, op := .buildSl 1 1 ([.i .u8 0]) [(0, 1, (.t 15))] }, { dst := some 17, op := .app 1 (.t 12) (.t 16) }, { dst := some 5, op := .mv (.t 17) }]
def escheatref01_Bytes_c6 : ACode := .ops escheatref01_Bytes_o4
def escheatref01_Bytes_o5 : List AOper := [{ dst := some 18, op := .mv (.t 1) }, { dst := some 19, op := .bin .quo (.t 18) (.v (.c (.i .u64 256))) }, { dst := some 1, op := .mv (.t 19) }]
def escheatref01_Bytes_c7 : ACode := .ops escheatref01_Bytes_o5
def escheatref01_Bytes_c8 : ACode := .seq [0, 1, 5, 6] escheatref01_Bytes_c6 escheatref01_Bytes_c7
def escheatref01_Bytes_c9 : ACode := .block 1 escheatref01_Bytes_c8
def escheatref01_Bytes_o6 : List AOper := [{ dst := some 10, op := .mv (.t 6) }, { dst := some 11, op := .bin .add (.t 10) (.v (.c (.i .i64 1))) }, { dst := some 6, op := .mv (.t 11) }]
def escheatref01_Bytes_c10 : ACode := .ops escheatref01_Bytes_o6
def escheatref01_Bytes_c11 : ACode := .seq [0, 1, 5, 6] escheatref01_Bytes_c9 escheatref01_Bytes_c10
def escheatref01_Bytes_c12 : ACode := .seq [0, 1, 5, 6] escheatref01_Bytes_c5 escheatref01_Bytes_c11
def escheatref01_Bytes_c13 : ACode := .loop [0, 1, 5, 6] escheatref01_Bytes_c12
def escheatref01_Bytes_c14 : ACode := .block 0 escheatref01_Bytes_c13
def escheatref01_Bytes_c15 : ACode := .seq [0, 1, 5, 6] escheatref01_Bytes_c2 escheatref01_Bytes_c14
def escheatref01_Bytes_o7 : List AOper := [{ dst := some 20, op := .mv (.t 5) }, { dst := some 4, op := .mv (.t 20) }]
def escheatref01_Bytes_c16 : ACode := .ops escheatref01_Bytes_o7
def escheatref01_Bytes_c17 : ACode := .seq [4] escheatref01_Bytes_c16 .ret
def escheatref01_Bytes_c18 : ACode := .seq [5] escheatref01_Bytes_c15 escheatref01_Bytes_c17
def escheatref01_Bytes_c19 : ACode := .seq [0, 1, 5] escheatref01_Bytes_c1 escheatref01_Bytes_c18
def escheatref01_Bytes_c20 : ACode := .seq [0, 1] escheatref01_Bytes_c0 escheatref01_Bytes_c19
def A_escheatref01_Bytes : AFn := ⟨escheatref01_Bytes_c20, [.tmp 4]⟩
noncomputable def E_escheatref01_Bytes : Sums := disp0
noncomputable def escheatref01_Bytes_c0_d (n : Nat) : SmV := smOps E_escheatref01_Bytes escheatref01_Bytes_o0
noncomputable def escheatref01_Bytes_c1_d (n : Nat) : SmV := smOps E_escheatref01_Bytes escheatref01_Bytes_o1
noncomputable def escheatref01_Bytes_c2_d (n : Nat) : SmV := smOps E_escheatref01_Bytes escheatref01_Bytes_o2
noncomputable def escheatref01_Bytes_c3_d (n : Nat) : SmV := smOps E_escheatref01_Bytes escheatref01_Bytes_o3
noncomputable def escheatref01_Bytes_c4_d (n : Nat) : SmV := smCond (.t 9) smSkip (smExit 0)
noncomputable def escheatref01_Bytes_c5_d (n : Nat) : SmV := smSeq [0, 1, 5, 6, 9] (escheatref01_Bytes_c3_d n) (escheatref01_Bytes_c4_d n)
noncomputable def escheatref01_Bytes_c6_d (n : Nat) : SmV := smOps E_escheatref01_Bytes escheatref01_Bytes_o4
noncomputable def escheatref01_Bytes_c7_d (n : Nat) : SmV := smOps E_escheatref01_Bytes escheatref01_Bytes_o5
noncomputable def escheatref01_Bytes_c8_d (n : Nat) : SmV := smSeq [0, 1, 5, 6] (escheatref01_Bytes_c6_d n) (escheatref01_Bytes_c7_d n)
noncomputable def escheatref01_Bytes_c9_d (n : Nat) : SmV := smBlock 1 (escheatref01_Bytes_c8_d n)
noncomputable def escheatref01_Bytes_c10_d (n : Nat) : SmV := smOps E_escheatref01_Bytes escheatref01_Bytes_o6
noncomputable def escheatref01_Bytes_c11_d (n : Nat) : SmV := smSeq [0, 1, 5, 6] (escheatref01_Bytes_c9_d n) (escheatref01_Bytes_c10_d n)
noncomputable def escheatref01_Bytes_c12_d (n : Nat) : SmV := smSeq [0, 1, 5, 6] (escheatref01_Bytes_c5_d n) (escheatref01_Bytes_c11_d n)
noncomputable def escheatref01_Bytes_c13_d (n : Nat) : SmV := smLoop n [0, 1, 5, 6] (escheatref01_Bytes_c12_d n)
noncomputable def escheatref01_Bytes_c14_d (n : Nat) : SmV := smBlock 0 (escheatref01_Bytes_c13_d n)
noncomputable def escheatref01_Bytes_c15_d (n : Nat) : SmV := smSeq [0, 1, 5, 6] (escheatref01_Bytes_c2_d n) (escheatref01_Bytes_c14_d n)
noncomputable def escheatref01_Bytes_c16_d (n : Nat) : SmV := smOps E_escheatref01_Bytes escheatref01_Bytes_o7
noncomputable def escheatref01_Bytes_c17_d (n : Nat) : SmV := smSeq [4] (escheatref01_Bytes_c16_d n) smRet
noncomputable def escheatref01_Bytes_c18_d (n : Nat) : SmV := smSeq [5] (escheatref01_Bytes_c15_d n) (escheatref01_Bytes_c17_d n)
noncomputable def escheatref01_Bytes_c19_d (n : Nat) : SmV := smSeq [0, 1, 5] (escheatref01_Bytes_c1_d n) (escheatref01_Bytes_c18_d n)
noncomputable def escheatref01_Bytes_c20_d (n : Nat) : SmV := smSeq [0, 1] (escheatref01_Bytes_c0_d n) (escheatref01_Bytes_c19_d n)
noncomputable def escheatref01_Bytes_k0 (n : Nat) : AExit → Env → Heap → OptV := fun x e h => match x with | .normal => hold ((escheatref01_Bytes_c17_d n) A_escheatref01_Bytes.fin (e.keep [5]) h) | .exit id => A_escheatref01_Bytes.fin (.exit id) e h | .ret => A_escheatref01_Bytes.fin .ret e h
noncomputable def escheatref01_Bytes_k1 (n : Nat) : AExit → Env → Heap → OptV := fun x e h => match x with | .exit i => bif Nat.beq i 0 then (escheatref01_Bytes_k0 n) .normal e h else (escheatref01_Bytes_k0 n) (.exit i) e h | .normal => (escheatref01_Bytes_k0 n) .normal e h | .ret => (escheatref01_Bytes_k0 n) .ret e h
noncomputable def escheatref01_Bytes_l0 (n m : Nat) (x0 x1 x5 x6 : Val) (h : Heap) : OptV := around (escheatref01_Bytes_c12_d n) [0, 1, 5, 6] (escheatref01_Bytes_k1 n) m [(0, x0), (1, x1), (5, x5), (6, x6)] h
noncomputable def R_escheatref01_Bytes (n : Nat) (args : List Val) (h : Heap) : OptV := (escheatref01_Bytes_c20_d n) A_escheatref01_Bytes.fin (params 0 args) h
theorem R_escheatref01_Bytes_eq (n : Nat) (a0 a1 : Val) (h : Heap) : R_escheatref01_Bytes n [a0, a1] h = escheatref01_Bytes_l0 n n a0 a1 ((.c (.sl ((h ++ [some (Row.mk ([]) true)])).length 0 0 1))) (.c (.i .i64 0)) (((h ++ [some (Row.mk ([]) true)]) ++ [some (Row.mk ([]) true)])) := by kernel_rfl
theorem escheatref01_Bytes_l0_eq (n m : Nat) (x0 x1 x5 x6 : Val) (h : Heap) : escheatref01_Bytes_l0 n (m + 1) x0 x1 x5 x6 h = bnd (abin .lss x6 x0) fun v1 => cnd v1 (bnd (abin .rem x1 (.c (.i .u64 256))) fun v2 => bnd (aconv .u8 v2) fun v3 => bnd (afill ([.i .u8 0]) [(0, 1, v3)]) fun c4 => bnd (aapp ((h ++ [some (Row.mk (c4) true)])) 1 x5 ((.c (.sl h.length 0 1 1)))) fun p5 => bnd (abin .quo x1 (.c (.i .u64 256))) fun v6 => bnd (abin .add x6 (.c (.i .i64 1))) fun v7 => escheatref01_Bytes_l0 n m x0 v6 p5.1 v7 p5.2) (some (x5, h)) := by kernel_rfl
theorem K_escheatref01_Bytes : FnK Try.prog 106 A_escheatref01_Bytes E_escheatref01_Bytes R_escheatref01_Bytes := .mk' (sound0) Try.func106 (by kernel_rfl) (by intro n args h; kernel_rfl)
noncomputable def S_escheatref01_Bytes : Fun := tidy (Lim A_escheatref01_Bytes E_escheatref01_Bytes)
theorem S_escheatref01_Bytes_ok : SOk Try.prog 106 S_escheatref01_Bytes := K_escheatref01_Bytes.sok
theorem S_escheatref01_Bytes_low {n : Nat} {args : List Val} {h h2 : Heap} {v : Val} (he : R_escheatref01_Bytes n args (ro h) = some (v, h2)) (hf : v.low h.length = true) : S_escheatref01_Bytes args h = some (v, h) := K_escheatref01_Bytes.low he hf
theorem S_escheatref01_Bytes_out {n : Nat} {args : List Val} {h h2 : Heap} {v : Val} {sz k : Nat} {cs : List Cell} (he : R_escheatref01_Bytes n args (ro h) = some (v, h2)) (ho : Out h.length h2 v sz k cs) (hf : flats cs = true) : S_escheatref01_Bytes args h = some (.c (.sl h.length 0 k sz), h ++ [some ⟨cs, true⟩]) := K_escheatref01_Bytes.out he ho hf
def escheatref01_Lay_o0 : List AOper := [{ dst := some 6, op := .nilrow 1 }]
def escheatref01_Lay_c0 : ACode := .ops escheatref01_Lay_o0
def escheatref01_Lay_o1 : List AOper := [{ dst := some 7, op := .nilrow 1 }]
def escheatref01_Lay_c1 : ACode := .ops escheatref01_Lay_o1
def escheatref01_Lay_o2 : List AOper := [{ dst := some 8, op := .mv (.v (.c (.i .i64 0))) }]
def escheatref01_Lay_c2 : ACode := .ops escheatref01_Lay_o2
def escheatref01_Lay_o3 : List AOper := [{ dst := some 10, op := .mv (.t 8) }, { dst := some 11, op := .mv (.t 0) }, { dst := some 12, op := .len (.t 11) }, { dst := some 13, op := .bin .lss (.t 10) (.t 12) }]
def escheatref01_Lay_c3 : ACode := .ops escheatref01_Lay_o3
def escheatref01_Lay_c4 : ACode := .cond (.t 13) .skip (.exit 0)
def escheatref01_Lay_c5 : ACode := .seq [0, 1, 2, 7, 8, 13] escheatref01_Lay_c3 escheatref01_Lay_c4
def escheatref01_Lay_o4 : List AOper := [{ dst := some 16, op := .mv (.t 0) }, { dst := some 17, op := .mv (.t 8) }, { dst := some 18, op := .iAddrL 1 (.t 16) (.t 17) }, { dst := some 19, op := .load1 (.t 18) }, { dst := some 9, op := .mv (.t 19) }]
def escheatref01_Lay_c6 : ACode := .ops escheatref01_Lay_o4
def escheatref01_Lay_o5 : List AOper := [{ dst := some 20, op := .mv (.t 1) }, { dst := some 21, op := .bin .geq (.t 20) (.v (.c (.i .i64 0))) }, { dst := some 22, op := .mv (.t 21) }, { dst := some 23, op := .mv (.t 8), guard := some (22, true) }, { dst := some 24, op := .mv (.t 1), guard := some (22, true) }, { dst := some 25, op := .bin .geq (.t 23) (.t 24), guard := some (22, true) }, { dst := some 26, op := .pick (.t 22) (.t 25) (.v (.c (.b false))) }, { dst := some 27, op := .mv (.t 26) }, { dst := some 28, op := .mv (.t 8), guard := some (27, true) }, { dst := some 29, op := .mv (.t 1), guard := some (27, true) }, { dst := some 30, op := .bin .sub (.t 28) (.t 29), guard := some (27, true) }, { dst := some 31, op := .mv (.t 2), guard := some (27, true) }, { dst := some 32, op := .len (.t 31), guard := some (27, true) }, { dst := some 33, op := .bin .lss (.t 30) (.t 32), guard := some (27, true) }, { dst := some 34, op := .pick (.t 27) (.t 33) (.v (.c (.b false))) }]
def escheatref01_Lay_c7 : ACode := .ops escheatref01_Lay_o5
def escheatref01_Lay_o6 : List AOper := [{ dst := some 35, op := .mv (.t 2) }, { dst := some 36, op := .mv (.t 8) }, { dst := some 37, op := .mv (.t 1) }, { dst := some 38, op := .bin .sub (.t 36) (.t 37) }, { dst := some 39, op := .iAddrL 1 (.t 35) (.t 38) }, { dst := some 40, op := .load1 (.t 39) }, { dst := some 9, op := .mv (.t 40) }]
def escheatref01_Lay_c8 : ACode := .ops escheatref01_Lay_o6
def escheatref01_Lay_c9 : ACode := .cond (.t 34) escheatref01_Lay_c8 .skip
def escheatref01_Lay_c10 : ACode := .seq [0, 1, 2, 7, 8, 9, 34] escheatref01_Lay_c7 escheatref01_Lay_c9
def escheatref01_Lay_o7 : List AOper := [{ dst := some 41, op := .mv (.t 7) }, { dst := some 42, op := .mv (.t 9) }, { dst := some 43, op := .buildSl 1 1 ([.i .u8 0]) [(0, 1, (.t 42))] }, { dst := some 44, op := .app 1 (.t 41) (.t 43) }, { dst := some 7, op := .mv (.t 44) }]
def escheatref01_Lay_c11 : ACode := .ops escheatref01_Lay_o7
def escheatref01_Lay_c12 : ACode := .seq [0, 1, 2, 7, 8, 9] escheatref01_Lay_c10 escheatref01_Lay_c11
def escheatref01_Lay_c13 : ACode := .seq [0, 1, 2, 7, 8, 9] escheatref01_Lay_c6 escheatref01_Lay_c12
def escheatref01_Lay_c14 : ACode := .block 1 escheatref01_Lay_c13
def escheatref01_Lay_o8 : List AOper := [{ dst := some 14, op := .mv (.t 8) }, { dst := some 15, op := .bin .add (.t 14) (.v (.c (.i .i64 1))) }, { dst := some 8, op := .mv (.t 15) }]
def escheatref01_Lay_c15 : ACode := .ops escheatref01_Lay_o8
def escheatref01_Lay_c16 : ACode := .seq [0, 1, 2, 7, 8] escheatref01_Lay_c14 escheatref01_Lay_c15
def escheatref01_Lay_c17 : ACode := .seq [0, 1, 2, 7, 8] escheatref01_Lay_c5 escheatref01_Lay_c16
def escheatref01_Lay_c18 : ACode := .loop [0, 1, 2, 7, 8] escheatref01_Lay_c17
def escheatref01_Lay_c19 : ACode := .block 0 escheatref01_Lay_c18
def escheatref01_Lay_c20 : ACode := .seq [0, 1, 2, 7, 8] escheatref01_Lay_c2 escheatref01_Lay_c19
def escheatref01_Lay_o9 : List AOper := [{ dst := some 45, op := .mv (.t 7) }, { dst := some 6, op := .mv (.t 45) }]
def escheatref01_Lay_c21 : ACode := .ops escheatref01_Lay_o9
def escheatref01_Lay_c22 : ACode := .seq [6] escheatref01_Lay_c21 .ret
def escheatref01_Lay_c23 : ACode := .seq [7] escheatref01_Lay_c20 escheatref01_Lay_c22
def escheatref01_Lay_c24 : ACode := .seq [0, 1, 2, 7] escheatref01_Lay_c1 escheatref01_Lay_c23
def escheatref01_Lay_c25 : ACode := .seq [0, 1, 2] escheatref01_Lay_c0 escheatref01_Lay_c24
def A_escheatref01_Lay : AFn := ⟨escheatref01_Lay_c25, [.tmp 6]⟩
noncomputable def E_escheatref01_Lay : Sums := disp0
noncomputable def escheatref01_Lay_c0_d (n : Nat) : SmV := smOps E_escheatref01_Lay escheatref01_Lay_o0
noncomputable def escheatref01_Lay_c1_d (n : Nat) : SmV := smOps E_escheatref01_Lay escheatref01_Lay_o1
noncomputable def escheatref01_Lay_c2_d (n : Nat) : SmV := smOps E_escheatref01_Lay escheatref01_Lay_o2
noncomputable def escheatref01_Lay_c3_d (n : Nat) : SmV := smOps E_escheatref01_Lay escheatref01_Lay_o3
noncomputable def escheatref01_Lay_c4_d (n : Nat) : SmV := smCond (.t 13) smSkip (smExit 0)
noncomputable def escheatref01_Lay_c5_d (n : Nat) : SmV := smSeq [0, 1, 2, 7, 8, 13] (escheatref01_Lay_c3_d n) (escheatref01_Lay_c4_d n)
noncomputable def escheatref01_Lay_c6_d (n : Nat) : SmV := smOps E_escheatref01_Lay escheatref01_Lay_o4
noncomputable def escheatref01_Lay_c7_d (n : Nat) : SmV := smOps E_escheatref01_Lay escheatref01_Lay_o5
noncomputable def escheatref01_Lay_c8_d (n : Nat) : SmV := smOps E_escheatref01_Lay escheatref01_Lay_o6
noncomputable def escheatref01_Lay_c9_d (n : Nat) : SmV := smCond (.t 34) (escheatref01_Lay_c8_d n) smSkip
noncomputable def escheatref01_Lay_c10_d (n : Nat) : SmV := smSeq [0, 1, 2, 7, 8, 9, 34] (escheatref01_Lay_c7_d n) (escheatref01_Lay_c9_d n)
noncomputable def escheatref01_Lay_c11_d (n : Nat) : SmV := smOps E_escheatref01_Lay escheatref01_Lay_o7
noncomputable def escheatref01_Lay_c12_d (n : Nat) : SmV := smSeq [0, 1, 2, 7, 8, 9] (escheatref01_Lay_c10_d n) (escheatref01_Lay_c11_d n)
noncomputable def escheatref01_Lay_c13_d (n : Nat) : SmV := smSeq [0, 1, 2, 7, 8, 9] (escheatref01_Lay_c6_d n) (escheatref01_Lay_c12_d n)
noncomputable def escheatref01_Lay_c14_d (n : Nat) : SmV := smBlock 1 (escheatref01_Lay_c13_d n)
noncomputable def escheatref01_Lay_c15_d (n : Nat) : SmV := smOps E_escheatref01_Lay escheatref01_Lay_o8
noncomputable def escheatref01_Lay_c16_d (n : Nat) : SmV := smSeq [0, 1, 2, 7, 8] (escheatref01_Lay_c14_d n) (escheatref01_Lay_c15_d n)
noncomputable def escheatref01_Lay_c17_d (n : Nat) : SmV := smSeq [0, 1, 2, 7, 8] (escheatref01_Lay_c5_d n) (escheatref01_Lay_c16_d n)
noncomputable def escheatref01_Lay_c18_d (n : Nat) : SmV := smLoop n [0, 1, 2, 7, 8] (escheatref01_Lay_c17_d n)
noncomputable def escheatref01_Lay_c19_d (n : Nat) : SmV := smBlock 0 (escheatref01_Lay_c18_d n)
noncomputable def escheatref01_Lay_c20_d (n : Nat) : SmV := smSeq [0, 1, 2, 7, 8] (escheatref01_Lay_c2_d n) (escheatref01_Lay_c19_d n)
noncomputable def escheatref01_Lay_c21_d (n : Nat) : SmV := smOps E_escheatref01_Lay escheatref01_Lay_o9
noncomputable def escheatref01_Lay_c22_d (n : Nat) : SmV := smSeq [6] (escheatref01_Lay_c21_d n) smRet
noncomputable def escheatref01_Lay_c23_d (n : Nat) : SmV := smSeq [7] (escheatref01_Lay_c20_d n) (escheatref01_Lay_c22_d n)
noncomputable def escheatref01_Lay_c24_d (n : Nat) : SmV := smSeq [0, 1, 2, 7] (escheatref01_Lay_c1_d n) (escheatref01_Lay_c23_d n)
noncomputable def escheatref01_Lay_c25_d (n : Nat) : SmV := smSeq [0, 1, 2] (escheatref01_Lay_c0_d n) (escheatref01_Lay_c24_d n)
noncomputable def escheatref01_Lay_k0 (n : Nat) : AExit → Env → Heap → OptV := fun x e h => match x with | .normal => hold ((escheatref01_Lay_c22_d n) A_escheatref01_Lay.fin (e.keep [7]) h) | .exit id => A_escheatref01_Lay.fin (.exit id) e h | .ret => A_escheatref01_Lay.fin .ret e h
noncomputable def escheatref01_Lay_k1 (n : Nat) : AExit → Env → Heap → OptV := fun x e h => match x with | .exit i => bif Nat.beq i 0 then (escheatref01_Lay_k0 n) .normal e h else (escheatref01_Lay_k0 n) (.exit i) e h | .normal => (escheatref01_Lay_k0 n) .normal e h | .ret => (escheatref01_Lay_k0 n) .ret e h
noncomputable def escheatref01_Lay_l0 (n m : Nat) (x0 x1 x2 x7 x8 : Val) (h : Heap) : OptV := around (escheatref01_Lay_c17_d n) [0, 1, 2, 7, 8] (escheatref01_Lay_k1 n) m [(0, x0), (1, x1), (2, x2), (7, x7), (8, x8)] h
noncomputable def R_escheatref01_Lay (n : Nat) (args : List Val) (h : Heap) : OptV := (escheatref01_Lay_c25_d n) A_escheatref01_Lay.fin (params 0 args) h
noncomputable def escheatref01_Lay_k2 (n m : Nat) : AExit → Env → Heap → OptV := fun x e h => match x with | .normal => around (escheatref01_Lay_c17_d n) [0, 1, 2, 7, 8] (escheatref01_Lay_k1 n) m (e.keep [0, 1, 2, 7, 8]) h | .exit id => (escheatref01_Lay_k1 n) (.exit id) e h | .ret => (escheatref01_Lay_k1 n) .ret e h
noncomputable def escheatref01_Lay_k3 (n m : Nat) : AExit → Env → Heap → OptV := fun x e h => match x with | .normal => hold ((escheatref01_Lay_c15_d n) (escheatref01_Lay_k2 n m) (e.keep [0, 1, 2, 7, 8]) h) | .exit id => (escheatref01_Lay_k2 n m) (.exit id) e h | .ret => (escheatref01_Lay_k2 n m) .ret e h
noncomputable def escheatref01_Lay_k4 (n m : Nat) : AExit → Env → Heap → OptV := fun x e h => match x with | .exit i => bif Nat.beq i 1 then (escheatref01_Lay_k3 n m) .normal e h else (escheatref01_Lay_k3 n m) (.exit i) e h | .normal => (escheatref01_Lay_k3 n m) .normal e h | .ret => (escheatref01_Lay_k3 n m) .ret e h
noncomputable def escheatref01_Lay_j0 (n m : Nat) (x0 x1 x2 x7 x8 x9 : Val) (h : Heap) : OptV := hold ((escheatref01_Lay_c11_d n) (escheatref01_Lay_k4 n m) [(0, x0), (1, x1), (2, x2), (7, x7), (8, x8), (9, x9)] h)
theorem R_escheatref01_Lay_eq (n : Nat) (a0 a1 a2 : Val) (h : Heap) : R_escheatref01_Lay n [a0, a1, a2] h = escheatref01_Lay_l0 n n a0 a1 a2 ((.c (.sl ((h ++ [some (Row.mk ([]) true)])).length 0 0 1))) (.c (.i .i64 0)) (((h ++ [some (Row.mk ([]) true)]) ++ [some (Row.mk ([]) true)])) := by kernel_rfl
theorem escheatref01_Lay_l0_eq (n m : Nat) (x0 x1 x2 x7 x8 : Val) (h : Heap) : escheatref01_Lay_l0 n (m + 1) x0 x1 x2 x7 x8 h = bnd (alen x0) fun v1 => bnd (abin .lss x8 v1) fun v2 => cnd v2 (bnd (aiAddrL 1 x0 x8) fun v3 => bnd (aload1 h v3) fun v4 => bnd (abin .geq x1 (.c (.i .i64 0))) fun v5 => bnd (gd v5 true (some (x8, h)) (some (.no, h))) fun p6 => bnd (gd v5 true (some (x1, p6.2)) (some (.no, p6.2))) fun p7 => bnd (gd v5 true (bnd (abin .geq p6.1 p7.1) fun v8 => some (v8, p7.2)) (some (.no, p7.2))) fun p9 => bnd (apick v5 p9.1 (.c (.b false))) fun v10 => bnd (gd v10 true (some (x8, p9.2)) (some (.no, p9.2))) fun p11 => bnd (gd v10 true (some (x1, p11.2)) (some (.no, p11.2))) fun p12 => bnd (gd v10 true (bnd (abin .sub p11.1 p12.1) fun v13 => some (v13, p12.2)) (some (.no, p12.2))) fun p14 => bnd (gd v10 true (some (x2, p14.2)) (some (.no, p14.2))) fun p15 => bnd (gd v10 true (bnd (alen p15.1) fun v16 => some (v16, p15.2)) (some (.no, p15.2))) fun p17 => bnd (gd v10 true (bnd (abin .lss p14.1 p17.1) fun v18 => some (v18, p17.2)) (some (.no, p17.2))) fun p19 => bnd (apick v10 p19.1 (.c (.b false))) fun v20 => cnd v20 (bnd (abin .sub x8 x1) fun v21 => bnd (aiAddrL 1 x2 v21) fun v22 => bnd (aload1 p19.2 v22) fun v23 => escheatref01_Lay_j0 n m x0 x1 x2 x7 x8 v23 p19.2) (escheatref01_Lay_j0 n m x0 x1 x2 x7 x8 v4 p19.2)) (some (x7, h)) := by kernel_rfl
theorem escheatref01_Lay_j0_eq (n m : Nat) (x0 x1 x2 x7 x8 x9 : Val) (h : Heap) : escheatref01_Lay_j0 n m x0 x1 x2 x7 x8 x9 h = bnd (afill ([.i .u8 0]) [(0, 1, x9)]) fun c24 => bnd (aapp ((h ++ [some (Row.mk (c24) true)])) 1 x7 ((.c (.sl h.length 0 1 1)))) fun p25 => bnd (abin .add x8 (.c (.i .i64 1))) fun v26 => escheatref01_Lay_l0 n m x0 x1 x2 p25.1 v26 p25.2 := by kernel_rfl
theorem K_escheatref01_Lay : FnK Try.prog 86 A_escheatref01_Lay E_escheatref01_Lay R_escheatref01_Lay := .mk' (sound0) Try.func86 (by kernel_rfl) (by intro n args h; kernel_rfl)
noncomputable def S_escheatref01_Lay : Fun := tidy (Lim A_escheatref01_Lay E_escheatref01_Lay)
theorem S_escheatref01_Lay_ok : SOk Try.prog 86 S_escheatref01_Lay := K_escheatref01_Lay.sok
theorem S_escheatref01_Lay_low {n : Nat} {args : List Val} {h h2 : Heap} {v : Val} (he : R_escheatref01_Lay n args (ro h) = some (v, h2)) (hf : v.low h.length = true) : S_escheatref01_Lay args h = some (v, h) := K_escheatref01_Lay.low he hf
theorem S_escheatref01_Lay_out {n : Nat} {args : List Val} {h h2 : Heap} {v : Val} {sz k : Nat} {cs : List Cell} (he : R_escheatref01_Lay n args (ro h) = some (v, h2)) (ho : Out h.length h2 v sz k cs) (hf : flats cs = true) : S_escheatref01_Lay args h = some (.c (.sl h.length 0 k sz), h ++ [some ⟨cs, true⟩]) := K_escheatref01_Lay.out he ho hf
def escheatref01_Put_o0 : List AOper := [{ dst := some 8, op := .nilrow 1 }, { dst := some 9, op := .mv (.v (.c (.b false))) }]
def escheatref01_Put_c0 : ACode := .ops escheatref01_Put_o0
def escheatref01_Put_o1 : List AOper := [{ dst := some 10, op := .mv (.t 2) }, { dst := some 11, op := .bin .lss (.t 10) (.v (.c (.i .i64 1))) }, { dst := some 12, op := .mv (.t 11) }, { dst := some 13, op := .mv (.t 2), guard := some (12, false) }, { dst := some 14, op := .bin .gtr (.t 13) (.v (.c (.i .i64 8))), guard := some (12, false) }, { dst := some 15, op := .pick (.t 12) (.v (.c (.b true))) (.t 14) }, { dst := some 16, op := .mv (.t 15) }, { dst := some 17, op := .mv (.t 1), guard := some (16, false) }, { dst := some 18, op := .bin .lss (.t 17) (.v (.c (.i .i64 0))), guard := some (16, false) }, { dst := some 19, op := .pick (.t 16) (.v (.c (.b true))) (.t 18) }, { dst := some 20, op := .mv (.t 19) }, { dst := some 21, op := .mv (.t 1), guard := some (20, false) }, { dst := some 22, op := .mv (.t 0), guard := some (20, false) }, { dst := some 23, op := .len (.t 22), guard := some (20, false) }, { dst := some 24, op := .mv (.t 2), guard := some (20, false) }, { dst := some 25, op := .bin .sub (.t 23) (.t 24), guard := some (20, false) }, { dst := some 26, op := .bin .gtr (.t 21) (.t 25), guard := some (20, false) }, { dst := some 27, op := .pick (.t 20) (.v (.c (.b true))) (.t 26) }]
def escheatref01_Put_c1 : ACode := .ops escheatref01_Put_o1
def escheatref01_Put_o2 : List AOper := [{ dst := some 8, op := .nilrow 1 }, { dst := some 9, op := .mv (.v (.c (.b false))) }]
def escheatref01_Put_c2 : ACode := .ops escheatref01_Put_o2
def escheatref01_Put_c3 : ACode := .seq [8, 9] escheatref01_Put_c2 .ret
def escheatref01_Put_c4 : ACode := .cond (.t 27) escheatref01_Put_c3 .skip
def escheatref01_Put_c5 : ACode := .seq [0, 1, 2, 3, 27] escheatref01_Put_c1 escheatref01_Put_c4
def escheatref01_Put_o3 : List AOper := [{ dst := some 28, op := .mv (.t 0) }, { dst := some 29, op := .mv (.t 1) }, { dst := some 30, op := .mv (.t 2) }, { dst := some 31, op := .mv (.t 3) }, { dst := some 32, op := .call 106 [(.t 30), (.t 31)] }, { dst := some 33, op := .call 86 [(.t 28), (.t 29), (.t 32)] }, { dst := some 8, op := .mv (.t 33) }, { dst := some 9, op := .mv (.v (.c (.b true))) }]
def escheatref01_Put_c6 : ACode := .ops escheatref01_Put_o3
def escheatref01_Put_c7 : ACode := .seq [8, 9] escheatref01_Put_c6 .ret
def escheatref01_Put_c8 : ACode := .seq [0, 1, 2, 3] escheatref01_Put_c5 escheatref01_Put_c7
def escheatref01_Put_c9 : ACode := .seq [0, 1, 2, 3] escheatref01_Put_c0 escheatref01_Put_c8
def A_escheatref01_Put : AFn := ⟨escheatref01_Put_c9, [.tmp 8, .tmp 9]⟩
noncomputable def E_escheatref01_Put : Sums := disp 106 S_escheatref01_Bytes (disp 86 S_escheatref01_Lay disp0)
noncomputable def escheatref01_Put_c0_d (n : Nat) : SmV := smOps E_escheatref01_Put escheatref01_Put_o0
noncomputable def escheatref01_Put_c1_d (n : Nat) : SmV := smOps E_escheatref01_Put escheatref01_Put_o1
noncomputable def escheatref01_Put_c2_d (n : Nat) : SmV := smOps E_escheatref01_Put escheatref01_Put_o2
noncomputable def escheatref01_Put_c3_d (n : Nat) : SmV := smSeq [8, 9] (escheatref01_Put_c2_d n) smRet
noncomputable def escheatref01_Put_c4_d (n : Nat) : SmV := smCond (.t 27) (escheatref01_Put_c3_d n) smSkip
noncomputable def escheatref01_Put_c5_d (n : Nat) : SmV := smSeq [0, 1, 2, 3, 27] (escheatref01_Put_c1_d n) (escheatref01_Put_c4_d n)
noncomputable def escheatref01_Put_c6_d (n : Nat) : SmV := smOps E_escheatref01_Put escheatref01_Put_o3
noncomputable def escheatref01_Put_c7_d (n : Nat) : SmV := smSeq [8, 9] (escheatref01_Put_c6_d n) smRet
noncomputable def escheatref01_Put_c8_d (n : Nat) : SmV := smSeq [0, 1, 2, 3] (escheatref01_Put_c5_d n) (escheatref01_Put_c7_d n)
noncomputable def escheatref01_Put_c9_d (n : Nat) : SmV := smSeq [0, 1, 2, 3] (escheatref01_Put_c0_d n) (escheatref01_Put_c8_d n)
noncomputable def R_escheatref01_Put (n : Nat) (args : List Val) (h : Heap) : OptV := (escheatref01_Put_c9_d n) A_escheatref01_Put.fin (params 0 args) h
theorem R_escheatref01_Put_eq (n : Nat) (a0 a1 a2 a3 : Val) (h : Heap) : R_escheatref01_Put n [a0, a1, a2, a3] h = bnd (abin .lss a2 (.c (.i .i64 1))) fun v1 => bnd (gd v1 false (some (a2, (h ++ [some (Row.mk ([]) true)]))) (some (.no, (h ++ [some (Row.mk ([]) true)])))) fun p2 => bnd (gd v1 false (bnd (abin .gtr p2.1 (.c (.i .i64 8))) fun v3 => some (v3, p2.2)) (some (.no, p2.2))) fun p4 => bnd (apick v1 (.c (.b true)) p4.1) fun v5 => bnd (gd v5 false (some (a1, p4.2)) (some (.no, p4.2))) fun p6 => bnd (gd v5 false (bnd (abin .lss p6.1 (.c (.i .i64 0))) fun v7 => some (v7, p6.2)) (some (.no, p6.2))) fun p8 => bnd (apick v5 (.c (.b true)) p8.1) fun v9 => bnd (gd v9 false (some (a1, p8.2)) (some (.no, p8.2))) fun p10 => bnd (gd v9 false (some (a0, p10.2)) (some (.no, p10.2))) fun p11 => bnd (gd v9 false (bnd (alen p11.1) fun v12 => some (v12, p11.2)) (some (.no, p11.2))) fun p13 => bnd (gd v9 false (some (a2, p13.2)) (some (.no, p13.2))) fun p14 => bnd (gd v9 false (bnd (abin .sub p13.1 p14.1) fun v15 => some (v15, p14.2)) (some (.no, p14.2))) fun p16 => bnd (gd v9 false (bnd (abin .gtr p10.1 p16.1) fun v17 => some (v17, p16.2)) (some (.no, p16.2))) fun p18 => bnd (apick v9 (.c (.b true)) p18.1) fun v19 => cnd v19 (tupN [some ((.c (.sl p18.2.length 0 0 1))), some (.c (.b false))] ((p18.2 ++ [some (Row.mk ([]) true)]))) (bnd (S_escheatref01_Bytes [a2, a3] p18.2) fun p20 => bnd (S_escheatref01_Lay [a0, a1, p20.1] p20.2) fun p21 => tupN [some p21.1, some (.c (.b true))] p21.2) := by kernel_rfl
theorem K_escheatref01_Put : FnK Try.prog 64 A_escheatref01_Put E_escheatref01_Put R_escheatref01_Put := .mk' (sound1 S_escheatref01_Bytes_ok (sound1 S_escheatref01_Lay_ok sound0)) Try.func64 (by kernel_rfl) (by intro n args h; kernel_rfl)
noncomputable def S_escheatref01_Put : Fun := tidy (Lim A_escheatref01_Put E_escheatref01_Put)
theorem S_escheatref01_Put_ok : SOk Try.prog 64 S_escheatref01_Put := K_escheatref01_Put.sok
theorem S_escheatref01_Put_flat {n : Nat} {args : List Val} {h h2 : Heap} {v : Val} (he : R_escheatref01_Put n args (ro h) = some (v, h2)) (hf : v.flat = true) : S_escheatref01_Put args h = some (v, h) := K_escheatref01_Put.flat he hf
theorem S_escheatref01_Put_low {n : Nat} {args : List Val} {h h2 : Heap} {v : Val} (he : R_escheatref01_Put n args (ro h) = some (v, h2)) (hf : v.low h.length = true) : S_escheatref01_Put args h = some (v, h) := K_escheatref01_Put.low he hf
theorem S_escheatref01_Put_out2 {n : Nat} {args : List Val} {h h2 : Heap} {i : Nat} {c : Cell} {sz k : Nat} {cs : List Cell} (he : R_escheatref01_Put n args (ro h) = some (.t [.c (.sl i 0 k sz), .c c], h2)) (ho : Out h.length h2 (.c (.sl i 0 k sz)) sz k cs) (hf : flats cs = true) (hc : c.flat = true) : S_escheatref01_Put args h = some (.t [.c (.sl h.length 0 k sz), .c c], h ++ [some ⟨cs, true⟩]) := K_escheatref01_Put.out2 he ho hf hc
theorem S_escheatref01_Put_tidy {n : Nat} {args : List Val} {h h2 : Heap} {v : Val} {v2 : Val} {ids : List Nat} (he : R_escheatref01_Put n args (ro h) = some (v, h2)) (hc : canonV h2 h.length v = some (v2, ids)) : S_escheatref01_Put args h = some (v2, h ++ ids.map (rd h2)) := K_escheatref01_Put.tidy he hc
def escheatref01_At_o0 : List AOper := [{ dst := some 6, op := .mv (.v (.c (.i .i64 0))) }]
def escheatref01_At_c0 : ACode := .ops escheatref01_At_o0
def escheatref01_At_o1 : List AOper := [{ dst := some 9, op := .mv (.t 2) }, { dst := some 10, op := .bin .gtr (.t 9) (.v (.c (.i .i64 4))) }]
def escheatref01_At_c1 : ACode := .ops escheatref01_At_o1
def escheatref01_At_o2 : List AOper := [{ dst := some 6, op := .mv (.v (.c (.i .i64 0))) }]
def escheatref01_At_c2 : ACode := .ops escheatref01_At_o2
def escheatref01_At_c3 : ACode := .seq [6] escheatref01_At_c2 .ret
def escheatref01_At_c4 : ACode := .cond (.t 10) escheatref01_At_c3 .skip
def escheatref01_At_c5 : ACode := .seq [0, 1, 2, 10] escheatref01_At_c1 escheatref01_At_c4
def escheatref01_At_o3 : List AOper := [{ dst := some 12, op := .mv (.t 0) }, { dst := some 13, op := .mv (.t 1) }, { dst := some 14, op := .mv (.t 2) }, { dst := some 15, op := .call 62 [(.t 12), (.t 13), (.t 14)] }, { dst := some 11, op := .mv (.t 15) }, { dst := some 16, op := .ext (.t 11) 0 }, { dst := some 17, op := .ext (.t 11) 1 }, { dst := some 7, op := .mv (.t 16) }, { dst := some 8, op := .mv (.t 17) }]
def escheatref01_At_c6 : ACode := .ops escheatref01_At_o3
def escheatref01_At_o4 : List AOper := [{ dst := some 18, op := .mv (.t 7) }, { dst := some 19, op := .conv .i64 (.t 18) }, { dst := some 6, op := .mv (.t 19) }]
def escheatref01_At_c7 : ACode := .ops escheatref01_At_o4
def escheatref01_At_c8 : ACode := .seq [6] escheatref01_At_c7 .ret
def escheatref01_At_c9 : ACode := .seq [7] escheatref01_At_c6 escheatref01_At_c8
def escheatref01_At_c10 : ACode := .seq [0, 1, 2] escheatref01_At_c5 escheatref01_At_c9
def escheatref01_At_c11 : ACode := .seq [0, 1, 2] escheatref01_At_c0 escheatref01_At_c10
def A_escheatref01_At : AFn := ⟨escheatref01_At_c11, [.tmp 6]⟩
noncomputable def E_escheatref01_At : Sums := disp 62 S_escheatref01_Get disp0
noncomputable def escheatref01_At_c0_d (n : Nat) : SmV := smOps E_escheatref01_At escheatref01_At_o0
noncomputable def escheatref01_At_c1_d (n : Nat) : SmV := smOps E_escheatref01_At escheatref01_At_o1
noncomputable def escheatref01_At_c2_d (n : Nat) : SmV := smOps E_escheatref01_At escheatref01_At_o2
noncomputable def escheatref01_At_c3_d (n : Nat) : SmV := smSeq [6] (escheatref01_At_c2_d n) smRet
noncomputable def escheatref01_At_c4_d (n : Nat) : SmV := smCond (.t 10) (escheatref01_At_c3_d n) smSkip
noncomputable def escheatref01_At_c5_d (n : Nat) : SmV := smSeq [0, 1, 2, 10] (escheatref01_At_c1_d n) (escheatref01_At_c4_d n)
noncomputable def escheatref01_At_c6_d (n : Nat) : SmV := smOps E_escheatref01_At escheatref01_At_o3
noncomputable def escheatref01_At_c7_d (n : Nat) : SmV := smOps E_escheatref01_At escheatref01_At_o4
noncomputable def escheatref01_At_c8_d (n : Nat) : SmV := smSeq [6] (escheatref01_At_c7_d n) smRet
noncomputable def escheatref01_At_c9_d (n : Nat) : SmV := smSeq [7] (escheatref01_At_c6_d n) (escheatref01_At_c8_d n)
noncomputable def escheatref01_At_c10_d (n : Nat) : SmV := smSeq [0, 1, 2] (escheatref01_At_c5_d n) (escheatref01_At_c9_d n)
noncomputable def escheatref01_At_c11_d (n : Nat) : SmV := smSeq [0, 1, 2] (escheatref01_At_c0_d n) (escheatref01_At_c10_d n)
noncomputable def R_escheatref01_At (n : Nat) (args : List Val) (h : Heap) : OptV := (escheatref01_At_c11_d n) A_escheatref01_At.fin (params 0 args) h
theorem R_escheatref01_At_eq (n : Nat) (a0 a1 a2 : Val) (h : Heap) : R_escheatref01_At n [a0, a1, a2] h = bnd (abin .gtr a2 (.c (.i .i64 4))) fun v1 => cnd v1 (some ((.c (.i .i64 0)), h)) (bnd (S_escheatref01_Get [a0, a1, a2] h) fun p2 => bnd (aext p2.1 0) fun v3 => bnd (aext p2.1 1) fun v4 => bnd (aconv .i64 v3) fun v5 => some (v5, p2.2)) := by kernel_rfl
theorem K_escheatref01_At : FnK Try.prog 83 A_escheatref01_At E_escheatref01_At R_escheatref01_At := .mk' (sound1 S_escheatref01_Get_ok sound0) Try.func83 (by kernel_rfl) (by intro n args h; kernel_rfl)
noncomputable def S_escheatref01_At : Fun := tidy (Lim A_escheatref01_At E_escheatref01_At)
theorem S_escheatref01_At_ok : SOk Try.prog 83 S_escheatref01_At := K_escheatref01_At.sok
theorem S_escheatref01_At_flat {n : Nat} {args : List Val} {h h2 : Heap} {v : Val} (he : R_escheatref01_At n args (ro h) = some (v, h2)) (hf : v.flat = true) : S_escheatref01_At args h = some (v, h) := K_escheatref01_At.flat he hf
def escheatref01_With_o0 : List AOper := [{ dst := some 8, op := .nilrow 1 }]
def escheatref01_With_c0 : ACode := .ops escheatref01_With_o0
def escheatref01_With_o1 : List AOper := [{ dst := some 11, op := .mv (.t 2) }, { dst := some 12, op := .bin .gtr (.t 11) (.v (.c (.i .i64 4))) }]
def escheatref01_With_c1 : ACode := .ops escheatref01_With_o1
def escheatref01_With_o2 : List AOper := [{ dst := some 13, op := .mv (.t 0) }, { dst := some 8, op := .mv (.t 13) }]
def escheatref01_With_c2 : ACode := .ops escheatref01_With_o2
def escheatref01_With_c3 : ACode := .seq [8] escheatref01_With_c2 .ret
def escheatref01_With_c4 : ACode := .cond (.t 12) escheatref01_With_c3 .skip
def escheatref01_With_c5 : ACode := .seq [0, 1, 2, 3, 12] escheatref01_With_c1 escheatref01_With_c4
def escheatref01_With_o3 : List AOper := [{ dst := some 15, op := .mv (.t 0) }, { dst := some 16, op := .mv (.t 1) }, { dst := some 17, op := .mv (.t 2) }, { dst := some 18, op := .mv (.t 3) }, { dst := some 19, op := .conv .u64 (.t 18) }, { dst := some 20, op := .call 64 [(.t 15), (.t 16), (.t 17), (.t 19)] }, { dst := some 14, op := .mv (.t 20) }, { dst := some 21, op := .ext (.t 14) 0 }, { dst := some 22, op := .ext (.t 14) 1 }, { dst := some 9, op := .mv (.t 21) }, { dst := some 10, op := .mv (.t 22) }]
def escheatref01_With_c6 : ACode := .ops escheatref01_With_o3
def escheatref01_With_o4 : List AOper := [{ dst := some 23, op := .mv (.t 10) }, { dst := some 24, op := .un .not (.t 23) }]
def escheatref01_With_c7 : ACode := .ops escheatref01_With_o4
def escheatref01_With_o5 : List AOper := [{ dst := some 25, op := .mv (.t 0) }, { dst := some 8, op := .mv (.t 25) }]
def escheatref01_With_c8 : ACode := .ops escheatref01_With_o5
def escheatref01_With_c9 : ACode := .seq [8] escheatref01_With_c8 .ret
def escheatref01_With_c10 : ACode := .cond (.t 24) escheatref01_With_c9 .skip
def escheatref01_With_c11 : ACode := .seq [0, 9, 24] escheatref01_With_c7 escheatref01_With_c10
def escheatref01_With_o6 : List AOper := [{ dst := some 26, op := .mv (.t 9) }, { dst := some 8, op := .mv (.t 26) }]
def escheatref01_With_c12 : ACode := .ops escheatref01_With_o6
def escheatref01_With_c13 : ACode := .seq [8] escheatref01_With_c12 .ret
def escheatref01_With_c14 : ACode := .seq [9] escheatref01_With_c11 escheatref01_With_c13
def escheatref01_With_c15 : ACode := .seq [0, 9, 10] escheatref01_With_c6 escheatref01_With_c14
def escheatref01_With_c16 : ACode := .seq [0, 1, 2, 3] escheatref01_With_c5 escheatref01_With_c15
def escheatref01_With_c17 : ACode := .seq [0, 1, 2, 3] escheatref01_With_c0 escheatref01_With_c16
def A_escheatref01_With : AFn := ⟨escheatref01_With_c17, [.tmp 8]⟩
noncomputable def E_escheatref01_With : Sums := disp 64 S_escheatref01_Put disp0
noncomputable def escheatref01_With_c0_d (n : Nat) : SmV := smOps E_escheatref01_With escheatref01_With_o0
noncomputable def escheatref01_With_c1_d (n : Nat) : SmV := smOps E_escheatref01_With escheatref01_With_o1
noncomputable def escheatref01_With_c2_d (n : Nat) : SmV := smOps E_escheatref01_With escheatref01_With_o2
noncomputable def escheatref01_With_c3_d (n : Nat) : SmV := smSeq [8] (escheatref01_With_c2_d n) smRet
noncomputable def escheatref01_With_c4_d (n : Nat) : SmV := smCond (.t 12) (escheatref01_With_c3_d n) smSkip
noncomputable def escheatref01_With_c5_d (n : Nat) : SmV := smSeq [0, 1, 2, 3, 12] (escheatref01_With_c1_d n) (escheatref01_With_c4_d n)
noncomputable def escheatref01_With_c6_d (n : Nat) : SmV := smOps E_escheatref01_With escheatref01_With_o3
noncomputable def escheatref01_With_c7_d (n : Nat) : SmV := smOps E_escheatref01_With escheatref01_With_o4
noncomputable def escheatref01_With_c8_d (n : Nat) : SmV := smOps E_escheatref01_With escheatref01_With_o5
noncomputable def escheatref01_With_c9_d (n : Nat) : SmV := smSeq [8] (escheatref01_With_c8_d n) smRet
noncomputable def escheatref01_With_c10_d (n : Nat) : SmV := smCond (.t 24) (escheatref01_With_c9_d n) smSkip
noncomputable def escheatref01_With_c11_d (n : Nat) : SmV := smSeq [0, 9, 24] (escheatref01_With_c7_d n) (escheatref01_With_c10_d n)
noncomputable def escheatref01_With_c12_d (n : Nat) : SmV := smOps E_escheatref01_With escheatref01_With_o6
noncomputable def escheatref01_With_c13_d (n : Nat) : SmV := smSeq [8] (escheatref01_With_c12_d n) smRet
noncomputable def escheatref01_With_c14_d (n : Nat) : SmV := smSeq [9] (escheatref01_With_c11_d n) (escheatref01_With_c13_d n)
noncomputable def escheatref01_With_c15_d (n : Nat) : SmV := smSeq [0, 9, 10] (escheatref01_With_c6_d n) (escheatref01_With_c14_d n)
noncomputable def escheatref01_With_c16_d (n : Nat) : SmV := smSeq [0, 1, 2, 3] (escheatref01_With_c5_d n) (escheatref01_With_c15_d n)
noncomputable def escheatref01_With_c17_d (n : Nat) : SmV := smSeq [0, 1, 2, 3] (escheatref01_With_c0_d n) (escheatref01_With_c16_d n)
noncomputable def R_escheatref01_With (n : Nat) (args : List Val) (h : Heap) : OptV := (escheatref01_With_c17_d n) A_escheatref01_With.fin (params 0 args) h
theorem R_escheatref01_With_eq (n : Nat) (a0 a1 a2 a3 : Val) (h : Heap) : R_escheatref01_With n [a0, a1, a2, a3] h = bnd (abin .gtr a2 (.c (.i .i64 4))) fun v1 => cnd v1 (some (a0, (h ++ [some (Row.mk ([]) true)]))) (bnd (aconv .u64 a3) fun v2 => bnd (S_escheatref01_Put [a0, a1, a2, v2] ((h ++ [some (Row.mk ([]) true)]))) fun p3 => bnd (aext p3.1 0) fun v4 => bnd (aext p3.1 1) fun v5 => bnd (aun .not v5) fun v6 => cnd v6 (some (a0, p3.2)) (some (v4, p3.2))) := by kernel_rfl
theorem K_escheatref01_With : FnK Try.prog 84 A_escheatref01_With E_escheatref01_With R_escheatref01_With := .mk' (sound1 S_escheatref01_Put_ok sound0) Try.func84 (by kernel_rfl) (by intro n args h; kernel_rfl)
noncomputable def S_escheatref01_With : Fun := tidy (Lim A_escheatref01_With E_escheatref01_With)
theorem S_escheatref01_With_ok : SOk Try.prog 84 S_escheatref01_With := K_escheatref01_With.sok
theorem S_escheatref01_With_low {n : Nat} {args : List Val} {h h2 : Heap} {v : Val} (he : R_escheatref01_With n args (ro h) = some (v, h2)) (hf : v.low h.length = true) : S_escheatref01_With args h = some (v, h) := K_escheatref01_With.low he hf
theorem S_escheatref01_With_out {n : Nat} {args : List Val} {h h2 : Heap} {v : Val} {sz k : Nat} {cs : List Cell} (he : R_escheatref01_With n args (ro h) = some (v, h2)) (ho : Out h.length h2 v sz k cs) (hf : flats cs = true) : S_escheatref01_With args h = some (.c (.sl h.length 0 k sz), h ++ [some ⟨cs, true⟩]) := K_escheatref01_With.out he ho hf
def escheatref01_Cut_o0 : List AOper := [{ dst := some 6, op := .nilrow 1 }]
def escheatref01_Cut_c0 : ACode := .ops escheatref01_Cut_o0
def escheatref01_Cut_o1 : List AOper := [{ dst := some 7, op := .nilrow 1 }]
def escheatref01_Cut_c1 : ACode := .ops escheatref01_Cut_o1
def escheatref01_Cut_o2 : List AOper := [{ dst := some 9, op := .mv (.t 1) }, { dst := some 8, op := .mv (.t 9) }]
def escheatref01_Cut_c2 : ACode := .ops escheatref01_Cut_o2
def escheatref01_Cut_o3 : List AOper := [{ dst := some 10, op := .mv (.t 1) }, { dst := some 11, op := .bin .geq (.t 10) (.v (.c (.i .i64 0))) }, { dst := some 12, op := .mv (.t 11) }, { dst := some 13, op := .mv (.t 8), guard := some (12, true) }, { dst := some 14, op := .mv (.t 0), guard := some (12, true) }, { dst := some 15, op := .len (.t 14), guard := some (12, true) }, { dst := some 16, op := .bin .lss (.t 13) (.t 15), guard := some (12, true) }, { dst := some 17, op := .pick (.t 12) (.t 16) (.v (.c (.b false))) }, { dst := some 18, op := .mv (.t 17) }, { dst := some 19, op := .mv (.t 8), guard := some (18, true) }, { dst := some 20, op := .mv (.t 1), guard := some (18, true) }, { dst := some 21, op := .bin .sub (.t 19) (.t 20), guard := some (18, true) }, { dst := some 22, op := .mv (.t 2), guard := some (18, true) }, { dst := some 23, op := .bin .lss (.t 21) (.t 22), guard := some (18, true) }, { dst := some 24, op := .pick (.t 18) (.t 23) (.v (.c (.b false))) }]
def escheatref01_Cut_c3 : ACode := .ops escheatref01_Cut_o3
def escheatref01_Cut_c4 : ACode := .cond (.t 24) .skip (.exit 0)
def escheatref01_Cut_c5 : ACode := .seq [0, 1, 2, 7, 8, 24] escheatref01_Cut_c3 escheatref01_Cut_c4
def escheatref01_Cut_o4 : List AOper := [{ dst := some 27, op := .mv (.t 7) }, { dst := some 28, op := .mv (.t 0) }, { dst := some 29, op := .mv (.t 8) }, { dst := some 30, op := .iAddrL 1 (.t 28) (.t 29) }, { dst := some 31, op := .load1 (.t 30) }, { dst := some 32, op := .buildSl 1 1 ([.i .u8 0]) [(0, 1, (.t 31))] }, { dst := some 33, op := .app 1 (.t 27) (.t 32) }, { dst := some 7, op := .mv (.t 33) }]
def escheatref01_Cut_c6 : ACode := .ops escheatref01_Cut_o4
def escheatref01_Cut_c7 : ACode := .block 1 escheatref01_Cut_c6
def escheatref01_Cut_o5 : List AOper := [{ dst := some 25, op := .mv (.t 8) }, { dst := some 26, op := .bin .add (.t 25) (.v (.c (.i .i64 1))) }, { dst := some 8, op := .mv (.t 26) }]
def escheatref01_Cut_c8 : ACode := .ops escheatref01_Cut_o5
def escheatref01_Cut_c9 : ACode := .seq [0, 1, 2, 7, 8] escheatref01_Cut_c7 escheatref01_Cut_c8
def escheatref01_Cut_c10 : ACode := .seq [0, 1, 2, 7, 8] escheatref01_Cut_c5 escheatref01_Cut_c9
def escheatref01_Cut_c11 : ACode := .loop [0, 1, 2, 7, 8] escheatref01_Cut_c10
def escheatref01_Cut_c12 : ACode := .block 0 escheatref01_Cut_c11
def escheatref01_Cut_c13 : ACode := .seq [0, 1, 2, 7, 8] escheatref01_Cut_c2 escheatref01_Cut_c12
def escheatref01_Cut_o6 : List AOper := [{ dst := some 34, op := .mv (.t 7) }, { dst := some 6, op := .mv (.t 34) }]
def escheatref01_Cut_c14 : ACode := .ops escheatref01_Cut_o6
def escheatref01_Cut_c15 : ACode := .seq [6] escheatref01_Cut_c14 .ret
def escheatref01_Cut_c16 : ACode := .seq [7] escheatref01_Cut_c13 escheatref01_Cut_c15
def escheatref01_Cut_c17 : ACode := .seq [0, 1, 2, 7] escheatref01_Cut_c1 escheatref01_Cut_c16
def escheatref01_Cut_c18 : ACode := .seq [0, 1, 2] escheatref01_Cut_c0 escheatref01_Cut_c17
def A_escheatref01_Cut : AFn := ⟨escheatref01_Cut_c18, [.tmp 6]⟩
noncomputable def E_escheatref01_Cut : Sums := disp0
noncomputable def escheatref01_Cut_c0_d (n : Nat) : SmV := smOps E_escheatref01_Cut escheatref01_Cut_o0
noncomputable def escheatref01_Cut_c1_d (n : Nat) : SmV := smOps E_escheatref01_Cut escheatref01_Cut_o1
noncomputable def escheatref01_Cut_c2_d (n : Nat) : SmV := smOps E_escheatref01_Cut escheatref01_Cut_o2
noncomputable def escheatref01_Cut_c3_d (n : Nat) : SmV := smOps E_escheatref01_Cut escheatref01_Cut_o3
noncomputable def escheatref01_Cut_c4_d (n : Nat) : SmV := smCond (.t 24) smSkip (smExit 0)
noncomputable def escheatref01_Cut_c5_d (n : Nat) : SmV := smSeq [0, 1, 2, 7, 8, 24] (escheatref01_Cut_c3_d n) (escheatref01_Cut_c4_d n)
noncomputable def escheatref01_Cut_c6_d (n : Nat) : SmV := smOps E_escheatref01_Cut escheatref01_Cut_o4
noncomputable def escheatref01_Cut_c7_d (n : Nat) : SmV := smBlock 1 (escheatref01_Cut_c6_d n)
noncomputable def escheatref01_Cut_c8_d (n : Nat) : SmV := smOps E_escheatref01_Cut escheatref01_Cut_o5
noncomputable def escheatref01_Cut_c9_d (n : Nat) : SmV := smSeq [0, 1, 2, 7, 8] (escheatref01_Cut_c7_d n) (escheatref01_Cut_c8_d n)
noncomputable def escheatref01_Cut_c10_d (n : Nat) : SmV := smSeq [0, 1, 2, 7, 8] (escheatref01_Cut_c5_d n) (escheatref01_Cut_c9_d n)
noncomputable def escheatref01_Cut_c11_d (n : Nat) : SmV := smLoop n [0, 1, 2, 7, 8] (escheatref01_Cut_c10_d n)
noncomputable def escheatref01_Cut_c12_d (n : Nat) : SmV := smBlock 0 (escheatref01_Cut_c11_d n)
noncomputable def escheatref01_Cut_c13_d (n : Nat) : SmV := smSeq [0, 1, 2, 7, 8] (escheatref01_Cut_c2_d n) (escheatref01_Cut_c12_d n)
noncomputable def escheatref01_Cut_c14_d (n : Nat) : SmV := smOps E_escheatref01_Cut escheatref01_Cut_o6
noncomputable def escheatref01_Cut_c15_d (n : Nat) : SmV := smSeq [6] (escheatref01_Cut_c14_d n) smRet
noncomputable def escheatref01_Cut_c16_d (n : Nat) : SmV := smSeq [7] (escheatref01_Cut_c13_d n) (escheatref01_Cut_c15_d n)
noncomputable def escheatref01_Cut_c17_d (n : Nat) : SmV := smSeq [0, 1, 2, 7] (escheatref01_Cut_c1_d n) (escheatref01_Cut_c16_d n)
noncomputable def escheatref01_Cut_c18_d (n : Nat) : SmV := smSeq [0, 1, 2] (escheatref01_Cut_c0_d n) (escheatref01_Cut_c17_d n)
noncomputable def escheatref01_Cut_k0 (n : Nat) : AExit → Env → Heap → OptV := fun x e h => match x with | .normal => hold ((escheatref01_Cut_c15_d n) A_escheatref01_Cut.fin (e.keep [7]) h) | .exit id => A_escheatref01_Cut.fin (.exit id) e h | .ret => A_escheatref01_Cut.fin .ret e h
noncomputable def escheatref01_Cut_k1 (n : Nat) : AExit → Env → Heap → OptV := fun x e h => match x with | .exit i => bif Nat.beq i 0 then (escheatref01_Cut_k0 n) .normal e h else (escheatref01_Cut_k0 n) (.exit i) e h | .normal => (escheatref01_Cut_k0 n) .normal e h | .ret => (escheatref01_Cut_k0 n) .ret e h
noncomputable def escheatref01_Cut_l0 (n m : Nat) (x0 x1 x2 x7 x8 : Val) (h : Heap) : OptV := around (escheatref01_Cut_c10_d n) [0, 1, 2, 7, 8] (escheatref01_Cut_k1 n) m [(0, x0), (1, x1), (2, x2), (7, x7), (8, x8)] h
noncomputable def R_escheatref01_Cut (n : Nat) (args : List Val) (h : Heap) : OptV := (escheatref01_Cut_c18_d n) A_escheatref01_Cut.fin (params 0 args) h
theorem R_escheatref01_Cut_eq (n : Nat) (a0 a1 a2 : Val) (h : Heap) : R_escheatref01_Cut n [a0, a1, a2] h = escheatref01_Cut_l0 n n a0 a1 a2 ((.c (.sl ((h ++ [some (Row.mk ([]) true)])).length 0 0 1))) a1 (((h ++ [some (Row.mk ([]) true)]) ++ [some (Row.mk ([]) true)])) := by kernel_rfl
theorem escheatref01_Cut_l0_eq (n m : Nat) (x0 x1 x2 x7 x8 : Val) (h : Heap) : escheatref01_Cut_l0 n (m + 1) x0 x1 x2 x7 x8 h = bnd (abin .geq x1 (.c (.i .i64 0))) fun v1 => bnd (gd v1 true (some (x8, h)) (some (.no, h))) fun p2 => bnd (gd v1 true (some (x0, p2.2)) (some (.no, p2.2))) fun p3 => bnd (gd v1 true (bnd (alen p3.1) fun v4 => some (v4, p3.2)) (some (.no, p3.2))) fun p5 => bnd (gd v1 true (bnd (abin .lss p2.1 p5.1) fun v6 => some (v6, p5.2)) (some (.no, p5.2))) fun p7 => bnd (apick v1 p7.1 (.c (.b false))) fun v8 => bnd (gd v8 true (some (x8, p7.2)) (some (.no, p7.2))) fun p9 => bnd (gd v8 true (some (x1, p9.2)) (some (.no, p9.2))) fun p10 => bnd (gd v8 true (bnd (abin .sub p9.1 p10.1) fun v11 => some (v11, p10.2)) (some (.no, p10.2))) fun p12 => bnd (gd v8 true (some (x2, p12.2)) (some (.no, p12.2))) fun p13 => bnd (gd v8 true (bnd (abin .lss p12.1 p13.1) fun v14 => some (v14, p13.2)) (some (.no, p13.2))) fun p15 => bnd (apick v8 p15.1 (.c (.b false))) fun v16 => cnd v16 (bnd (aiAddrL 1 x0 x8) fun v17 => bnd (aload1 p15.2 v17) fun v18 => bnd (afill ([.i .u8 0]) [(0, 1, v18)]) fun c19 => bnd (aapp ((p15.2 ++ [some (Row.mk (c19) true)])) 1 x7 ((.c (.sl p15.2.length 0 1 1)))) fun p20 => bnd (abin .add x8 (.c (.i .i64 1))) fun v21 => escheatref01_Cut_l0 n m x0 x1 x2 p20.1 v21 p20.2) (some (x7, p15.2)) := by kernel_rfl
theorem K_escheatref01_Cut : FnK Try.prog 85 A_escheatref01_Cut E_escheatref01_Cut R_escheatref01_Cut := .mk' (sound0) Try.func85 (by kernel_rfl) (by intro n args h; kernel_rfl)
noncomputable def S_escheatref01_Cut : Fun := tidy (Lim A_escheatref01_Cut E_escheatref01_Cut)
theorem S_escheatref01_Cut_ok : SOk Try.prog 85 S_escheatref01_Cut := K_escheatref01_Cut.sok
theorem S_escheatref01_Cut_low {n : Nat} {args : List Val} {h h2 : Heap} {v : Val} (he : R_escheatref01_Cut n args (ro h) = some (v, h2)) (hf : v.low h.length = true) : S_escheatref01_Cut args h = some (v, h) := K_escheatref01_Cut.low he hf
theorem S_escheatref01_Cut_out {n : Nat} {args : List Val} {h h2 : Heap} {v : Val} {sz k : Nat} {cs : List Cell} (he : R_escheatref01_Cut n args (ro h) = some (v, h2)) (ho : Out h.length h2 v sz k cs) (hf : flats cs = true) : S_escheatref01_Cut args h = some (.c (.sl h.length 0 k sz), h ++ [some ⟨cs, true⟩]) := K_escheatref01_Cut.out he ho hf
end Go.Proofs.Ytbbkpmbepljhkaa
